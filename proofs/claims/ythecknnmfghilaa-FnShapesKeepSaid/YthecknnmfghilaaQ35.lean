/- What functions of the program come to, as plain functions; no condition. -/
import Derived.Test.YthecknnmfghilaaQ34
set_option linter.unusedVariables false
set_option linter.unusedSimpArgs false
set_option maxRecDepth 100000
set_option maxHeartbeats 4000000
set_option linter.unusedVariables false
namespace Go.Proofs.Ythecknnmfghilaa.Ev.Q3
open Go
noncomputable def laws_kMost_j2 (x45 : Int) : Int → Option ((Int × Int) ⊕ Int) := fun x63 =>
some (.inl (x63, (w64 (x45 + (1 : Int)))))
noncomputable def laws_kMost_s1 (p0 : List Int) : (Int × Int) → Option ((Int × Int) ⊕ Int) := fun (x44, x45) =>
if (decide (x45 < (List.length p0 : Int))) = true then
(at? p0 x45).bind fun v68 =>
if (decide (v68 > x44)) = true then
laws_kMost_j2 x45 v68
else
laws_kMost_j2 x45 x44
else
some (.inr x44)
noncomputable def laws_kMost_l1 (p0 : List Int) : (Int × Int) → Option Int := iter (laws_kMost_s1 p0)
/-- loop.example/g01176/laws.kMost -/
noncomputable def laws_kMost (p0 : List Int) : Option Int :=
(laws_kMost_l1 p0 ((0 : Int), (0 : Int))).bind fun x52 =>
some x52
theorem laws_kMost_ok {p0 : List Int} {o : Int} (h : laws_kMost p0 = some o) : RN 20 [.ints .i64 p0] [] = some (.int .i64 o, []) := by
  refine fn_run (o := o) (nr := 0) (F := k20) (st := ⟨entry 0 [.vw [] (.ints .i64 p0)], fun n => ([] : List T)[n]?, 0⟩) (fun (o : Int) => (.int .i64 o, [])) rfl fns_20 rfl rfl ?_
  refine wp_seq ?_
  refine wp_reg (nx' := 16) rfl (ev_den (.vw _ _) rfl rfl (ev_nil)) (seqQ_n (?_))
  refine wp_seq ?_
  refine wp_reg (nx' := 32) rfl (ev_den (.vw _ _) rfl rfl (ev_nil)) (seqQ_n (?_))
  refine wp_seq ?_
  refine wp_gc ?_
  refine wp_seq ?_
  refine wp_gc ?_
  refine wp_reg (nx' := 80) rfl (ev_den (.vw _ _) rfl rfl (ev_den (.vw _ _) rfl rfl (ev_den (.vw _ _) rfl rfl (ev_nil)))) (gcQ_n (gc_to [] (e := [(3, .vw [] (.int .i64 ((0 : Int)))), (6, .vw [] (.ints .i64 p0)), (7, .vw [] (.int .i64 ((List.length p0 : Int)))), (8, .vw [] (.int .i64 ((0 : Int))))]) (ts := []) (n := 0) rfl rfl rfl rfl) (seqQ_n (?_)))
  refine wp_gc ?_
  refine wp_blk ?_
  obtain ⟨x52, hw73, h⟩ := bs h
  refine wp_mono (wp_loop (fun ((x44, x45) : Int × Int) => (⟨al .dead [(3, .vw [] (.int .i64 x44)), (6, .vw [] (.ints .i64 p0)), (7, .vw [] (.int .i64 ((List.length p0 : Int)))), (8, .vw [] (.int .i64 x45))], hl [], 0⟩ : St)) (fun (x52 : Int) e st => e = .exit 0 ∧ gc 0 [3] st = ⟨al .dead [(3, .vw [] (.int .i64 x52))], hl [], 0⟩) hw73 ?_) ?_
  · rintro ⟨x44, x45⟩ o h
    refine wp_gc ?_
    refine wp_seq ?_
    refine wp_reg (nx' := 16) rfl (ev_den (.vw _ _) rfl rfl (ev_nil)) (seqQ_n (?_))
    refine wp_seq ?_
    refine wp_gc ?_
    rcases its h with ⟨hc60, h⟩ | ⟨hc60, h⟩
    · refine wp_ct rfl hc60 ?_
      refine wp_skip (gcQ_n (gc_to [] (e := [(3, .vw [] (.int .i64 x44)), (6, .vw [] (.ints .i64 p0)), (7, .vw [] (.int .i64 ((List.length p0 : Int)))), (8, .vw [] (.int .i64 x45))]) (ts := []) (n := 0) rfl rfl rfl rfl) (seqQ_n (?_)))
      refine wp_seq ?_
      refine wp_join (laws_kMost_j2 x45) (fun (x63 : Int) => (⟨al .dead [(3, .vw [] (.int .i64 x63)), (6, .vw [] (.ints .i64 p0)), (7, .vw [] (.int .i64 ((List.length p0 : Int)))), (8, .vw [] (.int .i64 x45))], hl [], 0⟩ : St)) ?_ ?_
      · rintro x63 o h
        unfold laws_kMost_j2 at h
        refine seqQ_n (?_)
        replace h := Option.some.inj h
        subst h
        exact wp_reg (nx' := 32) rfl (ev_den (.vw _ _) rfl rfl (ev_den (.vw _ _) rfl rfl (ev_nil))) (gcQ_n (gc_to [] (e := [(3, .vw [] (.int .i64 x63)), (6, .vw [] (.ints .i64 p0)), (7, .vw [] (.int .i64 ((List.length p0 : Int)))), (8, .vw [] (.int .i64 ((w64 (x45 + (1 : Int))))))]) (ts := []) (n := 0) rfl rfl rfl rfl) (loopQ_n rfl))
      · refine wp_gc ?_
        refine wp_blk ?_
        refine wp_seq ?_
        obtain ⟨v68, hv68, h⟩ := bs h
        refine wp_reg (nx' := 48) rfl (ev_den (.pv _ _) rfl (d_idx_vi rfl rfl hv68) (ev_den (.vw _ _) rfl rfl (ev_den (.vw _ _) rfl rfl (ev_nil)))) (seqQ_n (?_))
        refine wp_seq ?_
        refine wp_reg (nx' := 96) rfl (ev_den (.vw _ _) rfl rfl (ev_den (.vw _ _) rfl rfl (ev_den (.vw _ _) rfl rfl (ev_nil)))) (seqQ_n (?_))
        rcases its h with ⟨hc69, h⟩ | ⟨hc69, h⟩
        · refine wp_ct rfl hc69 ?_
          exact wp_reg (nx' := 128) rfl (ev_den (.vw _ _) rfl rfl (ev_den (.vw _ _) rfl rfl (ev_nil))) (blkQ_n (gcQ_n (gc_to [] (e := [(3, .vw [] (.int .i64 v68)), (6, .vw [] (.ints .i64 p0)), (7, .vw [] (.int .i64 ((List.length p0 : Int)))), (8, .vw [] (.int .i64 x45))]) (ts := []) (n := 0) rfl rfl rfl rfl) (joinQ_n v68 h (gc_to [] rfl rfl rfl rfl))))
        · refine wp_cf rfl hc69 ?_
          exact wp_skip (blkQ_n (gcQ_n (gc_to [] (e := [(3, .vw [] (.int .i64 x44)), (6, .vw [] (.ints .i64 p0)), (7, .vw [] (.int .i64 ((List.length p0 : Int)))), (8, .vw [] (.int .i64 x45))]) (ts := []) (n := 0) rfl rfl rfl rfl) (joinQ_n x44 h (gc_to [] rfl rfl rfl rfl))))
    · refine wp_cf rfl hc60 ?_
      replace h := Option.some.inj h
      subst h
      exact wp_exit (gcQ_e (seqQ_e (gcQ_e (loopQ_e (And.intro rfl (gc_to [] (e := [(3, .vw [] (.int .i64 x44))]) (ts := []) (n := 0) rfl rfl rfl rfl))))))
  · intro e st73 hg73
    obtain ⟨rfl, hg73⟩ := hg73
    refine blkQ_h (gcQ_n hg73 (gcQ_n (gc_to [] (e := [(3, .vw [] (.int .i64 x52))]) (ts := []) (n := 0) rfl rfl rfl rfl) (seqQ_n (?_))))
    refine wp_seq ?_
    refine wp_reg (nx' := 32) rfl (ev_den (.vw _ _) rfl rfl (ev_den (.vw _ _) rfl rfl (ev_nil))) (seqQ_n (?_))
    replace h := Option.some.inj h
    subst h
    exact wp_ret (qf_r ((outs_ok (vs := [(.vw _ _)]) rfl (absW_cons rfl rfl (absW_nil)) rfl rfl)))
end Go.Proofs.Ythecknnmfghilaa.Ev.Q3
