/- What functions of the program come to, as plain functions; no condition. -/
import Derived.Test.YteeejellpcikkaaG55
set_option linter.unusedVariables false
set_option linter.unusedSimpArgs false
set_option maxRecDepth 100000
set_option maxHeartbeats 4000000
set_option linter.unusedVariables false
namespace Go.Proofs.Yteeejellpcikkaa.Ev.G5
open Go
noncomputable def laws_kSame_s1 (p0 : List Int) (p1 : List Int) : Int → Option (Int ⊕ (Unit ⊕ Bool)) := fun x38 =>
if (decide (x38 < (List.length p0 : Int))) = true then
(at? p0 x38).bind fun v57 =>
(at? p1 x38).bind fun v58 =>
if (v57 != v58) = true then
some (.inr (.inr false))
else
some (.inl ((w64 (x38 + (1 : Int)))))
else
some (.inr (.inl ()))
noncomputable def laws_kSame_l1 (p0 : List Int) (p1 : List Int) : Int → Option (Unit ⊕ Bool) := iter (laws_kSame_s1 p0 p1)
/-- loop.example/g01176/laws.kSame -/
noncomputable def laws_kSame (p0 : List Int) (p1 : List Int) : Option Bool :=
if ((List.length p0 : Int) != (List.length p1 : Int)) = true then
some false
else
(laws_kSame_l1 p0 p1 (0 : Int)).bind fun w => match w with
| .inl _ =>
some true
| .inr r62 =>
some r62
theorem laws_kSame_ok {p0 : List Int} {p1 : List Int} {o : Bool} (h : laws_kSame p0 p1 = some o) : RN 9 [.ints .i64 p0, .ints .i64 p1] [] = some (.bool o, []) := by
 refine fn_run (o := o) (nr := 0) (F := k9) (st := ⟨entry 0 [.vw [] (.ints .i64 p0), .vw [] (.ints .i64 p1)], fun n => ([] : List T)[n]?, 0⟩) (fun (o : Bool) => (.bool o, [])) rfl fns_9 rfl rfl rfl ?_
 refine wp_seq ?_
 refine wp_reg (nx' := 16) rfl (ev_v rfl rfl (ev_nil)) (seqQ_n (?_))
 refine wp_seq ?_
 refine wp_gc ?_
 refine wp_seq ?_
 refine wp_reg (nx' := 96) rfl (ev_v rfl rfl (ev_v rfl rfl (ev_v rfl rfl (ev_v rfl rfl (ev_v rfl rfl (ev_nil)))))) (seqQ_n (?_))
 rcases its h with ⟨hc13, h⟩ | ⟨hc13, h⟩
 ·refine wp_ct rfl hc13 ?_
  refine wp_seq ?_
  refine wp_reg (nx' := 112) rfl (ev_v rfl rfl (ev_nil)) (seqQ_n (?_))
  replace h := Option.some.inj h
  subst h
  exact wp_ret (gcQ_r (seqQ_r (qf_r ((outs_ok (vs := [(.vw _ _)]) rfl (absW_cons rfl rfl (absW_nil)) rfl rfl)))))
 ·refine wp_cf rfl hc13 ?_
  refine wp_skip (gcQ_n (gc_to [] (e := [(0, .vw [] (.ints .i64 p0)), (1, .vw [] (.ints .i64 p1))]) (ts := []) (n := 0) rfl rfl rfl rfl) (seqQ_n (?_)))
  refine wp_seq ?_
  refine wp_gc ?_
  refine wp_seq ?_
  refine wp_gc ?_
  refine wp_reg (nx' := 48) rfl (ev_v rfl rfl (ev_v rfl rfl (ev_v rfl rfl (ev_nil)))) (gcQ_n (gc_to [] (e := [(0, .vw [] (.ints .i64 p0)), (1, .vw [] (.ints .i64 p1)), (12, .vw [] (.int .i64 ((List.length p0 : Int)))), (13, .vw [] (.int .i64 ((0 : Int))))]) (ts := []) (n := 0) rfl rfl rfl rfl) (seqQ_n (?_)))
  refine wp_gc ?_
  refine wp_blk ?_
  obtain ⟨w61, hw61, h⟩ := bs h
  refine wp_mono (wp_loop (fun (x38 : Int) => (⟨al .dead [(0, .vw [] (.ints .i64 p0)), (1, .vw [] (.ints .i64 p1)), (12, .vw [] (.int .i64 ((List.length p0 : Int)))), (13, .vw [] (.int .i64 x38))], hl [], 0⟩ : St)) (fun (v : Unit ⊕ Bool) e st => match v with | .inl _ => e = .exit 0 ∧ gc 0 [] st = ⟨al .dead [], hl [], 0⟩ | .inr rr => e = .ret ∧ outs 0 k9 st = some (.bool rr, [])) hw61 ?_) ?_
  ·rintro x38 o h
   refine wp_gc ?_
   refine wp_seq ?_
   refine wp_reg (nx' := 16) rfl (ev_v rfl rfl (ev_nil)) (seqQ_n (?_))
   refine wp_seq ?_
   refine wp_gc ?_
   rcases its h with ⟨hc50, h⟩ | ⟨hc50, h⟩
   ·refine wp_ct rfl hc50 ?_
    refine wp_skip (gcQ_n (gc_to [] (e := [(0, .vw [] (.ints .i64 p0)), (1, .vw [] (.ints .i64 p1)), (12, .vw [] (.int .i64 ((List.length p0 : Int)))), (13, .vw [] (.int .i64 x38))]) (ts := []) (n := 0) rfl rfl rfl rfl) (seqQ_n (?_)))
    refine wp_seq ?_
    refine wp_gc ?_
    refine wp_gc ?_
    refine wp_blk ?_
    refine wp_seq ?_
    refine wp_reg (nx' := 32) rfl (ev_v rfl rfl (ev_v rfl rfl (ev_nil))) (seqQ_n (?_))
    refine wp_seq ?_
    obtain ⟨v57, hv57, h⟩ := bs h
    obtain ⟨v58, hv58, h⟩ := bs h
    refine wp_reg (nx' := 176) rfl (ev_v rfl rfl (ev_v rfl rfl (ev_den (.pv _ _) rfl (d_idx_vi rfl rfl hv57) (ev_v rfl rfl (ev_v rfl rfl (ev_v rfl rfl (ev_den (.pv _ _) rfl (d_idx_vi rfl rfl hv58) (ev_v rfl rfl (ev_v rfl rfl (ev_nil)))))))))) (seqQ_n (?_))
    rcases its h with ⟨hc59, h⟩ | ⟨hc59, h⟩
    ·refine wp_ct rfl hc59 ?_
     refine wp_seq ?_
     refine wp_reg (nx' := 192) rfl (ev_v rfl rfl (ev_nil)) (seqQ_n (?_))
     replace h := Option.some.inj h
     subst h
     exact wp_ret (blkQ_r (gcQ_r (gcQ_r (seqQ_r (gcQ_r (loopQ_r (And.intro rfl (outs_ok (vs := [(.vw _ _)]) rfl (absW_cons rfl rfl (absW_nil)) rfl rfl))))))))
    ·refine wp_cf rfl hc59 ?_
     refine wp_skip (blkQ_n (gcQ_n (gc_to [] (e := [(0, .vw [] (.ints .i64 p0)), (1, .vw [] (.ints .i64 p1)), (12, .vw [] (.int .i64 ((List.length p0 : Int)))), (13, .vw [] (.int .i64 x38))]) (ts := []) (n := 0) rfl rfl rfl rfl) (gcQ_n (gc_to [] (e := [(0, .vw [] (.ints .i64 p0)), (1, .vw [] (.ints .i64 p1)), (12, .vw [] (.int .i64 ((List.length p0 : Int)))), (13, .vw [] (.int .i64 x38))]) (ts := []) (n := 0) rfl rfl rfl rfl) (seqQ_n (?_)))))
     replace h := Option.some.inj h
     subst h
     exact wp_reg (nx' := 32) rfl (ev_v rfl rfl (ev_v rfl rfl (ev_nil))) (gcQ_n (gc_to [] (e := [(0, .vw [] (.ints .i64 p0)), (1, .vw [] (.ints .i64 p1)), (12, .vw [] (.int .i64 ((List.length p0 : Int)))), (13, .vw [] (.int .i64 ((w64 (x38 + (1 : Int))))))]) (ts := []) (n := 0) rfl rfl rfl rfl) (loopQ_n rfl))
   ·refine wp_cf rfl hc50 ?_
    replace h := Option.some.inj h
    subst h
    exact wp_exit (gcQ_e (seqQ_e (gcQ_e (loopQ_e (And.intro rfl (gc_to [] (e := []) (ts := []) (n := 0) rfl rfl rfl rfl))))))
  ·intro e st61 hg61
   rcases w61 with _ | r62
   ·obtain ⟨rfl, hg61⟩ := hg61
    refine blkQ_h (gcQ_n hg61 (gcQ_n (gc_to [] (e := []) (ts := []) (n := 0) rfl rfl rfl rfl) (seqQ_n (?_))))
    refine wp_seq ?_
    refine wp_reg (nx' := 16) rfl (ev_v rfl rfl (ev_nil)) (seqQ_n (?_))
    replace h := Option.some.inj h
    subst h
    exact wp_ret (qf_r ((outs_ok (vs := [(.vw _ _)]) rfl (absW_cons rfl rfl (absW_nil)) rfl rfl)))
   ·obtain ⟨rfl, hg61⟩ := hg61
    replace h := Option.some.inj h
    subst h
    exact blkQ_r (gcQ_r (gcQ_r (seqQ_r (qf_r (hg61)))))
/-- loop.example/g01176/impl.hops -/
noncomputable def impl_hops (p0 : Int) (p1 : Int × Int × Int) : Option Int :=
(nz? p0).bind fun u2 =>
some (Int.tmod (w64 ((w64 (p1.2.2 - p1.2.1)) + p0)) p0)
theorem impl_hops_ok {p0 : Int} {p1 : Int × Int × Int} {o : Int} (h : impl_hops p0 p1 = some o) : RN 63 [.int .i64 p0, .agg [.int .i64 p1.1, .int .i64 p1.2.1, .int .i64 p1.2.2]] [] = some (.int .i64 o, []) := by
 refine fn_run (o := o) (nr := 0) (F := k63) (st := ⟨entry 0 [.vw [] (.int .i64 p0), .agg [.vw [] (.int .i64 p1.1), .vw [] (.int .i64 p1.2.1), .vw [] (.int .i64 p1.2.2)]], fun n => ([] : List T)[n]?, 0⟩) (fun (o : Int) => (.int .i64 o, [])) rfl fns_63 rfl rfl rfl ?_
 refine wp_seq ?_
 refine wp_reg (nx' := 32) rfl (ev_wr rfl (w_box (sv := (.agg [(.vw _ _), (.vw _ _), (.vw _ _)])) rfl rfl (absW_cons rfl rfl (absW_cons rfl rfl (absW_cons rfl rfl (absW_nil))))) (ev_v rfl rfl (ev_nil))) (seqQ_n (?_))
 refine wp_seq ?_
 obtain ⟨u2, hu2, h⟩ := bs h
 refine wp_reg (nx' := 192) rfl (ev_den (.ptr 0 [] (some 2)) rfl rfl (ev_v rfl (d_ld_o rfl (rget_of rfl (get_nil)) rfl rfl) (ev_den (.ptr 0 [] (some 1)) rfl rfl (ev_v rfl (d_ld_o rfl (rget_of rfl (get_nil)) rfl rfl) (ev_v rfl rfl (ev_v rfl rfl (ev_v rfl rfl (ev_v rfl rfl (ev_v rfl (d_rem rfl rfl hu2) (ev_v rfl rfl (ev_nil))))))))))) (seqQ_n (?_))
 replace h := Option.some.inj h
 subst h
 exact wp_ret (qf_r ((outs_ok (vs := [(.vw _ _)]) rfl (absW_cons rfl rfl (absW_nil)) rfl rfl)))
/-- loop.example/g01176/impl.HopsOfMessage -/
noncomputable def impl_HopsOfMessage (p0 : Int × Bool) (p1 : Int × Int × Int) : Option ((Int × Bool)) :=
(impl_isSlotted p0 (([(p1.1, p1.2.1, p1.2.2)] : List (Int × Int × Int)))).bind fun v6 =>
if (!v6) = true then
some ((0 : Int), false)
else
(impl_hops p0.1 p1).bind fun v8 =>
some (v8, true)
theorem impl_HopsOfMessage_ok {p0 : Int × Bool} {p1 : Int × Int × Int} {o : (Int × Bool)} (h : impl_HopsOfMessage p0 p1 = some o) : RN 34 [.agg [.int .i64 p0.1, .bool p0.2], .agg [.int .i64 p1.1, .int .i64 p1.2.1, .int .i64 p1.2.2]] [] = some (.tup [.int .i64 o.1, .bool o.2], []) := by
 refine fn_run (o := o) (nr := 0) (F := k34) (st := ⟨entry 0 [.agg [.vw [] (.int .i64 p0.1), .vw [] (.bool p0.2)], .agg [.vw [] (.int .i64 p1.1), .vw [] (.int .i64 p1.2.1), .vw [] (.int .i64 p1.2.2)]], fun n => ([] : List T)[n]?, 0⟩) (fun (o : (Int × Bool)) => (.tup [.int .i64 o.1, .bool o.2], [])) rfl fns_34 rfl rfl rfl ?_
 refine wp_seq ?_
 refine wp_reg (nx' := 64) rfl (ev_wr rfl (w_box (sv := (.agg [(.vw _ _), (.vw _ _)])) rfl rfl (absW_cons rfl rfl (absW_cons rfl rfl (absW_nil)))) (ev_wr rfl (w_box (sv := (.agg [(.vw _ _), (.vw _ _), (.vw _ _)])) rfl rfl (absW_cons rfl rfl (absW_cons rfl rfl (absW_cons rfl rfl (absW_nil))))) (ev_v rfl rfl (ev_v rfl rfl (ev_nil))))) (seqQ_n (?_))
 refine wp_seq ?_
 refine wp_gc ?_
 refine wp_seq ?_
 obtain ⟨v6, hv6, h⟩ := bs h
 refine wp_reg (nx' := 144) rfl (ev_den (.agg [(.vw _ _), (.vw _ _)]) rfl (d_ld_os rfl (rget_of rfl (get_nil)) rfl (cells_cons rfl (cells_cons rfl (cells_nil)))) (ev_den (.agg [(.vw _ _), (.vw _ _), (.vw _ _)]) rfl (d_ld_os rfl (rget_of rfl (get_nil)) rfl (cells_cons rfl (cells_cons rfl (cells_cons rfl (cells_nil))))) (ev_new (.ref 96 [] 3 0 1) (.rows 3 (List.map e0 (([(p1.1, p1.2.1, p1.2.2)] : List (Int × Int × Int))))) rfl rfl (ev_call0 [(.agg [(.vw _ _), (.vw _ _)]), (.ref 96 _ _ _ _)] rfl (call_ok (rs := []) (rd := [96]) rfl rfl rfl rfl (argL_cons (argT_a (argL_cons rfl (argL_cons rfl (argL_nil)))) (argL_cons (argT_r (rget_of rfl (get_nil)) (sub_r (xs := ([(p1.1, p1.2.1, p1.2.2)] : List (Int × Int × Int))))) (argL_nil))) rfl rfl (impl_isSlotted_ok hv6) rfl rfl rfl rfl rfl) (ev_v rfl rfl (ev_nil)))))) (seqQ_n (?_))
 rcases its h with ⟨hc7, h⟩ | ⟨hc7, h⟩
 ·refine wp_ct rfl hc7 ?_
  refine wp_seq ?_
  refine wp_reg (nx' := 176) rfl (ev_v rfl rfl (ev_v rfl rfl (ev_nil))) (seqQ_n (?_))
  replace h := Option.some.inj h
  subst h
  exact wp_ret (gcQ_r (seqQ_r (qf_r ((outs_ok (vs := [(.vw _ _), (.vw _ _)]) rfl (absW_cons rfl rfl (absW_cons rfl rfl (absW_nil))) rfl rfl)))))
 ·refine wp_cf rfl hc7 ?_
  refine wp_skip (gcQ_n (gc_to [0, 16] (e := [(2, .ptr 0 [] (some 0)), (3, .ptr 1 [] (some 0))]) (ts := [some (.ptr (.agg [.int .i64 p0.1, .bool p0.2])), some (.ptr (.agg [.int .i64 p1.1, .int .i64 p1.2.1, .int .i64 p1.2.2]))]) (n := 2) rfl rfl rfl rfl) (seqQ_n (?_)))
  refine wp_seq ?_
  obtain ⟨v8, hv8, h⟩ := bs h
  refine wp_reg (nx' := 98) rfl (ev_den (.ptr 0 [] (some 0)) rfl rfl (ev_v rfl (d_ld_o rfl (rget_of rfl (get_nil)) rfl rfl) (ev_den (.agg [(.vw _ _), (.vw _ _), (.vw _ _)]) rfl (d_ld_os rfl (rget_of rfl (get_nil)) rfl (cells_cons rfl (cells_cons rfl (cells_cons rfl (cells_nil))))) (ev_call0 [(.vw _ _), (.agg [(.vw _ _), (.vw _ _), (.vw _ _)])] rfl (call_ok (rs := []) (rd := []) rfl rfl rfl rfl (argL_cons rfl (argL_cons (argT_a (argL_cons rfl (argL_cons rfl (argL_cons rfl (argL_nil))))) (argL_nil))) rfl rfl (impl_hops_ok hv8) rfl rfl rfl rfl rfl) (ev_v rfl rfl (ev_v rfl rfl (ev_nil))))))) (seqQ_n (?_))
  replace h := Option.some.inj h
  subst h
  exact wp_ret (qf_r ((outs_ok (vs := [(.vw _ _), (.vw _ _)]) rfl (absW_cons rfl rfl (absW_cons rfl rfl (absW_nil))) rfl rfl)))
noncomputable def laws_kMost_j2 (x45 : Int) : Int → Option ((Int × Int) ⊕ Int) := fun x63 =>
some (.inl (x63, (w64 (x45 + (1 : Int)))))
noncomputable def laws_kMost_s1 (p0 : List Int) : (Int × Int) → Option ((Int × Int) ⊕ Int) := fun (x44, x45) =>
if (decide (x45 < (List.length p0 : Int))) = true then
(at? p0 x45).bind fun v68 =>
if (decide (v68 > x44)) = true then
laws_kMost_j2 x45 v68
else
laws_kMost_j2 x45 x44
else
some (.inr x44)
noncomputable def laws_kMost_l1 (p0 : List Int) : (Int × Int) → Option Int := iter (laws_kMost_s1 p0)
/-- loop.example/g01176/laws.kMost -/
noncomputable def laws_kMost (p0 : List Int) : Option Int :=
(laws_kMost_l1 p0 ((0 : Int), (0 : Int))).bind fun x52 =>
some x52
theorem laws_kMost_ok {p0 : List Int} {o : Int} (h : laws_kMost p0 = some o) : RN 35 [.ints .i64 p0] [] = some (.int .i64 o, []) := by
 refine fn_run (o := o) (nr := 0) (F := k35) (st := ⟨entry 0 [.vw [] (.ints .i64 p0)], fun n => ([] : List T)[n]?, 0⟩) (fun (o : Int) => (.int .i64 o, [])) rfl fns_35 rfl rfl rfl ?_
 refine wp_seq ?_
 refine wp_reg (nx' := 16) rfl (ev_v rfl rfl (ev_nil)) (seqQ_n (?_))
 refine wp_seq ?_
 refine wp_reg (nx' := 32) rfl (ev_v rfl rfl (ev_nil)) (seqQ_n (?_))
 refine wp_seq ?_
 refine wp_gc ?_
 refine wp_seq ?_
 refine wp_gc ?_
 refine wp_reg (nx' := 80) rfl (ev_v rfl rfl (ev_v rfl rfl (ev_v rfl rfl (ev_nil)))) (gcQ_n (gc_to [] (e := [(3, .vw [] (.int .i64 ((0 : Int)))), (6, .vw [] (.ints .i64 p0)), (7, .vw [] (.int .i64 ((List.length p0 : Int)))), (8, .vw [] (.int .i64 ((0 : Int))))]) (ts := []) (n := 0) rfl rfl rfl rfl) (seqQ_n (?_)))
 refine wp_gc ?_
 refine wp_blk ?_
 obtain ⟨x52, hw73, h⟩ := bs h
 refine wp_mono (wp_loop (fun ((x44, x45) : Int × Int) => (⟨al .dead [(3, .vw [] (.int .i64 x44)), (6, .vw [] (.ints .i64 p0)), (7, .vw [] (.int .i64 ((List.length p0 : Int)))), (8, .vw [] (.int .i64 x45))], hl [], 0⟩ : St)) (fun (x52 : Int) e st => e = .exit 0 ∧ gc 0 [3] st = ⟨al .dead [(3, .vw [] (.int .i64 x52))], hl [], 0⟩) hw73 ?_) ?_
 ·rintro ⟨x44, x45⟩ o h
  refine wp_gc ?_
  refine wp_seq ?_
  refine wp_reg (nx' := 16) rfl (ev_v rfl rfl (ev_nil)) (seqQ_n (?_))
  refine wp_seq ?_
  refine wp_gc ?_
  rcases its h with ⟨hc60, h⟩ | ⟨hc60, h⟩
  ·refine wp_ct rfl hc60 ?_
   refine wp_skip (gcQ_n (gc_to [] (e := [(3, .vw [] (.int .i64 x44)), (6, .vw [] (.ints .i64 p0)), (7, .vw [] (.int .i64 ((List.length p0 : Int)))), (8, .vw [] (.int .i64 x45))]) (ts := []) (n := 0) rfl rfl rfl rfl) (seqQ_n (?_)))
   refine wp_seq ?_
   refine wp_join (laws_kMost_j2 x45) (fun (x63 : Int) => (⟨al .dead [(3, .vw [] (.int .i64 x63)), (6, .vw [] (.ints .i64 p0)), (7, .vw [] (.int .i64 ((List.length p0 : Int)))), (8, .vw [] (.int .i64 x45))], hl [], 0⟩ : St)) ?_ ?_
   ·rintro x63 o h
    unfold laws_kMost_j2 at h
    refine seqQ_n (?_)
    replace h := Option.some.inj h
    subst h
    exact wp_reg (nx' := 32) rfl (ev_v rfl rfl (ev_v rfl rfl (ev_nil))) (gcQ_n (gc_to [] (e := [(3, .vw [] (.int .i64 x63)), (6, .vw [] (.ints .i64 p0)), (7, .vw [] (.int .i64 ((List.length p0 : Int)))), (8, .vw [] (.int .i64 ((w64 (x45 + (1 : Int))))))]) (ts := []) (n := 0) rfl rfl rfl rfl) (loopQ_n rfl))
   ·refine wp_gc ?_
    refine wp_blk ?_
    refine wp_seq ?_
    obtain ⟨v68, hv68, h⟩ := bs h
    refine wp_reg (nx' := 48) rfl (ev_den (.pv _ _) rfl (d_idx_vi rfl rfl hv68) (ev_v rfl rfl (ev_v rfl rfl (ev_nil)))) (seqQ_n (?_))
    refine wp_seq ?_
    refine wp_reg (nx' := 96) rfl (ev_v rfl rfl (ev_v rfl rfl (ev_v rfl rfl (ev_nil)))) (seqQ_n (?_))
    rcases its h with ⟨hc69, h⟩ | ⟨hc69, h⟩
    ·refine wp_ct rfl hc69 ?_
     exact wp_reg (nx' := 128) rfl (ev_v rfl rfl (ev_v rfl rfl (ev_nil))) (blkQ_n (gcQ_n (gc_to [] (e := [(3, .vw [] (.int .i64 v68)), (6, .vw [] (.ints .i64 p0)), (7, .vw [] (.int .i64 ((List.length p0 : Int)))), (8, .vw [] (.int .i64 x45))]) (ts := []) (n := 0) rfl rfl rfl rfl) (joinQ_n v68 h (gc_to [] rfl rfl rfl rfl))))
    ·refine wp_cf rfl hc69 ?_
     exact wp_skip (blkQ_n (gcQ_n (gc_to [] (e := [(3, .vw [] (.int .i64 x44)), (6, .vw [] (.ints .i64 p0)), (7, .vw [] (.int .i64 ((List.length p0 : Int)))), (8, .vw [] (.int .i64 x45))]) (ts := []) (n := 0) rfl rfl rfl rfl) (joinQ_n x44 h (gc_to [] rfl rfl rfl rfl))))
  ·refine wp_cf rfl hc60 ?_
   replace h := Option.some.inj h
   subst h
   exact wp_exit (gcQ_e (seqQ_e (gcQ_e (loopQ_e (And.intro rfl (gc_to [] (e := [(3, .vw [] (.int .i64 x44))]) (ts := []) (n := 0) rfl rfl rfl rfl))))))
 ·intro e st73 hg73
  obtain ⟨rfl, hg73⟩ := hg73
  refine blkQ_h (gcQ_n hg73 (gcQ_n (gc_to [] (e := [(3, .vw [] (.int .i64 x52))]) (ts := []) (n := 0) rfl rfl rfl rfl) (seqQ_n (?_))))
  refine wp_seq ?_
  refine wp_reg (nx' := 32) rfl (ev_v rfl rfl (ev_v rfl rfl (ev_nil))) (seqQ_n (?_))
  replace h := Option.some.inj h
  subst h
  exact wp_ret (qf_r ((outs_ok (vs := [(.vw _ _)]) rfl (absW_cons rfl rfl (absW_nil)) rfl rfl)))
noncomputable def laws_kSum_s1 (p0 : List Int) : (Int × Int) → Option ((Int × Int) ⊕ Int) := fun (x30, x31) =>
if (decide (x31 < (List.length p0 : Int))) = true then
(at? p0 x31).bind fun v45 =>
some (.inl ((w64 (x30 + v45)), (w64 (x31 + (1 : Int)))))
else
some (.inr x30)
noncomputable def laws_kSum_l1 (p0 : List Int) : (Int × Int) → Option Int := iter (laws_kSum_s1 p0)
/-- loop.example/g01176/laws.kSum -/
noncomputable def laws_kSum (p0 : List Int) : Option Int :=
(laws_kSum_l1 p0 ((0 : Int), (0 : Int))).bind fun x36 =>
some x36
theorem laws_kSum_ok {p0 : List Int} {o : Int} (h : laws_kSum p0 = some o) : RN 36 [.ints .i64 p0] [] = some (.int .i64 o, []) := by
 refine fn_run (o := o) (nr := 0) (F := k36) (st := ⟨entry 0 [.vw [] (.ints .i64 p0)], fun n => ([] : List T)[n]?, 0⟩) (fun (o : Int) => (.int .i64 o, [])) rfl fns_36 rfl rfl rfl ?_
 refine wp_seq ?_
 refine wp_reg (nx' := 16) rfl (ev_v rfl rfl (ev_nil)) (seqQ_n (?_))
 refine wp_seq ?_
 refine wp_reg (nx' := 32) rfl (ev_v rfl rfl (ev_nil)) (seqQ_n (?_))
 refine wp_seq ?_
 refine wp_gc ?_
 refine wp_seq ?_
 refine wp_gc ?_
 refine wp_reg (nx' := 80) rfl (ev_v rfl rfl (ev_v rfl rfl (ev_v rfl rfl (ev_nil)))) (gcQ_n (gc_to [] (e := [(3, .vw [] (.int .i64 ((0 : Int)))), (6, .vw [] (.ints .i64 p0)), (7, .vw [] (.int .i64 ((List.length p0 : Int)))), (8, .vw [] (.int .i64 ((0 : Int))))]) (ts := []) (n := 0) rfl rfl rfl rfl) (seqQ_n (?_)))
 refine wp_gc ?_
 refine wp_blk ?_
 obtain ⟨x36, hw49, h⟩ := bs h
 refine wp_mono (wp_loop (fun ((x30, x31) : Int × Int) => (⟨al .dead [(3, .vw [] (.int .i64 x30)), (6, .vw [] (.ints .i64 p0)), (7, .vw [] (.int .i64 ((List.length p0 : Int)))), (8, .vw [] (.int .i64 x31))], hl [], 0⟩ : St)) (fun (x36 : Int) e st => e = .exit 0 ∧ gc 0 [3] st = ⟨al .dead [(3, .vw [] (.int .i64 x36))], hl [], 0⟩) hw49 ?_) ?_
 ·rintro ⟨x30, x31⟩ o h
  refine wp_gc ?_
  refine wp_seq ?_
  refine wp_reg (nx' := 16) rfl (ev_v rfl rfl (ev_nil)) (seqQ_n (?_))
  refine wp_seq ?_
  refine wp_gc ?_
  rcases its h with ⟨hc42, h⟩ | ⟨hc42, h⟩
  ·refine wp_ct rfl hc42 ?_
   refine wp_skip (gcQ_n (gc_to [] (e := [(3, .vw [] (.int .i64 x30)), (6, .vw [] (.ints .i64 p0)), (7, .vw [] (.int .i64 ((List.length p0 : Int)))), (8, .vw [] (.int .i64 x31))]) (ts := []) (n := 0) rfl rfl rfl rfl) (seqQ_n (?_)))
   refine wp_seq ?_
   refine wp_gc ?_
   refine wp_gc ?_
   refine wp_blk ?_
   refine wp_seq ?_
   obtain ⟨v45, hv45, h⟩ := bs h
   refine wp_reg (nx' := 48) rfl (ev_den (.pv _ _) rfl (d_idx_vi rfl rfl hv45) (ev_v rfl rfl (ev_v rfl rfl (ev_nil)))) (seqQ_n (?_))
   refine wp_reg (nx' := 112) rfl (ev_v rfl rfl (ev_v rfl rfl (ev_v rfl rfl (ev_v rfl rfl (ev_nil))))) (blkQ_n (gcQ_n (gc_to [] (e := [(3, .vw [] (.int .i64 ((w64 (x30 + v45))))), (6, .vw [] (.ints .i64 p0)), (7, .vw [] (.int .i64 ((List.length p0 : Int)))), (8, .vw [] (.int .i64 x31))]) (ts := []) (n := 0) rfl rfl rfl rfl) (gcQ_n (gc_to [] (e := [(3, .vw [] (.int .i64 ((w64 (x30 + v45))))), (6, .vw [] (.ints .i64 p0)), (7, .vw [] (.int .i64 ((List.length p0 : Int)))), (8, .vw [] (.int .i64 x31))]) (ts := []) (n := 0) rfl rfl rfl rfl) (seqQ_n (?_)))))
   replace h := Option.some.inj h
   subst h
   exact wp_reg (nx' := 32) rfl (ev_v rfl rfl (ev_v rfl rfl (ev_nil))) (gcQ_n (gc_to [] (e := [(3, .vw [] (.int .i64 ((w64 (x30 + v45))))), (6, .vw [] (.ints .i64 p0)), (7, .vw [] (.int .i64 ((List.length p0 : Int)))), (8, .vw [] (.int .i64 ((w64 (x31 + (1 : Int))))))]) (ts := []) (n := 0) rfl rfl rfl rfl) (loopQ_n rfl))
  ·refine wp_cf rfl hc42 ?_
   replace h := Option.some.inj h
   subst h
   exact wp_exit (gcQ_e (seqQ_e (gcQ_e (loopQ_e (And.intro rfl (gc_to [] (e := [(3, .vw [] (.int .i64 x30))]) (ts := []) (n := 0) rfl rfl rfl rfl))))))
 ·intro e st49 hg49
  obtain ⟨rfl, hg49⟩ := hg49
  refine blkQ_h (gcQ_n hg49 (gcQ_n (gc_to [] (e := [(3, .vw [] (.int .i64 x36))]) (ts := []) (n := 0) rfl rfl rfl rfl) (seqQ_n (?_))))
  refine wp_seq ?_
  refine wp_reg (nx' := 32) rfl (ev_v rfl rfl (ev_v rfl rfl (ev_nil))) (seqQ_n (?_))
  replace h := Option.some.inj h
  subst h
  exact wp_ret (qf_r ((outs_ok (vs := [(.vw _ _)]) rfl (absW_cons rfl rfl (absW_nil)) rfl rfl)))
/-- loop.example/g01176/spec.DrawHopsOfMessage -/
noncomputable def spec_DrawHopsOfMessage (p0 : List Int) : Option (((Int × Bool) × (Int × Int × Int))) :=
(spec_l1Cur_slotted ((p0, (0 : Int), (0 : Int)))).bind fun v7 =>
if ((List.length v7.1.2 : Int) == (0 : Int)) = true then
(spec_l1Cur_pick ((3 : Int)) v7.2).bind fun v12 =>
(spec_l1Cur_pick ((3 : Int)) v12.2).bind fun v13 =>
some (v7.1.1, (v12.1, (0 : Int), v13.1))
else
(spec_l1Cur_pick ((List.length v7.1.2 : Int)) v7.2).bind fun v14 =>
(at? v7.1.2 v14.1).bind fun v15 =>
some (v7.1.1, v15)
theorem spec_DrawHopsOfMessage_ok {p0 : List Int} {o : ((Int × Bool) × (Int × Int × Int))} (h : spec_DrawHopsOfMessage p0 = some o) : RN 37 [.ints .u8 p0] [] = some (.tup [.agg [.int .i64 o.1.1, .bool o.1.2], .agg [.int .i64 o.2.1, .int .i64 o.2.2.1, .int .i64 o.2.2.2]], []) := by
 refine fn_run (o := o) (nr := 0) (F := k37) (st := ⟨entry 0 [.vw [] (.ints .u8 p0)], fun n => ([] : List T)[n]?, 0⟩) (fun (o : ((Int × Bool) × (Int × Int × Int))) => (.tup [.agg [.int .i64 o.1.1, .bool o.1.2], .agg [.int .i64 o.2.1, .int .i64 o.2.2.1, .int .i64 o.2.2.2]], [])) rfl fns_37 rfl rfl rfl ?_
 refine wp_seq ?_
 refine wp_reg (nx' := 32) rfl (ev_new (.ptr 0 [] (some 0)) (.ptr (.agg [.int .i64 ((0 : Int)), .bool false])) rfl rfl (ev_new (.ptr 16 [] (some 0)) (.ptr (.agg [.int .i64 ((0 : Int)), .int .i64 ((0 : Int)), .int .i64 ((0 : Int))])) rfl rfl (ev_nil))) (seqQ_n (?_))
 refine wp_seq ?_
 refine wp_reg (nx' := 96) rfl (ev_v rfl rfl (ev_den (.agg [(.vw _ _), (.vw _ _), (.vw _ _)]) rfl rfl (ev_wr rfl (w_box (sv := (.agg [(.vw _ _), (.vw _ _), (.vw _ _)])) rfl rfl (absW_cons rfl rfl (absW_cons rfl rfl (absW_cons rfl rfl (absW_nil))))) (ev_den (.ptr 64 [] (some 0)) rfl rfl (ev_nil))))) (seqQ_n (?_))
 refine wp_seq ?_
 obtain ⟨v7, hv7, h⟩ := bs h
 refine wp_reg (nx' := 224) rfl (ev_den (.ptr 64 [] (some 0)) rfl rfl (ev_call1 [(.ptr 64 [] (some 0))] rfl (call_ok (rs := [64]) (rd := []) rfl rfl rfl rfl (argL_cons rfl (argL_nil)) rfl rfl (spec_l1Cur_slotted_ok hv7) rfl rfl rfl (bindR_t (bindL_cons (bindR_a (bindL_cons rfl (bindL_cons rfl (bindL_nil)))) (bindL_cons bindR_r (bindL_nil)))) rfl) (ev_den (.tup [(.agg [(.vw _ _), (.vw _ _)]), (.ref 112 _ _ _ _)]) rfl rfl (ev_den (.agg [(.vw _ _), (.vw _ _)]) rfl rfl (ev_den (.ref 112 _ _ _ _) rfl rfl (ev_new (.ptr 176 [] (some 0)) (.ptr (.agg [.int .i64 ((0 : Int)), .bool false])) rfl rfl (ev_wr0 rfl (w_st_a rfl rfl rfl (stL_cons (st1_of rfl rfl rfl (get_f rfl (get_nil)) rfl (rput_p (put_f rfl (put_nil)))) rfl (stL_cons (st1_of rfl rfl rfl (get_f rfl (get_nil)) rfl (rput_p (put_f rfl (put_nil)))) rfl (stL_nil)))) (ev_den (.ref 112 _ _ _ _) rfl rfl (ev_nil))))))))) (seqQ_n (?_))
 refine wp_seq ?_
 refine wp_gc ?_
 refine wp_seq ?_
 refine wp_reg (nx' := 272) rfl (ev_den (.ref 112 _ _ _ _) rfl rfl (ev_v rfl rfl (ev_v rfl rfl (ev_nil)))) (seqQ_n (?_))
 rcases its h with ⟨hc11, h⟩ | ⟨hc11, h⟩
 ·refine wp_ct rfl hc11 ?_
  refine wp_seq ?_
  obtain ⟨v12, hv12, h⟩ := bs h
  obtain ⟨v13, hv13, h⟩ := bs h
  refine wp_regA rfl (ar_cons (nx' := 400) rfl (rl_cons rfl (ev_den (.agg [(.vw _ _), (.vw _ _)]) rfl (d_ld_os rfl (rget_of rfl (get_nil)) rfl (cells_cons rfl (cells_cons rfl (cells_nil)))) (ev_nil)) (rl_cons rfl (ev_den (.ptr 64 [] (some 0)) rfl rfl (ev_nil)) (rl_cons rfl (ev_call1 [(.ptr 64 [] (some 0)), (.vw _ _)] rfl (call_ok (rs := [64]) (rd := []) rfl rfl rfl rfl (argL_cons rfl (argL_cons rfl (argL_nil))) rfl rfl (spec_l1Cur_pick_ok hv12) rfl rfl rfl rfl rfl) (ev_nil)) (rl_cons rfl (ev_den (.ptr 64 [] (some 0)) rfl rfl (ev_nil)) (rl_cons rfl (ev_call1 [(.ptr 64 [] (some 0)), (.vw _ _)] rfl (call_ok (rs := [64]) (rd := []) rfl rfl rfl rfl (argL_cons rfl (argL_cons rfl (argL_nil))) rfl rfl (spec_l1Cur_pick_ok hv13) rfl rfl rfl rfl rfl) (ev_nil)) (rl_cons rfl (ev_den (.agg [(.vw _ _), (.vw _ _), (.vw _ _)]) rfl rfl (ev_nil)) (rl_cons rfl (ev_wr0 rfl (w_st_a rfl rfl rfl (stL_cons (st1_of rfl rfl rfl (get_f rfl (get_nil)) rfl (rput_p (put_f rfl (put_nil)))) rfl (stL_cons (st1_of rfl rfl rfl (get_f rfl (get_nil)) rfl (rput_p (put_f rfl (put_nil)))) rfl (stL_nil)))) (ev_nil)) (rl_cons rfl (ev_wr0 rfl (w_st_a rfl rfl rfl (stL_cons (st1_of rfl rfl rfl (get_f rfl (get_nil)) rfl (rput_p (put_f rfl (put_nil)))) rfl (stL_cons (st1_of rfl rfl rfl (get_f rfl (get_nil)) rfl (rput_p (put_f rfl (put_nil)))) rfl (stL_cons (st1_of rfl rfl rfl (get_f rfl (get_nil)) rfl (rput_p (put_f rfl (put_nil)))) rfl (stL_nil))))) (ev_nil)) (rl_nil))))))))) (gc_to [0, 16] (e := [(2, .ptr 0 [] (some 0)), (3, .ptr 1 [] (some 0))]) (ts := [some (.ptr (.agg [.int .i64 v7.1.1.1, .bool v7.1.1.2])), some (.ptr (.agg [.int .i64 v12.1, .int .i64 ((0 : Int)), .int .i64 v13.1]))]) (n := 2) rfl rfl rfl rfl) (ar_cons (nx' := 400) rfl (rl_cons rfl (ev_den (.agg [(.vw _ _), (.vw _ _)]) rfl (d_ld_os rfl (rget_of rfl (get_nil)) rfl (cells_cons rfl (cells_cons rfl (cells_nil)))) (ev_nil)) (rl_cons rfl (ev_den (.ptr 64 [] (some 0)) rfl rfl (ev_nil)) (rl_cons rfl (ev_call1 [(.ptr 64 [] (some 0)), (.vw _ _)] rfl (call_ok (rs := [64]) (rd := []) rfl rfl rfl rfl (argL_cons rfl (argL_cons rfl (argL_nil))) rfl rfl (spec_l1Cur_pick_ok hv12) rfl rfl rfl rfl rfl) (ev_nil)) (rl_cons rfl (ev_den (.ptr 64 [] (some 0)) rfl rfl (ev_nil)) (rl_cons rfl (ev_call1 [(.ptr 64 [] (some 0)), (.vw _ _)] rfl (call_ok (rs := [64]) (rd := []) rfl rfl rfl rfl (argL_cons rfl (argL_cons rfl (argL_nil))) rfl rfl (spec_l1Cur_pick_ok hv13) rfl rfl rfl rfl rfl) (ev_nil)) (rl_cons rfl (ev_wr0 rfl (w_st_a rfl rfl rfl (stL_cons (st1_of rfl rfl rfl (get_f rfl (get_nil)) rfl (rput_p (put_f rfl (put_nil)))) rfl (stL_cons (st1_of rfl rfl rfl (get_f rfl (get_nil)) rfl (rput_p (put_f rfl (put_nil)))) rfl (stL_nil)))) (ev_nil)) (rl_cons rfl (ev_den (.agg [(.vw _ _), (.vw _ _), (.vw _ _)]) rfl rfl (ev_nil)) (rl_cons rfl (ev_wr0 rfl (w_st_a rfl rfl rfl (stL_cons (st1_of rfl rfl rfl (get_f rfl (get_nil)) rfl (rput_p (put_f rfl (put_nil)))) rfl (stL_cons (st1_of rfl rfl rfl (get_f rfl (get_nil)) rfl (rput_p (put_f rfl (put_nil)))) rfl (stL_cons (st1_of rfl rfl rfl (get_f rfl (get_nil)) rfl (rput_p (put_f rfl (put_nil)))) rfl (stL_nil))))) (ev_nil)) (rl_nil))))))))) (gc_to [0, 16] (e := [(2, .ptr 0 [] (some 0)), (3, .ptr 1 [] (some 0))]) (ts := [some (.ptr (.agg [.int .i64 v7.1.1.1, .bool v7.1.1.2])), some (.ptr (.agg [.int .i64 v12.1, .int .i64 ((0 : Int)), .int .i64 v13.1]))]) (n := 2) rfl rfl rfl rfl) (ar_cons (nx' := 400) rfl (rl_cons rfl (ev_den (.ptr 64 [] (some 0)) rfl rfl (ev_nil)) (rl_cons rfl (ev_call1 [(.ptr 64 [] (some 0)), (.vw _ _)] rfl (call_ok (rs := [64]) (rd := []) rfl rfl rfl rfl (argL_cons rfl (argL_cons rfl (argL_nil))) rfl rfl (spec_l1Cur_pick_ok hv12) rfl rfl rfl rfl rfl) (ev_nil)) (rl_cons rfl (ev_den (.agg [(.vw _ _), (.vw _ _)]) rfl (d_ld_os rfl (rget_of rfl (get_nil)) rfl (cells_cons rfl (cells_cons rfl (cells_nil)))) (ev_nil)) (rl_cons rfl (ev_den (.ptr 64 [] (some 0)) rfl rfl (ev_nil)) (rl_cons rfl (ev_call1 [(.ptr 64 [] (some 0)), (.vw _ _)] rfl (call_ok (rs := [64]) (rd := []) rfl rfl rfl rfl (argL_cons rfl (argL_cons rfl (argL_nil))) rfl rfl (spec_l1Cur_pick_ok hv13) rfl rfl rfl rfl rfl) (ev_nil)) (rl_cons rfl (ev_den (.agg [(.vw _ _), (.vw _ _), (.vw _ _)]) rfl rfl (ev_nil)) (rl_cons rfl (ev_wr0 rfl (w_st_a rfl rfl rfl (stL_cons (st1_of rfl rfl rfl (get_f rfl (get_nil)) rfl (rput_p (put_f rfl (put_nil)))) rfl (stL_cons (st1_of rfl rfl rfl (get_f rfl (get_nil)) rfl (rput_p (put_f rfl (put_nil)))) rfl (stL_nil)))) (ev_nil)) (rl_cons rfl (ev_wr0 rfl (w_st_a rfl rfl rfl (stL_cons (st1_of rfl rfl rfl (get_f rfl (get_nil)) rfl (rput_p (put_f rfl (put_nil)))) rfl (stL_cons (st1_of rfl rfl rfl (get_f rfl (get_nil)) rfl (rput_p (put_f rfl (put_nil)))) rfl (stL_cons (st1_of rfl rfl rfl (get_f rfl (get_nil)) rfl (rput_p (put_f rfl (put_nil)))) rfl (stL_nil))))) (ev_nil)) (rl_nil))))))))) (gc_to [0, 16] (e := [(2, .ptr 0 [] (some 0)), (3, .ptr 1 [] (some 0))]) (ts := [some (.ptr (.agg [.int .i64 v7.1.1.1, .bool v7.1.1.2])), some (.ptr (.agg [.int .i64 v12.1, .int .i64 ((0 : Int)), .int .i64 v13.1]))]) (n := 2) rfl rfl rfl rfl) (ar_cons (nx' := 400) rfl (rl_cons rfl (ev_den (.ptr 64 [] (some 0)) rfl rfl (ev_nil)) (rl_cons rfl (ev_call1 [(.ptr 64 [] (some 0)), (.vw _ _)] rfl (call_ok (rs := [64]) (rd := []) rfl rfl rfl rfl (argL_cons rfl (argL_cons rfl (argL_nil))) rfl rfl (spec_l1Cur_pick_ok hv12) rfl rfl rfl rfl rfl) (ev_nil)) (rl_cons rfl (ev_den (.agg [(.vw _ _), (.vw _ _)]) rfl (d_ld_os rfl (rget_of rfl (get_nil)) rfl (cells_cons rfl (cells_cons rfl (cells_nil)))) (ev_nil)) (rl_cons rfl (ev_den (.ptr 64 [] (some 0)) rfl rfl (ev_nil)) (rl_cons rfl (ev_call1 [(.ptr 64 [] (some 0)), (.vw _ _)] rfl (call_ok (rs := [64]) (rd := []) rfl rfl rfl rfl (argL_cons rfl (argL_cons rfl (argL_nil))) rfl rfl (spec_l1Cur_pick_ok hv13) rfl rfl rfl rfl rfl) (ev_nil)) (rl_cons rfl (ev_wr0 rfl (w_st_a rfl rfl rfl (stL_cons (st1_of rfl rfl rfl (get_f rfl (get_nil)) rfl (rput_p (put_f rfl (put_nil)))) rfl (stL_cons (st1_of rfl rfl rfl (get_f rfl (get_nil)) rfl (rput_p (put_f rfl (put_nil)))) rfl (stL_nil)))) (ev_nil)) (rl_cons rfl (ev_den (.agg [(.vw _ _), (.vw _ _), (.vw _ _)]) rfl rfl (ev_nil)) (rl_cons rfl (ev_wr0 rfl (w_st_a rfl rfl rfl (stL_cons (st1_of rfl rfl rfl (get_f rfl (get_nil)) rfl (rput_p (put_f rfl (put_nil)))) rfl (stL_cons (st1_of rfl rfl rfl (get_f rfl (get_nil)) rfl (rput_p (put_f rfl (put_nil)))) rfl (stL_cons (st1_of rfl rfl rfl (get_f rfl (get_nil)) rfl (rput_p (put_f rfl (put_nil)))) rfl (stL_nil))))) (ev_nil)) (rl_nil))))))))) (gc_to [0, 16] (e := [(2, .ptr 0 [] (some 0)), (3, .ptr 1 [] (some 0))]) (ts := [some (.ptr (.agg [.int .i64 v7.1.1.1, .bool v7.1.1.2])), some (.ptr (.agg [.int .i64 v12.1, .int .i64 ((0 : Int)), .int .i64 v13.1]))]) (n := 2) rfl rfl rfl rfl) (ar_cons (nx' := 400) rfl (rl_cons rfl (ev_den (.ptr 64 [] (some 0)) rfl rfl (ev_nil)) (rl_cons rfl (ev_call1 [(.ptr 64 [] (some 0)), (.vw _ _)] rfl (call_ok (rs := [64]) (rd := []) rfl rfl rfl rfl (argL_cons rfl (argL_cons rfl (argL_nil))) rfl rfl (spec_l1Cur_pick_ok hv12) rfl rfl rfl rfl rfl) (ev_nil)) (rl_cons rfl (ev_den (.ptr 64 [] (some 0)) rfl rfl (ev_nil)) (rl_cons rfl (ev_call1 [(.ptr 64 [] (some 0)), (.vw _ _)] rfl (call_ok (rs := [64]) (rd := []) rfl rfl rfl rfl (argL_cons rfl (argL_cons rfl (argL_nil))) rfl rfl (spec_l1Cur_pick_ok hv13) rfl rfl rfl rfl rfl) (ev_nil)) (rl_cons rfl (ev_den (.agg [(.vw _ _), (.vw _ _)]) rfl (d_ld_os rfl (rget_of rfl (get_nil)) rfl (cells_cons rfl (cells_cons rfl (cells_nil)))) (ev_nil)) (rl_cons rfl (ev_den (.agg [(.vw _ _), (.vw _ _), (.vw _ _)]) rfl rfl (ev_nil)) (rl_cons rfl (ev_wr0 rfl (w_st_a rfl rfl rfl (stL_cons (st1_of rfl rfl rfl (get_f rfl (get_nil)) rfl (rput_p (put_f rfl (put_nil)))) rfl (stL_cons (st1_of rfl rfl rfl (get_f rfl (get_nil)) rfl (rput_p (put_f rfl (put_nil)))) rfl (stL_nil)))) (ev_nil)) (rl_cons rfl (ev_wr0 rfl (w_st_a rfl rfl rfl (stL_cons (st1_of rfl rfl rfl (get_f rfl (get_nil)) rfl (rput_p (put_f rfl (put_nil)))) rfl (stL_cons (st1_of rfl rfl rfl (get_f rfl (get_nil)) rfl (rput_p (put_f rfl (put_nil)))) rfl (stL_cons (st1_of rfl rfl rfl (get_f rfl (get_nil)) rfl (rput_p (put_f rfl (put_nil)))) rfl (stL_nil))))) (ev_nil)) (rl_nil))))))))) (gc_to [0, 16] (e := [(2, .ptr 0 [] (some 0)), (3, .ptr 1 [] (some 0))]) (ts := [some (.ptr (.agg [.int .i64 v7.1.1.1, .bool v7.1.1.2])), some (.ptr (.agg [.int .i64 v12.1, .int .i64 ((0 : Int)), .int .i64 v13.1]))]) (n := 2) rfl rfl rfl rfl) (ar_cons (nx' := 400) rfl (rl_cons rfl (ev_den (.ptr 64 [] (some 0)) rfl rfl (ev_nil)) (rl_cons rfl (ev_call1 [(.ptr 64 [] (some 0)), (.vw _ _)] rfl (call_ok (rs := [64]) (rd := []) rfl rfl rfl rfl (argL_cons rfl (argL_cons rfl (argL_nil))) rfl rfl (spec_l1Cur_pick_ok hv12) rfl rfl rfl rfl rfl) (ev_nil)) (rl_cons rfl (ev_den (.ptr 64 [] (some 0)) rfl rfl (ev_nil)) (rl_cons rfl (ev_call1 [(.ptr 64 [] (some 0)), (.vw _ _)] rfl (call_ok (rs := [64]) (rd := []) rfl rfl rfl rfl (argL_cons rfl (argL_cons rfl (argL_nil))) rfl rfl (spec_l1Cur_pick_ok hv13) rfl rfl rfl rfl rfl) (ev_nil)) (rl_cons rfl (ev_den (.agg [(.vw _ _), (.vw _ _)]) rfl (d_ld_os rfl (rget_of rfl (get_nil)) rfl (cells_cons rfl (cells_cons rfl (cells_nil)))) (ev_nil)) (rl_cons rfl (ev_wr0 rfl (w_st_a rfl rfl rfl (stL_cons (st1_of rfl rfl rfl (get_f rfl (get_nil)) rfl (rput_p (put_f rfl (put_nil)))) rfl (stL_cons (st1_of rfl rfl rfl (get_f rfl (get_nil)) rfl (rput_p (put_f rfl (put_nil)))) rfl (stL_nil)))) (ev_nil)) (rl_cons rfl (ev_den (.agg [(.vw _ _), (.vw _ _), (.vw _ _)]) rfl rfl (ev_nil)) (rl_cons rfl (ev_wr0 rfl (w_st_a rfl rfl rfl (stL_cons (st1_of rfl rfl rfl (get_f rfl (get_nil)) rfl (rput_p (put_f rfl (put_nil)))) rfl (stL_cons (st1_of rfl rfl rfl (get_f rfl (get_nil)) rfl (rput_p (put_f rfl (put_nil)))) rfl (stL_cons (st1_of rfl rfl rfl (get_f rfl (get_nil)) rfl (rput_p (put_f rfl (put_nil)))) rfl (stL_nil))))) (ev_nil)) (rl_nil))))))))) (gc_to [0, 16] (e := [(2, .ptr 0 [] (some 0)), (3, .ptr 1 [] (some 0))]) (ts := [some (.ptr (.agg [.int .i64 v7.1.1.1, .bool v7.1.1.2])), some (.ptr (.agg [.int .i64 v12.1, .int .i64 ((0 : Int)), .int .i64 v13.1]))]) (n := 2) rfl rfl rfl rfl) (ar_nil))))))) (seqQ_n (?_))
  replace h := Option.some.inj h
  subst h
  exact wp_ret (gcQ_r (seqQ_r (qf_r ((outs_ok (vs := [(.agg [(.vw _ _), (.vw _ _)]), (.agg [(.vw _ _), (.vw _ _), (.vw _ _)])]) rfl (absW_cons (retT_agg (absW_cons rfl rfl (absW_cons rfl rfl (absW_nil)))) rfl (absW_cons (retT_agg (absW_cons rfl rfl (absW_cons rfl rfl (absW_cons rfl rfl (absW_nil))))) rfl (absW_nil))) rfl rfl)))))
 ·refine wp_cf rfl hc11 ?_
  refine wp_skip (gcQ_n (gc_to [0, 16, 64, 176, 112] (e := [(2, .ptr 0 [] (some 0)), (3, .ptr 1 [] (some 0)), (4, .ptr 2 [] (some 0)), (5, .ptr 3 [] (some 0)), (6, .ref 4 [] 3 0 (List.length v7.1.2))]) (ts := [some (.ptr (.agg [.int .i64 ((0 : Int)), .bool false])), some (.ptr (.agg [.int .i64 ((0 : Int)), .int .i64 ((0 : Int)), .int .i64 ((0 : Int))])), some (.ptr (.agg [.sh (.ints .u8 v7.2.1), .int .i64 v7.2.2.1, .int .u64 v7.2.2.2])), some (.ptr (.agg [.int .i64 v7.1.1.1, .bool v7.1.1.2])), some (.rows 3 (List.map e0 v7.1.2))]) (n := 5) rfl rfl rfl rfl) (seqQ_n (?_)))
  refine wp_seq ?_
  obtain ⟨v14, hv14, h⟩ := bs h
  obtain ⟨v15, hv15, h⟩ := bs h
  refine wp_regA rfl (ar_cons (nx' := 165) rfl (rl_cons rfl (ev_den (.agg [(.vw _ _), (.vw _ _)]) rfl (d_ld_os rfl (rget_of rfl (get_nil)) rfl (cells_cons rfl (cells_cons rfl (cells_nil)))) (ev_nil)) (rl_cons rfl (ev_den (.ref 4 _ _ _ _) rfl rfl (ev_nil)) (rl_cons rfl (ev_den (.ptr 2 [] (some 0)) rfl rfl (ev_nil)) (rl_cons rfl (ev_den (.ref 4 _ _ _ _) rfl rfl (ev_nil)) (rl_cons rfl (ev_v rfl rfl (ev_nil)) (rl_cons rfl (ev_call1 [(.ptr 2 [] (some 0)), (.vw _ _)] rfl (call_ok (rs := [2]) (rd := []) rfl rfl rfl rfl (argL_cons rfl (argL_cons rfl (argL_nil))) rfl rfl (spec_l1Cur_pick_ok hv14) rfl rfl rfl rfl rfl) (ev_nil)) (rl_cons rfl (ev_den (.ptr 4 [.e (Int.toNat v14.1)] (some 0)) rfl (d_idx_r (p := []) rfl rfl hv15) (ev_nil)) (rl_cons rfl (ev_den (.agg [(.vw _ _), (.vw _ _), (.vw _ _)]) rfl (d_ld_os rfl (rget_of rfl (get_r (e := e0) hv15 (get_nil))) rfl (cells_cons rfl (cells_cons rfl (cells_cons rfl (cells_nil))))) (ev_nil)) (rl_cons rfl (ev_wr0 rfl (w_st_a rfl rfl rfl (stL_cons (st1_of rfl rfl rfl (get_f rfl (get_nil)) rfl (rput_p (put_f rfl (put_nil)))) rfl (stL_cons (st1_of rfl rfl rfl (get_f rfl (get_nil)) rfl (rput_p (put_f rfl (put_nil)))) rfl (stL_nil)))) (ev_nil)) (rl_cons rfl (ev_wr0 rfl (w_st_a rfl rfl rfl (stL_cons (st1_of rfl rfl rfl (get_f rfl (get_nil)) rfl (rput_p (put_f rfl (put_nil)))) rfl (stL_cons (st1_of rfl rfl rfl (get_f rfl (get_nil)) rfl (rput_p (put_f rfl (put_nil)))) rfl (stL_cons (st1_of rfl rfl rfl (get_f rfl (get_nil)) rfl (rput_p (put_f rfl (put_nil)))) rfl (stL_nil))))) (ev_nil)) (rl_nil))))))))))) (gc_to [0, 1] (e := [(2, .ptr 0 [] (some 0)), (3, .ptr 1 [] (some 0))]) (ts := [some (.ptr (.agg [.int .i64 v7.1.1.1, .bool v7.1.1.2])), some (.ptr (.agg [.int .i64 v15.1, .int .i64 v15.2.1, .int .i64 v15.2.2]))]) (n := 2) rfl rfl rfl rfl) (ar_cons (nx' := 165) rfl (rl_cons rfl (ev_den (.agg [(.vw _ _), (.vw _ _)]) rfl (d_ld_os rfl (rget_of rfl (get_nil)) rfl (cells_cons rfl (cells_cons rfl (cells_nil)))) (ev_nil)) (rl_cons rfl (ev_den (.ref 4 _ _ _ _) rfl rfl (ev_nil)) (rl_cons rfl (ev_den (.ptr 2 [] (some 0)) rfl rfl (ev_nil)) (rl_cons rfl (ev_den (.ref 4 _ _ _ _) rfl rfl (ev_nil)) (rl_cons rfl (ev_v rfl rfl (ev_nil)) (rl_cons rfl (ev_call1 [(.ptr 2 [] (some 0)), (.vw _ _)] rfl (call_ok (rs := [2]) (rd := []) rfl rfl rfl rfl (argL_cons rfl (argL_cons rfl (argL_nil))) rfl rfl (spec_l1Cur_pick_ok hv14) rfl rfl rfl rfl rfl) (ev_nil)) (rl_cons rfl (ev_den (.ptr 4 [.e (Int.toNat v14.1)] (some 0)) rfl (d_idx_r (p := []) rfl rfl hv15) (ev_nil)) (rl_cons rfl (ev_wr0 rfl (w_st_a rfl rfl rfl (stL_cons (st1_of rfl rfl rfl (get_f rfl (get_nil)) rfl (rput_p (put_f rfl (put_nil)))) rfl (stL_cons (st1_of rfl rfl rfl (get_f rfl (get_nil)) rfl (rput_p (put_f rfl (put_nil)))) rfl (stL_nil)))) (ev_nil)) (rl_cons rfl (ev_den (.agg [(.vw _ _), (.vw _ _), (.vw _ _)]) rfl (d_ld_os rfl (rget_of rfl (get_r (e := e0) hv15 (get_nil))) rfl (cells_cons rfl (cells_cons rfl (cells_cons rfl (cells_nil))))) (ev_nil)) (rl_cons rfl (ev_wr0 rfl (w_st_a rfl rfl rfl (stL_cons (st1_of rfl rfl rfl (get_f rfl (get_nil)) rfl (rput_p (put_f rfl (put_nil)))) rfl (stL_cons (st1_of rfl rfl rfl (get_f rfl (get_nil)) rfl (rput_p (put_f rfl (put_nil)))) rfl (stL_cons (st1_of rfl rfl rfl (get_f rfl (get_nil)) rfl (rput_p (put_f rfl (put_nil)))) rfl (stL_nil))))) (ev_nil)) (rl_nil))))))))))) (gc_to [0, 1] (e := [(2, .ptr 0 [] (some 0)), (3, .ptr 1 [] (some 0))]) (ts := [some (.ptr (.agg [.int .i64 v7.1.1.1, .bool v7.1.1.2])), some (.ptr (.agg [.int .i64 v15.1, .int .i64 v15.2.1, .int .i64 v15.2.2]))]) (n := 2) rfl rfl rfl rfl) (ar_cons (nx' := 165) rfl (rl_cons rfl (ev_den (.agg [(.vw _ _), (.vw _ _)]) rfl (d_ld_os rfl (rget_of rfl (get_nil)) rfl (cells_cons rfl (cells_cons rfl (cells_nil)))) (ev_nil)) (rl_cons rfl (ev_den (.ref 4 _ _ _ _) rfl rfl (ev_nil)) (rl_cons rfl (ev_den (.ptr 2 [] (some 0)) rfl rfl (ev_nil)) (rl_cons rfl (ev_den (.ref 4 _ _ _ _) rfl rfl (ev_nil)) (rl_cons rfl (ev_v rfl rfl (ev_nil)) (rl_cons rfl (ev_call1 [(.ptr 2 [] (some 0)), (.vw _ _)] rfl (call_ok (rs := [2]) (rd := []) rfl rfl rfl rfl (argL_cons rfl (argL_cons rfl (argL_nil))) rfl rfl (spec_l1Cur_pick_ok hv14) rfl rfl rfl rfl rfl) (ev_nil)) (rl_cons rfl (ev_wr0 rfl (w_st_a rfl rfl rfl (stL_cons (st1_of rfl rfl rfl (get_f rfl (get_nil)) rfl (rput_p (put_f rfl (put_nil)))) rfl (stL_cons (st1_of rfl rfl rfl (get_f rfl (get_nil)) rfl (rput_p (put_f rfl (put_nil)))) rfl (stL_nil)))) (ev_nil)) (rl_cons rfl (ev_den (.ptr 4 [.e (Int.toNat v14.1)] (some 0)) rfl (d_idx_r (p := []) rfl rfl hv15) (ev_nil)) (rl_cons rfl (ev_den (.agg [(.vw _ _), (.vw _ _), (.vw _ _)]) rfl (d_ld_os rfl (rget_of rfl (get_r (e := e0) hv15 (get_nil))) rfl (cells_cons rfl (cells_cons rfl (cells_cons rfl (cells_nil))))) (ev_nil)) (rl_cons rfl (ev_wr0 rfl (w_st_a rfl rfl rfl (stL_cons (st1_of rfl rfl rfl (get_f rfl (get_nil)) rfl (rput_p (put_f rfl (put_nil)))) rfl (stL_cons (st1_of rfl rfl rfl (get_f rfl (get_nil)) rfl (rput_p (put_f rfl (put_nil)))) rfl (stL_cons (st1_of rfl rfl rfl (get_f rfl (get_nil)) rfl (rput_p (put_f rfl (put_nil)))) rfl (stL_nil))))) (ev_nil)) (rl_nil))))))))))) (gc_to [0, 1] (e := [(2, .ptr 0 [] (some 0)), (3, .ptr 1 [] (some 0))]) (ts := [some (.ptr (.agg [.int .i64 v7.1.1.1, .bool v7.1.1.2])), some (.ptr (.agg [.int .i64 v15.1, .int .i64 v15.2.1, .int .i64 v15.2.2]))]) (n := 2) rfl rfl rfl rfl) (ar_cons (nx' := 165) rfl (rl_cons rfl (ev_den (.ref 4 _ _ _ _) rfl rfl (ev_nil)) (rl_cons rfl (ev_den (.ptr 2 [] (some 0)) rfl rfl (ev_nil)) (rl_cons rfl (ev_den (.ref 4 _ _ _ _) rfl rfl (ev_nil)) (rl_cons rfl (ev_v rfl rfl (ev_nil)) (rl_cons rfl (ev_call1 [(.ptr 2 [] (some 0)), (.vw _ _)] rfl (call_ok (rs := [2]) (rd := []) rfl rfl rfl rfl (argL_cons rfl (argL_cons rfl (argL_nil))) rfl rfl (spec_l1Cur_pick_ok hv14) rfl rfl rfl rfl rfl) (ev_nil)) (rl_cons rfl (ev_den (.agg [(.vw _ _), (.vw _ _)]) rfl (d_ld_os rfl (rget_of rfl (get_nil)) rfl (cells_cons rfl (cells_cons rfl (cells_nil)))) (ev_nil)) (rl_cons rfl (ev_den (.ptr 4 [.e (Int.toNat v14.1)] (some 0)) rfl (d_idx_r (p := []) rfl rfl hv15) (ev_nil)) (rl_cons rfl (ev_den (.agg [(.vw _ _), (.vw _ _), (.vw _ _)]) rfl (d_ld_os rfl (rget_of rfl (get_r (e := e0) hv15 (get_nil))) rfl (cells_cons rfl (cells_cons rfl (cells_cons rfl (cells_nil))))) (ev_nil)) (rl_cons rfl (ev_wr0 rfl (w_st_a rfl rfl rfl (stL_cons (st1_of rfl rfl rfl (get_f rfl (get_nil)) rfl (rput_p (put_f rfl (put_nil)))) rfl (stL_cons (st1_of rfl rfl rfl (get_f rfl (get_nil)) rfl (rput_p (put_f rfl (put_nil)))) rfl (stL_nil)))) (ev_nil)) (rl_cons rfl (ev_wr0 rfl (w_st_a rfl rfl rfl (stL_cons (st1_of rfl rfl rfl (get_f rfl (get_nil)) rfl (rput_p (put_f rfl (put_nil)))) rfl (stL_cons (st1_of rfl rfl rfl (get_f rfl (get_nil)) rfl (rput_p (put_f rfl (put_nil)))) rfl (stL_cons (st1_of rfl rfl rfl (get_f rfl (get_nil)) rfl (rput_p (put_f rfl (put_nil)))) rfl (stL_nil))))) (ev_nil)) (rl_nil))))))))))) (gc_to [0, 1] (e := [(2, .ptr 0 [] (some 0)), (3, .ptr 1 [] (some 0))]) (ts := [some (.ptr (.agg [.int .i64 v7.1.1.1, .bool v7.1.1.2])), some (.ptr (.agg [.int .i64 v15.1, .int .i64 v15.2.1, .int .i64 v15.2.2]))]) (n := 2) rfl rfl rfl rfl) (ar_cons (nx' := 165) rfl (rl_cons rfl (ev_den (.ref 4 _ _ _ _) rfl rfl (ev_nil)) (rl_cons rfl (ev_den (.ptr 2 [] (some 0)) rfl rfl (ev_nil)) (rl_cons rfl (ev_den (.ref 4 _ _ _ _) rfl rfl (ev_nil)) (rl_cons rfl (ev_v rfl rfl (ev_nil)) (rl_cons rfl (ev_call1 [(.ptr 2 [] (some 0)), (.vw _ _)] rfl (call_ok (rs := [2]) (rd := []) rfl rfl rfl rfl (argL_cons rfl (argL_cons rfl (argL_nil))) rfl rfl (spec_l1Cur_pick_ok hv14) rfl rfl rfl rfl rfl) (ev_nil)) (rl_cons rfl (ev_den (.agg [(.vw _ _), (.vw _ _)]) rfl (d_ld_os rfl (rget_of rfl (get_nil)) rfl (cells_cons rfl (cells_cons rfl (cells_nil)))) (ev_nil)) (rl_cons rfl (ev_den (.ptr 4 [.e (Int.toNat v14.1)] (some 0)) rfl (d_idx_r (p := []) rfl rfl hv15) (ev_nil)) (rl_cons rfl (ev_wr0 rfl (w_st_a rfl rfl rfl (stL_cons (st1_of rfl rfl rfl (get_f rfl (get_nil)) rfl (rput_p (put_f rfl (put_nil)))) rfl (stL_cons (st1_of rfl rfl rfl (get_f rfl (get_nil)) rfl (rput_p (put_f rfl (put_nil)))) rfl (stL_nil)))) (ev_nil)) (rl_cons rfl (ev_den (.agg [(.vw _ _), (.vw _ _), (.vw _ _)]) rfl (d_ld_os rfl (rget_of rfl (get_r (e := e0) hv15 (get_nil))) rfl (cells_cons rfl (cells_cons rfl (cells_cons rfl (cells_nil))))) (ev_nil)) (rl_cons rfl (ev_wr0 rfl (w_st_a rfl rfl rfl (stL_cons (st1_of rfl rfl rfl (get_f rfl (get_nil)) rfl (rput_p (put_f rfl (put_nil)))) rfl (stL_cons (st1_of rfl rfl rfl (get_f rfl (get_nil)) rfl (rput_p (put_f rfl (put_nil)))) rfl (stL_cons (st1_of rfl rfl rfl (get_f rfl (get_nil)) rfl (rput_p (put_f rfl (put_nil)))) rfl (stL_nil))))) (ev_nil)) (rl_nil))))))))))) (gc_to [0, 1] (e := [(2, .ptr 0 [] (some 0)), (3, .ptr 1 [] (some 0))]) (ts := [some (.ptr (.agg [.int .i64 v7.1.1.1, .bool v7.1.1.2])), some (.ptr (.agg [.int .i64 v15.1, .int .i64 v15.2.1, .int .i64 v15.2.2]))]) (n := 2) rfl rfl rfl rfl) (ar_cons (nx' := 165) rfl (rl_cons rfl (ev_den (.ref 4 _ _ _ _) rfl rfl (ev_nil)) (rl_cons rfl (ev_den (.ptr 2 [] (some 0)) rfl rfl (ev_nil)) (rl_cons rfl (ev_den (.ref 4 _ _ _ _) rfl rfl (ev_nil)) (rl_cons rfl (ev_v rfl rfl (ev_nil)) (rl_cons rfl (ev_call1 [(.ptr 2 [] (some 0)), (.vw _ _)] rfl (call_ok (rs := [2]) (rd := []) rfl rfl rfl rfl (argL_cons rfl (argL_cons rfl (argL_nil))) rfl rfl (spec_l1Cur_pick_ok hv14) rfl rfl rfl rfl rfl) (ev_nil)) (rl_cons rfl (ev_den (.agg [(.vw _ _), (.vw _ _)]) rfl (d_ld_os rfl (rget_of rfl (get_nil)) rfl (cells_cons rfl (cells_cons rfl (cells_nil)))) (ev_nil)) (rl_cons rfl (ev_wr0 rfl (w_st_a rfl rfl rfl (stL_cons (st1_of rfl rfl rfl (get_f rfl (get_nil)) rfl (rput_p (put_f rfl (put_nil)))) rfl (stL_cons (st1_of rfl rfl rfl (get_f rfl (get_nil)) rfl (rput_p (put_f rfl (put_nil)))) rfl (stL_nil)))) (ev_nil)) (rl_cons rfl (ev_den (.ptr 4 [.e (Int.toNat v14.1)] (some 0)) rfl (d_idx_r (p := []) rfl rfl hv15) (ev_nil)) (rl_cons rfl (ev_den (.agg [(.vw _ _), (.vw _ _), (.vw _ _)]) rfl (d_ld_os rfl (rget_of rfl (get_r (e := e0) hv15 (get_nil))) rfl (cells_cons rfl (cells_cons rfl (cells_cons rfl (cells_nil))))) (ev_nil)) (rl_cons rfl (ev_wr0 rfl (w_st_a rfl rfl rfl (stL_cons (st1_of rfl rfl rfl (get_f rfl (get_nil)) rfl (rput_p (put_f rfl (put_nil)))) rfl (stL_cons (st1_of rfl rfl rfl (get_f rfl (get_nil)) rfl (rput_p (put_f rfl (put_nil)))) rfl (stL_cons (st1_of rfl rfl rfl (get_f rfl (get_nil)) rfl (rput_p (put_f rfl (put_nil)))) rfl (stL_nil))))) (ev_nil)) (rl_nil))))))))))) (gc_to [0, 1] (e := [(2, .ptr 0 [] (some 0)), (3, .ptr 1 [] (some 0))]) (ts := [some (.ptr (.agg [.int .i64 v7.1.1.1, .bool v7.1.1.2])), some (.ptr (.agg [.int .i64 v15.1, .int .i64 v15.2.1, .int .i64 v15.2.2]))]) (n := 2) rfl rfl rfl rfl) (ar_nil))))))) (seqQ_n (?_))
  replace h := Option.some.inj h
  subst h
  exact wp_ret (qf_r ((outs_ok (vs := [(.agg [(.vw _ _), (.vw _ _)]), (.agg [(.vw _ _), (.vw _ _), (.vw _ _)])]) rfl (absW_cons (retT_agg (absW_cons rfl rfl (absW_cons rfl rfl (absW_nil)))) rfl (absW_cons (retT_agg (absW_cons rfl rfl (absW_cons rfl rfl (absW_cons rfl rfl (absW_nil))))) rfl (absW_nil))) rfl rfl)))
noncomputable def spec_HopsOfMessage_j1 (p0 : Int × Bool) (p1 : Int × Int × Int) : Bool → Option ((Int × Bool)) := fun x15 =>
if x15 = true then
some ((0 : Int), false)
else
(nz? p0.1).bind fun u17 =>
some ((Int.tmod (w64 ((w64 (p1.2.2 - p1.2.1)) + p0.1)) p0.1), true)
/-- loop.example/g01176/spec.HopsOfMessage -/
noncomputable def spec_HopsOfMessage (p0 : Int × Bool) (p1 : Int × Int × Int) : Option ((Int × Bool)) :=
(spec_slGood p0).bind fun v18 =>
if (!v18) = true then
spec_HopsOfMessage_j1 p0 p1 true
else
(spec_slMessage p0 p1).bind fun v21 =>
spec_HopsOfMessage_j1 p0 p1 (!v21)
theorem spec_HopsOfMessage_ok {p0 : Int × Bool} {p1 : Int × Int × Int} {o : (Int × Bool)} (h : spec_HopsOfMessage p0 p1 = some o) : RN 38 [.agg [.int .i64 p0.1, .bool p0.2], .agg [.int .i64 p1.1, .int .i64 p1.2.1, .int .i64 p1.2.2]] [] = some (.tup [.int .i64 o.1, .bool o.2], []) := by
 refine fn_run (o := o) (nr := 0) (F := k38) (st := ⟨entry 0 [.agg [.vw [] (.int .i64 p0.1), .vw [] (.bool p0.2)], .agg [.vw [] (.int .i64 p1.1), .vw [] (.int .i64 p1.2.1), .vw [] (.int .i64 p1.2.2)]], fun n => ([] : List T)[n]?, 0⟩) (fun (o : (Int × Bool)) => (.tup [.int .i64 o.1, .bool o.2], [])) rfl fns_38 rfl rfl rfl ?_
 refine wp_seq ?_
 refine wp_reg (nx' := 64) rfl (ev_wr rfl (w_box (sv := (.agg [(.vw _ _), (.vw _ _)])) rfl rfl (absW_cons rfl rfl (absW_cons rfl rfl (absW_nil)))) (ev_wr rfl (w_box (sv := (.agg [(.vw _ _), (.vw _ _), (.vw _ _)])) rfl rfl (absW_cons rfl rfl (absW_cons rfl rfl (absW_cons rfl rfl (absW_nil))))) (ev_v rfl rfl (ev_v rfl rfl (ev_nil))))) (seqQ_n (?_))
 refine wp_seq ?_
 refine wp_gc ?_
 refine wp_seq ?_
 refine wp_join (spec_HopsOfMessage_j1 p0 p1) (fun (x15 : Bool) => (⟨al .dead [(2, .ptr 0 [] (some 0)), (3, .ptr 1 [] (some 0)), (14, .vw [] (.bool x15))], hl [some (.ptr (.agg [.int .i64 p0.1, .bool p0.2])), some (.ptr (.agg [.int .i64 p1.1, .int .i64 p1.2.1, .int .i64 p1.2.2]))], 2⟩ : St)) ?_ ?_
 ·rintro x15 o h
  unfold spec_HopsOfMessage_j1 at h
  refine seqQ_n (?_)
  rcases its h with ⟨hc16, h⟩ | ⟨hc16, h⟩
  ·refine wp_ct rfl hc16 ?_
   refine wp_seq ?_
   refine wp_reg (nx' := 34) rfl (ev_v rfl rfl (ev_v rfl rfl (ev_nil))) (seqQ_n (?_))
   replace h := Option.some.inj h
   subst h
   exact wp_ret (gcQ_r (seqQ_r (qf_r ((outs_ok (vs := [(.vw _ _), (.vw _ _)]) rfl (absW_cons rfl rfl (absW_cons rfl rfl (absW_nil))) rfl rfl)))))
  ·refine wp_cf rfl hc16 ?_
   refine wp_skip (gcQ_n (gc_to [0, 1] (e := [(2, .ptr 0 [] (some 0)), (3, .ptr 1 [] (some 0))]) (ts := [some (.ptr (.agg [.int .i64 p0.1, .bool p0.2])), some (.ptr (.agg [.int .i64 p1.1, .int .i64 p1.2.1, .int .i64 p1.2.2]))]) (n := 2) rfl rfl rfl rfl) (seqQ_n (?_)))
   refine wp_seq ?_
   obtain ⟨u17, hu17, h⟩ := bs h
   refine wp_reg (nx' := 210) rfl (ev_den (.ptr 1 [] (some 2)) rfl rfl (ev_v rfl (d_ld_o rfl (rget_of rfl (get_nil)) rfl rfl) (ev_den (.ptr 1 [] (some 1)) rfl rfl (ev_v rfl (d_ld_o rfl (rget_of rfl (get_nil)) rfl rfl) (ev_v rfl rfl (ev_den (.ptr 0 [] (some 0)) rfl rfl (ev_v rfl (d_ld_o rfl (rget_of rfl (get_nil)) rfl rfl) (ev_v rfl rfl (ev_den (.ptr 0 [] (some 0)) rfl rfl (ev_v rfl (d_ld_o rfl (rget_of rfl (get_nil)) rfl rfl) (ev_v rfl (d_rem rfl rfl hu17) (ev_v rfl rfl (ev_v rfl rfl (ev_nil)))))))))))))) (seqQ_n (?_))
   replace h := Option.some.inj h
   subst h
   exact wp_ret (qf_r ((outs_ok (vs := [(.vw _ _), (.vw _ _)]) rfl (absW_cons rfl rfl (absW_cons rfl rfl (absW_nil))) rfl rfl)))
 ·obtain ⟨v18, hv18, h⟩ := bs h
  rcases its h with ⟨hc19, h⟩ | ⟨hc19, h⟩
  ·exact wp_reg (nx' := 208) rfl (ev_den (.agg [(.vw _ _), (.vw _ _)]) rfl (d_ld_os rfl (rget_of rfl (get_nil)) rfl (cells_cons rfl (cells_cons rfl (cells_nil)))) (ev_call0 [(.agg [(.vw _ _), (.vw _ _)])] rfl (call_ok (rs := []) (rd := []) rfl rfl rfl rfl (argL_cons (argT_a (argL_cons rfl (argL_cons rfl (argL_nil)))) (argL_nil)) rfl rfl (spec_slGood_ok hv18) rfl rfl rfl rfl rfl) (ev_v rfl rfl (ev_v rfl rfl (ev_off rfl hc19 (ev_off rfl hc19 (ev_off rfl hc19 (ev_off rfl hc19 (ev_v rfl (d_pick_t rfl hc19 rfl) (ev_nil)))))))))) (joinQ_n true h (gc_to [0, 16] rfl rfl rfl rfl))
  ·obtain ⟨v21, hv21, h⟩ := bs h
   exact wp_reg (nx' := 208) rfl (ev_den (.agg [(.vw _ _), (.vw _ _)]) rfl (d_ld_os rfl (rget_of rfl (get_nil)) rfl (cells_cons rfl (cells_cons rfl (cells_nil)))) (ev_call0 [(.agg [(.vw _ _), (.vw _ _)])] rfl (call_ok (rs := []) (rd := []) rfl rfl rfl rfl (argL_cons (argT_a (argL_cons rfl (argL_cons rfl (argL_nil)))) (argL_nil)) rfl rfl (spec_slGood_ok hv18) rfl rfl rfl rfl rfl) (ev_v rfl rfl (ev_v rfl rfl (ev_on rfl hc19 (ev_den (.agg [(.vw _ _), (.vw _ _)]) rfl (d_ld_os rfl (rget_of rfl (get_nil)) rfl (cells_cons rfl (cells_cons rfl (cells_nil)))) (ev_on rfl hc19 (ev_den (.agg [(.vw _ _), (.vw _ _), (.vw _ _)]) rfl (d_ld_os rfl (rget_of rfl (get_nil)) rfl (cells_cons rfl (cells_cons rfl (cells_cons rfl (cells_nil))))) (ev_on rfl hc19 (ev_call0 [(.agg [(.vw _ _), (.vw _ _)]), (.agg [(.vw _ _), (.vw _ _), (.vw _ _)])] rfl (call_ok (rs := []) (rd := []) rfl rfl rfl rfl (argL_cons (argT_a (argL_cons rfl (argL_cons rfl (argL_nil)))) (argL_cons (argT_a (argL_cons rfl (argL_cons rfl (argL_cons rfl (argL_nil))))) (argL_nil))) rfl rfl (spec_slMessage_ok hv21) rfl rfl rfl rfl rfl) (ev_on rfl hc19 (ev_v rfl rfl (ev_v rfl (d_pick_f rfl hc19 rfl) (ev_nil)))))))))))))) (joinQ_n (!v21) h (gc_to [0, 16] rfl rfl rfl rfl))
end Go.Proofs.Yteeejellpcikkaa.Ev.G5
