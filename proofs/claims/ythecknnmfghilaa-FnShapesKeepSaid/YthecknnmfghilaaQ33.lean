/- What functions of the program come to, as plain functions; no condition. -/
import Derived.Test.YthecknnmfghilaaQ32
set_option linter.unusedVariables false
set_option linter.unusedSimpArgs false
set_option maxRecDepth 100000
set_option maxHeartbeats 4000000
set_option linter.unusedVariables false
namespace Go.Proofs.Ythecknnmfghilaa.Ev.Q3
open Go
/-- loop.example/g01176/impl.DelayOfShape -/
noncomputable def impl_DelayOfShape (p0 : Int × Int) (p1 : List Int) : Option ((Int × Bool)) :=
(impl_shaped p0 p1).bind fun v2 =>
some (v2.1.2.2, v2.2)
theorem impl_DelayOfShape_ok {p0 : Int × Int} {p1 : List Int} {o : (Int × Bool)} (h : impl_DelayOfShape p0 p1 = some o) : RN 11 [.agg [.int .i64 p0.1, .int .i64 p0.2], .ints .i64 p1] [] = some (.tup [.int .i64 o.1, .bool o.2], []) := by
  refine fn_run (o := o) (nr := 0) (F := k11) (st := ⟨entry 0 [.agg [.vw [] (.int .i64 p0.1), .vw [] (.int .i64 p0.2)], .vw [] (.ints .i64 p1)], fun n => ([] : List T)[n]?, 0⟩) (fun (o : (Int × Bool)) => (.tup [.int .i64 o.1, .bool o.2], [])) rfl fns_11 rfl rfl ?_
  refine wp_seq ?_
  refine wp_reg (nx' := 48) rfl (ev_wr rfl (w_box (sv := (.agg [(.vw _ _), (.vw _ _)])) rfl rfl (absW_cons rfl rfl (absW_cons rfl rfl (absW_nil)))) (ev_den (.vw _ _) rfl rfl (ev_den (.vw _ _) rfl rfl (ev_nil)))) (seqQ_n (?_))
  refine wp_seq ?_
  obtain ⟨v2, hv2, h⟩ := bs h
  refine wp_reg (nx' := 192) rfl (ev_den (.agg [(.vw _ _), (.vw _ _)]) rfl (d_ld_os rfl (rget_of rfl (get_nil)) rfl (cells_cons rfl (cells_cons rfl (cells_nil)))) (ev_den (.vw _ _) rfl rfl (ev_call0 [(.agg [(.vw _ _), (.vw _ _)]), (.vw _ _)] rfl (call_ok (rs := []) (rd := []) rfl rfl rfl rfl (argL_cons (argT_a (argL_cons rfl (argL_cons rfl (argL_nil)))) (argL_cons rfl (argL_nil))) rfl rfl (impl_shaped_ok hv2) rfl rfl rfl (bindR_t (bindL_cons (bindR_a (bindL_cons rfl (bindL_cons rfl (bindL_cons rfl (bindL_nil))))) (bindL_cons rfl (bindL_nil)))) rfl) (ev_den (.tup [(.agg [(.ref 80 _ _ _ _), (.vw _ _), (.vw _ _)]), (.vw _ _)]) rfl rfl (ev_den (.agg [(.ref 80 _ _ _ _), (.vw _ _), (.vw _ _)]) rfl rfl (ev_den (.vw _ _) rfl rfl (ev_new (.ptr 144 [] (some 0)) (.ptr (.agg [.ints .i64 ([]), .int .i64 ((0 : Int)), .int .i64 ((0 : Int))])) rfl rfl (ev_wr0 rfl (w_st_a rfl rfl rfl (stL_cons (st1_of (abs_ref rfl sub_i) rfl rfl (get_f rfl (get_nil)) rfl (rput_p (put_f rfl (put_nil)))) rfl (stL_cons (st1_of rfl rfl rfl (get_f rfl (get_nil)) rfl (rput_p (put_f rfl (put_nil)))) rfl (stL_cons (st1_of rfl rfl rfl (get_f rfl (get_nil)) rfl (rput_p (put_f rfl (put_nil)))) rfl (stL_nil))))) (ev_den (.vw _ _) rfl rfl (ev_nil)))))))))) (seqQ_n (?_))
  refine wp_seq ?_
  refine wp_reg (nx' := 272) rfl (ev_den (.ptr 144 [] (some 2)) rfl rfl (ev_den (.vw _ _) rfl (d_ld_o rfl (rget_of rfl (get_nil)) rfl rfl) (ev_den (.vw _ _) rfl rfl (ev_den (.vw _ _) rfl rfl (ev_den (.vw _ _) rfl rfl (ev_nil)))))) (seqQ_n (?_))
  replace h := Option.some.inj h
  subst h
  exact wp_ret (qf_r ((outs_ok (vs := [(.vw _ _), (.vw _ _)]) rfl (absW_cons rfl rfl (absW_cons rfl rfl (absW_nil))) rfl rfl)))
noncomputable def spec_shDelay_j2 (x206 : Int) : (Int × Int × Int × Int) → Option ((Int × Int × Int × Int × Int) ⊕ Int) := fun (x287, x288, x289, x290) =>
some (.inl (x287, x288, x289, x290, (w64 (x206 + (1 : Int)))))
noncomputable def spec_shDelay_j4 (p1 : List Int) (x359 : Int) (x360 : Int) : Bool → Option ((Int × Int) ⊕ (Int × Int)) := fun x383 =>
if x383 = true then
(at? p1 x360).bind fun v386 =>
some (.inl ((w64 (x359 + v386)), (w64 (x360 + (1 : Int)))))
else
some (.inr (x359, x360))
noncomputable def spec_shDelay_s3 (p1 : List Int) (x203 : Int) (v315 : Int) : (Int × Int) → Option ((Int × Int) ⊕ (Int × Int)) := fun (x359, x360) =>
if (decide (x360 < (List.length p1 : Int))) = true then
(at? p1 x360).bind fun v392 =>
spec_shDelay_j4 p1 x359 x360 (decide ((w64 (x359 + v392)) < (w64 (x203 + v315))))
else
spec_shDelay_j4 p1 x359 x360 false
noncomputable def spec_shDelay_l3 (p1 : List Int) (x203 : Int) (v315 : Int) : (Int × Int) → Option (Int × Int) := iter (spec_shDelay_s3 p1 x203 v315)
noncomputable def spec_shDelay_s1 (p0 : List Int) (p1 : List Int) : (Int × Int × Int × Int × Int) → Option ((Int × Int × Int × Int × Int) ⊕ Int) := fun (x202, x203, x204, x205, x206) =>
if (decide (x206 < (List.length p0 : Int))) = true then
(at? p0 x206).bind fun v315 =>
if (v315 == (0 : Int)) = true then
spec_shDelay_j2 x206 (x202, (w64 (x203 + v315)), x204, x205)
else
(spec_shDelay_l3 p1 x203 v315 (x204, x205)).bind fun (x368, x369) =>
(spec_l1Most x202 ((w64 (x369 - x206)))).bind fun v396 =>
spec_shDelay_j2 x206 (v396, (w64 (x203 + v315)), x368, x369)
else
some (.inr x202)
noncomputable def spec_shDelay_l1 (p0 : List Int) (p1 : List Int) : (Int × Int × Int × Int × Int) → Option Int := iter (spec_shDelay_s1 p0 p1)
/-- loop.example/g01176/spec.shDelay -/
noncomputable def spec_shDelay (p0 : List Int) (p1 : List Int) : Option Int :=
(spec_shDelay_l1 p0 p1 ((0 : Int), (0 : Int), (0 : Int), (0 : Int), (0 : Int))).bind fun x236 =>
some x236
theorem spec_shDelay_ok {p0 : List Int} {p1 : List Int} {o : Int} (h : spec_shDelay p0 p1 = some o) : RN 43 [.ints .i64 p0, .ints .i64 p1] [] = some (.int .i64 o, []) := by
  refine fn_run (o := o) (nr := 0) (F := k43) (st := ⟨entry 0 [.vw [] (.ints .i64 p0), .vw [] (.ints .i64 p1)], fun n => ([] : List T)[n]?, 0⟩) (fun (o : Int) => (.int .i64 o, [])) rfl fns_43 rfl rfl ?_
  refine wp_seq ?_
  refine wp_reg (nx' := 16) rfl (ev_den (.vw _ _) rfl rfl (ev_nil)) (seqQ_n (?_))
  refine wp_seq ?_
  refine wp_reg (nx' := 80) rfl (ev_den (.vw _ _) rfl rfl (ev_den (.vw _ _) rfl rfl (ev_den (.vw _ _) rfl rfl (ev_den (.vw _ _) rfl rfl (ev_nil))))) (seqQ_n (?_))
  refine wp_seq ?_
  refine wp_gc ?_
  refine wp_seq ?_
  refine wp_gc ?_
  refine wp_reg (nx' := 128) rfl (ev_den (.vw _ _) rfl rfl (ev_den (.vw _ _) rfl rfl (ev_den (.vw _ _) rfl rfl (ev_nil)))) (gcQ_n (gc_to [] (e := [(1, .vw [] (.ints .i64 p1)), (5, .vw [] (.int .i64 ((0 : Int)))), (6, .vw [] (.int .i64 ((0 : Int)))), (7, .vw [] (.int .i64 ((0 : Int)))), (8, .vw [] (.int .i64 ((0 : Int)))), (11, .vw [] (.ints .i64 p0)), (12, .vw [] (.int .i64 ((List.length p0 : Int)))), (13, .vw [] (.int .i64 ((0 : Int))))]) (ts := []) (n := 0) rfl rfl rfl rfl) (seqQ_n (?_)))
  refine wp_gc ?_
  refine wp_blk ?_
  obtain ⟨x236, hw402, h⟩ := bs h
  refine wp_mono (wp_loop (fun ((x202, x203, x204, x205, x206) : Int × Int × Int × Int × Int) => (⟨al .dead [(1, .vw [] (.ints .i64 p1)), (5, .vw [] (.int .i64 x202)), (6, .vw [] (.int .i64 x203)), (7, .vw [] (.int .i64 x204)), (8, .vw [] (.int .i64 x205)), (11, .vw [] (.ints .i64 p0)), (12, .vw [] (.int .i64 ((List.length p0 : Int)))), (13, .vw [] (.int .i64 x206))], hl [], 0⟩ : St)) (fun (x236 : Int) e st => e = .exit 0 ∧ gc 0 [5] st = ⟨al .dead [(5, .vw [] (.int .i64 x236))], hl [], 0⟩) hw402 ?_) ?_
  · rintro ⟨x202, x203, x204, x205, x206⟩ o h
    refine wp_gc ?_
    refine wp_seq ?_
    refine wp_reg (nx' := 16) rfl (ev_den (.vw _ _) rfl rfl (ev_nil)) (seqQ_n (?_))
    refine wp_seq ?_
    refine wp_gc ?_
    rcases its h with ⟨hc267, h⟩ | ⟨hc267, h⟩
    · refine wp_ct rfl hc267 ?_
      refine wp_skip (gcQ_n (gc_to [] (e := [(1, .vw [] (.ints .i64 p1)), (5, .vw [] (.int .i64 x202)), (6, .vw [] (.int .i64 x203)), (7, .vw [] (.int .i64 x204)), (8, .vw [] (.int .i64 x205)), (11, .vw [] (.ints .i64 p0)), (12, .vw [] (.int .i64 ((List.length p0 : Int)))), (13, .vw [] (.int .i64 x206))]) (ts := []) (n := 0) rfl rfl rfl rfl) (seqQ_n (?_)))
      refine wp_seq ?_
      refine wp_join (spec_shDelay_j2 x206) (fun ((x287, x288, x289, x290) : Int × Int × Int × Int) => (⟨al .dead [(1, .vw [] (.ints .i64 p1)), (5, .vw [] (.int .i64 x287)), (6, .vw [] (.int .i64 x288)), (7, .vw [] (.int .i64 x289)), (8, .vw [] (.int .i64 x290)), (11, .vw [] (.ints .i64 p0)), (12, .vw [] (.int .i64 ((List.length p0 : Int)))), (13, .vw [] (.int .i64 x206))], hl [], 0⟩ : St)) ?_ ?_
      · rintro ⟨x287, x288, x289, x290⟩ o h
        unfold spec_shDelay_j2 at h
        refine seqQ_n (?_)
        replace h := Option.some.inj h
        subst h
        exact wp_reg (nx' := 32) rfl (ev_den (.vw _ _) rfl rfl (ev_den (.vw _ _) rfl rfl (ev_nil))) (gcQ_n (gc_to [] (e := [(1, .vw [] (.ints .i64 p1)), (5, .vw [] (.int .i64 x287)), (6, .vw [] (.int .i64 x288)), (7, .vw [] (.int .i64 x289)), (8, .vw [] (.int .i64 x290)), (11, .vw [] (.ints .i64 p0)), (12, .vw [] (.int .i64 ((List.length p0 : Int)))), (13, .vw [] (.int .i64 ((w64 (x206 + (1 : Int))))))]) (ts := []) (n := 0) rfl rfl rfl rfl) (loopQ_n rfl))
      · refine wp_gc ?_
        refine wp_blk ?_
        refine wp_seq ?_
        obtain ⟨v315, hv315, h⟩ := bs h
        refine wp_reg (nx' := 80) rfl (ev_den (.vw _ _) rfl rfl (ev_den (.pv _ _) rfl (d_idx_vi rfl rfl hv315) (ev_den (.vw _ _) rfl rfl (ev_den (.vw _ _) rfl rfl (ev_den (.vw _ _) rfl rfl (ev_nil)))))) (seqQ_n (?_))
        refine wp_seq ?_
        refine wp_reg (nx' := 144) rfl (ev_den (.vw _ _) rfl rfl (ev_den (.vw _ _) rfl rfl (ev_den (.vw _ _) rfl rfl (ev_den (.vw _ _) rfl rfl (ev_nil))))) (seqQ_n (?_))
        refine wp_seq ?_
        refine wp_gc ?_
        refine wp_seq ?_
        refine wp_reg (nx' := 176) rfl (ev_den (.vw _ _) rfl rfl (ev_den (.vw _ _) rfl rfl (ev_nil))) (seqQ_n (?_))
        rcases its h with ⟨hc317, h⟩ | ⟨hc317, h⟩
        · refine wp_ct rfl hc317 ?_
          exact wp_exit (gcQ_e (seqQ_e (blkQ_h (gcQ_n (gc_to [] (e := [(1, .vw [] (.ints .i64 p1)), (5, .vw [] (.int .i64 x202)), (6, .vw [] (.int .i64 ((w64 (x203 + v315))))), (7, .vw [] (.int .i64 x204)), (8, .vw [] (.int .i64 x205)), (11, .vw [] (.ints .i64 p0)), (12, .vw [] (.int .i64 ((List.length p0 : Int)))), (13, .vw [] (.int .i64 x206))]) (ts := []) (n := 0) rfl rfl rfl rfl) (joinQ_n (x202, (w64 (x203 + v315)), x204, x205) h (gc_to [] rfl rfl rfl rfl))))))
        · refine wp_cf rfl hc317 ?_
          refine wp_skip (gcQ_n (gc_to [] (e := [(1, .vw [] (.ints .i64 p1)), (5, .vw [] (.int .i64 x202)), (6, .vw [] (.int .i64 ((w64 (x203 + v315))))), (7, .vw [] (.int .i64 x204)), (8, .vw [] (.int .i64 x205)), (9, .vw [] (.int .i64 x206)), (11, .vw [] (.ints .i64 p0)), (12, .vw [] (.int .i64 ((List.length p0 : Int)))), (13, .vw [] (.int .i64 x206))]) (ts := []) (n := 0) rfl rfl rfl rfl) (seqQ_n (?_)))
          refine wp_seq ?_
          refine wp_gc ?_
          refine wp_gc ?_
          refine wp_blk ?_
          obtain ⟨w395, hw395, h⟩ := bs h
          refine wp_mono (wp_loop (fun ((x359, x360) : Int × Int) => (⟨al .dead [(1, .vw [] (.ints .i64 p1)), (5, .vw [] (.int .i64 x202)), (6, .vw [] (.int .i64 ((w64 (x203 + v315))))), (7, .vw [] (.int .i64 x359)), (8, .vw [] (.int .i64 x360)), (9, .vw [] (.int .i64 x206)), (11, .vw [] (.ints .i64 p0)), (12, .vw [] (.int .i64 ((List.length p0 : Int)))), (13, .vw [] (.int .i64 x206))], hl [], 0⟩ : St)) (fun ((x368, x369) : Int × Int) e st => e = .exit 2 ∧ gc 0 [1, 5, 6, 7, 8, 9, 11, 12, 13] st = ⟨al .dead [(1, .vw [] (.ints .i64 p1)), (5, .vw [] (.int .i64 x202)), (6, .vw [] (.int .i64 ((w64 (x203 + v315))))), (7, .vw [] (.int .i64 x368)), (8, .vw [] (.int .i64 x369)), (9, .vw [] (.int .i64 x206)), (11, .vw [] (.ints .i64 p0)), (12, .vw [] (.int .i64 ((List.length p0 : Int)))), (13, .vw [] (.int .i64 x206))], hl [], 0⟩) hw395 ?_) ?_
          · rintro ⟨x359, x360⟩ o h
            refine wp_gc ?_
            refine wp_seq ?_
            refine wp_gc ?_
            refine wp_seq ?_
            refine wp_join (spec_shDelay_j4 p1 x359 x360) (fun (x383 : Bool) => (⟨al .dead [(1, .vw [] (.ints .i64 p1)), (5, .vw [] (.int .i64 x202)), (6, .vw [] (.int .i64 ((w64 (x203 + v315))))), (7, .vw [] (.int .i64 x359)), (8, .vw [] (.int .i64 x360)), (9, .vw [] (.int .i64 x206)), (11, .vw [] (.ints .i64 p0)), (12, .vw [] (.int .i64 ((List.length p0 : Int)))), (13, .vw [] (.int .i64 x206)), (36, .vw [] (.bool x383))], hl [], 0⟩ : St)) ?_ ?_
            · rintro x383 o h
              unfold spec_shDelay_j4 at h
              refine seqQ_n (?_)
              rcases its h with ⟨hc384, h⟩ | ⟨hc384, h⟩
              · refine wp_ct rfl hc384 ?_
                refine wp_skip (gcQ_n (gc_to [] (e := [(1, .vw [] (.ints .i64 p1)), (5, .vw [] (.int .i64 x202)), (6, .vw [] (.int .i64 ((w64 (x203 + v315))))), (7, .vw [] (.int .i64 x359)), (8, .vw [] (.int .i64 x360)), (9, .vw [] (.int .i64 x206)), (11, .vw [] (.ints .i64 p0)), (12, .vw [] (.int .i64 ((List.length p0 : Int)))), (13, .vw [] (.int .i64 x206))]) (ts := []) (n := 0) rfl rfl rfl rfl) (seqQ_n (?_)))
                refine wp_gc ?_
                refine wp_blk ?_
                refine wp_seq ?_
                obtain ⟨v386, hv386, h⟩ := bs h
                refine wp_reg (nx' := 112) rfl (ev_den (.vw _ _) rfl rfl (ev_den (.vw _ _) rfl rfl (ev_den (.vw _ _) rfl rfl (ev_den (.pv _ _) rfl (d_idx_vi rfl rfl hv386) (ev_den (.vw _ _) rfl rfl (ev_den (.vw _ _) rfl rfl (ev_den (.vw _ _) rfl rfl (ev_nil)))))))) (seqQ_n (?_))
                replace h := Option.some.inj h
                subst h
                exact wp_reg (nx' := 160) rfl (ev_den (.vw _ _) rfl rfl (ev_den (.vw _ _) rfl rfl (ev_den (.vw _ _) rfl rfl (ev_nil)))) (blkQ_n (gcQ_n (gc_to [] (e := [(1, .vw [] (.ints .i64 p1)), (5, .vw [] (.int .i64 x202)), (6, .vw [] (.int .i64 ((w64 (x203 + v315))))), (7, .vw [] (.int .i64 ((w64 (x359 + v386))))), (8, .vw [] (.int .i64 ((w64 (x360 + (1 : Int)))))), (9, .vw [] (.int .i64 x206)), (11, .vw [] (.ints .i64 p0)), (12, .vw [] (.int .i64 ((List.length p0 : Int)))), (13, .vw [] (.int .i64 x206))]) (ts := []) (n := 0) rfl rfl rfl rfl) (gcQ_n (gc_to [] (e := [(1, .vw [] (.ints .i64 p1)), (5, .vw [] (.int .i64 x202)), (6, .vw [] (.int .i64 ((w64 (x203 + v315))))), (7, .vw [] (.int .i64 ((w64 (x359 + v386))))), (8, .vw [] (.int .i64 ((w64 (x360 + (1 : Int)))))), (9, .vw [] (.int .i64 x206)), (11, .vw [] (.ints .i64 p0)), (12, .vw [] (.int .i64 ((List.length p0 : Int)))), (13, .vw [] (.int .i64 x206))]) (ts := []) (n := 0) rfl rfl rfl rfl) (loopQ_n rfl))))
              · refine wp_cf rfl hc384 ?_
                replace h := Option.some.inj h
                subst h
                exact wp_exit (gcQ_e (seqQ_e (gcQ_e (loopQ_e (And.intro rfl (gc_to [] (e := [(1, .vw [] (.ints .i64 p1)), (5, .vw [] (.int .i64 x202)), (6, .vw [] (.int .i64 ((w64 (x203 + v315))))), (7, .vw [] (.int .i64 x359)), (8, .vw [] (.int .i64 x360)), (9, .vw [] (.int .i64 x206)), (11, .vw [] (.ints .i64 p0)), (12, .vw [] (.int .i64 ((List.length p0 : Int)))), (13, .vw [] (.int .i64 x206))]) (ts := []) (n := 0) rfl rfl rfl rfl))))))
            · rcases its h with ⟨hc391, h⟩ | ⟨hc391, h⟩
              · obtain ⟨v392, hv392, h⟩ := bs h
                exact wp_reg (nx' := 224) rfl (ev_den (.vw _ _) rfl rfl (ev_den (.vw _ _) rfl rfl (ev_den (.vw _ _) rfl rfl (ev_den (.vw _ _) rfl rfl (ev_den (.vw _ _) rfl rfl (ev_on rfl hc391 (ev_den (.vw _ _) rfl rfl (ev_on rfl hc391 (ev_den (.vw _ _) rfl rfl (ev_on rfl hc391 (ev_den (.vw _ _) rfl rfl (ev_on rfl hc391 (ev_den (.pv _ _) rfl (d_idx_vi rfl rfl hv392) (ev_on rfl hc391 (ev_den (.vw _ _) rfl rfl (ev_on rfl hc391 (ev_den (.vw _ _) rfl rfl (ev_on rfl hc391 (ev_den (.vw _ _) rfl rfl (ev_on rfl hc391 (ev_den (.vw _ _) rfl rfl (ev_den (.vw _ _) rfl (d_pick_t rfl hc391 rfl) (ev_nil))))))))))))))))))))))) (joinQ_n (decide ((w64 (x359 + v392)) < (w64 (x203 + v315)))) h (gc_to [] rfl rfl rfl rfl))
              · exact wp_reg (nx' := 224) rfl (ev_den (.vw _ _) rfl rfl (ev_den (.vw _ _) rfl rfl (ev_den (.vw _ _) rfl rfl (ev_den (.vw _ _) rfl rfl (ev_den (.vw _ _) rfl rfl (ev_off rfl hc391 (ev_off rfl hc391 (ev_off rfl hc391 (ev_off rfl hc391 (ev_off rfl hc391 (ev_off rfl hc391 (ev_off rfl hc391 (ev_off rfl hc391 (ev_den (.vw _ _) rfl (d_pick_f rfl hc391 rfl) (ev_nil))))))))))))))) (joinQ_n false h (gc_to [] rfl rfl rfl rfl))
          · intro e st395 hg395
            obtain ⟨x368, x369⟩ := w395
            obtain ⟨rfl, hg395⟩ := hg395
            refine blkQ_h (gcQ_n hg395 (gcQ_n (gc_to [] (e := [(1, .vw [] (.ints .i64 p1)), (5, .vw [] (.int .i64 x202)), (6, .vw [] (.int .i64 ((w64 (x203 + v315))))), (7, .vw [] (.int .i64 x368)), (8, .vw [] (.int .i64 x369)), (9, .vw [] (.int .i64 x206)), (11, .vw [] (.ints .i64 p0)), (12, .vw [] (.int .i64 ((List.length p0 : Int)))), (13, .vw [] (.int .i64 x206))]) (ts := []) (n := 0) rfl rfl rfl rfl) (seqQ_n (?_))))
            obtain ⟨v396, hv396, h⟩ := bs h
            exact wp_reg (nx' := 96) rfl (ev_den (.vw _ _) rfl rfl (ev_den (.vw _ _) rfl rfl (ev_den (.vw _ _) rfl rfl (ev_den (.vw _ _) rfl rfl (ev_call0 [(.vw _ _), (.vw _ _)] rfl (call_ok (rs := []) (rd := []) rfl rfl rfl rfl (argL_cons rfl (argL_cons rfl (argL_nil))) rfl rfl (spec_l1Most_ok hv396) rfl rfl rfl rfl rfl) (ev_den (.vw _ _) rfl rfl (ev_nil))))))) (blkQ_n (gcQ_n (gc_to [] (e := [(1, .vw [] (.ints .i64 p1)), (5, .vw [] (.int .i64 v396)), (6, .vw [] (.int .i64 ((w64 (x203 + v315))))), (7, .vw [] (.int .i64 x368)), (8, .vw [] (.int .i64 x369)), (11, .vw [] (.ints .i64 p0)), (12, .vw [] (.int .i64 ((List.length p0 : Int)))), (13, .vw [] (.int .i64 x206))]) (ts := []) (n := 0) rfl rfl rfl rfl) (joinQ_n (v396, (w64 (x203 + v315)), x368, x369) h (gc_to [] rfl rfl rfl rfl))))
    · refine wp_cf rfl hc267 ?_
      replace h := Option.some.inj h
      subst h
      exact wp_exit (gcQ_e (seqQ_e (gcQ_e (loopQ_e (And.intro rfl (gc_to [] (e := [(5, .vw [] (.int .i64 x202))]) (ts := []) (n := 0) rfl rfl rfl rfl))))))
  · intro e st402 hg402
    obtain ⟨rfl, hg402⟩ := hg402
    refine blkQ_h (gcQ_n hg402 (gcQ_n (gc_to [] (e := [(5, .vw [] (.int .i64 x236))]) (ts := []) (n := 0) rfl rfl rfl rfl) (seqQ_n (?_))))
    refine wp_seq ?_
    refine wp_reg (nx' := 32) rfl (ev_den (.vw _ _) rfl rfl (ev_den (.vw _ _) rfl rfl (ev_nil))) (seqQ_n (?_))
    replace h := Option.some.inj h
    subst h
    exact wp_ret (qf_r ((outs_ok (vs := [(.vw _ _)]) rfl (absW_cons rfl rfl (absW_nil)) rfl rfl)))
/-- loop.example/g01176/spec.DelayOfShape -/
noncomputable def spec_DelayOfShape (p0 : Int × Int) (p1 : List Int) : Option ((Int × Bool)) :=
(spec_shAsked p0 p1).bind fun v8 =>
if (!v8) = true then
some ((0 : Int), false)
else
(spec_shSend p0.1 p0.2 p1).bind fun v10 =>
if (!v10.2.2) = true then
some ((0 : Int), false)
else
(spec_shDelay p1 v10.1).bind fun v13 =>
some (v13, true)
theorem spec_DelayOfShape_ok {p0 : Int × Int} {p1 : List Int} {o : (Int × Bool)} (h : spec_DelayOfShape p0 p1 = some o) : RN 12 [.agg [.int .i64 p0.1, .int .i64 p0.2], .ints .i64 p1] [] = some (.tup [.int .i64 o.1, .bool o.2], []) := by
  refine fn_run (o := o) (nr := 0) (F := k12) (st := ⟨entry 0 [.agg [.vw [] (.int .i64 p0.1), .vw [] (.int .i64 p0.2)], .vw [] (.ints .i64 p1)], fun n => ([] : List T)[n]?, 0⟩) (fun (o : (Int × Bool)) => (.tup [.int .i64 o.1, .bool o.2], [])) rfl fns_12 rfl rfl ?_
  refine wp_seq ?_
  refine wp_reg (nx' := 48) rfl (ev_wr rfl (w_box (sv := (.agg [(.vw _ _), (.vw _ _)])) rfl rfl (absW_cons rfl rfl (absW_cons rfl rfl (absW_nil)))) (ev_den (.vw _ _) rfl rfl (ev_den (.vw _ _) rfl rfl (ev_nil)))) (seqQ_n (?_))
  refine wp_seq ?_
  refine wp_gc ?_
  refine wp_seq ?_
  obtain ⟨v8, hv8, h⟩ := bs h
  refine wp_reg (nx' := 112) rfl (ev_den (.agg [(.vw _ _), (.vw _ _)]) rfl (d_ld_os rfl (rget_of rfl (get_nil)) rfl (cells_cons rfl (cells_cons rfl (cells_nil)))) (ev_den (.vw _ _) rfl rfl (ev_call0 [(.agg [(.vw _ _), (.vw _ _)]), (.vw _ _)] rfl (call_ok (rs := []) (rd := []) rfl rfl rfl rfl (argL_cons (argT_a (argL_cons rfl (argL_cons rfl (argL_nil)))) (argL_cons rfl (argL_nil))) rfl rfl (spec_shAsked_ok hv8) rfl rfl rfl rfl rfl) (ev_den (.vw _ _) rfl rfl (ev_nil))))) (seqQ_n (?_))
  rcases its h with ⟨hc9, h⟩ | ⟨hc9, h⟩
  · refine wp_ct rfl hc9 ?_
    refine wp_seq ?_
    refine wp_reg (nx' := 144) rfl (ev_den (.vw _ _) rfl rfl (ev_den (.vw _ _) rfl rfl (ev_nil))) (seqQ_n (?_))
    replace h := Option.some.inj h
    subst h
    exact wp_ret (gcQ_r (seqQ_r (qf_r ((outs_ok (vs := [(.vw _ _), (.vw _ _)]) rfl (absW_cons rfl rfl (absW_cons rfl rfl (absW_nil))) rfl rfl)))))
  · refine wp_cf rfl hc9 ?_
    refine wp_skip (gcQ_n (gc_to [0] (e := [(1, .vw [] (.ints .i64 p1)), (2, .ptr 0 [] (some 0))]) (ts := [some (.ptr (.agg [.int .i64 p0.1, .int .i64 p0.2]))]) (n := 1) rfl rfl rfl rfl) (seqQ_n (?_)))
    refine wp_seq ?_
    obtain ⟨v10, hv10, h⟩ := bs h
    refine wp_reg (nx' := 209) rfl (ev_den (.ptr 0 [] (some 0)) rfl rfl (ev_den (.vw _ _) rfl (d_ld_o rfl (rget_of rfl (get_nil)) rfl rfl) (ev_den (.ptr 0 [] (some 1)) rfl rfl (ev_den (.vw _ _) rfl (d_ld_o rfl (rget_of rfl (get_nil)) rfl rfl) (ev_den (.vw _ _) rfl rfl (ev_call0 [(.vw _ _), (.vw _ _), (.vw _ _)] rfl (call_ok (rs := []) (rd := []) rfl rfl rfl rfl (argL_cons rfl (argL_cons rfl (argL_cons rfl (argL_nil)))) rfl rfl (spec_shSend_ok hv10) rfl rfl rfl (bindR_t (bindL_cons rfl (bindL_cons rfl (bindL_cons rfl (bindL_nil))))) rfl) (ev_den (.tup [(.ref 81 _ _ _ _), (.ref 82 _ _ _ _), (.vw _ _)]) rfl rfl (ev_den (.ref 81 _ _ _ _) rfl rfl (ev_den (.ref 82 _ _ _ _) rfl rfl (ev_den (.vw _ _) rfl rfl (ev_den (.ref 81 _ _ _ _) rfl rfl (ev_den (.ref 82 _ _ _ _) rfl rfl (ev_den (.vw _ _) rfl rfl (ev_nil)))))))))))))) (seqQ_n (?_))
    refine wp_seq ?_
    refine wp_gc ?_
    refine wp_seq ?_
    refine wp_reg (nx' := 241) rfl (ev_den (.vw _ _) rfl rfl (ev_den (.vw _ _) rfl rfl (ev_nil))) (seqQ_n (?_))
    rcases its h with ⟨hc12, h⟩ | ⟨hc12, h⟩
    · refine wp_ct rfl hc12 ?_
      refine wp_seq ?_
      refine wp_reg (nx' := 273) rfl (ev_den (.vw _ _) rfl rfl (ev_den (.vw _ _) rfl rfl (ev_nil))) (seqQ_n (?_))
      replace h := Option.some.inj h
      subst h
      exact wp_ret (gcQ_r (seqQ_r (qf_r ((outs_ok (vs := [(.vw _ _), (.vw _ _)]) rfl (absW_cons rfl rfl (absW_cons rfl rfl (absW_nil))) rfl rfl)))))
    · refine wp_cf rfl hc12 ?_
      refine wp_skip (gcQ_n (gc_to [81] (e := [(1, .vw [] (.ints .i64 p1)), (6, .ref 0 [] 1 0 (List.length v10.1))]) (ts := [some (.ints .i64 v10.1)]) (n := 1) rfl rfl rfl rfl) (seqQ_n (?_)))
      refine wp_seq ?_
      obtain ⟨v13, hv13, h⟩ := bs h
      refine wp_reg (nx' := 81) rfl (ev_den (.vw _ _) rfl rfl (ev_den (.ref 0 _ _ _ _) rfl rfl (ev_call0 [(.vw _ _), (.ref 0 _ _ _ _)] rfl (call_ok (rs := []) (rd := [0]) rfl rfl rfl rfl (argL_cons rfl (argL_cons (argT_r (rget_of rfl (get_nil)) sub_i) (argL_nil))) rfl rfl (spec_shDelay_ok hv13) rfl rfl rfl rfl rfl) (ev_den (.vw _ _) rfl rfl (ev_den (.vw _ _) rfl rfl (ev_nil)))))) (seqQ_n (?_))
      replace h := Option.some.inj h
      subst h
      exact wp_ret (qf_r ((outs_ok (vs := [(.vw _ _), (.vw _ _)]) rfl (absW_cons rfl rfl (absW_cons rfl rfl (absW_nil))) rfl rfl)))
noncomputable def laws_kSame_s1 (p0 : List Int) (p1 : List Int) : Int → Option (Int ⊕ (Unit ⊕ Bool)) := fun x38 =>
if (decide (x38 < (List.length p0 : Int))) = true then
(at? p0 x38).bind fun v57 =>
(at? p1 x38).bind fun v58 =>
if (v57 != v58) = true then
some (.inr (.inr false))
else
some (.inl ((w64 (x38 + (1 : Int)))))
else
some (.inr (.inl ()))
noncomputable def laws_kSame_l1 (p0 : List Int) (p1 : List Int) : Int → Option (Unit ⊕ Bool) := iter (laws_kSame_s1 p0 p1)
/-- loop.example/g01176/laws.kSame -/
noncomputable def laws_kSame (p0 : List Int) (p1 : List Int) : Option Bool :=
if ((List.length p0 : Int) != (List.length p1 : Int)) = true then
some false
else
(laws_kSame_l1 p0 p1 (0 : Int)).bind fun w => match w with
| .inl _ =>
some true
| .inr r62 =>
some r62
theorem laws_kSame_ok {p0 : List Int} {p1 : List Int} {o : Bool} (h : laws_kSame p0 p1 = some o) : RN 13 [.ints .i64 p0, .ints .i64 p1] [] = some (.bool o, []) := by
  refine fn_run (o := o) (nr := 0) (F := k13) (st := ⟨entry 0 [.vw [] (.ints .i64 p0), .vw [] (.ints .i64 p1)], fun n => ([] : List T)[n]?, 0⟩) (fun (o : Bool) => (.bool o, [])) rfl fns_13 rfl rfl ?_
  refine wp_seq ?_
  refine wp_reg (nx' := 16) rfl (ev_den (.vw _ _) rfl rfl (ev_nil)) (seqQ_n (?_))
  refine wp_seq ?_
  refine wp_gc ?_
  refine wp_seq ?_
  refine wp_reg (nx' := 96) rfl (ev_den (.vw _ _) rfl rfl (ev_den (.vw _ _) rfl rfl (ev_den (.vw _ _) rfl rfl (ev_den (.vw _ _) rfl rfl (ev_den (.vw _ _) rfl rfl (ev_nil)))))) (seqQ_n (?_))
  rcases its h with ⟨hc13, h⟩ | ⟨hc13, h⟩
  · refine wp_ct rfl hc13 ?_
    refine wp_seq ?_
    refine wp_reg (nx' := 112) rfl (ev_den (.vw _ _) rfl rfl (ev_nil)) (seqQ_n (?_))
    replace h := Option.some.inj h
    subst h
    exact wp_ret (gcQ_r (seqQ_r (qf_r ((outs_ok (vs := [(.vw _ _)]) rfl (absW_cons rfl rfl (absW_nil)) rfl rfl)))))
  · refine wp_cf rfl hc13 ?_
    refine wp_skip (gcQ_n (gc_to [] (e := [(0, .vw [] (.ints .i64 p0)), (1, .vw [] (.ints .i64 p1))]) (ts := []) (n := 0) rfl rfl rfl rfl) (seqQ_n (?_)))
    refine wp_seq ?_
    refine wp_gc ?_
    refine wp_seq ?_
    refine wp_gc ?_
    refine wp_reg (nx' := 48) rfl (ev_den (.vw _ _) rfl rfl (ev_den (.vw _ _) rfl rfl (ev_den (.vw _ _) rfl rfl (ev_nil)))) (gcQ_n (gc_to [] (e := [(0, .vw [] (.ints .i64 p0)), (1, .vw [] (.ints .i64 p1)), (12, .vw [] (.int .i64 ((List.length p0 : Int)))), (13, .vw [] (.int .i64 ((0 : Int))))]) (ts := []) (n := 0) rfl rfl rfl rfl) (seqQ_n (?_)))
    refine wp_gc ?_
    refine wp_blk ?_
    obtain ⟨w61, hw61, h⟩ := bs h
    refine wp_mono (wp_loop (fun (x38 : Int) => (⟨al .dead [(0, .vw [] (.ints .i64 p0)), (1, .vw [] (.ints .i64 p1)), (12, .vw [] (.int .i64 ((List.length p0 : Int)))), (13, .vw [] (.int .i64 x38))], hl [], 0⟩ : St)) (fun (v : Unit ⊕ Bool) e st => match v with | .inl _ => e = .exit 0 ∧ gc 0 [] st = ⟨al .dead [], hl [], 0⟩ | .inr rr => e = .ret ∧ outs 0 k13 st = some (.bool rr, [])) hw61 ?_) ?_
    · rintro x38 o h
      refine wp_gc ?_
      refine wp_seq ?_
      refine wp_reg (nx' := 16) rfl (ev_den (.vw _ _) rfl rfl (ev_nil)) (seqQ_n (?_))
      refine wp_seq ?_
      refine wp_gc ?_
      rcases its h with ⟨hc50, h⟩ | ⟨hc50, h⟩
      · refine wp_ct rfl hc50 ?_
        refine wp_skip (gcQ_n (gc_to [] (e := [(0, .vw [] (.ints .i64 p0)), (1, .vw [] (.ints .i64 p1)), (12, .vw [] (.int .i64 ((List.length p0 : Int)))), (13, .vw [] (.int .i64 x38))]) (ts := []) (n := 0) rfl rfl rfl rfl) (seqQ_n (?_)))
        refine wp_seq ?_
        refine wp_gc ?_
        refine wp_gc ?_
        refine wp_blk ?_
        refine wp_seq ?_
        refine wp_reg (nx' := 32) rfl (ev_den (.vw _ _) rfl rfl (ev_den (.vw _ _) rfl rfl (ev_nil))) (seqQ_n (?_))
        refine wp_seq ?_
        obtain ⟨v57, hv57, h⟩ := bs h
        obtain ⟨v58, hv58, h⟩ := bs h
        refine wp_reg (nx' := 176) rfl (ev_den (.vw _ _) rfl rfl (ev_den (.vw _ _) rfl rfl (ev_den (.pv _ _) rfl (d_idx_vi rfl rfl hv57) (ev_den (.vw _ _) rfl rfl (ev_den (.vw _ _) rfl rfl (ev_den (.vw _ _) rfl rfl (ev_den (.pv _ _) rfl (d_idx_vi rfl rfl hv58) (ev_den (.vw _ _) rfl rfl (ev_den (.vw _ _) rfl rfl (ev_nil)))))))))) (seqQ_n (?_))
        rcases its h with ⟨hc59, h⟩ | ⟨hc59, h⟩
        · refine wp_ct rfl hc59 ?_
          refine wp_seq ?_
          refine wp_reg (nx' := 192) rfl (ev_den (.vw _ _) rfl rfl (ev_nil)) (seqQ_n (?_))
          replace h := Option.some.inj h
          subst h
          exact wp_ret (blkQ_r (gcQ_r (gcQ_r (seqQ_r (gcQ_r (loopQ_r (And.intro rfl (outs_ok (vs := [(.vw _ _)]) rfl (absW_cons rfl rfl (absW_nil)) rfl rfl))))))))
        · refine wp_cf rfl hc59 ?_
          refine wp_skip (blkQ_n (gcQ_n (gc_to [] (e := [(0, .vw [] (.ints .i64 p0)), (1, .vw [] (.ints .i64 p1)), (12, .vw [] (.int .i64 ((List.length p0 : Int)))), (13, .vw [] (.int .i64 x38))]) (ts := []) (n := 0) rfl rfl rfl rfl) (gcQ_n (gc_to [] (e := [(0, .vw [] (.ints .i64 p0)), (1, .vw [] (.ints .i64 p1)), (12, .vw [] (.int .i64 ((List.length p0 : Int)))), (13, .vw [] (.int .i64 x38))]) (ts := []) (n := 0) rfl rfl rfl rfl) (seqQ_n (?_)))))
          replace h := Option.some.inj h
          subst h
          exact wp_reg (nx' := 32) rfl (ev_den (.vw _ _) rfl rfl (ev_den (.vw _ _) rfl rfl (ev_nil))) (gcQ_n (gc_to [] (e := [(0, .vw [] (.ints .i64 p0)), (1, .vw [] (.ints .i64 p1)), (12, .vw [] (.int .i64 ((List.length p0 : Int)))), (13, .vw [] (.int .i64 ((w64 (x38 + (1 : Int))))))]) (ts := []) (n := 0) rfl rfl rfl rfl) (loopQ_n rfl))
      · refine wp_cf rfl hc50 ?_
        replace h := Option.some.inj h
        subst h
        exact wp_exit (gcQ_e (seqQ_e (gcQ_e (loopQ_e (And.intro rfl (gc_to [] (e := []) (ts := []) (n := 0) rfl rfl rfl rfl))))))
    · intro e st61 hg61
      rcases w61 with _ | r62
      · obtain ⟨rfl, hg61⟩ := hg61
        refine blkQ_h (gcQ_n hg61 (gcQ_n (gc_to [] (e := []) (ts := []) (n := 0) rfl rfl rfl rfl) (seqQ_n (?_))))
        refine wp_seq ?_
        refine wp_reg (nx' := 16) rfl (ev_den (.vw _ _) rfl rfl (ev_nil)) (seqQ_n (?_))
        replace h := Option.some.inj h
        subst h
        exact wp_ret (qf_r ((outs_ok (vs := [(.vw _ _)]) rfl (absW_cons rfl rfl (absW_nil)) rfl rfl)))
      · obtain ⟨rfl, hg61⟩ := hg61
        replace h := Option.some.inj h
        subst h
        exact blkQ_r (gcQ_r (gcQ_r (seqQ_r (qf_r (hg61)))))
noncomputable def laws_kSum_s1 (p0 : List Int) : (Int × Int) → Option ((Int × Int) ⊕ Int) := fun (x30, x31) =>
if (decide (x31 < (List.length p0 : Int))) = true then
(at? p0 x31).bind fun v45 =>
some (.inl ((w64 (x30 + v45)), (w64 (x31 + (1 : Int)))))
else
some (.inr x30)
noncomputable def laws_kSum_l1 (p0 : List Int) : (Int × Int) → Option Int := iter (laws_kSum_s1 p0)
/-- loop.example/g01176/laws.kSum -/
noncomputable def laws_kSum (p0 : List Int) : Option Int :=
(laws_kSum_l1 p0 ((0 : Int), (0 : Int))).bind fun x36 =>
some x36
theorem laws_kSum_ok {p0 : List Int} {o : Int} (h : laws_kSum p0 = some o) : RN 14 [.ints .i64 p0] [] = some (.int .i64 o, []) := by
  refine fn_run (o := o) (nr := 0) (F := k14) (st := ⟨entry 0 [.vw [] (.ints .i64 p0)], fun n => ([] : List T)[n]?, 0⟩) (fun (o : Int) => (.int .i64 o, [])) rfl fns_14 rfl rfl ?_
  refine wp_seq ?_
  refine wp_reg (nx' := 16) rfl (ev_den (.vw _ _) rfl rfl (ev_nil)) (seqQ_n (?_))
  refine wp_seq ?_
  refine wp_reg (nx' := 32) rfl (ev_den (.vw _ _) rfl rfl (ev_nil)) (seqQ_n (?_))
  refine wp_seq ?_
  refine wp_gc ?_
  refine wp_seq ?_
  refine wp_gc ?_
  refine wp_reg (nx' := 80) rfl (ev_den (.vw _ _) rfl rfl (ev_den (.vw _ _) rfl rfl (ev_den (.vw _ _) rfl rfl (ev_nil)))) (gcQ_n (gc_to [] (e := [(3, .vw [] (.int .i64 ((0 : Int)))), (6, .vw [] (.ints .i64 p0)), (7, .vw [] (.int .i64 ((List.length p0 : Int)))), (8, .vw [] (.int .i64 ((0 : Int))))]) (ts := []) (n := 0) rfl rfl rfl rfl) (seqQ_n (?_)))
  refine wp_gc ?_
  refine wp_blk ?_
  obtain ⟨x36, hw49, h⟩ := bs h
  refine wp_mono (wp_loop (fun ((x30, x31) : Int × Int) => (⟨al .dead [(3, .vw [] (.int .i64 x30)), (6, .vw [] (.ints .i64 p0)), (7, .vw [] (.int .i64 ((List.length p0 : Int)))), (8, .vw [] (.int .i64 x31))], hl [], 0⟩ : St)) (fun (x36 : Int) e st => e = .exit 0 ∧ gc 0 [3] st = ⟨al .dead [(3, .vw [] (.int .i64 x36))], hl [], 0⟩) hw49 ?_) ?_
  · rintro ⟨x30, x31⟩ o h
    refine wp_gc ?_
    refine wp_seq ?_
    refine wp_reg (nx' := 16) rfl (ev_den (.vw _ _) rfl rfl (ev_nil)) (seqQ_n (?_))
    refine wp_seq ?_
    refine wp_gc ?_
    rcases its h with ⟨hc42, h⟩ | ⟨hc42, h⟩
    · refine wp_ct rfl hc42 ?_
      refine wp_skip (gcQ_n (gc_to [] (e := [(3, .vw [] (.int .i64 x30)), (6, .vw [] (.ints .i64 p0)), (7, .vw [] (.int .i64 ((List.length p0 : Int)))), (8, .vw [] (.int .i64 x31))]) (ts := []) (n := 0) rfl rfl rfl rfl) (seqQ_n (?_)))
      refine wp_seq ?_
      refine wp_gc ?_
      refine wp_gc ?_
      refine wp_blk ?_
      refine wp_seq ?_
      obtain ⟨v45, hv45, h⟩ := bs h
      refine wp_reg (nx' := 48) rfl (ev_den (.pv _ _) rfl (d_idx_vi rfl rfl hv45) (ev_den (.vw _ _) rfl rfl (ev_den (.vw _ _) rfl rfl (ev_nil)))) (seqQ_n (?_))
      refine wp_reg (nx' := 112) rfl (ev_den (.vw _ _) rfl rfl (ev_den (.vw _ _) rfl rfl (ev_den (.vw _ _) rfl rfl (ev_den (.vw _ _) rfl rfl (ev_nil))))) (blkQ_n (gcQ_n (gc_to [] (e := [(3, .vw [] (.int .i64 ((w64 (x30 + v45))))), (6, .vw [] (.ints .i64 p0)), (7, .vw [] (.int .i64 ((List.length p0 : Int)))), (8, .vw [] (.int .i64 x31))]) (ts := []) (n := 0) rfl rfl rfl rfl) (gcQ_n (gc_to [] (e := [(3, .vw [] (.int .i64 ((w64 (x30 + v45))))), (6, .vw [] (.ints .i64 p0)), (7, .vw [] (.int .i64 ((List.length p0 : Int)))), (8, .vw [] (.int .i64 x31))]) (ts := []) (n := 0) rfl rfl rfl rfl) (seqQ_n (?_)))))
      replace h := Option.some.inj h
      subst h
      exact wp_reg (nx' := 32) rfl (ev_den (.vw _ _) rfl rfl (ev_den (.vw _ _) rfl rfl (ev_nil))) (gcQ_n (gc_to [] (e := [(3, .vw [] (.int .i64 ((w64 (x30 + v45))))), (6, .vw [] (.ints .i64 p0)), (7, .vw [] (.int .i64 ((List.length p0 : Int)))), (8, .vw [] (.int .i64 ((w64 (x31 + (1 : Int))))))]) (ts := []) (n := 0) rfl rfl rfl rfl) (loopQ_n rfl))
    · refine wp_cf rfl hc42 ?_
      replace h := Option.some.inj h
      subst h
      exact wp_exit (gcQ_e (seqQ_e (gcQ_e (loopQ_e (And.intro rfl (gc_to [] (e := [(3, .vw [] (.int .i64 x30))]) (ts := []) (n := 0) rfl rfl rfl rfl))))))
  · intro e st49 hg49
    obtain ⟨rfl, hg49⟩ := hg49
    refine blkQ_h (gcQ_n hg49 (gcQ_n (gc_to [] (e := [(3, .vw [] (.int .i64 x36))]) (ts := []) (n := 0) rfl rfl rfl rfl) (seqQ_n (?_))))
    refine wp_seq ?_
    refine wp_reg (nx' := 32) rfl (ev_den (.vw _ _) rfl rfl (ev_den (.vw _ _) rfl rfl (ev_nil))) (seqQ_n (?_))
    replace h := Option.some.inj h
    subst h
    exact wp_ret (qf_r ((outs_ok (vs := [(.vw _ _)]) rfl (absW_cons rfl rfl (absW_nil)) rfl rfl)))
noncomputable def impl_Bucket_levels_s1 (p0 : Int × Int) (p1 : List Int) : ((List Int) × Int × Int) → Option (((List Int) × Int × Int) ⊕ (((List Int)) ⊕ (((List Int) × Bool)))) := fun (x56, x57, x58) =>
if (decide (x58 < (List.length p1 : Int))) = true then
(at? p1 x58).bind fun v86 =>
if (decide (v86 > x57)) = true then
some (.inr (.inr ([], false)))
else
(app? x56 (([x57] : List Int))).bind fun v89 =>
(some ((if (w64 ((w64 (x57 - v86)) + p0.1)) < p0.2 then (w64 ((w64 (x57 - v86)) + p0.1)) else p0.2))).bind fun v90 =>
some (.inl (v89, v90, (w64 (x58 + (1 : Int)))))
else
some (.inr (.inl x56))
noncomputable def impl_Bucket_levels_l1 (p0 : Int × Int) (p1 : List Int) : ((List Int) × Int × Int) → Option (((List Int)) ⊕ (((List Int) × Bool))) := iter (impl_Bucket_levels_s1 p0 p1)
/-- (loop.example/g01176/impl.Bucket).levels -/
noncomputable def impl_Bucket_levels (p0 : Int × Int) (p1 : List Int) : Option (((List Int) × Bool)) :=
(impl_Bucket_levels_l1 p0 p1 (([] : List Int), p0.2, (0 : Int))).bind fun w => match w with
| .inl x67 =>
some (x67, true)
| .inr r96 =>
some r96
theorem impl_Bucket_levels_ok {p0 : Int × Int} {p1 : List Int} {o : ((List Int) × Bool)} (h : impl_Bucket_levels p0 p1 = some o) : RN 45 [.agg [.int .i64 p0.1, .int .i64 p0.2], .ints .i64 p1] [] = some (.tup [.ints .i64 o.1, .bool o.2], []) := by
  refine fn_run (o := o) (nr := 0) (F := k45) (st := ⟨entry 0 [.agg [.vw [] (.int .i64 p0.1), .vw [] (.int .i64 p0.2)], .vw [] (.ints .i64 p1)], fun n => ([] : List T)[n]?, 0⟩) (fun (o : ((List Int) × Bool)) => (.tup [.ints .i64 o.1, .bool o.2], [])) rfl fns_45 rfl rfl ?_
  refine wp_seq ?_
  refine wp_reg (nx' := 48) rfl (ev_wr rfl (w_box (sv := (.agg [(.vw _ _), (.vw _ _)])) rfl rfl (absW_cons rfl rfl (absW_cons rfl rfl (absW_nil)))) (ev_new (.ref 16 [] 1 0 0) (.ints .i64 []) rfl rfl (ev_den (.vw _ _) rfl rfl (ev_nil)))) (seqQ_n (?_))
  refine wp_seq ?_
  refine wp_reg (nx' := 128) rfl (ev_new (.ref 48 [] 1 0 0) (.ints .i64 (([] : List Int))) rfl rfl (ev_den (.ptr 0 [] (some 1)) rfl rfl (ev_den (.vw _ _) rfl (d_ld_o rfl (rget_of rfl (get_nil)) rfl rfl) (ev_den (.ref 48 _ _ _ _) rfl rfl (ev_den (.vw _ _) rfl rfl (ev_nil)))))) (seqQ_n (?_))
  refine wp_seq ?_
  refine wp_gc ?_
  refine wp_seq ?_
  refine wp_gc ?_
  refine wp_reg (nx' := 176) rfl (ev_den (.vw _ _) rfl rfl (ev_den (.vw _ _) rfl rfl (ev_den (.vw _ _) rfl rfl (ev_nil)))) (gcQ_n (gc_to [0, 48] (e := [(2, .ptr 0 [] (some 0)), (6, .ref 1 [] 1 0 (List.length (([] : List Int)))), (7, .vw [] (.int .i64 p0.2)), (13, .vw [] (.ints .i64 p1)), (14, .vw [] (.int .i64 ((List.length p1 : Int)))), (15, .vw [] (.int .i64 ((0 : Int))))]) (ts := [some (.ptr (.agg [.int .i64 p0.1, .int .i64 p0.2])), some (.ints .i64 (([] : List Int)))]) (n := 2) rfl rfl rfl rfl) (seqQ_n (?_)))
  refine wp_gc ?_
  refine wp_blk ?_
  obtain ⟨w95, hw95, h⟩ := bs h
  refine wp_mono (wp_loop (fun ((x56, x57, x58) : (List Int) × Int × Int) => (⟨al .dead [(2, .ptr 0 [] (some 0)), (6, .ref 1 [] 1 0 (List.length x56)), (7, .vw [] (.int .i64 x57)), (13, .vw [] (.ints .i64 p1)), (14, .vw [] (.int .i64 ((List.length p1 : Int)))), (15, .vw [] (.int .i64 x58))], hl [some (.ptr (.agg [.int .i64 p0.1, .int .i64 p0.2])), some (.ints .i64 x56)], 2⟩ : St)) (fun (v : ((List Int)) ⊕ (((List Int) × Bool))) e st => match v with | .inl x67 => e = .exit 0 ∧ gc 0 [6] st = ⟨al .dead [(6, .ref 0 [] 1 0 (List.length x67))], hl [some (.ints .i64 x67)], 1⟩ | .inr rr => e = .ret ∧ outs 0 k45 st = some (.tup [.ints .i64 rr.1, .bool rr.2], [])) hw95 ?_) ?_
  · rintro ⟨x56, x57, x58⟩ o h
    refine wp_gc ?_
    refine wp_seq ?_
    refine wp_reg (nx' := 18) rfl (ev_den (.vw _ _) rfl rfl (ev_nil)) (seqQ_n (?_))
    refine wp_seq ?_
    refine wp_gc ?_
    rcases its h with ⟨hc77, h⟩ | ⟨hc77, h⟩
    · refine wp_ct rfl hc77 ?_
      refine wp_skip (gcQ_n (gc_to [0, 1] (e := [(2, .ptr 0 [] (some 0)), (6, .ref 1 [] 1 0 (List.length x56)), (7, .vw [] (.int .i64 x57)), (13, .vw [] (.ints .i64 p1)), (14, .vw [] (.int .i64 ((List.length p1 : Int)))), (15, .vw [] (.int .i64 x58))]) (ts := [some (.ptr (.agg [.int .i64 p0.1, .int .i64 p0.2])), some (.ints .i64 x56)]) (n := 2) rfl rfl rfl rfl) (seqQ_n (?_)))
      refine wp_seq ?_
      refine wp_gc ?_
      refine wp_gc ?_
      refine wp_blk ?_
      refine wp_seq ?_
      obtain ⟨v86, hv86, h⟩ := bs h
      refine wp_reg (nx' := 50) rfl (ev_den (.pv _ _) rfl (d_idx_vi rfl rfl hv86) (ev_den (.vw _ _) rfl rfl (ev_den (.vw _ _) rfl rfl (ev_nil)))) (seqQ_n (?_))
      refine wp_seq ?_
      refine wp_gc ?_
      refine wp_seq ?_
      refine wp_reg (nx' := 98) rfl (ev_den (.vw _ _) rfl rfl (ev_den (.vw _ _) rfl rfl (ev_den (.vw _ _) rfl rfl (ev_nil)))) (seqQ_n (?_))
      rcases its h with ⟨hc88, h⟩ | ⟨hc88, h⟩
      · refine wp_ct rfl hc88 ?_
        refine wp_seq ?_
        refine wp_reg (nx' := 130) rfl (ev_new (.ref 98 [] 1 0 0) (.ints .i64 []) rfl rfl (ev_den (.vw _ _) rfl rfl (ev_nil))) (seqQ_n (?_))
        replace h := Option.some.inj h
        subst h
        exact wp_ret (gcQ_r (seqQ_r (blkQ_r (gcQ_r (gcQ_r (seqQ_r (gcQ_r (loopQ_r (And.intro rfl (outs_ok (vs := [(.ref 98 _ _ _ _), (.vw _ _)]) rfl (absW_cons (retT_ref (abs_ref rfl sub_i)) rfl (absW_cons rfl rfl (absW_nil))) rfl rfl))))))))))
      · refine wp_cf rfl hc88 ?_
        refine wp_skip (gcQ_n (gc_to [0, 1] (e := [(2, .ptr 0 [] (some 0)), (6, .ref 1 [] 1 0 (List.length x56)), (7, .vw [] (.int .i64 x57)), (9, .vw [] (.int .i64 v86)), (13, .vw [] (.ints .i64 p1)), (14, .vw [] (.int .i64 ((List.length p1 : Int)))), (15, .vw [] (.int .i64 x58))]) (ts := [some (.ptr (.agg [.int .i64 p0.1, .int .i64 p0.2])), some (.ints .i64 x56)]) (n := 2) rfl rfl rfl rfl) (seqQ_n (?_)))
        refine wp_seq ?_
        obtain ⟨v89, hv89, h⟩ := bs h
        refine wp_reg (nx' := 82) rfl (ev_den (.ref 1 _ _ _ _) rfl rfl (ev_den (.vw _ _) rfl rfl (ev_den (.vw _ _) rfl rfl (ev_wr rfl (w_app_i (xv := (.ref 1 _ _ _ _)) 1 rfl rfl (abs_ref rfl sub_i) hv89 rfl) (ev_den (.ref 1 _ _ _ _) rfl rfl (ev_nil)))))) (seqQ_n (?_))
        obtain ⟨v90, hv90, h⟩ := bs h
        refine wp_reg (nx' := 242) rfl (ev_den (.ptr 0 [] (some 1)) rfl rfl (ev_den (.vw _ _) rfl (d_ld_o rfl (rget_of rfl (get_nil)) rfl rfl) (ev_den (.vw _ _) rfl rfl (ev_den (.vw _ _) rfl rfl (ev_den (.vw _ _) rfl rfl (ev_den (.ptr 0 [] (some 0)) rfl rfl (ev_den (.vw _ _) rfl (d_ld_o rfl (rget_of rfl (get_nil)) rfl rfl) (ev_den (.vw _ _) rfl rfl (ev_den (.vw [] (.int .i64 v90)) rfl (d_as_i rfl (Option.some.inj hv90)) (ev_den (.vw _ _) rfl rfl (ev_nil))))))))))) (blkQ_n (gcQ_n (gc_to [0, 1] (e := [(2, .ptr 0 [] (some 0)), (6, .ref 1 [] 1 0 (List.length v89)), (7, .vw [] (.int .i64 v90)), (13, .vw [] (.ints .i64 p1)), (14, .vw [] (.int .i64 ((List.length p1 : Int)))), (15, .vw [] (.int .i64 x58))]) (ts := [some (.ptr (.agg [.int .i64 p0.1, .int .i64 p0.2])), some (.ints .i64 v89)]) (n := 2) rfl rfl rfl rfl) (gcQ_n (gc_to [0, 1] (e := [(2, .ptr 0 [] (some 0)), (6, .ref 1 [] 1 0 (List.length v89)), (7, .vw [] (.int .i64 v90)), (13, .vw [] (.ints .i64 p1)), (14, .vw [] (.int .i64 ((List.length p1 : Int)))), (15, .vw [] (.int .i64 x58))]) (ts := [some (.ptr (.agg [.int .i64 p0.1, .int .i64 p0.2])), some (.ints .i64 v89)]) (n := 2) rfl rfl rfl rfl) (seqQ_n (?_)))))
        replace h := Option.some.inj h
        subst h
        exact wp_reg (nx' := 34) rfl (ev_den (.vw _ _) rfl rfl (ev_den (.vw _ _) rfl rfl (ev_nil))) (gcQ_n (gc_to [0, 1] (e := [(2, .ptr 0 [] (some 0)), (6, .ref 1 [] 1 0 (List.length v89)), (7, .vw [] (.int .i64 v90)), (13, .vw [] (.ints .i64 p1)), (14, .vw [] (.int .i64 ((List.length p1 : Int)))), (15, .vw [] (.int .i64 ((w64 (x58 + (1 : Int))))))]) (ts := [some (.ptr (.agg [.int .i64 p0.1, .int .i64 p0.2])), some (.ints .i64 v89)]) (n := 2) rfl rfl rfl rfl) (loopQ_n rfl))
    · refine wp_cf rfl hc77 ?_
      replace h := Option.some.inj h
      subst h
      exact wp_exit (gcQ_e (seqQ_e (gcQ_e (loopQ_e (And.intro rfl (gc_to [1] (e := [(6, .ref 0 [] 1 0 (List.length x56))]) (ts := [some (.ints .i64 x56)]) (n := 1) rfl rfl rfl rfl))))))
  · intro e st95 hg95
    rcases w95 with x67 | r96
    · obtain ⟨rfl, hg95⟩ := hg95
      refine blkQ_h (gcQ_n hg95 (gcQ_n (gc_to [0] (e := [(6, .ref 0 [] 1 0 (List.length x67))]) (ts := [some (.ints .i64 x67)]) (n := 1) rfl rfl rfl rfl) (seqQ_n (?_))))
      refine wp_seq ?_
      refine wp_reg (nx' := 49) rfl (ev_den (.ref 0 _ _ _ _) rfl rfl (ev_den (.ref 0 _ _ _ _) rfl rfl (ev_den (.vw _ _) rfl rfl (ev_nil)))) (seqQ_n (?_))
      replace h := Option.some.inj h
      subst h
      exact wp_ret (qf_r ((outs_ok (vs := [(.ref 0 _ _ _ _), (.vw _ _)]) rfl (absW_cons (retT_ref (abs_ref rfl sub_i)) rfl (absW_cons rfl rfl (absW_nil))) rfl rfl)))
    · obtain ⟨rfl, hg95⟩ := hg95
      replace h := Option.some.inj h
      subst h
      exact blkQ_r (gcQ_r (gcQ_r (seqQ_r (qf_r (hg95)))))
/-- loop.example/g01176/impl.KeepsBucket -/
noncomputable def impl_KeepsBucket (p0 : Int × Int) (p1 : List Int) : Option ((Bool × Bool)) :=
(impl_isShaped p0 p1).bind fun v6 =>
if (!v6) = true then
some (false, false)
else
(impl_Bucket_levels p0 p1).bind fun v8 =>
some (v8.2, true)
theorem impl_KeepsBucket_ok {p0 : Int × Int} {p1 : List Int} {o : (Bool × Bool)} (h : impl_KeepsBucket p0 p1 = some o) : RN 15 [.agg [.int .i64 p0.1, .int .i64 p0.2], .ints .i64 p1] [] = some (.tup [.bool o.1, .bool o.2], []) := by
  refine fn_run (o := o) (nr := 0) (F := k15) (st := ⟨entry 0 [.agg [.vw [] (.int .i64 p0.1), .vw [] (.int .i64 p0.2)], .vw [] (.ints .i64 p1)], fun n => ([] : List T)[n]?, 0⟩) (fun (o : (Bool × Bool)) => (.tup [.bool o.1, .bool o.2], [])) rfl fns_15 rfl rfl ?_
  refine wp_seq ?_
  refine wp_reg (nx' := 48) rfl (ev_wr rfl (w_box (sv := (.agg [(.vw _ _), (.vw _ _)])) rfl rfl (absW_cons rfl rfl (absW_cons rfl rfl (absW_nil)))) (ev_den (.vw _ _) rfl rfl (ev_den (.vw _ _) rfl rfl (ev_nil)))) (seqQ_n (?_))
  refine wp_seq ?_
  refine wp_gc ?_
  refine wp_seq ?_
  obtain ⟨v6, hv6, h⟩ := bs h
  refine wp_reg (nx' := 112) rfl (ev_den (.agg [(.vw _ _), (.vw _ _)]) rfl (d_ld_os rfl (rget_of rfl (get_nil)) rfl (cells_cons rfl (cells_cons rfl (cells_nil)))) (ev_den (.vw _ _) rfl rfl (ev_call0 [(.agg [(.vw _ _), (.vw _ _)]), (.vw _ _)] rfl (call_ok (rs := []) (rd := []) rfl rfl rfl rfl (argL_cons (argT_a (argL_cons rfl (argL_cons rfl (argL_nil)))) (argL_cons rfl (argL_nil))) rfl rfl (impl_isShaped_ok hv6) rfl rfl rfl rfl rfl) (ev_den (.vw _ _) rfl rfl (ev_nil))))) (seqQ_n (?_))
  rcases its h with ⟨hc7, h⟩ | ⟨hc7, h⟩
  · refine wp_ct rfl hc7 ?_
    refine wp_seq ?_
    refine wp_reg (nx' := 144) rfl (ev_den (.vw _ _) rfl rfl (ev_den (.vw _ _) rfl rfl (ev_nil))) (seqQ_n (?_))
    replace h := Option.some.inj h
    subst h
    exact wp_ret (gcQ_r (seqQ_r (qf_r ((outs_ok (vs := [(.vw _ _), (.vw _ _)]) rfl (absW_cons rfl rfl (absW_cons rfl rfl (absW_nil))) rfl rfl)))))
  · refine wp_cf rfl hc7 ?_
    refine wp_skip (gcQ_n (gc_to [0] (e := [(1, .vw [] (.ints .i64 p1)), (2, .ptr 0 [] (some 0))]) (ts := [some (.ptr (.agg [.int .i64 p0.1, .int .i64 p0.2]))]) (n := 1) rfl rfl rfl rfl) (seqQ_n (?_)))
    refine wp_seq ?_
    obtain ⟨v8, hv8, h⟩ := bs h
    refine wp_reg (nx' := 129) rfl (ev_den (.agg [(.vw _ _), (.vw _ _)]) rfl (d_ld_os rfl (rget_of rfl (get_nil)) rfl (cells_cons rfl (cells_cons rfl (cells_nil)))) (ev_den (.vw _ _) rfl rfl (ev_call0 [(.agg [(.vw _ _), (.vw _ _)]), (.vw _ _)] rfl (call_ok (rs := []) (rd := []) rfl rfl rfl rfl (argL_cons (argT_a (argL_cons rfl (argL_cons rfl (argL_nil)))) (argL_cons rfl (argL_nil))) rfl rfl (impl_Bucket_levels_ok hv8) rfl rfl rfl (bindR_t (bindL_cons rfl (bindL_cons rfl (bindL_nil)))) rfl) (ev_den (.tup [(.ref 33 _ _ _ _), (.vw _ _)]) rfl rfl (ev_den (.ref 33 _ _ _ _) rfl rfl (ev_den (.vw _ _) rfl rfl (ev_den (.ref 33 _ _ _ _) rfl rfl (ev_den (.vw _ _) rfl rfl (ev_nil))))))))) (seqQ_n (?_))
    refine wp_seq ?_
    refine wp_reg (nx' := 177) rfl (ev_den (.vw _ _) rfl rfl (ev_den (.vw _ _) rfl rfl (ev_den (.vw _ _) rfl rfl (ev_nil)))) (seqQ_n (?_))
    replace h := Option.some.inj h
    subst h
    exact wp_ret (qf_r ((outs_ok (vs := [(.vw _ _), (.vw _ _)]) rfl (absW_cons rfl rfl (absW_cons rfl rfl (absW_nil))) rfl rfl)))
/-- loop.example/g01176/spec.DrawLeakOf -/
noncomputable def spec_DrawLeakOf (p0 : List Int) : Option ((Int × (List Int))) :=
(spec_l1Cur_one ((10 : Int)) ((p0, (0 : Int), (0 : Int)))).bind fun v11 =>
if v11.1 = true then
(spec_l1Cur_among (([(0 : Int), (100 : Int), (101 : Int)] : List Int)) v11.2).bind fun v13 =>
(spec_l1Cur_traffic v13.2).bind fun v14 =>
some (v13.1, v14.1)
else
(spec_l1Cur_pick ((8 : Int)) v11.2).bind fun v15 =>
(spec_l1Cur_traffic v15.2).bind fun v16 =>
some ((w64 ((1 : Int) + v15.1)), v16.1)
theorem spec_DrawLeakOf_ok {p0 : List Int} {o : (Int × (List Int))} (h : spec_DrawLeakOf p0 = some o) : RN 17 [.ints .u8 p0] [] = some (.tup [.int .i64 o.1, .ints .i64 o.2], []) := by
  refine fn_run (o := o) (nr := 0) (F := k17) (st := ⟨entry 0 [.vw [] (.ints .u8 p0)], fun n => ([] : List T)[n]?, 0⟩) (fun (o : (Int × (List Int))) => (.tup [.int .i64 o.1, .ints .i64 o.2], [])) rfl fns_17 rfl rfl ?_
  refine wp_seq ?_
  refine wp_reg (nx' := 32) rfl (ev_den (.vw _ _) rfl rfl (ev_new (.ref 16 [] 1 0 0) (.ints .i64 []) rfl rfl (ev_nil))) (seqQ_n (?_))
  refine wp_seq ?_
  refine wp_reg (nx' := 96) rfl (ev_den (.vw _ _) rfl rfl (ev_den (.agg [(.vw _ _), (.vw _ _), (.vw _ _)]) rfl rfl (ev_wr rfl (w_box (sv := (.agg [(.vw _ _), (.vw _ _), (.vw _ _)])) rfl rfl (absW_cons rfl rfl (absW_cons rfl rfl (absW_cons rfl rfl (absW_nil))))) (ev_den (.ptr 64 [] (some 0)) rfl rfl (ev_nil))))) (seqQ_n (?_))
  refine wp_seq ?_
  refine wp_gc ?_
  refine wp_seq ?_
  obtain ⟨v11, hv11, h⟩ := bs h
  refine wp_reg (nx' := 128) rfl (ev_den (.ptr 64 [] (some 0)) rfl rfl (ev_call1 [(.ptr 64 [] (some 0)), (.vw _ _)] rfl (call_ok (rs := [64]) (rd := []) rfl rfl rfl rfl (argL_cons rfl (argL_cons rfl (argL_nil))) rfl rfl (spec_l1Cur_one_ok hv11) rfl rfl rfl rfl rfl) (ev_nil))) (seqQ_n (?_))
  rcases its h with ⟨hc12, h⟩ | ⟨hc12, h⟩
  · refine wp_ct rfl hc12 ?_
    refine wp_seq ?_
    obtain ⟨v13, hv13, h⟩ := bs h
    obtain ⟨v14, hv14, h⟩ := bs h
    refine wp_reg (nx' := 240) rfl (ev_den (.ptr 64 [] (some 0)) rfl rfl (ev_den (.vw _ _) rfl rfl (ev_call1 [(.ptr 64 [] (some 0)), (.vw _ _)] rfl (call_ok (rs := [64]) (rd := []) rfl rfl rfl rfl (argL_cons rfl (argL_cons rfl (argL_nil))) rfl rfl (spec_l1Cur_among_ok hv13) rfl rfl rfl rfl rfl) (ev_den (.ptr 64 [] (some 0)) rfl rfl (ev_call1 [(.ptr 64 [] (some 0))] rfl (call_ok (rs := [64]) (rd := []) rfl rfl rfl rfl (argL_cons rfl (argL_nil)) rfl rfl (spec_l1Cur_traffic_ok hv14) rfl rfl rfl rfl rfl) (ev_den (.vw _ _) rfl rfl (ev_den (.ref 192 _ _ _ _) rfl rfl (ev_nil)))))))) (seqQ_n (?_))
    replace h := Option.some.inj h
    subst h
    exact wp_ret (gcQ_r (seqQ_r (qf_r ((outs_ok (vs := [(.vw _ _), (.ref 192 _ _ _ _)]) rfl (absW_cons rfl rfl (absW_cons (retT_ref (abs_ref rfl sub_i)) rfl (absW_nil))) rfl rfl)))))
  · refine wp_cf rfl hc12 ?_
    refine wp_skip (gcQ_n (gc_to [64] (e := [(4, .ptr 0 [] (some 0))]) (ts := [some (.ptr (.agg [.sh (.ints .u8 v11.2.1), .int .i64 v11.2.2.1, .int .u64 v11.2.2.2]))]) (n := 1) rfl rfl rfl rfl) (seqQ_n (?_)))
    refine wp_seq ?_
    obtain ⟨v15, hv15, h⟩ := bs h
    obtain ⟨v16, hv16, h⟩ := bs h
    refine wp_reg (nx' := 113) rfl (ev_den (.ptr 0 [] (some 0)) rfl rfl (ev_call1 [(.ptr 0 [] (some 0)), (.vw _ _)] rfl (call_ok (rs := [0]) (rd := []) rfl rfl rfl rfl (argL_cons rfl (argL_cons rfl (argL_nil))) rfl rfl (spec_l1Cur_pick_ok hv15) rfl rfl rfl rfl rfl) (ev_den (.vw _ _) rfl rfl (ev_den (.ptr 0 [] (some 0)) rfl rfl (ev_call1 [(.ptr 0 [] (some 0))] rfl (call_ok (rs := [0]) (rd := []) rfl rfl rfl rfl (argL_cons rfl (argL_nil)) rfl rfl (spec_l1Cur_traffic_ok hv16) rfl rfl rfl rfl rfl) (ev_den (.vw _ _) rfl rfl (ev_den (.ref 65 _ _ _ _) rfl rfl (ev_nil)))))))) (seqQ_n (?_))
    replace h := Option.some.inj h
    subst h
    exact wp_ret (qf_r ((outs_ok (vs := [(.vw _ _), (.ref 65 _ _ _ _)]) rfl (absW_cons rfl rfl (absW_cons (retT_ref (abs_ref rfl sub_i)) rfl (absW_nil))) rfl rfl)))
/-- loop.example/g01176/impl.LeakOf$1 -/
noncomputable def impl_LeakOf_fn1 (p0 : Int) (c0 : Int) : Option (Int × Int) :=
some (c0, c0)
theorem impl_LeakOf_fn1_ok {p0 : Int} {c0 : Int} {o : Int × Int} (h : impl_LeakOf_fn1 p0 c0 = some o) : RN 52 [.int .i64 p0, .ref 0] [.ptr (.agg [.int .i64 c0])] = some (.int .i64 o.1, [.ptr (.agg [.int .i64 o.2])]) := by
  refine fn_run (o := o) (nr := 1) (F := k52) (st := ⟨entry 0 [.vw [] (.int .i64 p0), .ptr 0 [] (some 0)], fun n => ([.ptr (.agg [.int .i64 c0])] : List T)[n]?, 1⟩) (fun (o : Int × Int) => (.int .i64 o.1, [.ptr (.agg [.int .i64 o.2])])) rfl fns_52 rfl rfl ?_
  refine wp_seq ?_
  refine wp_reg (nx' := 17) rfl (ev_den (.vw _ _) rfl rfl (ev_nil)) (seqQ_n (?_))
  refine wp_seq ?_
  refine wp_reg (nx' := 49) rfl (ev_den (.vw _ _) rfl (d_ld_o rfl (rget_of rfl (get_nil)) rfl rfl) (ev_den (.vw _ _) rfl rfl (ev_nil))) (seqQ_n (?_))
  replace h := Option.some.inj h
  subst h
  exact wp_ret (qf_r ((outs_ok (vs := [(.vw _ _)]) rfl (absW_cons rfl rfl (absW_nil)) rfl rfl)))
/-- loop.example/g01176/impl.LeakOf$2 -/
noncomputable def impl_LeakOf_fn2 (p0 : Int) : Option Unit :=
some ()
theorem impl_LeakOf_fn2_ok {p0 : Int} {o : Unit} (h : impl_LeakOf_fn2 p0 = some o) : RN 53 [.int .i64 p0] [] = some (.tup [], []) := by
  refine fn_run (o := o) (nr := 0) (F := k53) (st := ⟨entry 0 [.vw [] (.int .i64 p0)], fun n => ([] : List T)[n]?, 0⟩) (fun (o : Unit) => (.tup [], [])) rfl fns_53 rfl rfl ?_
  replace h := Option.some.inj h
  subst h
  exact wp_skip (qf_n ((outs_ok (vs := []) rfl (absW_nil) rfl rfl)))
end Go.Proofs.Ythecknnmfghilaa.Ev.Q3
