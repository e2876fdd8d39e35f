/- What functions of the program come to, as plain functions; no condition. -/
import Derived.Test.YtoeddkfbhjmbmaaQ2C
set_option linter.unusedVariables false
set_option linter.unusedSimpArgs false
set_option maxRecDepth 100000
set_option maxHeartbeats 4000000
set_option linter.unusedVariables false
namespace Go.Proofs.Ytoeddkfbhjmbmaa.Ev.Q2
open Go
/-- loop.example/g01176/laws.big -/
noncomputable def laws_big (p0 : List Int) (p1 : List Int) : Option Bool :=
if (decide ((List.length p0 : Int) > (1048576 : Int))) = true then
some true
else
some (decide ((List.length p1 : Int) > (w64 ((1048576 : Int) - (List.length p0 : Int)))))
theorem laws_big_ok {p0 : List Int} {p1 : List Int} {o : Bool} (h : laws_big p0 p1 = some o) : RN 46 [.ints .u8 p0, .ints .u8 p1] [] = some (.bool o, []) := by
  refine fn_run (o := o) (nr := 0) (F := k46) (st := ⟨entry 0 [.vw [] (.ints .u8 p0), .vw [] (.ints .u8 p1)], fun n => ([] : List T)[n]?, 0⟩) (fun (o : Bool) => (.bool o, [])) rfl fns_46 rfl rfl ?_
  refine wp_seq ?_
  refine wp_reg (nx' := 16) rfl (ev_den (.vw _ _) rfl rfl (ev_nil)) (seqQ_n (?_))
  refine wp_seq ?_
  refine wp_gc ?_
  rcases its h with ⟨hc3, h⟩ | ⟨hc3, h⟩
  · refine wp_reg (nx' := 208) rfl (ev_den (.vw _ _) rfl rfl (ev_den (.vw _ _) rfl rfl (ev_den (.vw _ _) rfl rfl (ev_den (.vw _ _) rfl rfl (ev_off rfl hc3 (ev_off rfl hc3 (ev_off rfl hc3 (ev_off rfl hc3 (ev_off rfl hc3 (ev_off rfl hc3 (ev_den (.vw _ _) rfl (d_pick_t rfl hc3 rfl) (ev_den (.vw _ _) rfl rfl (ev_nil))))))))))))) (gcQ_n (gc_to [] (e := [(4, .vw [] (.bool true))]) (ts := []) (n := 0) rfl rfl rfl rfl) (seqQ_n (?_)))
    cases h
    exact wp_ret (qf_r ((outs_ok (vs := [(.vw _ _)]) rfl (absW_cons rfl rfl (absW_nil)) rfl rfl)))
  · refine wp_reg (nx' := 208) rfl (ev_den (.vw _ _) rfl rfl (ev_den (.vw _ _) rfl rfl (ev_den (.vw _ _) rfl rfl (ev_den (.vw _ _) rfl rfl (ev_on rfl hc3 (ev_den (.vw _ _) rfl rfl (ev_on rfl hc3 (ev_den (.vw _ _) rfl rfl (ev_on rfl hc3 (ev_den (.vw _ _) rfl rfl (ev_on rfl hc3 (ev_den (.vw _ _) rfl rfl (ev_on rfl hc3 (ev_den (.vw _ _) rfl rfl (ev_on rfl hc3 (ev_den (.vw _ _) rfl rfl (ev_den (.vw _ _) rfl (d_pick_f rfl hc3 rfl) (ev_den (.vw _ _) rfl rfl (ev_nil))))))))))))))))))) (gcQ_n (gc_to [] (e := [(4, .vw [] (.bool ((decide ((List.length p1 : Int) > (w64 ((1048576 : Int) - (List.length p0 : Int))))))))]) (ts := []) (n := 0) rfl rfl rfl rfl) (seqQ_n (?_)))
    cases h
    exact wp_ret (qf_r ((outs_ok (vs := [(.vw _ _)]) rfl (absW_cons rfl rfl (absW_nil)) rfl rfl)))
noncomputable def spec_l1Cur_next_j1 (c0 : (List Int) × Int × Int) : Int → Option (Int × ((List Int) × Int × Int)) := fun x9 =>
(some ((IntKind.wrap .u64 ((IntKind.wrap .u64 (c0.2.2 * (6364136223846793005 : Int))) + (IntKind.wrap .u64 (x9)))))).bind fun v10 =>
if (decide ((w64 (c0.2.1 + (1 : Int))) ≤ (List.length c0.1 : Int))) = true then
some (x9, (c0.1, (w64 (c0.2.1 + (1 : Int))), (IntKind.wrap .u64 (v10 + (1442695040888963407 : Int)))))
else
(some ((andK .u64 (Int.fdiv (IntKind.wrap .u64 (v10 + (1442695040888963407 : Int))) ((2 : Int) ^ 40)) (255 : Int)))).bind fun v13 =>
some ((w64 (v13)), (c0.1, (w64 (c0.2.1 + (1 : Int))), (IntKind.wrap .u64 (v10 + (1442695040888963407 : Int)))))
/-- (*loop.example/g01176/spec.l1Cur).next -/
noncomputable def spec_l1Cur_next (c0 : (List Int) × Int × Int) : Option (Int × ((List Int) × Int × Int)) :=
if (decide (c0.2.1 < (List.length c0.1 : Int))) = true then
(at? c0.1 c0.2.1).bind fun v15 =>
spec_l1Cur_next_j1 c0 (w64 (v15))
else
spec_l1Cur_next_j1 c0 (0 : Int)
theorem spec_l1Cur_next_ok {c0 : (List Int) × Int × Int} {o : Int × ((List Int) × Int × Int)} (h : spec_l1Cur_next c0 = some o) : RN 116 [.ref 0] [.ptr (.agg [.sh (.ints .u8 c0.1), .int .i64 c0.2.1, .int .u64 c0.2.2])] = some (.int .i64 o.1, [.ptr (.agg [.sh (.ints .u8 o.2.1), .int .i64 o.2.2.1, .int .u64 o.2.2.2])]) := by
  refine fn_run (o := o) (nr := 1) (F := k116) (st := ⟨entry 0 [.ptr 0 [] (some 0)], fun n => ([.ptr (.agg [.sh (.ints .u8 c0.1), .int .i64 c0.2.1, .int .u64 c0.2.2])] : List T)[n]?, 1⟩) (fun (o : Int × ((List Int) × Int × Int)) => (.int .i64 o.1, [.ptr (.agg [.sh (.ints .u8 o.2.1), .int .i64 o.2.2.1, .int .u64 o.2.2.2])])) rfl fns_116 rfl rfl ?_
  refine wp_seq ?_
  refine wp_reg (nx' := 17) rfl (ev_den (.vw _ _) rfl rfl (ev_nil)) (seqQ_n (?_))
  refine wp_seq ?_
  refine wp_reg (nx' := 33) rfl (ev_den (.vw _ _) rfl rfl (ev_nil)) (seqQ_n (?_))
  refine wp_seq ?_
  refine wp_join (spec_l1Cur_next_j1 c0) (fun (x9 : Int) => (⟨al .dead [(0, .ptr 0 [] (some 0)), (3, .vw [] (.int .i64 x9))], hl [some (.ptr (.agg [.sh (.ints .u8 c0.1), .int .i64 c0.2.1, .int .u64 c0.2.2]))], 1⟩ : St)) ?_ ?_
  · rintro x9 o h
    refine seqQ_n (?_)
    refine wp_seq ?_
    refine wp_reg (nx' := 129) rfl (ev_den (.ptr 0 [] (some 0)) rfl rfl (ev_den (.ptr 0 [] (some 0)) rfl rfl (ev_den (.ptr 0 [] (some 1)) rfl rfl (ev_den (.vw _ _) rfl (d_ld_o rfl (rget_of rfl (get_nil)) rfl rfl) (ev_den (.vw _ _) rfl rfl (ev_den (.ptr 0 [] (some 0)) rfl rfl (ev_den (.ptr 0 [] (some 1)) rfl rfl (ev_wr0 rfl (w_st_o rfl rfl (st1_of rfl rfl rfl (get_f rfl (get_nil)) rfl (rput_p (put_f rfl (put_nil))))) (ev_nil))))))))) (seqQ_n (?_))
    refine wp_seq ?_
    obtain ⟨v10, hv10, h⟩ := bs h
    refine wp_reg (nx' := 337) rfl (ev_den (.ptr 0 [] (some 0)) rfl rfl (ev_den (.ptr 0 [] (some 0)) rfl rfl (ev_den (.ptr 0 [] (some 0)) rfl rfl (ev_den (.ptr 0 [] (some 2)) rfl rfl (ev_den (.vw _ _) rfl (d_ld_o rfl (rget_of rfl (get_nil)) rfl rfl) (ev_den (.vw _ _) rfl rfl (ev_den (.vw _ _) rfl rfl (ev_den (.vw _ _) rfl rfl (ev_den (.vw [] (.int .u64 v10)) rfl (d_as_i rfl (Option.some.inj hv10)) (ev_den (.vw _ _) rfl rfl (ev_den (.ptr 0 [] (some 0)) rfl rfl (ev_den (.ptr 0 [] (some 2)) rfl rfl (ev_wr0 rfl (w_st_o rfl rfl (st1_of rfl rfl rfl (get_f rfl (get_nil)) rfl (rput_p (put_f rfl (put_nil))))) (ev_nil)))))))))))))) (seqQ_n (?_))
    refine wp_seq ?_
    refine wp_gc ?_
    refine wp_seq ?_
    refine wp_reg (nx' := 497) rfl (ev_den (.ptr 0 [] (some 0)) rfl rfl (ev_den (.ptr 0 [] (some 0)) rfl rfl (ev_den (.ptr 0 [] (some 1)) rfl rfl (ev_den (.vw _ _) rfl (d_ld_o rfl (rget_of rfl (get_nil)) rfl rfl) (ev_den (.ptr 0 [] (some 0)) rfl rfl (ev_den (.ptr 0 [] (some 0)) rfl rfl (ev_den (.ptr 0 [] (some 0)) rfl rfl (ev_den (.vw _ _) rfl (d_ld_o rfl (rget_of rfl (get_nil)) rfl rfl) (ev_den (.vw _ _) rfl rfl (ev_den (.vw _ _) rfl rfl (ev_nil))))))))))) (seqQ_n (?_))
    rcases its h with ⟨hc12, h⟩ | ⟨hc12, h⟩
    · refine wp_ct rfl hc12 ?_
      refine wp_seq ?_
      refine wp_reg (nx' := 529) rfl (ev_den (.vw _ _) rfl rfl (ev_den (.vw _ _) rfl rfl (ev_nil))) (seqQ_n (?_))
      cases h
      exact wp_ret (gcQ_r (seqQ_r (qf_r ((outs_ok (vs := [(.vw _ _)]) rfl (absW_cons rfl rfl (absW_nil)) rfl rfl)))))
    · refine wp_cf rfl hc12 ?_
      refine wp_skip (gcQ_n (gc_to [] (e := [(0, .ptr 0 [] (some 0))]) (ts := [some (.ptr (.agg [.sh (.ints .u8 c0.1), .int .i64 ((w64 (c0.2.1 + (1 : Int)))), .int .u64 ((IntKind.wrap .u64 (v10 + (1442695040888963407 : Int))))]))]) (n := 1) rfl rfl rfl rfl) (seqQ_n (?_)))
      refine wp_seq ?_
      obtain ⟨v13, hv13, h⟩ := bs h
      refine wp_reg (nx' := 129) rfl (ev_den (.ptr 0 [] (some 0)) rfl rfl (ev_den (.ptr 0 [] (some 0)) rfl rfl (ev_den (.ptr 0 [] (some 2)) rfl rfl (ev_den (.vw _ _) rfl (d_ld_o rfl (rget_of rfl (get_nil)) rfl rfl) (ev_den (.vw _ _) rfl (d_shr (u := ()) rfl rfl rfl) (ev_den (.vw [] (.int .u64 v13)) rfl (d_as_i rfl (Option.some.inj hv13)) (ev_den (.vw _ _) rfl rfl (ev_den (.vw _ _) rfl rfl (ev_nil))))))))) (seqQ_n (?_))
      cases h
      exact wp_ret (qf_r ((outs_ok (vs := [(.vw _ _)]) rfl (absW_cons rfl rfl (absW_nil)) rfl rfl)))
  · refine wp_seq ?_
    refine wp_reg (nx' := 193) rfl (ev_den (.ptr 0 [] (some 0)) rfl rfl (ev_den (.ptr 0 [] (some 0)) rfl rfl (ev_den (.ptr 0 [] (some 1)) rfl rfl (ev_den (.vw _ _) rfl (d_ld_o rfl (rget_of rfl (get_nil)) rfl rfl) (ev_den (.ptr 0 [] (some 0)) rfl rfl (ev_den (.ptr 0 [] (some 0)) rfl rfl (ev_den (.ptr 0 [] (some 0)) rfl rfl (ev_den (.vw _ _) rfl (d_ld_o rfl (rget_of rfl (get_nil)) rfl rfl) (ev_den (.vw _ _) rfl rfl (ev_den (.vw _ _) rfl rfl (ev_nil))))))))))) (seqQ_n (?_))
    rcases its h with ⟨hc14, h⟩ | ⟨hc14, h⟩
    · refine wp_ct rfl hc14 ?_
      obtain ⟨v15, hv15, h⟩ := bs h
      exact wp_reg (nx' := 385) rfl (ev_den (.ptr 0 [] (some 0)) rfl rfl (ev_den (.ptr 0 [] (some 0)) rfl rfl (ev_den (.ptr 0 [] (some 0)) rfl rfl (ev_den (.vw _ _) rfl (d_ld_o rfl (rget_of rfl (get_nil)) rfl rfl) (ev_den (.ptr 0 [] (some 0)) rfl rfl (ev_den (.ptr 0 [] (some 0)) rfl rfl (ev_den (.ptr 0 [] (some 1)) rfl rfl (ev_den (.vw _ _) rfl (d_ld_o rfl (rget_of rfl (get_nil)) rfl rfl) (ev_den (.pv _ _) rfl (d_idx_vi rfl rfl hv15) (ev_den (.vw _ _) rfl rfl (ev_den (.vw _ _) rfl rfl (ev_den (.vw _ _) rfl rfl (ev_nil))))))))))))) (joinQ_n (w64 (v15)) h (gc_to [] rfl rfl rfl rfl))
    · refine wp_cf rfl hc14 ?_
      exact wp_skip (joinQ_n (0 : Int) h (gc_to [] rfl rfl rfl rfl))
noncomputable def spec_l1Cur_pick_j1 (p1 : Int) : ((List Int) × Int × Int × Int) → Option (Int × ((List Int) × Int × Int)) := fun (x15, x16, x17, x18) =>
(nz? p1).bind fun u19 =>
some ((Int.tmod x18 p1), (x15, x16, x17))
/-- (*loop.example/g01176/spec.l1Cur).pick -/
noncomputable def spec_l1Cur_pick (p1 : Int) (c0 : (List Int) × Int × Int) : Option (Int × ((List Int) × Int × Int)) :=
if (decide (p1 ≤ (1 : Int))) = true then
some ((0 : Int), c0)
else
(spec_l1Cur_next c0).bind fun v12 =>
if (decide (p1 > (200 : Int))) = true then
(spec_l1Cur_next v12.2).bind fun v21 =>
spec_l1Cur_pick_j1 p1 (v21.2.1, v21.2.2.1, v21.2.2.2, (w64 ((w64 (v12.1 * (256 : Int))) + v21.1)))
else
spec_l1Cur_pick_j1 p1 (v12.2.1, v12.2.2.1, v12.2.2.2, v12.1)
theorem spec_l1Cur_pick_ok {p1 : Int} {c0 : (List Int) × Int × Int} {o : Int × ((List Int) × Int × Int)} (h : spec_l1Cur_pick p1 c0 = some o) : RN 92 [.ref 0, .int .i64 p1] [.ptr (.agg [.sh (.ints .u8 c0.1), .int .i64 c0.2.1, .int .u64 c0.2.2])] = some (.int .i64 o.1, [.ptr (.agg [.sh (.ints .u8 o.2.1), .int .i64 o.2.2.1, .int .u64 o.2.2.2])]) := by
  refine fn_run (o := o) (nr := 1) (F := k92) (st := ⟨entry 0 [.ptr 0 [] (some 0), .vw [] (.int .i64 p1)], fun n => ([.ptr (.agg [.sh (.ints .u8 c0.1), .int .i64 c0.2.1, .int .u64 c0.2.2])] : List T)[n]?, 1⟩) (fun (o : Int × ((List Int) × Int × Int)) => (.int .i64 o.1, [.ptr (.agg [.sh (.ints .u8 o.2.1), .int .i64 o.2.2.1, .int .u64 o.2.2.2])])) rfl fns_92 rfl rfl ?_
  refine wp_seq ?_
  refine wp_reg (nx' := 17) rfl (ev_den (.vw _ _) rfl rfl (ev_nil)) (seqQ_n (?_))
  refine wp_seq ?_
  refine wp_gc ?_
  refine wp_seq ?_
  refine wp_reg (nx' := 49) rfl (ev_den (.vw _ _) rfl rfl (ev_den (.vw _ _) rfl rfl (ev_nil))) (seqQ_n (?_))
  rcases its h with ⟨hc11, h⟩ | ⟨hc11, h⟩
  · refine wp_ct rfl hc11 ?_
    refine wp_seq ?_
    refine wp_reg (nx' := 65) rfl (ev_den (.vw _ _) rfl rfl (ev_nil)) (seqQ_n (?_))
    cases h
    exact wp_ret (gcQ_r (seqQ_r (qf_r ((outs_ok (vs := [(.vw _ _)]) rfl (absW_cons rfl rfl (absW_nil)) rfl rfl)))))
  · refine wp_cf rfl hc11 ?_
    refine wp_skip (gcQ_n (gc_to [] (e := [(0, .ptr 0 [] (some 0)), (1, .vw [] (.int .i64 p1))]) (ts := [some (.ptr (.agg [.sh (.ints .u8 c0.1), .int .i64 c0.2.1, .int .u64 c0.2.2]))]) (n := 1) rfl rfl rfl rfl) (seqQ_n (?_)))
    refine wp_seq ?_
    obtain ⟨v12, hv12, h⟩ := bs h
    refine wp_reg (nx' := 49) rfl (ev_den (.ptr 0 [] (some 0)) rfl rfl (ev_call1 [(.ptr 0 [] (some 0))] rfl (call_ok (rs := [0]) (rd := []) rfl rfl rfl rfl (argL_cons rfl (argL_nil)) rfl rfl (spec_l1Cur_next_ok hv12) rfl rfl rfl rfl rfl) (ev_den (.vw _ _) rfl rfl (ev_nil)))) (seqQ_n (?_))
    refine wp_seq ?_
    refine wp_join (spec_l1Cur_pick_j1 p1) (fun ((x15, x16, x17, x18) : (List Int) × Int × Int × Int) => (⟨al .dead [(1, .vw [] (.int .i64 p1)), (5, .vw [] (.int .i64 x18))], hl [some (.ptr (.agg [.sh (.ints .u8 x15), .int .i64 x16, .int .u64 x17]))], 1⟩ : St)) ?_ ?_
    · rintro ⟨x15, x16, x17, x18⟩ o h
      refine seqQ_n (?_)
      refine wp_seq ?_
      obtain ⟨u19, hu19, h⟩ := bs h
      refine wp_reg (nx' := 65) rfl (ev_den (.vw _ _) rfl rfl (ev_den (.vw _ _) rfl rfl (ev_den (.vw _ _) rfl (d_rem rfl rfl hu19) (ev_den (.vw _ _) rfl rfl (ev_nil))))) (seqQ_n (?_))
      cases h
      exact wp_ret (qf_r ((outs_ok (vs := [(.vw _ _)]) rfl (absW_cons rfl rfl (absW_nil)) rfl rfl)))
    · refine wp_seq ?_
      refine wp_reg (nx' := 81) rfl (ev_den (.vw _ _) rfl rfl (ev_den (.vw _ _) rfl rfl (ev_nil))) (seqQ_n (?_))
      rcases its h with ⟨hc20, h⟩ | ⟨hc20, h⟩
      · refine wp_ct rfl hc20 ?_
        obtain ⟨v21, hv21, h⟩ := bs h
        exact wp_reg (nx' := 177) rfl (ev_den (.vw _ _) rfl rfl (ev_den (.vw _ _) rfl rfl (ev_den (.ptr 0 [] (some 0)) rfl rfl (ev_call1 [(.ptr 0 [] (some 0))] rfl (call_ok (rs := [0]) (rd := []) rfl rfl rfl rfl (argL_cons rfl (argL_nil)) rfl rfl (spec_l1Cur_next_ok hv21) rfl rfl rfl rfl rfl) (ev_den (.vw _ _) rfl rfl (ev_den (.vw _ _) rfl rfl (ev_nil))))))) (joinQ_n (v21.2.1, v21.2.2.1, v21.2.2.2, (w64 ((w64 (v12.1 * (256 : Int))) + v21.1))) h (gc_to [] rfl rfl rfl rfl))
      · refine wp_cf rfl hc20 ?_
        exact wp_skip (joinQ_n (v12.2.1, v12.2.2.1, v12.2.2.2, v12.1) h (gc_to [] rfl rfl rfl rfl))
noncomputable def spec_boUsed_s1 (p0 : Int × Int × (List Int)) : (Int × Int) → Option ((Int × Int) ⊕ Int) := fun (x30, x31) =>
if (decide (x31 < (List.length p0.2.2 : Int))) = true then
(at? p0.2.2 x31).bind fun v45 =>
some (.inl ((w64 (x30 + v45)), (w64 (x31 + (1 : Int)))))
else
some (.inr x30)
noncomputable def spec_boUsed_l1 (p0 : Int × Int × (List Int)) : (Int × Int) → Option Int := iter (spec_boUsed_s1 p0)
/-- loop.example/g01176/spec.boUsed -/
noncomputable def spec_boUsed (p0 : Int × Int × (List Int)) : Option Int :=
(spec_boUsed_l1 p0 ((w64 (p0.2.1 * (List.length p0.2.2 : Int))), (0 : Int))).bind fun x36 =>
some x36
theorem spec_boUsed_ok {p0 : Int × Int × (List Int)} {o : Int} (h : spec_boUsed p0 = some o) : RN 75 [.agg [.int .i64 p0.1, .int .i64 p0.2.1, .ints .i64 p0.2.2]] [] = some (.int .i64 o, []) := by
  refine fn_run (o := o) (nr := 0) (F := k75) (st := ⟨entry 0 [.agg [.vw [] (.int .i64 p0.1), .vw [] (.int .i64 p0.2.1), .vw [] (.ints .i64 p0.2.2)]], fun n => ([] : List T)[n]?, 0⟩) (fun (o : Int) => (.int .i64 o, [])) rfl fns_75 rfl rfl ?_
  refine wp_seq ?_
  refine wp_reg (nx' := 32) rfl (ev_wr rfl (w_box (sv := (.agg [(.vw _ _), (.vw _ _), (.vw _ _)])) rfl rfl (absW_cons rfl rfl (absW_cons rfl rfl (absW_cons rfl rfl (absW_nil))))) (ev_den (.vw _ _) rfl rfl (ev_nil))) (seqQ_n (?_))
  refine wp_seq ?_
  refine wp_reg (nx' := 144) rfl (ev_den (.ptr 0 [] (some 1)) rfl rfl (ev_den (.vw _ _) rfl (d_ld_o rfl (rget_of rfl (get_nil)) rfl rfl) (ev_den (.ptr 0 [] (some 2)) rfl rfl (ev_den (.vw _ _) rfl (d_ld_o rfl (rget_of rfl (get_nil)) rfl rfl) (ev_den (.vw _ _) rfl rfl (ev_den (.vw _ _) rfl rfl (ev_den (.vw _ _) rfl rfl (ev_nil)))))))) (seqQ_n (?_))
  refine wp_seq ?_
  refine wp_gc ?_
  refine wp_seq ?_
  refine wp_gc ?_
  refine wp_reg (nx' := 208) rfl (ev_den (.ptr 0 [] (some 2)) rfl rfl (ev_den (.vw _ _) rfl (d_ld_o rfl (rget_of rfl (get_nil)) rfl rfl) (ev_den (.vw _ _) rfl rfl (ev_den (.vw _ _) rfl rfl (ev_nil))))) (gcQ_n (gc_to [] (e := [(3, .vw [] (.int .i64 ((w64 (p0.2.1 * (List.length p0.2.2 : Int)))))), (13, .vw [] (.ints .i64 p0.2.2)), (14, .vw [] (.int .i64 ((List.length p0.2.2 : Int)))), (15, .vw [] (.int .i64 ((0 : Int))))]) (ts := []) (n := 0) rfl rfl rfl rfl) (seqQ_n (?_)))
  refine wp_gc ?_
  refine wp_blk ?_
  obtain ⟨x36, hw49, h⟩ := bs h
  refine wp_mono (wp_loop (fun ((x30, x31) : Int × Int) => (⟨al .dead [(3, .vw [] (.int .i64 x30)), (13, .vw [] (.ints .i64 p0.2.2)), (14, .vw [] (.int .i64 ((List.length p0.2.2 : Int)))), (15, .vw [] (.int .i64 x31))], hl [], 0⟩ : St)) (fun (x36 : Int) e st => e = .exit 0 ∧ gc 0 [3] st = ⟨al .dead [(3, .vw [] (.int .i64 x36))], hl [], 0⟩) hw49 ?_) ?_
  · rintro ⟨x30, x31⟩ o h
    refine wp_gc ?_
    refine wp_seq ?_
    refine wp_reg (nx' := 16) rfl (ev_den (.vw _ _) rfl rfl (ev_nil)) (seqQ_n (?_))
    refine wp_seq ?_
    refine wp_gc ?_
    rcases its h with ⟨hc42, h⟩ | ⟨hc42, h⟩
    · refine wp_ct rfl hc42 ?_
      refine wp_skip (gcQ_n (gc_to [] (e := [(3, .vw [] (.int .i64 x30)), (13, .vw [] (.ints .i64 p0.2.2)), (14, .vw [] (.int .i64 ((List.length p0.2.2 : Int)))), (15, .vw [] (.int .i64 x31))]) (ts := []) (n := 0) rfl rfl rfl rfl) (seqQ_n (?_)))
      refine wp_seq ?_
      refine wp_gc ?_
      refine wp_gc ?_
      refine wp_blk ?_
      refine wp_seq ?_
      obtain ⟨v45, hv45, h⟩ := bs h
      refine wp_reg (nx' := 48) rfl (ev_den (.pv _ _) rfl (d_idx_vi rfl rfl hv45) (ev_den (.vw _ _) rfl rfl (ev_den (.vw _ _) rfl rfl (ev_nil)))) (seqQ_n (?_))
      refine wp_reg (nx' := 112) rfl (ev_den (.vw _ _) rfl rfl (ev_den (.vw _ _) rfl rfl (ev_den (.vw _ _) rfl rfl (ev_den (.vw _ _) rfl rfl (ev_nil))))) (blkQ_n (gcQ_n (gc_to [] (e := [(3, .vw [] (.int .i64 ((w64 (x30 + v45))))), (13, .vw [] (.ints .i64 p0.2.2)), (14, .vw [] (.int .i64 ((List.length p0.2.2 : Int)))), (15, .vw [] (.int .i64 x31))]) (ts := []) (n := 0) rfl rfl rfl rfl) (gcQ_n (gc_to [] (e := [(3, .vw [] (.int .i64 ((w64 (x30 + v45))))), (13, .vw [] (.ints .i64 p0.2.2)), (14, .vw [] (.int .i64 ((List.length p0.2.2 : Int)))), (15, .vw [] (.int .i64 x31))]) (ts := []) (n := 0) rfl rfl rfl rfl) (seqQ_n (?_)))))
      cases h
      exact wp_reg (nx' := 32) rfl (ev_den (.vw _ _) rfl rfl (ev_den (.vw _ _) rfl rfl (ev_nil))) (gcQ_n (gc_to [] (e := [(3, .vw [] (.int .i64 ((w64 (x30 + v45))))), (13, .vw [] (.ints .i64 p0.2.2)), (14, .vw [] (.int .i64 ((List.length p0.2.2 : Int)))), (15, .vw [] (.int .i64 ((w64 (x31 + (1 : Int))))))]) (ts := []) (n := 0) rfl rfl rfl rfl) (loopQ_n rfl))
    · refine wp_cf rfl hc42 ?_
      cases h
      exact wp_exit (gcQ_e (seqQ_e (gcQ_e (loopQ_e (And.intro rfl (gc_to [] (e := [(3, .vw [] (.int .i64 x30))]) (ts := []) (n := 0) rfl rfl rfl rfl))))))
  · intro e st49 hg49
    obtain ⟨rfl, hg49⟩ := hg49
    refine blkQ_h (gcQ_n hg49 (gcQ_n (gc_to [] (e := [(3, .vw [] (.int .i64 x36))]) (ts := []) (n := 0) rfl rfl rfl rfl) (seqQ_n (?_))))
    refine wp_seq ?_
    refine wp_reg (nx' := 32) rfl (ev_den (.vw _ _) rfl rfl (ev_den (.vw _ _) rfl rfl (ev_nil))) (seqQ_n (?_))
    cases h
    exact wp_ret (qf_r ((outs_ok (vs := [(.vw _ _)]) rfl (absW_cons rfl rfl (absW_nil)) rfl rfl)))
/-- (*loop.example/g01176/spec.l1Cur).among -/
noncomputable def spec_l1Cur_among (p1 : List Int) (c0 : (List Int) × Int × Int) : Option (Int × ((List Int) × Int × Int)) :=
(spec_l1Cur_pick ((List.length p1 : Int)) c0).bind fun v3 =>
(at? p1 v3.1).bind fun v4 =>
some (v4, v3.2)
theorem spec_l1Cur_among_ok {p1 : List Int} {c0 : (List Int) × Int × Int} {o : Int × ((List Int) × Int × Int)} (h : spec_l1Cur_among p1 c0 = some o) : RN 93 [.ref 0, .ints .i64 p1] [.ptr (.agg [.sh (.ints .u8 c0.1), .int .i64 c0.2.1, .int .u64 c0.2.2])] = some (.int .i64 o.1, [.ptr (.agg [.sh (.ints .u8 o.2.1), .int .i64 o.2.2.1, .int .u64 o.2.2.2])]) := by
  refine fn_run (o := o) (nr := 1) (F := k93) (st := ⟨entry 0 [.ptr 0 [] (some 0), .vw [] (.ints .i64 p1)], fun n => ([.ptr (.agg [.sh (.ints .u8 c0.1), .int .i64 c0.2.1, .int .u64 c0.2.2])] : List T)[n]?, 1⟩) (fun (o : Int × ((List Int) × Int × Int)) => (.int .i64 o.1, [.ptr (.agg [.sh (.ints .u8 o.2.1), .int .i64 o.2.2.1, .int .u64 o.2.2.2])])) rfl fns_93 rfl rfl ?_
  refine wp_seq ?_
  refine wp_reg (nx' := 17) rfl (ev_den (.vw _ _) rfl rfl (ev_nil)) (seqQ_n (?_))
  refine wp_seq ?_
  obtain ⟨v3, hv3, h⟩ := bs h
  obtain ⟨v4, hv4, h⟩ := bs h
  refine wp_reg (nx' := 145) rfl (ev_den (.vw _ _) rfl rfl (ev_den (.ptr 0 [] (some 0)) rfl rfl (ev_den (.vw _ _) rfl rfl (ev_den (.vw _ _) rfl rfl (ev_call1 [(.ptr 0 [] (some 0)), (.vw _ _)] rfl (call_ok (rs := [0]) (rd := []) rfl rfl rfl rfl (argL_cons rfl (argL_cons rfl (argL_nil))) rfl rfl (spec_l1Cur_pick_ok hv3) rfl rfl rfl rfl rfl) (ev_den (.pv _ _) rfl (d_idx_vi rfl rfl hv4) (ev_den (.vw _ _) rfl rfl (ev_den (.vw _ _) rfl rfl (ev_nil))))))))) (seqQ_n (?_))
  cases h
  exact wp_ret (qf_r ((outs_ok (vs := [(.vw _ _)]) rfl (absW_cons rfl rfl (absW_nil)) rfl rfl)))
noncomputable def spec_l1Cur_timed_s1 : ((List Int) × Int × Int × (List Int) × Int) → Option (((List Int) × Int × Int × (List Int) × Int) ⊕ ((List Int) × Int × Int × (List Int))) := fun (x85, x86, x87, x88, x89) =>
if (decide (x89 > (0 : Int))) = true then
(spec_l1Cur_pick ((4 : Int)) ((x85, x86, x87))).bind fun v116 =>
(app? x88 (([v116.1] : List Int))).bind fun v117 =>
some (.inl (v116.2.1, v116.2.2.1, v116.2.2.2, v117, (w64 (x89 - (1 : Int)))))
else
some (.inr (x85, x86, x87, x88))
noncomputable def spec_l1Cur_timed_l1 : ((List Int) × Int × Int × (List Int) × Int) → Option ((List Int) × Int × Int × (List Int)) := iter (spec_l1Cur_timed_s1)
noncomputable def spec_l1Cur_timed_j2 : ((List Int) × Int × Int × Int × Int × (List Int)) → Option ((Int × Int × (List Int)) × ((List Int) × Int × Int)) := fun (x138, x139, x140, x141, x142, x143) =>
some ((x141, x142, x143), (x138, x139, x140))
/-- (*loop.example/g01176/spec.l1Cur).timed -/
noncomputable def spec_l1Cur_timed (c0 : (List Int) × Int × Int) : Option ((Int × Int × (List Int)) × ((List Int) × Int × Int)) :=
(spec_l1Cur_pick ((5 : Int)) c0).bind fun v39 =>
(spec_l1Cur_pick ((3 : Int)) v39.2).bind fun v41 =>
(spec_l1Cur_timed_l1 (v41.2.1, v41.2.2.1, v41.2.2.2, [], (w64 ((1 : Int) + v39.1)))).bind fun (x98, x99, x100, x101) =>
(spec_boUsed (((0 : Int), (w64 ((1 : Int) + v41.1)), x101))).bind fun v128 =>
(spec_l1Cur_pick ((20 : Int)) ((x98, x99, x100))).bind fun v129 =>
(spec_l1Cur_pick ((14 : Int)) v129.2).bind fun v144 =>
if (v144.1 == (0 : Int)) = true then
(spec_l1Cur_among (([(0 : Int), (200 : Int), (201 : Int), (1 : Int)] : List Int)) v144.2).bind fun v153 =>
spec_l1Cur_timed_j2 (v153.2.1, v153.2.2.1, v153.2.2.2, v153.1, (w64 ((1 : Int) + v41.1)), x101)
else
if (v144.1 == (1 : Int)) = true then
(spec_l1Cur_among (([(0 : Int), (20 : Int), (21 : Int)] : List Int)) v144.2).bind fun v161 =>
spec_l1Cur_timed_j2 (v161.2.1, v161.2.2.1, v161.2.2.2, (w64 (v128 + v129.1)), v161.1, x101)
else
if (v144.1 == (2 : Int)) = true then
(spec_l1Cur_pick ((2 : Int)) v144.2).bind fun v169 =>
(mk? ((w64 ((12 : Int) + v169.1))) ((w64 ((12 : Int) + v169.1)))).bind fun u170 =>
spec_l1Cur_timed_j2 (v169.2.1, v169.2.2.1, v169.2.2.2, (60 : Int), (w64 ((1 : Int) + v41.1)), (List.replicate (Int.toNat ((w64 ((12 : Int) + v169.1)))) (0 : Int)))
else
spec_l1Cur_timed_j2 (v144.2.1, v144.2.2.1, v144.2.2.2, (w64 (v128 + v129.1)), (w64 ((1 : Int) + v41.1)), x101)
theorem spec_l1Cur_timed_ok {c0 : (List Int) × Int × Int} {o : (Int × Int × (List Int)) × ((List Int) × Int × Int)} (h : spec_l1Cur_timed c0 = some o) : RN 91 [.ref 0] [.ptr (.agg [.sh (.ints .u8 c0.1), .int .i64 c0.2.1, .int .u64 c0.2.2])] = some (.agg [.int .i64 o.1.1, .int .i64 o.1.2.1, .ints .i64 o.1.2.2], [.ptr (.agg [.sh (.ints .u8 o.2.1), .int .i64 o.2.2.1, .int .u64 o.2.2.2])]) := by
  refine fn_run (o := o) (nr := 1) (F := k91) (st := ⟨entry 0 [.ptr 0 [] (some 0)], fun n => ([.ptr (.agg [.sh (.ints .u8 c0.1), .int .i64 c0.2.1, .int .u64 c0.2.2])] : List T)[n]?, 1⟩) (fun (o : (Int × Int × (List Int)) × ((List Int) × Int × Int)) => (.agg [.int .i64 o.1.1, .int .i64 o.1.2.1, .ints .i64 o.1.2.2], [.ptr (.agg [.sh (.ints .u8 o.2.1), .int .i64 o.2.2.1, .int .u64 o.2.2.2])])) rfl fns_91 rfl rfl ?_
  refine wp_seq ?_
  refine wp_reg (nx' := 17) rfl (ev_new (.ptr 1 [] (some 0)) (.ptr (.agg [.int .i64 ((0 : Int)), .int .i64 ((0 : Int)), .ints .i64 ([])])) rfl rfl (ev_nil)) (seqQ_n (?_))
  refine wp_seq ?_
  obtain ⟨v39, hv39, h⟩ := bs h
  refine wp_reg (nx' := 81) rfl (ev_den (.ptr 0 [] (some 0)) rfl rfl (ev_call1 [(.ptr 0 [] (some 0)), (.vw _ _)] rfl (call_ok (rs := [0]) (rd := []) rfl rfl rfl rfl (argL_cons rfl (argL_cons rfl (argL_nil))) rfl rfl (spec_l1Cur_pick_ok hv39) rfl rfl rfl rfl rfl) (ev_den (.vw _ _) rfl rfl (ev_den (.vw _ _) rfl rfl (ev_nil))))) (seqQ_n (?_))
  refine wp_seq ?_
  refine wp_gc ?_
  obtain ⟨v41, hv41, h⟩ := bs h
  refine wp_reg (nx' := 177) rfl (ev_den (.ptr 0 [] (some 0)) rfl rfl (ev_call1 [(.ptr 0 [] (some 0)), (.vw _ _)] rfl (call_ok (rs := [0]) (rd := []) rfl rfl rfl rfl (argL_cons rfl (argL_cons rfl (argL_nil))) rfl rfl (spec_l1Cur_pick_ok hv41) rfl rfl rfl rfl rfl) (ev_den (.vw _ _) rfl rfl (ev_den (.agg [(.vw _ _), (.vw _ _), (.nilS _)]) rfl rfl (ev_new (.ptr 145 [] (some 0)) (.ptr (.agg [.int .i64 ((0 : Int)), .int .i64 ((0 : Int)), .ints .i64 ([])])) rfl rfl (ev_wr0 rfl (w_st_a rfl rfl rfl (stL_cons (st1_of rfl rfl rfl (get_f rfl (get_nil)) rfl (rput_p (put_f rfl (put_nil)))) rfl (stL_cons (st1_of rfl rfl rfl (get_f rfl (get_nil)) rfl (rput_p (put_f rfl (put_nil)))) rfl (stL_cons (st1_of rfl rfl rfl (get_f rfl (get_nil)) rfl (rput_p (put_f rfl (put_nil)))) rfl (stL_nil))))) (ev_nil))))))) (gcQ_n (gc_to [1, 145] (e := [(0, .ptr 0 [] (some 0)), (2, .ptr 1 [] (some 0)), (3, .vw [] (.int .i64 ((w64 ((1 : Int) + v39.1))))), (4, .ptr 2 [] (some 0))]) (ts := [some (.ptr (.agg [.sh (.ints .u8 v41.2.1), .int .i64 v41.2.2.1, .int .u64 v41.2.2.2])), some (.ptr (.agg [.int .i64 ((0 : Int)), .int .i64 ((0 : Int)), .ints .i64 ([])])), some (.ptr (.agg [.int .i64 ((0 : Int)), .int .i64 ((w64 ((1 : Int) + v41.1))), .ints .i64 ([])]))]) (n := 3) rfl rfl rfl rfl) (seqQ_n (?_)))
  refine wp_seq ?_
  refine wp_gc ?_
  refine wp_gc ?_
  refine wp_blk ?_
  obtain ⟨w127, hw127, h⟩ := bs h
  refine wp_mono (wp_loop (fun ((x85, x86, x87, x88, x89) : (List Int) × Int × Int × (List Int) × Int) => (⟨al .dead [(0, .ptr 0 [] (some 0)), (2, .ptr 1 [] (some 0)), (3, .vw [] (.int .i64 x89)), (4, .ptr 2 [] (some 0))], hl [some (.ptr (.agg [.sh (.ints .u8 x85), .int .i64 x86, .int .u64 x87])), some (.ptr (.agg [.int .i64 ((0 : Int)), .int .i64 ((0 : Int)), .ints .i64 ([])])), some (.ptr (.agg [.int .i64 ((0 : Int)), .int .i64 ((w64 ((1 : Int) + v41.1))), .ints .i64 x88]))], 3⟩ : St)) (fun ((x98, x99, x100, x101) : (List Int) × Int × Int × (List Int)) e st => e = .exit 0 ∧ gc 1 [0, 2, 4] st = ⟨al .dead [(0, .ptr 0 [] (some 0)), (2, .ptr 1 [] (some 0)), (4, .ptr 2 [] (some 0))], hl [some (.ptr (.agg [.sh (.ints .u8 x98), .int .i64 x99, .int .u64 x100])), some (.ptr (.agg [.int .i64 ((0 : Int)), .int .i64 ((0 : Int)), .ints .i64 ([])])), some (.ptr (.agg [.int .i64 ((0 : Int)), .int .i64 ((w64 ((1 : Int) + v41.1))), .ints .i64 x101]))], 3⟩) hw127 ?_) ?_
  · rintro ⟨x85, x86, x87, x88, x89⟩ o h
    refine wp_gc ?_
    refine wp_seq ?_
    refine wp_gc ?_
    refine wp_seq ?_
    refine wp_reg (nx' := 35) rfl (ev_den (.vw _ _) rfl rfl (ev_den (.vw _ _) rfl rfl (ev_nil))) (seqQ_n (?_))
    rcases its h with ⟨hc111, h⟩ | ⟨hc111, h⟩
    · refine wp_ct rfl hc111 ?_
      refine wp_skip (gcQ_n (gc_to [1, 2] (e := [(0, .ptr 0 [] (some 0)), (2, .ptr 1 [] (some 0)), (3, .vw [] (.int .i64 x89)), (4, .ptr 2 [] (some 0))]) (ts := [some (.ptr (.agg [.sh (.ints .u8 x85), .int .i64 x86, .int .u64 x87])), some (.ptr (.agg [.int .i64 ((0 : Int)), .int .i64 ((0 : Int)), .ints .i64 ([])])), some (.ptr (.agg [.int .i64 ((0 : Int)), .int .i64 ((w64 ((1 : Int) + v41.1))), .ints .i64 x88]))]) (n := 3) rfl rfl rfl rfl) (seqQ_n (?_)))
      refine wp_seq ?_
      refine wp_gc ?_
      refine wp_gc ?_
      refine wp_blk ?_
      obtain ⟨v116, hv116, h⟩ := bs h
      obtain ⟨v117, hv117, h⟩ := bs h
      refine wp_regA rfl (ar_cons (nx' := 131) rfl (rl_cons rfl (ev_den (.ptr 2 [] (some 2)) rfl rfl (ev_nil)) (rl_cons rfl (ev_den (.ref 2 [.f 2] _ _ _) rfl (d_ld_o rfl (rget_of rfl (get_nil)) rfl rfl) (ev_nil)) (rl_cons rfl (ev_den (.ptr 0 [] (some 0)) rfl rfl (ev_nil)) (rl_cons rfl (ev_call1 [(.ptr 0 [] (some 0)), (.vw _ _)] rfl (call_ok (rs := [0]) (rd := []) rfl rfl rfl rfl (argL_cons rfl (argL_cons rfl (argL_nil))) rfl rfl (spec_l1Cur_pick_ok hv116) rfl rfl rfl rfl rfl) (ev_nil)) (rl_cons rfl (ev_den (.vw _ _) rfl rfl (ev_nil)) (rl_cons rfl (ev_wr rfl (w_app_i (xv := (.ref 2 [.f 2] _ _ _)) 83 rfl rfl (abs_refp (r := .ptr (.agg [.int .i64 ((0 : Int)), .int .i64 ((w64 ((1 : Int) + v41.1))), .ints .i64 x88])) rfl (get_f rfl (get_nil)) sub_i (rput_p (put_f rfl (put_nil)))) hv117 rfl) (ev_nil)) (rl_cons rfl (ev_den (.ptr 2 [] (some 2)) rfl rfl (ev_nil)) (rl_cons rfl (ev_wr0 rfl (w_st_o rfl rfl (st1_of (abs_ref rfl sub_i) rfl rfl (get_f rfl (get_nil)) rfl (rput_p (put_f rfl (put_nil))))) (ev_nil)) (rl_nil))))))))) (gc_to [1, 2] (e := [(0, .ptr 0 [] (some 0)), (2, .ptr 1 [] (some 0)), (3, .vw [] (.int .i64 x89)), (4, .ptr 2 [] (some 0))]) (ts := [some (.ptr (.agg [.sh (.ints .u8 v116.2.1), .int .i64 v116.2.2.1, .int .u64 v116.2.2.2])), some (.ptr (.agg [.int .i64 ((0 : Int)), .int .i64 ((0 : Int)), .ints .i64 ([])])), some (.ptr (.agg [.int .i64 ((0 : Int)), .int .i64 ((w64 ((1 : Int) + v41.1))), .ints .i64 v117]))]) (n := 3) rfl rfl rfl rfl) (ar_cons (nx' := 131) rfl (rl_cons rfl (ev_den (.ptr 2 [] (some 2)) rfl rfl (ev_nil)) (rl_cons rfl (ev_den (.ptr 0 [] (some 0)) rfl rfl (ev_nil)) (rl_cons rfl (ev_call1 [(.ptr 0 [] (some 0)), (.vw _ _)] rfl (call_ok (rs := [0]) (rd := []) rfl rfl rfl rfl (argL_cons rfl (argL_cons rfl (argL_nil))) rfl rfl (spec_l1Cur_pick_ok hv116) rfl rfl rfl rfl rfl) (ev_nil)) (rl_cons rfl (ev_den (.ref 2 [.f 2] _ _ _) rfl (d_ld_o rfl (rget_of rfl (get_nil)) rfl rfl) (ev_nil)) (rl_cons rfl (ev_den (.vw _ _) rfl rfl (ev_nil)) (rl_cons rfl (ev_wr rfl (w_app_i (xv := (.ref 2 [.f 2] _ _ _)) 83 rfl rfl (abs_refp (r := .ptr (.agg [.int .i64 ((0 : Int)), .int .i64 ((w64 ((1 : Int) + v41.1))), .ints .i64 x88])) rfl (get_f rfl (get_nil)) sub_i (rput_p (put_f rfl (put_nil)))) hv117 rfl) (ev_nil)) (rl_cons rfl (ev_den (.ptr 2 [] (some 2)) rfl rfl (ev_nil)) (rl_cons rfl (ev_wr0 rfl (w_st_o rfl rfl (st1_of (abs_ref rfl sub_i) rfl rfl (get_f rfl (get_nil)) rfl (rput_p (put_f rfl (put_nil))))) (ev_nil)) (rl_nil))))))))) (gc_to [1, 2] (e := [(0, .ptr 0 [] (some 0)), (2, .ptr 1 [] (some 0)), (3, .vw [] (.int .i64 x89)), (4, .ptr 2 [] (some 0))]) (ts := [some (.ptr (.agg [.sh (.ints .u8 v116.2.1), .int .i64 v116.2.2.1, .int .u64 v116.2.2.2])), some (.ptr (.agg [.int .i64 ((0 : Int)), .int .i64 ((0 : Int)), .ints .i64 ([])])), some (.ptr (.agg [.int .i64 ((0 : Int)), .int .i64 ((w64 ((1 : Int) + v41.1))), .ints .i64 v117]))]) (n := 3) rfl rfl rfl rfl) (ar_cons (nx' := 131) rfl (rl_cons rfl (ev_den (.ptr 0 [] (some 0)) rfl rfl (ev_nil)) (rl_cons rfl (ev_call1 [(.ptr 0 [] (some 0)), (.vw _ _)] rfl (call_ok (rs := [0]) (rd := []) rfl rfl rfl rfl (argL_cons rfl (argL_cons rfl (argL_nil))) rfl rfl (spec_l1Cur_pick_ok hv116) rfl rfl rfl rfl rfl) (ev_nil)) (rl_cons rfl (ev_den (.ptr 2 [] (some 2)) rfl rfl (ev_nil)) (rl_cons rfl (ev_den (.ref 2 [.f 2] _ _ _) rfl (d_ld_o rfl (rget_of rfl (get_nil)) rfl rfl) (ev_nil)) (rl_cons rfl (ev_den (.vw _ _) rfl rfl (ev_nil)) (rl_cons rfl (ev_wr rfl (w_app_i (xv := (.ref 2 [.f 2] _ _ _)) 83 rfl rfl (abs_refp (r := .ptr (.agg [.int .i64 ((0 : Int)), .int .i64 ((w64 ((1 : Int) + v41.1))), .ints .i64 x88])) rfl (get_f rfl (get_nil)) sub_i (rput_p (put_f rfl (put_nil)))) hv117 rfl) (ev_nil)) (rl_cons rfl (ev_den (.ptr 2 [] (some 2)) rfl rfl (ev_nil)) (rl_cons rfl (ev_wr0 rfl (w_st_o rfl rfl (st1_of (abs_ref rfl sub_i) rfl rfl (get_f rfl (get_nil)) rfl (rput_p (put_f rfl (put_nil))))) (ev_nil)) (rl_nil))))))))) (gc_to [1, 2] (e := [(0, .ptr 0 [] (some 0)), (2, .ptr 1 [] (some 0)), (3, .vw [] (.int .i64 x89)), (4, .ptr 2 [] (some 0))]) (ts := [some (.ptr (.agg [.sh (.ints .u8 v116.2.1), .int .i64 v116.2.2.1, .int .u64 v116.2.2.2])), some (.ptr (.agg [.int .i64 ((0 : Int)), .int .i64 ((0 : Int)), .ints .i64 ([])])), some (.ptr (.agg [.int .i64 ((0 : Int)), .int .i64 ((w64 ((1 : Int) + v41.1))), .ints .i64 v117]))]) (n := 3) rfl rfl rfl rfl) (ar_nil)))) (blkQ_n (gcQ_n (gc_to [1, 2] (e := [(0, .ptr 0 [] (some 0)), (2, .ptr 1 [] (some 0)), (3, .vw [] (.int .i64 x89)), (4, .ptr 2 [] (some 0))]) (ts := [some (.ptr (.agg [.sh (.ints .u8 v116.2.1), .int .i64 v116.2.2.1, .int .u64 v116.2.2.2])), some (.ptr (.agg [.int .i64 ((0 : Int)), .int .i64 ((0 : Int)), .ints .i64 ([])])), some (.ptr (.agg [.int .i64 ((0 : Int)), .int .i64 ((w64 ((1 : Int) + v41.1))), .ints .i64 v117]))]) (n := 3) rfl rfl rfl rfl) (gcQ_n (gc_to [1, 2] (e := [(0, .ptr 0 [] (some 0)), (2, .ptr 1 [] (some 0)), (3, .vw [] (.int .i64 x89)), (4, .ptr 2 [] (some 0))]) (ts := [some (.ptr (.agg [.sh (.ints .u8 v116.2.1), .int .i64 v116.2.2.1, .int .u64 v116.2.2.2])), some (.ptr (.agg [.int .i64 ((0 : Int)), .int .i64 ((0 : Int)), .ints .i64 ([])])), some (.ptr (.agg [.int .i64 ((0 : Int)), .int .i64 ((w64 ((1 : Int) + v41.1))), .ints .i64 v117]))]) (n := 3) rfl rfl rfl rfl) (seqQ_n (?_)))))
      cases h
      exact wp_reg (nx' := 51) rfl (ev_den (.vw _ _) rfl rfl (ev_den (.vw _ _) rfl rfl (ev_den (.vw _ _) rfl rfl (ev_nil)))) (gcQ_n (gc_to [1, 2] (e := [(0, .ptr 0 [] (some 0)), (2, .ptr 1 [] (some 0)), (3, .vw [] (.int .i64 ((w64 (x89 - (1 : Int)))))), (4, .ptr 2 [] (some 0))]) (ts := [some (.ptr (.agg [.sh (.ints .u8 v116.2.1), .int .i64 v116.2.2.1, .int .u64 v116.2.2.2])), some (.ptr (.agg [.int .i64 ((0 : Int)), .int .i64 ((0 : Int)), .ints .i64 ([])])), some (.ptr (.agg [.int .i64 ((0 : Int)), .int .i64 ((w64 ((1 : Int) + v41.1))), .ints .i64 v117]))]) (n := 3) rfl rfl rfl rfl) (loopQ_n rfl))
    · refine wp_cf rfl hc111 ?_
      cases h
      exact wp_exit (gcQ_e (seqQ_e (gcQ_e (loopQ_e (And.intro rfl (gc_to [1, 2] (e := [(0, .ptr 0 [] (some 0)), (2, .ptr 1 [] (some 0)), (4, .ptr 2 [] (some 0))]) (ts := [some (.ptr (.agg [.sh (.ints .u8 x85), .int .i64 x86, .int .u64 x87])), some (.ptr (.agg [.int .i64 ((0 : Int)), .int .i64 ((0 : Int)), .ints .i64 ([])])), some (.ptr (.agg [.int .i64 ((0 : Int)), .int .i64 ((w64 ((1 : Int) + v41.1))), .ints .i64 x88]))]) (n := 3) rfl rfl rfl rfl))))))
  · intro e st127 hg127
    obtain ⟨x98, x99, x100, x101⟩ := w127
    obtain ⟨rfl, hg127⟩ := hg127
    refine blkQ_h (gcQ_n hg127 (gcQ_n (gc_to [1, 2] (e := [(0, .ptr 0 [] (some 0)), (2, .ptr 1 [] (some 0)), (4, .ptr 2 [] (some 0))]) (ts := [some (.ptr (.agg [.sh (.ints .u8 x98), .int .i64 x99, .int .u64 x100])), some (.ptr (.agg [.int .i64 ((0 : Int)), .int .i64 ((0 : Int)), .ints .i64 ([])])), some (.ptr (.agg [.int .i64 ((0 : Int)), .int .i64 ((w64 ((1 : Int) + v41.1))), .ints .i64 x101]))]) (n := 3) rfl rfl rfl rfl) (seqQ_n (?_))))
    refine wp_seq ?_
    obtain ⟨v128, hv128, h⟩ := bs h
    obtain ⟨v129, hv129, h⟩ := bs h
    refine wp_reg (nx' := 115) rfl (ev_den (.agg [(.vw _ _), (.vw _ _), (.ref 2 [.f 2] _ _ _)]) rfl (d_ld_os rfl (rget_of rfl (get_nil)) rfl (cells_cons rfl (cells_cons rfl (cells_cons rfl (cells_nil))))) (ev_call0 [(.agg [(.vw _ _), (.vw _ _), (.ref 2 [.f 2] _ _ _)])] rfl (call_ok (rs := []) (rd := [2]) rfl rfl rfl rfl (argL_cons (argT_a (argL_cons rfl (argL_cons rfl (argL_cons (argT_r (rget_of rfl (get_f rfl (get_nil))) sub_i) (argL_nil))))) (argL_nil)) rfl rfl (spec_boUsed_ok hv128) rfl rfl rfl rfl rfl) (ev_den (.ptr 0 [] (some 0)) rfl rfl (ev_call1 [(.ptr 0 [] (some 0)), (.vw _ _)] rfl (call_ok (rs := [0]) (rd := []) rfl rfl rfl rfl (argL_cons rfl (argL_cons rfl (argL_nil))) rfl rfl (spec_l1Cur_pick_ok hv129) rfl rfl rfl rfl rfl) (ev_den (.vw _ _) rfl rfl (ev_den (.ptr 2 [] (some 0)) rfl rfl (ev_wr0 rfl (w_st_o rfl rfl (st1_of rfl rfl rfl (get_f rfl (get_nil)) rfl (rput_p (put_f rfl (put_nil))))) (ev_nil)))))))) (seqQ_n (?_))
    refine wp_seq ?_
    refine wp_join (spec_l1Cur_timed_j2) (fun ((x138, x139, x140, x141, x142, x143) : (List Int) × Int × Int × Int × Int × (List Int)) => (⟨al .dead [(2, .ptr 1 [] (some 0)), (4, .ptr 2 [] (some 0))], hl [some (.ptr (.agg [.sh (.ints .u8 x138), .int .i64 x139, .int .u64 x140])), some (.ptr (.agg [.int .i64 ((0 : Int)), .int .i64 ((0 : Int)), .ints .i64 ([])])), some (.ptr (.agg [.int .i64 x141, .int .i64 x142, .ints .i64 x143]))], 3⟩ : St)) ?_ ?_
    · rintro ⟨x138, x139, x140, x141, x142, x143⟩ o h
      refine seqQ_n (?_)
      refine wp_seq ?_
      refine wp_reg (nx' := 35) rfl (ev_den (.agg [(.vw _ _), (.vw _ _), (.ref 2 [.f 2] _ _ _)]) rfl (d_ld_os rfl (rget_of rfl (get_nil)) rfl (cells_cons rfl (cells_cons rfl (cells_cons rfl (cells_nil))))) (ev_wr0 rfl (w_st_a rfl rfl rfl (stL_cons (st1_of rfl rfl rfl (get_f rfl (get_nil)) rfl (rput_p (put_f rfl (put_nil)))) rfl (stL_cons (st1_of rfl rfl rfl (get_f rfl (get_nil)) rfl (rput_p (put_f rfl (put_nil)))) rfl (stL_cons (st1_of (abs_refp (r := .ptr (.agg [.int .i64 x141, .int .i64 x142, .ints .i64 x143])) rfl (get_f rfl (get_nil)) sub_i (rput_p (put_f rfl (put_nil)))) rfl rfl (get_f rfl (get_nil)) rfl (rput_p (put_f rfl (put_nil)))) rfl (stL_nil))))) (ev_nil))) (seqQ_n (?_))
      cases h
      exact wp_ret (qf_r ((outs_ok (vs := [(.agg [(.vw _ _), (.vw _ _), (.ref 1 [.f 2] _ _ _)])]) rfl (absW_cons (retT_agg (absW_cons rfl rfl (absW_cons rfl rfl (absW_cons (ret1_ref (abs_refp (r := .ptr (.agg [.int .i64 x141, .int .i64 x142, .ints .i64 x143])) rfl (get_f rfl (get_nil)) sub_i (rput_p (put_f rfl (put_nil))))) rfl (absW_nil))))) rfl (absW_nil)) rfl rfl)))
    · refine wp_seq ?_
      obtain ⟨v144, hv144, h⟩ := bs h
      refine wp_reg (nx' := 147) rfl (ev_den (.ptr 0 [] (some 0)) rfl rfl (ev_call1 [(.ptr 0 [] (some 0)), (.vw _ _)] rfl (call_ok (rs := [0]) (rd := []) rfl rfl rfl rfl (argL_cons rfl (argL_cons rfl (argL_nil))) rfl rfl (spec_l1Cur_pick_ok hv144) rfl rfl rfl rfl rfl) (ev_nil))) (seqQ_n (?_))
      refine wp_gc ?_
      refine wp_blk ?_
      refine wp_seq ?_
      refine wp_reg (nx' := 179) rfl (ev_den (.vw _ _) rfl rfl (ev_den (.vw _ _) rfl rfl (ev_nil))) (seqQ_n (?_))
      rcases its h with ⟨hc152, h⟩ | ⟨hc152, h⟩
      · refine wp_ct rfl hc152 ?_
        obtain ⟨v153, hv153, h⟩ := bs h
        exact wp_reg (nx' := 259) rfl (ev_den (.ptr 0 [] (some 0)) rfl rfl (ev_den (.vw _ _) rfl rfl (ev_call1 [(.ptr 0 [] (some 0)), (.vw _ _)] rfl (call_ok (rs := [0]) (rd := []) rfl rfl rfl rfl (argL_cons rfl (argL_cons rfl (argL_nil))) rfl rfl (spec_l1Cur_among_ok hv153) rfl rfl rfl rfl rfl) (ev_den (.ptr 2 [] (some 0)) rfl rfl (ev_wr0 rfl (w_st_o rfl rfl (st1_of rfl rfl rfl (get_f rfl (get_nil)) rfl (rput_p (put_f rfl (put_nil))))) (ev_nil)))))) (blkQ_n (gcQ_n (gc_to [1, 2] (e := [(2, .ptr 1 [] (some 0)), (4, .ptr 2 [] (some 0))]) (ts := [some (.ptr (.agg [.sh (.ints .u8 v153.2.1), .int .i64 v153.2.2.1, .int .u64 v153.2.2.2])), some (.ptr (.agg [.int .i64 ((0 : Int)), .int .i64 ((0 : Int)), .ints .i64 ([])])), some (.ptr (.agg [.int .i64 v153.1, .int .i64 ((w64 ((1 : Int) + v41.1))), .ints .i64 x101]))]) (n := 3) rfl rfl rfl rfl) (joinQ_n (v153.2.1, v153.2.2.1, v153.2.2.2, v153.1, (w64 ((1 : Int) + v41.1)), x101) h (gc_to [1, 2] rfl rfl rfl rfl))))
      · refine wp_cf rfl hc152 ?_
        refine wp_seq ?_
        refine wp_reg (nx' := 211) rfl (ev_den (.vw _ _) rfl rfl (ev_den (.vw _ _) rfl rfl (ev_nil))) (seqQ_n (?_))
        rcases its h with ⟨hc160, h⟩ | ⟨hc160, h⟩
        · refine wp_ct rfl hc160 ?_
          obtain ⟨v161, hv161, h⟩ := bs h
          exact wp_reg (nx' := 291) rfl (ev_den (.ptr 0 [] (some 0)) rfl rfl (ev_den (.vw _ _) rfl rfl (ev_call1 [(.ptr 0 [] (some 0)), (.vw _ _)] rfl (call_ok (rs := [0]) (rd := []) rfl rfl rfl rfl (argL_cons rfl (argL_cons rfl (argL_nil))) rfl rfl (spec_l1Cur_among_ok hv161) rfl rfl rfl rfl rfl) (ev_den (.ptr 2 [] (some 1)) rfl rfl (ev_wr0 rfl (w_st_o rfl rfl (st1_of rfl rfl rfl (get_f rfl (get_nil)) rfl (rput_p (put_f rfl (put_nil))))) (ev_nil)))))) (blkQ_n (gcQ_n (gc_to [1, 2] (e := [(2, .ptr 1 [] (some 0)), (4, .ptr 2 [] (some 0))]) (ts := [some (.ptr (.agg [.sh (.ints .u8 v161.2.1), .int .i64 v161.2.2.1, .int .u64 v161.2.2.2])), some (.ptr (.agg [.int .i64 ((0 : Int)), .int .i64 ((0 : Int)), .ints .i64 ([])])), some (.ptr (.agg [.int .i64 ((w64 (v128 + v129.1))), .int .i64 v161.1, .ints .i64 x101]))]) (n := 3) rfl rfl rfl rfl) (joinQ_n (v161.2.1, v161.2.2.1, v161.2.2.2, (w64 (v128 + v129.1)), v161.1, x101) h (gc_to [1, 2] rfl rfl rfl rfl))))
        · refine wp_cf rfl hc160 ?_
          refine wp_seq ?_
          refine wp_reg (nx' := 243) rfl (ev_den (.vw _ _) rfl rfl (ev_den (.vw _ _) rfl rfl (ev_nil))) (seqQ_n (?_))
          rcases its h with ⟨hc168, h⟩ | ⟨hc168, h⟩
          · refine wp_ct rfl hc168 ?_
            refine wp_seq ?_
            obtain ⟨v169, hv169, h⟩ := bs h
            obtain ⟨u170, hu170, h⟩ := bs h
            refine wp_reg (nx' := 339) rfl (ev_den (.ptr 0 [] (some 0)) rfl rfl (ev_call1 [(.ptr 0 [] (some 0)), (.vw _ _)] rfl (call_ok (rs := [0]) (rd := []) rfl rfl rfl rfl (argL_cons rfl (argL_cons rfl (argL_nil))) rfl rfl (spec_l1Cur_pick_ok hv169) rfl rfl rfl rfl rfl) (ev_den (.vw _ _) rfl rfl (ev_new (.ref 291 [] 1 0 (List.length ((List.replicate (Int.toNat ((w64 ((12 : Int) + v169.1)))) (0 : Int))))) (.ints .i64 ((List.replicate (Int.toNat ((w64 ((12 : Int) + v169.1)))) (0 : Int)))) rfl (d_mks_i rfl rfl hu170) (ev_den (.ptr 2 [] (some 2)) rfl rfl (ev_wr0 rfl (w_st_o rfl rfl (st1_of (abs_ref rfl sub_i) rfl rfl (get_f rfl (get_nil)) rfl (rput_p (put_f rfl (put_nil))))) (ev_nil))))))) (seqQ_n (?_))
            exact wp_reg (nx' := 371) rfl (ev_den (.ptr 2 [] (some 0)) rfl rfl (ev_wr0 rfl (w_st_o rfl rfl (st1_of rfl rfl rfl (get_f rfl (get_nil)) rfl (rput_p (put_f rfl (put_nil))))) (ev_nil))) (blkQ_n (gcQ_n (gc_to [1, 2] (e := [(2, .ptr 1 [] (some 0)), (4, .ptr 2 [] (some 0))]) (ts := [some (.ptr (.agg [.sh (.ints .u8 v169.2.1), .int .i64 v169.2.2.1, .int .u64 v169.2.2.2])), some (.ptr (.agg [.int .i64 ((0 : Int)), .int .i64 ((0 : Int)), .ints .i64 ([])])), some (.ptr (.agg [.int .i64 ((60 : Int)), .int .i64 ((w64 ((1 : Int) + v41.1))), .ints .i64 ((List.replicate (Int.toNat ((w64 ((12 : Int) + v169.1)))) (0 : Int)))]))]) (n := 3) rfl rfl rfl rfl) (joinQ_n (v169.2.1, v169.2.2.1, v169.2.2.2, (60 : Int), (w64 ((1 : Int) + v41.1)), (List.replicate (Int.toNat ((w64 ((12 : Int) + v169.1)))) (0 : Int))) h (gc_to [1, 2] rfl rfl rfl rfl))))
          · refine wp_cf rfl hc168 ?_
            exact wp_skip (blkQ_n (gcQ_n (gc_to [1, 2] (e := [(2, .ptr 1 [] (some 0)), (4, .ptr 2 [] (some 0))]) (ts := [some (.ptr (.agg [.sh (.ints .u8 v144.2.1), .int .i64 v144.2.2.1, .int .u64 v144.2.2.2])), some (.ptr (.agg [.int .i64 ((0 : Int)), .int .i64 ((0 : Int)), .ints .i64 ([])])), some (.ptr (.agg [.int .i64 ((w64 (v128 + v129.1))), .int .i64 ((w64 ((1 : Int) + v41.1))), .ints .i64 x101]))]) (n := 3) rfl rfl rfl rfl) (joinQ_n (v144.2.1, v144.2.2.1, v144.2.2.2, (w64 (v128 + v129.1)), (w64 ((1 : Int) + v41.1)), x101) h (gc_to [1, 2] rfl rfl rfl rfl))))
end Go.Proofs.Ytoeddkfbhjmbmaa.Ev.Q2
