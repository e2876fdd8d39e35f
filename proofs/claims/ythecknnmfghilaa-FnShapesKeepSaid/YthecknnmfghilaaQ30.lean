/- What functions of the program come to, as plain functions; no condition. -/
import Derived.Test.YthecknnmfghilaaQ3C
set_option linter.unusedVariables false
set_option linter.unusedSimpArgs false
set_option maxRecDepth 100000
set_option maxHeartbeats 4000000
set_option linter.unusedVariables false
namespace Go.Proofs.Ythecknnmfghilaa.Ev.Q3
open Go
/-- loop.example/g01176/laws.big -/
noncomputable def laws_big (p0 : List Int) (p1 : List Int) : Option Bool :=
if (decide ((List.length p0 : Int) > (1048576 : Int))) = true then
some true
else
some (decide ((List.length p1 : Int) > (w64 ((1048576 : Int) - (List.length p0 : Int)))))
theorem laws_big_ok {p0 : List Int} {p1 : List Int} {o : Bool} (h : laws_big p0 p1 = some o) : RN 5 [.ints .u8 p0, .ints .u8 p1] [] = some (.bool o, []) := by
  refine fn_run (o := o) (nr := 0) (F := k5) (st := ⟨entry 0 [.vw [] (.ints .u8 p0), .vw [] (.ints .u8 p1)], fun n => ([] : List T)[n]?, 0⟩) (fun (o : Bool) => (.bool o, [])) rfl fns_5 rfl rfl ?_
  refine wp_seq ?_
  refine wp_reg (nx' := 16) rfl (ev_den (.vw _ _) rfl rfl (ev_nil)) (seqQ_n (?_))
  refine wp_seq ?_
  refine wp_gc ?_
  rcases its h with ⟨hc3, h⟩ | ⟨hc3, h⟩
  · refine wp_reg (nx' := 208) rfl (ev_den (.vw _ _) rfl rfl (ev_den (.vw _ _) rfl rfl (ev_den (.vw _ _) rfl rfl (ev_den (.vw _ _) rfl rfl (ev_off rfl hc3 (ev_off rfl hc3 (ev_off rfl hc3 (ev_off rfl hc3 (ev_off rfl hc3 (ev_off rfl hc3 (ev_den (.vw _ _) rfl (d_pick_t rfl hc3 rfl) (ev_den (.vw _ _) rfl rfl (ev_nil))))))))))))) (gcQ_n (gc_to [] (e := [(4, .vw [] (.bool true))]) (ts := []) (n := 0) rfl rfl rfl rfl) (seqQ_n (?_)))
    replace h := Option.some.inj h
    subst h
    exact wp_ret (qf_r ((outs_ok (vs := [(.vw _ _)]) rfl (absW_cons rfl rfl (absW_nil)) rfl rfl)))
  · refine wp_reg (nx' := 208) rfl (ev_den (.vw _ _) rfl rfl (ev_den (.vw _ _) rfl rfl (ev_den (.vw _ _) rfl rfl (ev_den (.vw _ _) rfl rfl (ev_on rfl hc3 (ev_den (.vw _ _) rfl rfl (ev_on rfl hc3 (ev_den (.vw _ _) rfl rfl (ev_on rfl hc3 (ev_den (.vw _ _) rfl rfl (ev_on rfl hc3 (ev_den (.vw _ _) rfl rfl (ev_on rfl hc3 (ev_den (.vw _ _) rfl rfl (ev_on rfl hc3 (ev_den (.vw _ _) rfl rfl (ev_den (.vw _ _) rfl (d_pick_f rfl hc3 rfl) (ev_den (.vw _ _) rfl rfl (ev_nil))))))))))))))))))) (gcQ_n (gc_to [] (e := [(4, .vw [] (.bool ((decide ((List.length p1 : Int) > (w64 ((1048576 : Int) - (List.length p0 : Int))))))))]) (ts := []) (n := 0) rfl rfl rfl rfl) (seqQ_n (?_)))
    replace h := Option.some.inj h
    subst h
    exact wp_ret (qf_r ((outs_ok (vs := [(.vw _ _)]) rfl (absW_cons rfl rfl (absW_nil)) rfl rfl)))
noncomputable def spec_l1Cur_next_j1 (c0 : (List Int) × Int × Int) : Int → Option (Int × ((List Int) × Int × Int)) := fun x9 =>
(some ((IntKind.wrap .u64 ((IntKind.wrap .u64 (c0.2.2 * (6364136223846793005 : Int))) + (IntKind.wrap .u64 (x9)))))).bind fun v10 =>
if (decide ((w64 (c0.2.1 + (1 : Int))) ≤ (List.length c0.1 : Int))) = true then
some (x9, (c0.1, (w64 (c0.2.1 + (1 : Int))), (IntKind.wrap .u64 (v10 + (1442695040888963407 : Int)))))
else
(some ((andK .u64 (Int.fdiv (IntKind.wrap .u64 (v10 + (1442695040888963407 : Int))) ((2 : Int) ^ 40)) (255 : Int)))).bind fun v13 =>
some ((w64 (v13)), (c0.1, (w64 (c0.2.1 + (1 : Int))), (IntKind.wrap .u64 (v10 + (1442695040888963407 : Int)))))
/-- (*loop.example/g01176/spec.l1Cur).next -/
noncomputable def spec_l1Cur_next (c0 : (List Int) × Int × Int) : Option (Int × ((List Int) × Int × Int)) :=
if (decide (c0.2.1 < (List.length c0.1 : Int))) = true then
(at? c0.1 c0.2.1).bind fun v15 =>
spec_l1Cur_next_j1 c0 (w64 (v15))
else
spec_l1Cur_next_j1 c0 (0 : Int)
theorem spec_l1Cur_next_ok {c0 : (List Int) × Int × Int} {o : Int × ((List Int) × Int × Int)} (h : spec_l1Cur_next c0 = some o) : RN 68 [.ref 0] [.ptr (.agg [.sh (.ints .u8 c0.1), .int .i64 c0.2.1, .int .u64 c0.2.2])] = some (.int .i64 o.1, [.ptr (.agg [.sh (.ints .u8 o.2.1), .int .i64 o.2.2.1, .int .u64 o.2.2.2])]) := by
  refine fn_run (o := o) (nr := 1) (F := k68) (st := ⟨entry 0 [.ptr 0 [] (some 0)], fun n => ([.ptr (.agg [.sh (.ints .u8 c0.1), .int .i64 c0.2.1, .int .u64 c0.2.2])] : List T)[n]?, 1⟩) (fun (o : Int × ((List Int) × Int × Int)) => (.int .i64 o.1, [.ptr (.agg [.sh (.ints .u8 o.2.1), .int .i64 o.2.2.1, .int .u64 o.2.2.2])])) rfl fns_68 rfl rfl ?_
  refine wp_seq ?_
  refine wp_reg (nx' := 17) rfl (ev_den (.vw _ _) rfl rfl (ev_nil)) (seqQ_n (?_))
  refine wp_seq ?_
  refine wp_reg (nx' := 33) rfl (ev_den (.vw _ _) rfl rfl (ev_nil)) (seqQ_n (?_))
  refine wp_seq ?_
  refine wp_join (spec_l1Cur_next_j1 c0) (fun (x9 : Int) => (⟨al .dead [(0, .ptr 0 [] (some 0)), (3, .vw [] (.int .i64 x9))], hl [some (.ptr (.agg [.sh (.ints .u8 c0.1), .int .i64 c0.2.1, .int .u64 c0.2.2]))], 1⟩ : St)) ?_ ?_
  · rintro x9 o h
    unfold spec_l1Cur_next_j1 at h
    refine seqQ_n (?_)
    refine wp_seq ?_
    refine wp_reg (nx' := 129) rfl (ev_den (.ptr 0 [] (some 0)) rfl rfl (ev_den (.ptr 0 [] (some 0)) rfl rfl (ev_den (.ptr 0 [] (some 1)) rfl rfl (ev_den (.vw _ _) rfl (d_ld_o rfl (rget_of rfl (get_nil)) rfl rfl) (ev_den (.vw _ _) rfl rfl (ev_den (.ptr 0 [] (some 0)) rfl rfl (ev_den (.ptr 0 [] (some 1)) rfl rfl (ev_wr0 rfl (w_st_o rfl rfl (st1_of rfl rfl rfl (get_f rfl (get_nil)) rfl (rput_p (put_f rfl (put_nil))))) (ev_nil))))))))) (seqQ_n (?_))
    refine wp_seq ?_
    obtain ⟨v10, hv10, h⟩ := bs h
    refine wp_reg (nx' := 337) rfl (ev_den (.ptr 0 [] (some 0)) rfl rfl (ev_den (.ptr 0 [] (some 0)) rfl rfl (ev_den (.ptr 0 [] (some 0)) rfl rfl (ev_den (.ptr 0 [] (some 2)) rfl rfl (ev_den (.vw _ _) rfl (d_ld_o rfl (rget_of rfl (get_nil)) rfl rfl) (ev_den (.vw _ _) rfl rfl (ev_den (.vw _ _) rfl rfl (ev_den (.vw _ _) rfl rfl (ev_den (.vw [] (.int .u64 v10)) rfl (d_as_i rfl (Option.some.inj hv10)) (ev_den (.vw _ _) rfl rfl (ev_den (.ptr 0 [] (some 0)) rfl rfl (ev_den (.ptr 0 [] (some 2)) rfl rfl (ev_wr0 rfl (w_st_o rfl rfl (st1_of rfl rfl rfl (get_f rfl (get_nil)) rfl (rput_p (put_f rfl (put_nil))))) (ev_nil)))))))))))))) (seqQ_n (?_))
    refine wp_seq ?_
    refine wp_gc ?_
    refine wp_seq ?_
    refine wp_reg (nx' := 497) rfl (ev_den (.ptr 0 [] (some 0)) rfl rfl (ev_den (.ptr 0 [] (some 0)) rfl rfl (ev_den (.ptr 0 [] (some 1)) rfl rfl (ev_den (.vw _ _) rfl (d_ld_o rfl (rget_of rfl (get_nil)) rfl rfl) (ev_den (.ptr 0 [] (some 0)) rfl rfl (ev_den (.ptr 0 [] (some 0)) rfl rfl (ev_den (.ptr 0 [] (some 0)) rfl rfl (ev_den (.vw _ _) rfl (d_ld_o rfl (rget_of rfl (get_nil)) rfl rfl) (ev_den (.vw _ _) rfl rfl (ev_den (.vw _ _) rfl rfl (ev_nil))))))))))) (seqQ_n (?_))
    rcases its h with ⟨hc12, h⟩ | ⟨hc12, h⟩
    · refine wp_ct rfl hc12 ?_
      refine wp_seq ?_
      refine wp_reg (nx' := 529) rfl (ev_den (.vw _ _) rfl rfl (ev_den (.vw _ _) rfl rfl (ev_nil))) (seqQ_n (?_))
      replace h := Option.some.inj h
      subst h
      exact wp_ret (gcQ_r (seqQ_r (qf_r ((outs_ok (vs := [(.vw _ _)]) rfl (absW_cons rfl rfl (absW_nil)) rfl rfl)))))
    · refine wp_cf rfl hc12 ?_
      refine wp_skip (gcQ_n (gc_to [] (e := [(0, .ptr 0 [] (some 0))]) (ts := [some (.ptr (.agg [.sh (.ints .u8 c0.1), .int .i64 ((w64 (c0.2.1 + (1 : Int)))), .int .u64 ((IntKind.wrap .u64 (v10 + (1442695040888963407 : Int))))]))]) (n := 1) rfl rfl rfl rfl) (seqQ_n (?_)))
      refine wp_seq ?_
      obtain ⟨v13, hv13, h⟩ := bs h
      refine wp_reg (nx' := 129) rfl (ev_den (.ptr 0 [] (some 0)) rfl rfl (ev_den (.ptr 0 [] (some 0)) rfl rfl (ev_den (.ptr 0 [] (some 2)) rfl rfl (ev_den (.vw _ _) rfl (d_ld_o rfl (rget_of rfl (get_nil)) rfl rfl) (ev_den (.vw _ _) rfl (d_shr (u := ()) rfl rfl rfl) (ev_den (.vw [] (.int .u64 v13)) rfl (d_as_i rfl (Option.some.inj hv13)) (ev_den (.vw _ _) rfl rfl (ev_den (.vw _ _) rfl rfl (ev_nil))))))))) (seqQ_n (?_))
      replace h := Option.some.inj h
      subst h
      exact wp_ret (qf_r ((outs_ok (vs := [(.vw _ _)]) rfl (absW_cons rfl rfl (absW_nil)) rfl rfl)))
  · refine wp_seq ?_
    refine wp_reg (nx' := 193) rfl (ev_den (.ptr 0 [] (some 0)) rfl rfl (ev_den (.ptr 0 [] (some 0)) rfl rfl (ev_den (.ptr 0 [] (some 1)) rfl rfl (ev_den (.vw _ _) rfl (d_ld_o rfl (rget_of rfl (get_nil)) rfl rfl) (ev_den (.ptr 0 [] (some 0)) rfl rfl (ev_den (.ptr 0 [] (some 0)) rfl rfl (ev_den (.ptr 0 [] (some 0)) rfl rfl (ev_den (.vw _ _) rfl (d_ld_o rfl (rget_of rfl (get_nil)) rfl rfl) (ev_den (.vw _ _) rfl rfl (ev_den (.vw _ _) rfl rfl (ev_nil))))))))))) (seqQ_n (?_))
    rcases its h with ⟨hc14, h⟩ | ⟨hc14, h⟩
    · refine wp_ct rfl hc14 ?_
      obtain ⟨v15, hv15, h⟩ := bs h
      exact wp_reg (nx' := 385) rfl (ev_den (.ptr 0 [] (some 0)) rfl rfl (ev_den (.ptr 0 [] (some 0)) rfl rfl (ev_den (.ptr 0 [] (some 0)) rfl rfl (ev_den (.vw _ _) rfl (d_ld_o rfl (rget_of rfl (get_nil)) rfl rfl) (ev_den (.ptr 0 [] (some 0)) rfl rfl (ev_den (.ptr 0 [] (some 0)) rfl rfl (ev_den (.ptr 0 [] (some 1)) rfl rfl (ev_den (.vw _ _) rfl (d_ld_o rfl (rget_of rfl (get_nil)) rfl rfl) (ev_den (.pv _ _) rfl (d_idx_vi rfl rfl hv15) (ev_den (.vw _ _) rfl rfl (ev_den (.vw _ _) rfl rfl (ev_den (.vw _ _) rfl rfl (ev_nil))))))))))))) (joinQ_n (w64 (v15)) h (gc_to [] rfl rfl rfl rfl))
    · refine wp_cf rfl hc14 ?_
      exact wp_skip (joinQ_n (0 : Int) h (gc_to [] rfl rfl rfl rfl))
noncomputable def spec_l1Cur_pick_j1 (p1 : Int) : ((List Int) × Int × Int × Int) → Option (Int × ((List Int) × Int × Int)) := fun (x15, x16, x17, x18) =>
(nz? p1).bind fun u19 =>
some ((Int.tmod x18 p1), (x15, x16, x17))
/-- (*loop.example/g01176/spec.l1Cur).pick -/
noncomputable def spec_l1Cur_pick (p1 : Int) (c0 : (List Int) × Int × Int) : Option (Int × ((List Int) × Int × Int)) :=
if (decide (p1 ≤ (1 : Int))) = true then
some ((0 : Int), c0)
else
(spec_l1Cur_next c0).bind fun v12 =>
if (decide (p1 > (200 : Int))) = true then
(spec_l1Cur_next v12.2).bind fun v21 =>
spec_l1Cur_pick_j1 p1 (v21.2.1, v21.2.2.1, v21.2.2.2, (w64 ((w64 (v12.1 * (256 : Int))) + v21.1)))
else
spec_l1Cur_pick_j1 p1 (v12.2.1, v12.2.2.1, v12.2.2.2, v12.1)
theorem spec_l1Cur_pick_ok {p1 : Int} {c0 : (List Int) × Int × Int} {o : Int × ((List Int) × Int × Int)} (h : spec_l1Cur_pick p1 c0 = some o) : RN 49 [.ref 0, .int .i64 p1] [.ptr (.agg [.sh (.ints .u8 c0.1), .int .i64 c0.2.1, .int .u64 c0.2.2])] = some (.int .i64 o.1, [.ptr (.agg [.sh (.ints .u8 o.2.1), .int .i64 o.2.2.1, .int .u64 o.2.2.2])]) := by
  refine fn_run (o := o) (nr := 1) (F := k49) (st := ⟨entry 0 [.ptr 0 [] (some 0), .vw [] (.int .i64 p1)], fun n => ([.ptr (.agg [.sh (.ints .u8 c0.1), .int .i64 c0.2.1, .int .u64 c0.2.2])] : List T)[n]?, 1⟩) (fun (o : Int × ((List Int) × Int × Int)) => (.int .i64 o.1, [.ptr (.agg [.sh (.ints .u8 o.2.1), .int .i64 o.2.2.1, .int .u64 o.2.2.2])])) rfl fns_49 rfl rfl ?_
  refine wp_seq ?_
  refine wp_reg (nx' := 17) rfl (ev_den (.vw _ _) rfl rfl (ev_nil)) (seqQ_n (?_))
  refine wp_seq ?_
  refine wp_gc ?_
  refine wp_seq ?_
  refine wp_reg (nx' := 49) rfl (ev_den (.vw _ _) rfl rfl (ev_den (.vw _ _) rfl rfl (ev_nil))) (seqQ_n (?_))
  rcases its h with ⟨hc11, h⟩ | ⟨hc11, h⟩
  · refine wp_ct rfl hc11 ?_
    refine wp_seq ?_
    refine wp_reg (nx' := 65) rfl (ev_den (.vw _ _) rfl rfl (ev_nil)) (seqQ_n (?_))
    replace h := Option.some.inj h
    subst h
    exact wp_ret (gcQ_r (seqQ_r (qf_r ((outs_ok (vs := [(.vw _ _)]) rfl (absW_cons rfl rfl (absW_nil)) rfl rfl)))))
  · refine wp_cf rfl hc11 ?_
    refine wp_skip (gcQ_n (gc_to [] (e := [(0, .ptr 0 [] (some 0)), (1, .vw [] (.int .i64 p1))]) (ts := [some (.ptr (.agg [.sh (.ints .u8 c0.1), .int .i64 c0.2.1, .int .u64 c0.2.2]))]) (n := 1) rfl rfl rfl rfl) (seqQ_n (?_)))
    refine wp_seq ?_
    obtain ⟨v12, hv12, h⟩ := bs h
    refine wp_reg (nx' := 49) rfl (ev_den (.ptr 0 [] (some 0)) rfl rfl (ev_call1 [(.ptr 0 [] (some 0))] rfl (call_ok (rs := [0]) (rd := []) rfl rfl rfl rfl (argL_cons rfl (argL_nil)) rfl rfl (spec_l1Cur_next_ok hv12) rfl rfl rfl rfl rfl) (ev_den (.vw _ _) rfl rfl (ev_nil)))) (seqQ_n (?_))
    refine wp_seq ?_
    refine wp_join (spec_l1Cur_pick_j1 p1) (fun ((x15, x16, x17, x18) : (List Int) × Int × Int × Int) => (⟨al .dead [(1, .vw [] (.int .i64 p1)), (5, .vw [] (.int .i64 x18))], hl [some (.ptr (.agg [.sh (.ints .u8 x15), .int .i64 x16, .int .u64 x17]))], 1⟩ : St)) ?_ ?_
    · rintro ⟨x15, x16, x17, x18⟩ o h
      unfold spec_l1Cur_pick_j1 at h
      refine seqQ_n (?_)
      refine wp_seq ?_
      obtain ⟨u19, hu19, h⟩ := bs h
      refine wp_reg (nx' := 65) rfl (ev_den (.vw _ _) rfl rfl (ev_den (.vw _ _) rfl rfl (ev_den (.vw _ _) rfl (d_rem rfl rfl hu19) (ev_den (.vw _ _) rfl rfl (ev_nil))))) (seqQ_n (?_))
      replace h := Option.some.inj h
      subst h
      exact wp_ret (qf_r ((outs_ok (vs := [(.vw _ _)]) rfl (absW_cons rfl rfl (absW_nil)) rfl rfl)))
    · refine wp_seq ?_
      refine wp_reg (nx' := 81) rfl (ev_den (.vw _ _) rfl rfl (ev_den (.vw _ _) rfl rfl (ev_nil))) (seqQ_n (?_))
      rcases its h with ⟨hc20, h⟩ | ⟨hc20, h⟩
      · refine wp_ct rfl hc20 ?_
        obtain ⟨v21, hv21, h⟩ := bs h
        exact wp_reg (nx' := 177) rfl (ev_den (.vw _ _) rfl rfl (ev_den (.vw _ _) rfl rfl (ev_den (.ptr 0 [] (some 0)) rfl rfl (ev_call1 [(.ptr 0 [] (some 0))] rfl (call_ok (rs := [0]) (rd := []) rfl rfl rfl rfl (argL_cons rfl (argL_nil)) rfl rfl (spec_l1Cur_next_ok hv21) rfl rfl rfl rfl rfl) (ev_den (.vw _ _) rfl rfl (ev_den (.vw _ _) rfl rfl (ev_nil))))))) (joinQ_n (v21.2.1, v21.2.2.1, v21.2.2.2, (w64 ((w64 (v12.1 * (256 : Int))) + v21.1))) h (gc_to [] rfl rfl rfl rfl))
      · refine wp_cf rfl hc20 ?_
        exact wp_skip (joinQ_n (v12.2.1, v12.2.2.1, v12.2.2.2, v12.1) h (gc_to [] rfl rfl rfl rfl))
/-- (*loop.example/g01176/spec.l1Cur).one -/
noncomputable def spec_l1Cur_one (p1 : Int) (c0 : (List Int) × Int × Int) : Option (Bool × ((List Int) × Int × Int)) :=
(spec_l1Cur_pick p1 c0).bind fun v2 =>
some ((v2.1 == (0 : Int)), v2.2)
theorem spec_l1Cur_one_ok {p1 : Int} {c0 : (List Int) × Int × Int} {o : Bool × ((List Int) × Int × Int)} (h : spec_l1Cur_one p1 c0 = some o) : RN 47 [.ref 0, .int .i64 p1] [.ptr (.agg [.sh (.ints .u8 c0.1), .int .i64 c0.2.1, .int .u64 c0.2.2])] = some (.bool o.1, [.ptr (.agg [.sh (.ints .u8 o.2.1), .int .i64 o.2.2.1, .int .u64 o.2.2.2])]) := by
  refine fn_run (o := o) (nr := 1) (F := k47) (st := ⟨entry 0 [.ptr 0 [] (some 0), .vw [] (.int .i64 p1)], fun n => ([.ptr (.agg [.sh (.ints .u8 c0.1), .int .i64 c0.2.1, .int .u64 c0.2.2])] : List T)[n]?, 1⟩) (fun (o : Bool × ((List Int) × Int × Int)) => (.bool o.1, [.ptr (.agg [.sh (.ints .u8 o.2.1), .int .i64 o.2.2.1, .int .u64 o.2.2.2])])) rfl fns_47 rfl rfl ?_
  refine wp_seq ?_
  refine wp_reg (nx' := 17) rfl (ev_den (.vw _ _) rfl rfl (ev_nil)) (seqQ_n (?_))
  refine wp_seq ?_
  obtain ⟨v2, hv2, h⟩ := bs h
  refine wp_reg (nx' := 97) rfl (ev_den (.ptr 0 [] (some 0)) rfl rfl (ev_den (.vw _ _) rfl rfl (ev_call1 [(.ptr 0 [] (some 0)), (.vw _ _)] rfl (call_ok (rs := [0]) (rd := []) rfl rfl rfl rfl (argL_cons rfl (argL_cons rfl (argL_nil))) rfl rfl (spec_l1Cur_pick_ok hv2) rfl rfl rfl rfl rfl) (ev_den (.vw _ _) rfl rfl (ev_den (.vw _ _) rfl rfl (ev_nil)))))) (seqQ_n (?_))
  replace h := Option.some.inj h
  subst h
  exact wp_ret (qf_r ((outs_ok (vs := [(.vw _ _)]) rfl (absW_cons rfl rfl (absW_nil)) rfl rfl)))
/-- (*loop.example/g01176/spec.l1Cur).among -/
noncomputable def spec_l1Cur_among (p1 : List Int) (c0 : (List Int) × Int × Int) : Option (Int × ((List Int) × Int × Int)) :=
(spec_l1Cur_pick ((List.length p1 : Int)) c0).bind fun v3 =>
(at? p1 v3.1).bind fun v4 =>
some (v4, v3.2)
theorem spec_l1Cur_among_ok {p1 : List Int} {c0 : (List Int) × Int × Int} {o : Int × ((List Int) × Int × Int)} (h : spec_l1Cur_among p1 c0 = some o) : RN 48 [.ref 0, .ints .i64 p1] [.ptr (.agg [.sh (.ints .u8 c0.1), .int .i64 c0.2.1, .int .u64 c0.2.2])] = some (.int .i64 o.1, [.ptr (.agg [.sh (.ints .u8 o.2.1), .int .i64 o.2.2.1, .int .u64 o.2.2.2])]) := by
  refine fn_run (o := o) (nr := 1) (F := k48) (st := ⟨entry 0 [.ptr 0 [] (some 0), .vw [] (.ints .i64 p1)], fun n => ([.ptr (.agg [.sh (.ints .u8 c0.1), .int .i64 c0.2.1, .int .u64 c0.2.2])] : List T)[n]?, 1⟩) (fun (o : Int × ((List Int) × Int × Int)) => (.int .i64 o.1, [.ptr (.agg [.sh (.ints .u8 o.2.1), .int .i64 o.2.2.1, .int .u64 o.2.2.2])])) rfl fns_48 rfl rfl ?_
  refine wp_seq ?_
  refine wp_reg (nx' := 17) rfl (ev_den (.vw _ _) rfl rfl (ev_nil)) (seqQ_n (?_))
  refine wp_seq ?_
  obtain ⟨v3, hv3, h⟩ := bs h
  obtain ⟨v4, hv4, h⟩ := bs h
  refine wp_reg (nx' := 145) rfl (ev_den (.vw _ _) rfl rfl (ev_den (.ptr 0 [] (some 0)) rfl rfl (ev_den (.vw _ _) rfl rfl (ev_den (.vw _ _) rfl rfl (ev_call1 [(.ptr 0 [] (some 0)), (.vw _ _)] rfl (call_ok (rs := [0]) (rd := []) rfl rfl rfl rfl (argL_cons rfl (argL_cons rfl (argL_nil))) rfl rfl (spec_l1Cur_pick_ok hv3) rfl rfl rfl rfl rfl) (ev_den (.pv _ _) rfl (d_idx_vi rfl rfl hv4) (ev_den (.vw _ _) rfl rfl (ev_den (.vw _ _) rfl rfl (ev_nil))))))))) (seqQ_n (?_))
  replace h := Option.some.inj h
  subst h
  exact wp_ret (qf_r ((outs_ok (vs := [(.vw _ _)]) rfl (absW_cons rfl rfl (absW_nil)) rfl rfl)))
/-- (*loop.example/g01176/spec.l1Cur).bucket -/
noncomputable def spec_l1Cur_bucket (c0 : (List Int) × Int × Int) : Option ((Int × Int) × ((List Int) × Int × Int)) :=
(spec_l1Cur_one ((12 : Int)) c0).bind fun v11 =>
if v11.1 = true then
(spec_l1Cur_among (([(0 : Int), (1 : Int), (100 : Int), (101 : Int), (-1 : Int)] : List Int)) v11.2).bind fun v13 =>
(spec_l1Cur_among (([(0 : Int), (1 : Int), (1000 : Int), (1001 : Int), (4611686018427387904 : Int)] : List Int)) v13.2).bind fun v14 =>
some ((v13.1, v14.1), v14.2)
else
(spec_l1Cur_pick ((6 : Int)) v11.2).bind fun v15 =>
(spec_l1Cur_pick ((20 : Int)) v15.2).bind fun v16 =>
some (((w64 ((1 : Int) + v15.1)), (w64 ((1 : Int) + v16.1))), v16.2)
theorem spec_l1Cur_bucket_ok {c0 : (List Int) × Int × Int} {o : (Int × Int) × ((List Int) × Int × Int)} (h : spec_l1Cur_bucket c0 = some o) : RN 37 [.ref 0] [.ptr (.agg [.sh (.ints .u8 c0.1), .int .i64 c0.2.1, .int .u64 c0.2.2])] = some (.agg [.int .i64 o.1.1, .int .i64 o.1.2], [.ptr (.agg [.sh (.ints .u8 o.2.1), .int .i64 o.2.2.1, .int .u64 o.2.2.2])]) := by
  refine fn_run (o := o) (nr := 1) (F := k37) (st := ⟨entry 0 [.ptr 0 [] (some 0)], fun n => ([.ptr (.agg [.sh (.ints .u8 c0.1), .int .i64 c0.2.1, .int .u64 c0.2.2])] : List T)[n]?, 1⟩) (fun (o : (Int × Int) × ((List Int) × Int × Int)) => (.agg [.int .i64 o.1.1, .int .i64 o.1.2], [.ptr (.agg [.sh (.ints .u8 o.2.1), .int .i64 o.2.2.1, .int .u64 o.2.2.2])])) rfl fns_37 rfl rfl ?_
  refine wp_seq ?_
  refine wp_reg (nx' := 17) rfl (ev_new (.ptr 1 [] (some 0)) (.ptr (.agg [.int .i64 ((0 : Int)), .int .i64 ((0 : Int))])) rfl rfl (ev_nil)) (seqQ_n (?_))
  refine wp_seq ?_
  refine wp_gc ?_
  refine wp_seq ?_
  obtain ⟨v11, hv11, h⟩ := bs h
  refine wp_reg (nx' := 49) rfl (ev_den (.ptr 0 [] (some 0)) rfl rfl (ev_call1 [(.ptr 0 [] (some 0)), (.vw _ _)] rfl (call_ok (rs := [0]) (rd := []) rfl rfl rfl rfl (argL_cons rfl (argL_cons rfl (argL_nil))) rfl rfl (spec_l1Cur_one_ok hv11) rfl rfl rfl rfl rfl) (ev_nil))) (seqQ_n (?_))
  rcases its h with ⟨hc12, h⟩ | ⟨hc12, h⟩
  · refine wp_ct rfl hc12 ?_
    refine wp_seq ?_
    obtain ⟨v13, hv13, h⟩ := bs h
    obtain ⟨v14, hv14, h⟩ := bs h
    refine wp_reg (nx' := 177) rfl (ev_den (.ptr 0 [] (some 0)) rfl rfl (ev_den (.vw _ _) rfl rfl (ev_call1 [(.ptr 0 [] (some 0)), (.vw _ _)] rfl (call_ok (rs := [0]) (rd := []) rfl rfl rfl rfl (argL_cons rfl (argL_cons rfl (argL_nil))) rfl rfl (spec_l1Cur_among_ok hv13) rfl rfl rfl rfl rfl) (ev_den (.ptr 0 [] (some 0)) rfl rfl (ev_den (.vw _ _) rfl rfl (ev_call1 [(.ptr 0 [] (some 0)), (.vw _ _)] rfl (call_ok (rs := [0]) (rd := []) rfl rfl rfl rfl (argL_cons rfl (argL_cons rfl (argL_nil))) rfl rfl (spec_l1Cur_among_ok hv14) rfl rfl rfl rfl rfl) (ev_den (.agg [(.vw _ _), (.vw _ _)]) rfl rfl (ev_wr0 rfl (w_st_a rfl rfl rfl (stL_cons (st1_of rfl rfl rfl (get_f rfl (get_nil)) rfl (rput_p (put_f rfl (put_nil)))) rfl (stL_cons (st1_of rfl rfl rfl (get_f rfl (get_nil)) rfl (rput_p (put_f rfl (put_nil)))) rfl (stL_nil)))) (ev_nil))))))))) (seqQ_n (?_))
    replace h := Option.some.inj h
    subst h
    exact wp_ret (gcQ_r (seqQ_r (qf_r ((outs_ok (vs := [(.agg [(.vw _ _), (.vw _ _)])]) rfl (absW_cons (retT_agg (absW_cons rfl rfl (absW_cons rfl rfl (absW_nil)))) rfl (absW_nil)) rfl rfl)))))
  · refine wp_cf rfl hc12 ?_
    refine wp_skip (gcQ_n (gc_to [1] (e := [(0, .ptr 0 [] (some 0)), (2, .ptr 1 [] (some 0))]) (ts := [some (.ptr (.agg [.sh (.ints .u8 v11.2.1), .int .i64 v11.2.2.1, .int .u64 v11.2.2.2])), some (.ptr (.agg [.int .i64 ((0 : Int)), .int .i64 ((0 : Int))]))]) (n := 2) rfl rfl rfl rfl) (seqQ_n (?_)))
    refine wp_seq ?_
    obtain ⟨v15, hv15, h⟩ := bs h
    obtain ⟨v16, hv16, h⟩ := bs h
    refine wp_reg (nx' := 130) rfl (ev_den (.ptr 0 [] (some 0)) rfl rfl (ev_call1 [(.ptr 0 [] (some 0)), (.vw _ _)] rfl (call_ok (rs := [0]) (rd := []) rfl rfl rfl rfl (argL_cons rfl (argL_cons rfl (argL_nil))) rfl rfl (spec_l1Cur_pick_ok hv15) rfl rfl rfl rfl rfl) (ev_den (.vw _ _) rfl rfl (ev_den (.ptr 0 [] (some 0)) rfl rfl (ev_call1 [(.ptr 0 [] (some 0)), (.vw _ _)] rfl (call_ok (rs := [0]) (rd := []) rfl rfl rfl rfl (argL_cons rfl (argL_cons rfl (argL_nil))) rfl rfl (spec_l1Cur_pick_ok hv16) rfl rfl rfl rfl rfl) (ev_den (.vw _ _) rfl rfl (ev_den (.agg [(.vw _ _), (.vw _ _)]) rfl rfl (ev_wr0 rfl (w_st_a rfl rfl rfl (stL_cons (st1_of rfl rfl rfl (get_f rfl (get_nil)) rfl (rput_p (put_f rfl (put_nil)))) rfl (stL_cons (st1_of rfl rfl rfl (get_f rfl (get_nil)) rfl (rput_p (put_f rfl (put_nil)))) rfl (stL_nil)))) (ev_nil))))))))) (seqQ_n (?_))
    replace h := Option.some.inj h
    subst h
    exact wp_ret (qf_r ((outs_ok (vs := [(.agg [(.vw _ _), (.vw _ _)])]) rfl (absW_cons (retT_agg (absW_cons rfl rfl (absW_cons rfl rfl (absW_nil)))) rfl (absW_nil)) rfl rfl)))
noncomputable def spec_l1Cur_traffic_j2 (x126 : List Int) (x127 : Int) : ((List Int) × Int × Int × Int) → Option (((List Int) × Int × Int × (List Int) × Int) ⊕ ((List Int) × Int × Int × (List Int))) := fun (x181, x182, x183, x184) =>
(app? x126 (([x184] : List Int))).bind fun v185 =>
some (.inl (x181, x182, x183, v185, (w64 (x127 - (1 : Int)))))
noncomputable def spec_l1Cur_traffic_s1 (v46 : Int × ((List Int) × Int × Int)) : ((List Int) × Int × Int × (List Int) × Int) → Option (((List Int) × Int × Int × (List Int) × Int) ⊕ ((List Int) × Int × Int × (List Int))) := fun (x123, x124, x125, x126, x127) =>
if (decide (x127 > (0 : Int))) = true then
(spec_l1Cur_one ((3 : Int)) ((x123, x124, x125))).bind fun v191 =>
if (!v191.1) = true then
(spec_l1Cur_pick v46.1 v191.2).bind fun v193 =>
spec_l1Cur_traffic_j2 x126 x127 (v193.2.1, v193.2.2.1, v193.2.2.2, v193.1)
else
spec_l1Cur_traffic_j2 x126 x127 (v191.2.1, v191.2.2.1, v191.2.2.2, (0 : Int))
else
some (.inr (x123, x124, x125, x126))
noncomputable def spec_l1Cur_traffic_l1 (v46 : Int × ((List Int) × Int × Int)) : ((List Int) × Int × Int × (List Int) × Int) → Option ((List Int) × Int × Int × (List Int)) := iter (spec_l1Cur_traffic_s1 v46)
noncomputable def spec_l1Cur_traffic_j3 : ((List Int) × Int × Int × (List Int)) → Option ((List Int) × ((List Int) × Int × Int)) := fun (x214, x215, x216, x217) =>
some (x217, (x214, x215, x216))
/-- (*loop.example/g01176/spec.l1Cur).traffic -/
noncomputable def spec_l1Cur_traffic (c0 : (List Int) × Int × Int) : Option ((List Int) × ((List Int) × Int × Int)) :=
(spec_l1Cur_among (([(3 : Int), (6 : Int), (12 : Int), (30 : Int)] : List Int)) c0).bind fun v46 =>
(spec_l1Cur_pick ((12 : Int)) v46.2).bind fun v81 =>
(spec_l1Cur_traffic_l1 v46 (v81.2.1, v81.2.2.1, v81.2.2.2, [], v81.1)).bind fun (x142, x143, x144, x145) =>
(spec_l1Cur_pick ((14 : Int)) ((x142, x143, x144))).bind fun v218 =>
if (v218.1 == (0 : Int)) = true then
(spec_l1Cur_among (([(-1 : Int), (1000 : Int), (1001 : Int), (4611686018427387904 : Int)] : List Int)) v218.2).bind fun v226 =>
(app? x145 (([v226.1] : List Int))).bind fun v227 =>
spec_l1Cur_traffic_j3 (v226.2.1, v226.2.2.1, v226.2.2.2, v227)
else
if (v218.1 == (1 : Int)) = true then
(spec_l1Cur_pick ((2 : Int)) v218.2).bind fun v233 =>
(mk? ((w64 ((40 : Int) + v233.1))) ((w64 ((40 : Int) + v233.1)))).bind fun u234 =>
spec_l1Cur_traffic_j3 (v233.2.1, v233.2.2.1, v233.2.2.2, (List.replicate (Int.toNat ((w64 ((40 : Int) + v233.1)))) (0 : Int)))
else
spec_l1Cur_traffic_j3 (v218.2.1, v218.2.2.1, v218.2.2.2, x145)
theorem spec_l1Cur_traffic_ok {c0 : (List Int) × Int × Int} {o : (List Int) × ((List Int) × Int × Int)} (h : spec_l1Cur_traffic c0 = some o) : RN 38 [.ref 0] [.ptr (.agg [.sh (.ints .u8 c0.1), .int .i64 c0.2.1, .int .u64 c0.2.2])] = some (.ints .i64 o.1, [.ptr (.agg [.sh (.ints .u8 o.2.1), .int .i64 o.2.2.1, .int .u64 o.2.2.2])]) := by
  refine fn_run (o := o) (nr := 1) (F := k38) (st := ⟨entry 0 [.ptr 0 [] (some 0)], fun n => ([.ptr (.agg [.sh (.ints .u8 c0.1), .int .i64 c0.2.1, .int .u64 c0.2.2])] : List T)[n]?, 1⟩) (fun (o : (List Int) × ((List Int) × Int × Int)) => (.ints .i64 o.1, [.ptr (.agg [.sh (.ints .u8 o.2.1), .int .i64 o.2.2.1, .int .u64 o.2.2.2])])) rfl fns_38 rfl rfl ?_
  refine wp_seq ?_
  refine wp_reg (nx' := 17) rfl (ev_new (.ref 1 [] 1 0 0) (.ints .i64 []) rfl rfl (ev_nil)) (seqQ_n (?_))
  refine wp_seq ?_
  refine wp_reg (nx' := 33) rfl (ev_new (.ref 17 [] 1 0 0) (.ints .i64 []) rfl rfl (ev_nil)) (seqQ_n (?_))
  refine wp_seq ?_
  obtain ⟨v46, hv46, h⟩ := bs h
  refine wp_reg (nx' := 97) rfl (ev_den (.ptr 0 [] (some 0)) rfl rfl (ev_den (.vw _ _) rfl rfl (ev_call1 [(.ptr 0 [] (some 0)), (.vw _ _)] rfl (call_ok (rs := [0]) (rd := []) rfl rfl rfl rfl (argL_cons rfl (argL_cons rfl (argL_nil))) rfl rfl (spec_l1Cur_among_ok hv46) rfl rfl rfl rfl rfl) (ev_den (.vw _ _) rfl rfl (ev_nil))))) (seqQ_n (?_))
  refine wp_seq ?_
  refine wp_gc ?_
  refine wp_seq ?_
  refine wp_gc ?_
  obtain ⟨v81, hv81, h⟩ := bs h
  refine wp_reg (nx' := 145) rfl (ev_den (.ptr 0 [] (some 0)) rfl rfl (ev_call1 [(.ptr 0 [] (some 0)), (.vw _ _)] rfl (call_ok (rs := [0]) (rd := []) rfl rfl rfl rfl (argL_cons rfl (argL_cons rfl (argL_nil))) rfl rfl (spec_l1Cur_pick_ok hv81) rfl rfl rfl rfl rfl) (ev_den (.vw _ _) rfl rfl (ev_nil)))) (gcQ_n (gc_to [17] (e := [(0, .ptr 0 [] (some 0)), (3, .ref 1 [] 1 0 0), (4, .vw [] (.int .i64 v46.1)), (5, .vw [] (.int .i64 v81.1))]) (ts := [some (.ptr (.agg [.sh (.ints .u8 v81.2.1), .int .i64 v81.2.2.1, .int .u64 v81.2.2.2])), some (.ints .i64 ([]))]) (n := 2) rfl rfl rfl rfl) (seqQ_n (?_)))
  refine wp_gc ?_
  refine wp_blk ?_
  obtain ⟨w206, hw206, h⟩ := bs h
  refine wp_mono (wp_loop (fun ((x123, x124, x125, x126, x127) : (List Int) × Int × Int × (List Int) × Int) => (⟨al .dead [(0, .ptr 0 [] (some 0)), (3, .ref 1 [] 1 0 (List.length x126)), (4, .vw [] (.int .i64 v46.1)), (5, .vw [] (.int .i64 x127))], hl [some (.ptr (.agg [.sh (.ints .u8 x123), .int .i64 x124, .int .u64 x125])), some (.ints .i64 x126)], 2⟩ : St)) (fun ((x142, x143, x144, x145) : (List Int) × Int × Int × (List Int)) e st => e = .exit 0 ∧ gc 1 [0, 3] st = ⟨al .dead [(0, .ptr 0 [] (some 0)), (3, .ref 1 [] 1 0 (List.length x145))], hl [some (.ptr (.agg [.sh (.ints .u8 x142), .int .i64 x143, .int .u64 x144])), some (.ints .i64 x145)], 2⟩) hw206 ?_) ?_
  · rintro ⟨x123, x124, x125, x126, x127⟩ o h
    refine wp_gc ?_
    refine wp_seq ?_
    refine wp_gc ?_
    refine wp_seq ?_
    refine wp_reg (nx' := 34) rfl (ev_den (.vw _ _) rfl rfl (ev_den (.vw _ _) rfl rfl (ev_nil))) (seqQ_n (?_))
    rcases its h with ⟨hc161, h⟩ | ⟨hc161, h⟩
    · refine wp_ct rfl hc161 ?_
      refine wp_skip (gcQ_n (gc_to [1] (e := [(0, .ptr 0 [] (some 0)), (3, .ref 1 [] 1 0 (List.length x126)), (4, .vw [] (.int .i64 v46.1)), (5, .vw [] (.int .i64 x127))]) (ts := [some (.ptr (.agg [.sh (.ints .u8 x123), .int .i64 x124, .int .u64 x125])), some (.ints .i64 x126)]) (n := 2) rfl rfl rfl rfl) (seqQ_n (?_)))
      refine wp_seq ?_
      refine wp_gc ?_
      refine wp_gc ?_
      refine wp_blk ?_
      refine wp_seq ?_
      refine wp_reg (nx' := 18) rfl (ev_den (.vw _ _) rfl rfl (ev_nil)) (seqQ_n (?_))
      refine wp_seq ?_
      refine wp_join (spec_l1Cur_traffic_j2 x126 x127) (fun ((x181, x182, x183, x184) : (List Int) × Int × Int × Int) => (⟨al .dead [(0, .ptr 0 [] (some 0)), (3, .ref 1 [] 1 0 (List.length x126)), (4, .vw [] (.int .i64 v46.1)), (5, .vw [] (.int .i64 x127)), (6, .vw [] (.int .i64 x184))], hl [some (.ptr (.agg [.sh (.ints .u8 x181), .int .i64 x182, .int .u64 x183])), some (.ints .i64 x126)], 2⟩ : St)) ?_ ?_
      · rintro ⟨x181, x182, x183, x184⟩ o h
        unfold spec_l1Cur_traffic_j2 at h
        refine seqQ_n (?_)
        obtain ⟨v185, hv185, h⟩ := bs h
        refine wp_reg (nx' := 82) rfl (ev_den (.ref 1 _ _ _ _) rfl rfl (ev_den (.vw _ _) rfl rfl (ev_den (.vw _ _) rfl rfl (ev_wr rfl (w_app_i (xv := (.ref 1 _ _ _ _)) 1 rfl rfl (abs_ref rfl sub_i) hv185 rfl) (ev_den (.ref 1 _ _ _ _) rfl rfl (ev_nil)))))) (blkQ_n (gcQ_n (gc_to [1] (e := [(0, .ptr 0 [] (some 0)), (3, .ref 1 [] 1 0 (List.length v185)), (4, .vw [] (.int .i64 v46.1)), (5, .vw [] (.int .i64 x127))]) (ts := [some (.ptr (.agg [.sh (.ints .u8 x181), .int .i64 x182, .int .u64 x183])), some (.ints .i64 v185)]) (n := 2) rfl rfl rfl rfl) (gcQ_n (gc_to [1] (e := [(0, .ptr 0 [] (some 0)), (3, .ref 1 [] 1 0 (List.length v185)), (4, .vw [] (.int .i64 v46.1)), (5, .vw [] (.int .i64 x127))]) (ts := [some (.ptr (.agg [.sh (.ints .u8 x181), .int .i64 x182, .int .u64 x183])), some (.ints .i64 v185)]) (n := 2) rfl rfl rfl rfl) (seqQ_n (?_)))))
        replace h := Option.some.inj h
        subst h
        exact wp_reg (nx' := 50) rfl (ev_den (.vw _ _) rfl rfl (ev_den (.vw _ _) rfl rfl (ev_den (.vw _ _) rfl rfl (ev_nil)))) (gcQ_n (gc_to [1] (e := [(0, .ptr 0 [] (some 0)), (3, .ref 1 [] 1 0 (List.length v185)), (4, .vw [] (.int .i64 v46.1)), (5, .vw [] (.int .i64 ((w64 (x127 - (1 : Int))))))]) (ts := [some (.ptr (.agg [.sh (.ints .u8 x181), .int .i64 x182, .int .u64 x183])), some (.ints .i64 v185)]) (n := 2) rfl rfl rfl rfl) (loopQ_n rfl))
      · refine wp_seq ?_
        obtain ⟨v191, hv191, h⟩ := bs h
        refine wp_reg (nx' := 66) rfl (ev_den (.ptr 0 [] (some 0)) rfl rfl (ev_call1 [(.ptr 0 [] (some 0)), (.vw _ _)] rfl (call_ok (rs := [0]) (rd := []) rfl rfl rfl rfl (argL_cons rfl (argL_cons rfl (argL_nil))) rfl rfl (spec_l1Cur_one_ok hv191) rfl rfl rfl rfl rfl) (ev_den (.vw _ _) rfl rfl (ev_nil)))) (seqQ_n (?_))
        rcases its h with ⟨hc192, h⟩ | ⟨hc192, h⟩
        · refine wp_ct rfl hc192 ?_
          obtain ⟨v193, hv193, h⟩ := bs h
          exact wp_reg (nx' := 130) rfl (ev_den (.ptr 0 [] (some 0)) rfl rfl (ev_den (.vw _ _) rfl rfl (ev_call1 [(.ptr 0 [] (some 0)), (.vw _ _)] rfl (call_ok (rs := [0]) (rd := []) rfl rfl rfl rfl (argL_cons rfl (argL_cons rfl (argL_nil))) rfl rfl (spec_l1Cur_pick_ok hv193) rfl rfl rfl rfl rfl) (ev_den (.vw _ _) rfl rfl (ev_nil))))) (joinQ_n (v193.2.1, v193.2.2.1, v193.2.2.2, v193.1) h (gc_to [1] rfl rfl rfl rfl))
        · refine wp_cf rfl hc192 ?_
          exact wp_skip (joinQ_n (v191.2.1, v191.2.2.1, v191.2.2.2, (0 : Int)) h (gc_to [1] rfl rfl rfl rfl))
    · refine wp_cf rfl hc161 ?_
      replace h := Option.some.inj h
      subst h
      exact wp_exit (gcQ_e (seqQ_e (gcQ_e (loopQ_e (And.intro rfl (gc_to [1] (e := [(0, .ptr 0 [] (some 0)), (3, .ref 1 [] 1 0 (List.length x126))]) (ts := [some (.ptr (.agg [.sh (.ints .u8 x123), .int .i64 x124, .int .u64 x125])), some (.ints .i64 x126)]) (n := 2) rfl rfl rfl rfl))))))
  · intro e st206 hg206
    obtain ⟨x142, x143, x144, x145⟩ := w206
    obtain ⟨rfl, hg206⟩ := hg206
    refine blkQ_h (gcQ_n hg206 (gcQ_n (gc_to [1] (e := [(0, .ptr 0 [] (some 0)), (3, .ref 1 [] 1 0 (List.length x145))]) (ts := [some (.ptr (.agg [.sh (.ints .u8 x142), .int .i64 x143, .int .u64 x144])), some (.ints .i64 x145)]) (n := 2) rfl rfl rfl rfl) (seqQ_n (?_))))
    refine wp_seq ?_
    refine wp_join (spec_l1Cur_traffic_j3) (fun ((x214, x215, x216, x217) : (List Int) × Int × Int × (List Int)) => (⟨al .dead [(3, .ref 1 [] 1 0 (List.length x217))], hl [some (.ptr (.agg [.sh (.ints .u8 x214), .int .i64 x215, .int .u64 x216])), some (.ints .i64 x217)], 2⟩ : St)) ?_ ?_
    · rintro ⟨x214, x215, x216, x217⟩ o h
      unfold spec_l1Cur_traffic_j3 at h
      refine seqQ_n (?_)
      refine wp_seq ?_
      refine wp_reg (nx' := 34) rfl (ev_den (.ref 1 _ _ _ _) rfl rfl (ev_den (.ref 1 _ _ _ _) rfl rfl (ev_nil))) (seqQ_n (?_))
      replace h := Option.some.inj h
      subst h
      exact wp_ret (qf_r ((outs_ok (vs := [(.ref 1 _ _ _ _)]) rfl (absW_cons (retT_ref (abs_ref rfl sub_i)) rfl (absW_nil)) rfl rfl)))
    · refine wp_seq ?_
      obtain ⟨v218, hv218, h⟩ := bs h
      refine wp_reg (nx' := 34) rfl (ev_den (.ptr 0 [] (some 0)) rfl rfl (ev_call1 [(.ptr 0 [] (some 0)), (.vw _ _)] rfl (call_ok (rs := [0]) (rd := []) rfl rfl rfl rfl (argL_cons rfl (argL_cons rfl (argL_nil))) rfl rfl (spec_l1Cur_pick_ok hv218) rfl rfl rfl rfl rfl) (ev_nil))) (seqQ_n (?_))
      refine wp_gc ?_
      refine wp_blk ?_
      refine wp_seq ?_
      refine wp_reg (nx' := 66) rfl (ev_den (.vw _ _) rfl rfl (ev_den (.vw _ _) rfl rfl (ev_nil))) (seqQ_n (?_))
      rcases its h with ⟨hc225, h⟩ | ⟨hc225, h⟩
      · refine wp_ct rfl hc225 ?_
        obtain ⟨v226, hv226, h⟩ := bs h
        obtain ⟨v227, hv227, h⟩ := bs h
        exact wp_reg (nx' := 178) rfl (ev_den (.ref 1 _ _ _ _) rfl rfl (ev_den (.ptr 0 [] (some 0)) rfl rfl (ev_den (.vw _ _) rfl rfl (ev_call1 [(.ptr 0 [] (some 0)), (.vw _ _)] rfl (call_ok (rs := [0]) (rd := []) rfl rfl rfl rfl (argL_cons rfl (argL_cons rfl (argL_nil))) rfl rfl (spec_l1Cur_among_ok hv226) rfl rfl rfl rfl rfl) (ev_den (.vw _ _) rfl rfl (ev_wr rfl (w_app_i (xv := (.ref 1 _ _ _ _)) 1 rfl rfl (abs_ref rfl sub_i) hv227 rfl) (ev_den (.ref 1 _ _ _ _) rfl rfl (ev_nil)))))))) (blkQ_n (gcQ_n (gc_to [1] (e := [(3, .ref 1 [] 1 0 (List.length v227))]) (ts := [some (.ptr (.agg [.sh (.ints .u8 v226.2.1), .int .i64 v226.2.2.1, .int .u64 v226.2.2.2])), some (.ints .i64 v227)]) (n := 2) rfl rfl rfl rfl) (joinQ_n (v226.2.1, v226.2.2.1, v226.2.2.2, v227) h (gc_to [1] rfl rfl rfl rfl))))
      · refine wp_cf rfl hc225 ?_
        refine wp_seq ?_
        refine wp_reg (nx' := 98) rfl (ev_den (.vw _ _) rfl rfl (ev_den (.vw _ _) rfl rfl (ev_nil))) (seqQ_n (?_))
        rcases its h with ⟨hc232, h⟩ | ⟨hc232, h⟩
        · refine wp_ct rfl hc232 ?_
          obtain ⟨v233, hv233, h⟩ := bs h
          obtain ⟨u234, hu234, h⟩ := bs h
          exact wp_reg (nx' := 178) rfl (ev_den (.ptr 0 [] (some 0)) rfl rfl (ev_call1 [(.ptr 0 [] (some 0)), (.vw _ _)] rfl (call_ok (rs := [0]) (rd := []) rfl rfl rfl rfl (argL_cons rfl (argL_cons rfl (argL_nil))) rfl rfl (spec_l1Cur_pick_ok hv233) rfl rfl rfl rfl rfl) (ev_den (.vw _ _) rfl rfl (ev_new (.ref 146 [] 1 0 (List.length ((List.replicate (Int.toNat ((w64 ((40 : Int) + v233.1)))) (0 : Int))))) (.ints .i64 ((List.replicate (Int.toNat ((w64 ((40 : Int) + v233.1)))) (0 : Int)))) rfl (d_mks_i rfl rfl hu234) (ev_den (.ref 146 _ _ _ _) rfl rfl (ev_nil)))))) (blkQ_n (gcQ_n (gc_to [146] (e := [(3, .ref 1 [] 1 0 (List.length ((List.replicate (Int.toNat ((w64 ((40 : Int) + v233.1)))) (0 : Int)))))]) (ts := [some (.ptr (.agg [.sh (.ints .u8 v233.2.1), .int .i64 v233.2.2.1, .int .u64 v233.2.2.2])), some (.ints .i64 ((List.replicate (Int.toNat ((w64 ((40 : Int) + v233.1)))) (0 : Int))))]) (n := 2) rfl rfl rfl rfl) (joinQ_n (v233.2.1, v233.2.2.1, v233.2.2.2, (List.replicate (Int.toNat ((w64 ((40 : Int) + v233.1)))) (0 : Int))) h (gc_to [1] rfl rfl rfl rfl))))
        · refine wp_cf rfl hc232 ?_
          exact wp_skip (blkQ_n (gcQ_n (gc_to [1] (e := [(3, .ref 1 [] 1 0 (List.length x145))]) (ts := [some (.ptr (.agg [.sh (.ints .u8 v218.2.1), .int .i64 v218.2.2.1, .int .u64 v218.2.2.2])), some (.ints .i64 x145)]) (n := 2) rfl rfl rfl rfl) (joinQ_n (v218.2.1, v218.2.2.1, v218.2.2.2, x145) h (gc_to [1] rfl rfl rfl rfl))))
/-- loop.example/g01176/spec.DrawShapeOf -/
noncomputable def spec_DrawShapeOf (p0 : List Int) : Option (((Int × Int) × (List Int))) :=
(spec_l1Cur_bucket ((p0, (0 : Int), (0 : Int)))).bind fun v3 =>
(spec_l1Cur_traffic v3.2).bind fun v4 =>
some (v3.1, v4.1)
theorem spec_DrawShapeOf_ok {p0 : List Int} {o : ((Int × Int) × (List Int))} (h : spec_DrawShapeOf p0 = some o) : RN 6 [.ints .u8 p0] [] = some (.tup [.agg [.int .i64 o.1.1, .int .i64 o.1.2], .ints .i64 o.2], []) := by
  refine fn_run (o := o) (nr := 0) (F := k6) (st := ⟨entry 0 [.vw [] (.ints .u8 p0)], fun n => ([] : List T)[n]?, 0⟩) (fun (o : ((Int × Int) × (List Int))) => (.tup [.agg [.int .i64 o.1.1, .int .i64 o.1.2], .ints .i64 o.2], [])) rfl fns_6 rfl rfl ?_
  refine wp_seq ?_
  refine wp_reg (nx' := 32) rfl (ev_new (.ptr 0 [] (some 0)) (.ptr (.agg [.int .i64 ((0 : Int)), .int .i64 ((0 : Int))])) rfl rfl (ev_new (.ref 16 [] 1 0 0) (.ints .i64 []) rfl rfl (ev_nil))) (seqQ_n (?_))
  refine wp_seq ?_
  refine wp_reg (nx' := 96) rfl (ev_den (.vw _ _) rfl rfl (ev_den (.agg [(.vw _ _), (.vw _ _), (.vw _ _)]) rfl rfl (ev_wr rfl (w_box (sv := (.agg [(.vw _ _), (.vw _ _), (.vw _ _)])) rfl rfl (absW_cons rfl rfl (absW_cons rfl rfl (absW_cons rfl rfl (absW_nil))))) (ev_den (.ptr 64 [] (some 0)) rfl rfl (ev_nil))))) (seqQ_n (?_))
  refine wp_seq ?_
  obtain ⟨v3, hv3, h⟩ := bs h
  obtain ⟨v4, hv4, h⟩ := bs h
  refine wp_reg (nx' := 192) rfl (ev_den (.ptr 64 [] (some 0)) rfl rfl (ev_call1 [(.ptr 64 [] (some 0))] rfl (call_ok (rs := [64]) (rd := []) rfl rfl rfl rfl (argL_cons rfl (argL_nil)) rfl rfl (spec_l1Cur_bucket_ok hv3) rfl rfl rfl (bindR_a (bindL_cons rfl (bindL_cons rfl (bindL_nil)))) rfl) (ev_den (.ptr 64 [] (some 0)) rfl rfl (ev_call1 [(.ptr 64 [] (some 0))] rfl (call_ok (rs := [64]) (rd := []) rfl rfl rfl rfl (argL_cons rfl (argL_nil)) rfl rfl (spec_l1Cur_traffic_ok hv4) rfl rfl rfl rfl rfl) (ev_wr0 rfl (w_st_a rfl rfl rfl (stL_cons (st1_of rfl rfl rfl (get_f rfl (get_nil)) rfl (rput_p (put_f rfl (put_nil)))) rfl (stL_cons (st1_of rfl rfl rfl (get_f rfl (get_nil)) rfl (rput_p (put_f rfl (put_nil)))) rfl (stL_nil)))) (ev_den (.ref 144 _ _ _ _) rfl rfl (ev_nil))))))) (seqQ_n (?_))
  replace h := Option.some.inj h
  subst h
  exact wp_ret (qf_r ((outs_ok (vs := [(.agg [(.vw _ _), (.vw _ _)]), (.ref 144 _ _ _ _)]) rfl (absW_cons (retT_agg (absW_cons rfl rfl (absW_cons rfl rfl (absW_nil)))) rfl (absW_cons (retT_ref (abs_ref rfl sub_i)) rfl (absW_nil))) rfl rfl)))
/-- loop.example/g01176/impl.within -/
noncomputable def impl_within (p0 : Int) (p1 : Int) (p2 : Int) : Option Bool :=
if (decide (p0 ≥ p1)) = true then
some (decide (p0 ≤ p2))
else
some false
theorem impl_within_ok {p0 : Int} {p1 : Int} {p2 : Int} {o : Bool} (h : impl_within p0 p1 p2 = some o) : RN 67 [.int .i64 p0, .int .i64 p1, .int .i64 p2] [] = some (.bool o, []) := by
  refine fn_run (o := o) (nr := 0) (F := k67) (st := ⟨entry 0 [.vw [] (.int .i64 p0), .vw [] (.int .i64 p1), .vw [] (.int .i64 p2)], fun n => ([] : List T)[n]?, 0⟩) (fun (o : Bool) => (.bool o, [])) rfl fns_67 rfl rfl ?_
  refine wp_seq ?_
  refine wp_reg (nx' := 16) rfl (ev_den (.vw _ _) rfl rfl (ev_nil)) (seqQ_n (?_))
  refine wp_seq ?_
  refine wp_gc ?_
  rcases its h with ⟨hc3, h⟩ | ⟨hc3, h⟩
  · refine wp_reg (nx' := 160) rfl (ev_den (.vw _ _) rfl rfl (ev_den (.vw _ _) rfl rfl (ev_den (.vw _ _) rfl rfl (ev_den (.vw _ _) rfl rfl (ev_on rfl hc3 (ev_den (.vw _ _) rfl rfl (ev_on rfl hc3 (ev_den (.vw _ _) rfl rfl (ev_on rfl hc3 (ev_den (.vw _ _) rfl rfl (ev_den (.vw _ _) rfl (d_pick_t rfl hc3 rfl) (ev_den (.vw _ _) rfl rfl (ev_nil))))))))))))) (gcQ_n (gc_to [] (e := [(6, .vw [] (.bool ((decide (p0 ≤ p2)))))]) (ts := []) (n := 0) rfl rfl rfl rfl) (seqQ_n (?_)))
    replace h := Option.some.inj h
    subst h
    exact wp_ret (qf_r ((outs_ok (vs := [(.vw _ _)]) rfl (absW_cons rfl rfl (absW_nil)) rfl rfl)))
  · refine wp_reg (nx' := 160) rfl (ev_den (.vw _ _) rfl rfl (ev_den (.vw _ _) rfl rfl (ev_den (.vw _ _) rfl rfl (ev_den (.vw _ _) rfl rfl (ev_off rfl hc3 (ev_off rfl hc3 (ev_off rfl hc3 (ev_den (.vw _ _) rfl (d_pick_f rfl hc3 rfl) (ev_den (.vw _ _) rfl rfl (ev_nil)))))))))) (gcQ_n (gc_to [] (e := [(6, .vw [] (.bool false))]) (ts := []) (n := 0) rfl rfl rfl rfl) (seqQ_n (?_)))
    replace h := Option.some.inj h
    subst h
    exact wp_ret (qf_r ((outs_ok (vs := [(.vw _ _)]) rfl (absW_cons rfl rfl (absW_nil)) rfl rfl)))
/-- loop.example/g01176/impl.isRate -/
noncomputable def impl_isRate (p0 : Int) : Option Bool :=
(impl_within p0 ((1 : Int)) ((100 : Int))).bind fun v2 =>
some v2
theorem impl_isRate_ok {p0 : Int} {o : Bool} (h : impl_isRate p0 = some o) : RN 50 [.int .i64 p0] [] = some (.bool o, []) := by
  refine fn_run (o := o) (nr := 0) (F := k50) (st := ⟨entry 0 [.vw [] (.int .i64 p0)], fun n => ([] : List T)[n]?, 0⟩) (fun (o : Bool) => (.bool o, [])) rfl fns_50 rfl rfl ?_
  refine wp_seq ?_
  refine wp_reg (nx' := 16) rfl (ev_den (.vw _ _) rfl rfl (ev_nil)) (seqQ_n (?_))
  refine wp_seq ?_
  obtain ⟨v2, hv2, h⟩ := bs h
  refine wp_reg (nx' := 64) rfl (ev_den (.vw _ _) rfl rfl (ev_call0 [(.vw _ _), (.vw _ _), (.vw _ _)] rfl (call_ok (rs := []) (rd := []) rfl rfl rfl rfl (argL_cons rfl (argL_cons rfl (argL_cons rfl (argL_nil)))) rfl rfl (impl_within_ok hv2) rfl rfl rfl rfl rfl) (ev_den (.vw _ _) rfl rfl (ev_nil)))) (seqQ_n (?_))
  replace h := Option.some.inj h
  subst h
  exact wp_ret (qf_r ((outs_ok (vs := [(.vw _ _)]) rfl (absW_cons rfl rfl (absW_nil)) rfl rfl)))
/-- loop.example/g01176/impl.isDepth -/
noncomputable def impl_isDepth (p0 : Int) : Option Bool :=
(impl_within p0 ((1 : Int)) ((1000 : Int))).bind fun v2 =>
some v2
theorem impl_isDepth_ok {p0 : Int} {o : Bool} (h : impl_isDepth p0 = some o) : RN 60 [.int .i64 p0] [] = some (.bool o, []) := by
  refine fn_run (o := o) (nr := 0) (F := k60) (st := ⟨entry 0 [.vw [] (.int .i64 p0)], fun n => ([] : List T)[n]?, 0⟩) (fun (o : Bool) => (.bool o, [])) rfl fns_60 rfl rfl ?_
  refine wp_seq ?_
  refine wp_reg (nx' := 16) rfl (ev_den (.vw _ _) rfl rfl (ev_nil)) (seqQ_n (?_))
  refine wp_seq ?_
  obtain ⟨v2, hv2, h⟩ := bs h
  refine wp_reg (nx' := 64) rfl (ev_den (.vw _ _) rfl rfl (ev_call0 [(.vw _ _), (.vw _ _), (.vw _ _)] rfl (call_ok (rs := []) (rd := []) rfl rfl rfl rfl (argL_cons rfl (argL_cons rfl (argL_cons rfl (argL_nil)))) rfl rfl (impl_within_ok hv2) rfl rfl rfl rfl rfl) (ev_den (.vw _ _) rfl rfl (ev_nil)))) (seqQ_n (?_))
  replace h := Option.some.inj h
  subst h
  exact wp_ret (qf_r ((outs_ok (vs := [(.vw _ _)]) rfl (absW_cons rfl rfl (absW_nil)) rfl rfl)))
/-- loop.example/g01176/impl.IsBucket -/
noncomputable def impl_IsBucket (p0 : Int × Int) : Option Bool :=
(impl_isRate p0.1).bind fun v7 =>
if v7 = true then
(impl_isDepth p0.2).bind fun v9 =>
some v9
else
some false
theorem impl_IsBucket_ok {p0 : Int × Int} {o : Bool} (h : impl_IsBucket p0 = some o) : RN 27 [.agg [.int .i64 p0.1, .int .i64 p0.2]] [] = some (.bool o, []) := by
  refine fn_run (o := o) (nr := 0) (F := k27) (st := ⟨entry 0 [.agg [.vw [] (.int .i64 p0.1), .vw [] (.int .i64 p0.2)]], fun n => ([] : List T)[n]?, 0⟩) (fun (o : Bool) => (.bool o, [])) rfl fns_27 rfl rfl ?_
  refine wp_seq ?_
  refine wp_reg (nx' := 32) rfl (ev_wr rfl (w_box (sv := (.agg [(.vw _ _), (.vw _ _)])) rfl rfl (absW_cons rfl rfl (absW_cons rfl rfl (absW_nil)))) (ev_den (.vw _ _) rfl rfl (ev_nil))) (seqQ_n (?_))
  refine wp_seq ?_
  refine wp_gc ?_
  obtain ⟨v7, hv7, h⟩ := bs h
  rcases its h with ⟨hc8, h⟩ | ⟨hc8, h⟩
  · obtain ⟨v9, hv9, h⟩ := bs h
    refine wp_reg (nx' := 176) rfl (ev_den (.ptr 0 [] (some 0)) rfl rfl (ev_den (.vw _ _) rfl (d_ld_o rfl (rget_of rfl (get_nil)) rfl rfl) (ev_call0 [(.vw _ _)] rfl (call_ok (rs := []) (rd := []) rfl rfl rfl rfl (argL_cons rfl (argL_nil)) rfl rfl (impl_isRate_ok hv7) rfl rfl rfl rfl rfl) (ev_den (.vw _ _) rfl rfl (ev_on rfl hc8 (ev_den (.ptr 0 [] (some 1)) rfl rfl (ev_on rfl hc8 (ev_den (.vw _ _) rfl (d_ld_o rfl (rget_of rfl (get_nil)) rfl rfl) (ev_on rfl hc8 (ev_call0 [(.vw _ _)] rfl (call_ok (rs := []) (rd := []) rfl rfl rfl rfl (argL_cons rfl (argL_nil)) rfl rfl (impl_isDepth_ok hv9) rfl rfl rfl rfl rfl) (ev_den (.vw _ _) rfl (d_pick_t rfl hc8 rfl) (ev_den (.vw _ _) rfl rfl (ev_nil))))))))))))) (gcQ_n (gc_to [] (e := [(2, .vw [] (.bool v9))]) (ts := []) (n := 0) rfl rfl rfl rfl) (seqQ_n (?_)))
    replace h := Option.some.inj h
    subst h
    exact wp_ret (qf_r ((outs_ok (vs := [(.vw _ _)]) rfl (absW_cons rfl rfl (absW_nil)) rfl rfl)))
  · refine wp_reg (nx' := 176) rfl (ev_den (.ptr 0 [] (some 0)) rfl rfl (ev_den (.vw _ _) rfl (d_ld_o rfl (rget_of rfl (get_nil)) rfl rfl) (ev_call0 [(.vw _ _)] rfl (call_ok (rs := []) (rd := []) rfl rfl rfl rfl (argL_cons rfl (argL_nil)) rfl rfl (impl_isRate_ok hv7) rfl rfl rfl rfl rfl) (ev_den (.vw _ _) rfl rfl (ev_off rfl hc8 (ev_off rfl hc8 (ev_off rfl hc8 (ev_den (.vw _ _) rfl (d_pick_f rfl hc8 rfl) (ev_den (.vw _ _) rfl rfl (ev_nil)))))))))) (gcQ_n (gc_to [] (e := [(2, .vw [] (.bool false))]) (ts := []) (n := 0) rfl rfl rfl rfl) (seqQ_n (?_)))
    replace h := Option.some.inj h
    subst h
    exact wp_ret (qf_r ((outs_ok (vs := [(.vw _ _)]) rfl (absW_cons rfl rfl (absW_nil)) rfl rfl)))
/-- loop.example/g01176/impl.allWithin$1 -/
noncomputable def impl_allWithin_fn1 (p0 : Int) (c0 : Int) (c1 : Int) : Option (Bool × Int × Int) :=
(impl_within p0 c0 c1).bind fun v2 =>
some ((!v2), c0, c1)
theorem impl_allWithin_fn1_ok {p0 : Int} {c0 : Int} {c1 : Int} {o : Bool × Int × Int} (h : impl_allWithin_fn1 p0 c0 c1 = some o) : RN 66 [.int .i64 p0, .ref 0, .ref 1] [.ptr (.agg [.int .i64 c0]), .ptr (.agg [.int .i64 c1])] = some (.bool o.1, [.ptr (.agg [.int .i64 o.2.1]), .ptr (.agg [.int .i64 o.2.2])]) := by
  refine fn_run (o := o) (nr := 2) (F := k66) (st := ⟨entry 0 [.vw [] (.int .i64 p0), .ptr 0 [] (some 0), .ptr 1 [] (some 0)], fun n => ([.ptr (.agg [.int .i64 c0]), .ptr (.agg [.int .i64 c1])] : List T)[n]?, 2⟩) (fun (o : Bool × Int × Int) => (.bool o.1, [.ptr (.agg [.int .i64 o.2.1]), .ptr (.agg [.int .i64 o.2.2])])) rfl fns_66 rfl rfl ?_
  refine wp_seq ?_
  refine wp_reg (nx' := 18) rfl (ev_den (.vw _ _) rfl rfl (ev_nil)) (seqQ_n (?_))
  refine wp_seq ?_
  obtain ⟨v2, hv2, h⟩ := bs h
  refine wp_reg (nx' := 114) rfl (ev_den (.vw _ _) rfl rfl (ev_den (.vw _ _) rfl (d_ld_o rfl (rget_of rfl (get_nil)) rfl rfl) (ev_den (.vw _ _) rfl (d_ld_o rfl (rget_of rfl (get_nil)) rfl rfl) (ev_call0 [(.vw _ _), (.vw _ _), (.vw _ _)] rfl (call_ok (rs := []) (rd := []) rfl rfl rfl rfl (argL_cons rfl (argL_cons rfl (argL_cons rfl (argL_nil)))) rfl rfl (impl_within_ok hv2) rfl rfl rfl rfl rfl) (ev_den (.vw _ _) rfl rfl (ev_den (.vw _ _) rfl rfl (ev_nil))))))) (seqQ_n (?_))
  replace h := Option.some.inj h
  subst h
  exact wp_ret (qf_r ((outs_ok (vs := [(.vw _ _)]) rfl (absW_cons rfl rfl (absW_nil)) rfl rfl)))
noncomputable def slices_IndexFunc_s1 (p0 : List Int) : (Int × Int × Int) → Option ((Int × Int × Int) ⊕ ((Int × Int) ⊕ (Int × Int × Int))) := fun (x53, x54, x55) =>
if (decide (x55 < (List.length p0 : Int))) = true then
(at? p0 x55).bind fun v80 =>
(impl_allWithin_fn1 v80 x53 x54).bind fun v81 =>
if v81.1 = true then
some (.inr (.inr (x55, v81.2.1, v81.2.2)))
else
some (.inl (v81.2.1, v81.2.2, (w64 (x55 + (1 : Int)))))
else
some (.inr (.inl (x53, x54)))
noncomputable def slices_IndexFunc_l1 (p0 : List Int) : (Int × Int × Int) → Option ((Int × Int) ⊕ (Int × Int × Int)) := iter (slices_IndexFunc_s1 p0)
/-- slices.IndexFunc[[]int,int] -/
noncomputable def slices_IndexFunc (p0 : List Int) (c0 : Int) (c1 : Int) : Option (Int × Int × Int) :=
(slices_IndexFunc_l1 p0 (c0, c1, (0 : Int))).bind fun w => match w with
| .inl (x63, x64) =>
some ((-1 : Int), x63, x64)
| .inr r89 =>
some r89
theorem slices_IndexFunc_ok {p0 : List Int} {c0 : Int} {c1 : Int} {o : Int × Int × Int} (h : slices_IndexFunc p0 c0 c1 = some o) : RN 72 [.ints .i64 p0, .fn 66 [.ref 0, .ref 1]] [.ptr (.agg [.int .i64 c0]), .ptr (.agg [.int .i64 c1])] = some (.int .i64 o.1, [.ptr (.agg [.int .i64 o.2.1]), .ptr (.agg [.int .i64 o.2.2])]) := by
  refine fn_run (o := o) (nr := 2) (F := k72) (st := ⟨entry 0 [.vw [] (.ints .i64 p0), .fn 66 [.ptr 0 [] (some 0), .ptr 1 [] (some 0)]], fun n => ([.ptr (.agg [.int .i64 c0]), .ptr (.agg [.int .i64 c1])] : List T)[n]?, 2⟩) (fun (o : Int × Int × Int) => (.int .i64 o.1, [.ptr (.agg [.int .i64 o.2.1]), .ptr (.agg [.int .i64 o.2.2])])) rfl fns_72 rfl rfl ?_
  refine wp_seq ?_
  refine wp_reg (nx' := 18) rfl (ev_den (.vw _ _) rfl rfl (ev_nil)) (seqQ_n (?_))
  refine wp_seq ?_
  refine wp_gc ?_
  refine wp_seq ?_
  refine wp_gc ?_
  refine wp_reg (nx' := 66) rfl (ev_den (.vw _ _) rfl rfl (ev_den (.vw _ _) rfl rfl (ev_den (.vw _ _) rfl rfl (ev_nil)))) (gcQ_n (gc_to [] (e := [(0, .vw [] (.ints .i64 p0)), (1, .fn 66 [.ptr 0 [] (some 0), .ptr 1 [] (some 0)]), (7, .vw [] (.int .i64 ((List.length p0 : Int)))), (8, .vw [] (.int .i64 ((0 : Int))))]) (ts := [some (.ptr (.agg [.int .i64 c0])), some (.ptr (.agg [.int .i64 c1]))]) (n := 2) rfl rfl rfl rfl) (seqQ_n (?_)))
  refine wp_gc ?_
  refine wp_blk ?_
  obtain ⟨w88, hw88, h⟩ := bs h
  refine wp_mono (wp_loop (fun ((x53, x54, x55) : Int × Int × Int) => (⟨al .dead [(0, .vw [] (.ints .i64 p0)), (1, .fn 66 [.ptr 0 [] (some 0), .ptr 1 [] (some 0)]), (7, .vw [] (.int .i64 ((List.length p0 : Int)))), (8, .vw [] (.int .i64 x55))], hl [some (.ptr (.agg [.int .i64 x53])), some (.ptr (.agg [.int .i64 x54]))], 2⟩ : St)) (fun (v : (Int × Int) ⊕ (Int × Int × Int)) e st => match v with | .inl (x63, x64) => e = .exit 0 ∧ gc 2 [] st = ⟨al .dead [], hl [some (.ptr (.agg [.int .i64 x63])), some (.ptr (.agg [.int .i64 x64]))], 2⟩ | .inr rr => e = .ret ∧ outs 2 k72 st = some (.int .i64 rr.1, [.ptr (.agg [.int .i64 rr.2.1]), .ptr (.agg [.int .i64 rr.2.2])])) hw88 ?_) ?_
  · rintro ⟨x53, x54, x55⟩ o h
    refine wp_gc ?_
    refine wp_seq ?_
    refine wp_reg (nx' := 18) rfl (ev_den (.vw _ _) rfl rfl (ev_nil)) (seqQ_n (?_))
    refine wp_seq ?_
    refine wp_gc ?_
    rcases its h with ⟨hc73, h⟩ | ⟨hc73, h⟩
    · refine wp_ct rfl hc73 ?_
      refine wp_skip (gcQ_n (gc_to [] (e := [(0, .vw [] (.ints .i64 p0)), (1, .fn 66 [.ptr 0 [] (some 0), .ptr 1 [] (some 0)]), (7, .vw [] (.int .i64 ((List.length p0 : Int)))), (8, .vw [] (.int .i64 x55))]) (ts := [some (.ptr (.agg [.int .i64 x53])), some (.ptr (.agg [.int .i64 x54]))]) (n := 2) rfl rfl rfl rfl) (seqQ_n (?_)))
      refine wp_seq ?_
      refine wp_gc ?_
      refine wp_gc ?_
      refine wp_blk ?_
      refine wp_seq ?_
      refine wp_reg (nx' := 34) rfl (ev_den (.vw _ _) rfl rfl (ev_den (.vw _ _) rfl rfl (ev_nil))) (seqQ_n (?_))
      refine wp_seq ?_
      obtain ⟨v80, hv80, h⟩ := bs h
      obtain ⟨v81, hv81, h⟩ := bs h
      refine wp_reg (nx' := 130) rfl (ev_den (.fn 66 [(.ptr 0 [] (some 0)), (.ptr 1 [] (some 0))]) rfl rfl (ev_den (.vw _ _) rfl rfl (ev_den (.vw _ _) rfl rfl (ev_den (.pv _ _) rfl (d_idx_vi rfl rfl hv80) (ev_den (.vw _ _) rfl rfl (ev_callv [(.vw _ _), (.ptr 0 [] (some 0)), (.ptr 1 [] (some 0))] rfl rfl (call_ok (rs := [0, 1]) (rd := []) rfl rfl rfl rfl (argL_cons rfl (argL_cons rfl (argL_cons rfl (argL_nil)))) rfl rfl (impl_allWithin_fn1_ok hv81) rfl rfl rfl rfl rfl) (ev_nil))))))) (seqQ_n (?_))
      rcases its h with ⟨hc82, h⟩ | ⟨hc82, h⟩
      · refine wp_ct rfl hc82 ?_
        refine wp_seq ?_
        refine wp_reg (nx' := 162) rfl (ev_den (.vw _ _) rfl rfl (ev_den (.vw _ _) rfl rfl (ev_nil))) (seqQ_n (?_))
        replace h := Option.some.inj h
        subst h
        exact wp_ret (blkQ_r (gcQ_r (gcQ_r (seqQ_r (gcQ_r (loopQ_r (And.intro rfl (outs_ok (vs := [(.vw _ _)]) rfl (absW_cons rfl rfl (absW_nil)) rfl rfl))))))))
      · refine wp_cf rfl hc82 ?_
        refine wp_skip (blkQ_n (gcQ_n (gc_to [] (e := [(0, .vw [] (.ints .i64 p0)), (1, .fn 66 [.ptr 0 [] (some 0), .ptr 1 [] (some 0)]), (7, .vw [] (.int .i64 ((List.length p0 : Int)))), (8, .vw [] (.int .i64 x55))]) (ts := [some (.ptr (.agg [.int .i64 v81.2.1])), some (.ptr (.agg [.int .i64 v81.2.2]))]) (n := 2) rfl rfl rfl rfl) (gcQ_n (gc_to [] (e := [(0, .vw [] (.ints .i64 p0)), (1, .fn 66 [.ptr 0 [] (some 0), .ptr 1 [] (some 0)]), (7, .vw [] (.int .i64 ((List.length p0 : Int)))), (8, .vw [] (.int .i64 x55))]) (ts := [some (.ptr (.agg [.int .i64 v81.2.1])), some (.ptr (.agg [.int .i64 v81.2.2]))]) (n := 2) rfl rfl rfl rfl) (seqQ_n (?_)))))
        replace h := Option.some.inj h
        subst h
        exact wp_reg (nx' := 34) rfl (ev_den (.vw _ _) rfl rfl (ev_den (.vw _ _) rfl rfl (ev_nil))) (gcQ_n (gc_to [] (e := [(0, .vw [] (.ints .i64 p0)), (1, .fn 66 [.ptr 0 [] (some 0), .ptr 1 [] (some 0)]), (7, .vw [] (.int .i64 ((List.length p0 : Int)))), (8, .vw [] (.int .i64 ((w64 (x55 + (1 : Int))))))]) (ts := [some (.ptr (.agg [.int .i64 v81.2.1])), some (.ptr (.agg [.int .i64 v81.2.2]))]) (n := 2) rfl rfl rfl rfl) (loopQ_n rfl))
    · refine wp_cf rfl hc73 ?_
      replace h := Option.some.inj h
      subst h
      exact wp_exit (gcQ_e (seqQ_e (gcQ_e (loopQ_e (And.intro rfl (gc_to [] (e := []) (ts := [some (.ptr (.agg [.int .i64 x53])), some (.ptr (.agg [.int .i64 x54]))]) (n := 2) rfl rfl rfl rfl))))))
  · intro e st88 hg88
    rcases w88 with ⟨x63, x64⟩ | r89
    · obtain ⟨rfl, hg88⟩ := hg88
      refine blkQ_h (gcQ_n hg88 (gcQ_n (gc_to [] (e := []) (ts := [some (.ptr (.agg [.int .i64 x63])), some (.ptr (.agg [.int .i64 x64]))]) (n := 2) rfl rfl rfl rfl) (seqQ_n (?_))))
      refine wp_seq ?_
      refine wp_reg (nx' := 18) rfl (ev_den (.vw _ _) rfl rfl (ev_nil)) (seqQ_n (?_))
      replace h := Option.some.inj h
      subst h
      exact wp_ret (qf_r ((outs_ok (vs := [(.vw _ _)]) rfl (absW_cons rfl rfl (absW_nil)) rfl rfl)))
    · obtain ⟨rfl, hg88⟩ := hg88
      replace h := Option.some.inj h
      subst h
      exact blkQ_r (gcQ_r (gcQ_r (seqQ_r (qf_r (hg88)))))
/-- slices.ContainsFunc[[]int,int] -/
noncomputable def slices_ContainsFunc (p0 : List Int) (c0 : Int) (c1 : Int) : Option (Bool × Int × Int) :=
(slices_IndexFunc p0 c0 c1).bind fun v2 =>
some ((decide (v2.1 ≥ (0 : Int))), v2.2.1, v2.2.2)
theorem slices_ContainsFunc_ok {p0 : List Int} {c0 : Int} {c1 : Int} {o : Bool × Int × Int} (h : slices_ContainsFunc p0 c0 c1 = some o) : RN 65 [.ints .i64 p0, .fn 66 [.ref 0, .ref 1]] [.ptr (.agg [.int .i64 c0]), .ptr (.agg [.int .i64 c1])] = some (.bool o.1, [.ptr (.agg [.int .i64 o.2.1]), .ptr (.agg [.int .i64 o.2.2])]) := by
  refine fn_run (o := o) (nr := 2) (F := k65) (st := ⟨entry 0 [.vw [] (.ints .i64 p0), .fn 66 [.ptr 0 [] (some 0), .ptr 1 [] (some 0)]], fun n => ([.ptr (.agg [.int .i64 c0]), .ptr (.agg [.int .i64 c1])] : List T)[n]?, 2⟩) (fun (o : Bool × Int × Int) => (.bool o.1, [.ptr (.agg [.int .i64 o.2.1]), .ptr (.agg [.int .i64 o.2.2])])) rfl fns_65 rfl rfl ?_
  refine wp_seq ?_
  refine wp_reg (nx' := 18) rfl (ev_den (.vw _ _) rfl rfl (ev_nil)) (seqQ_n (?_))
  refine wp_seq ?_
  obtain ⟨v2, hv2, h⟩ := bs h
  refine wp_reg (nx' := 98) rfl (ev_den (.vw _ _) rfl rfl (ev_den (.fn 66 [(.ptr 0 [] (some 0)), (.ptr 1 [] (some 0))]) rfl rfl (ev_call1 [(.vw _ _), (.fn 66 [(.ptr 0 [] (some 0)), (.ptr 1 [] (some 0))])] rfl (call_ok (rs := [0, 1]) (rd := []) rfl rfl rfl rfl (argL_cons rfl (argL_cons (argT_f (argL_cons rfl (argL_cons rfl (argL_nil)))) (argL_nil))) rfl rfl (slices_IndexFunc_ok hv2) rfl rfl rfl rfl rfl) (ev_den (.vw _ _) rfl rfl (ev_den (.vw _ _) rfl rfl (ev_nil)))))) (seqQ_n (?_))
  replace h := Option.some.inj h
  subst h
  exact wp_ret (qf_r ((outs_ok (vs := [(.vw _ _)]) rfl (absW_cons rfl rfl (absW_nil)) rfl rfl)))
/-- loop.example/g01176/impl.allWithin -/
noncomputable def impl_allWithin (p0 : List Int) (p1 : Int) (p2 : Int) : Option Bool :=
(slices_ContainsFunc p0 p1 p2).bind fun v2 =>
some (!v2.1)
theorem impl_allWithin_ok {p0 : List Int} {p1 : Int} {p2 : Int} {o : Bool} (h : impl_allWithin p0 p1 p2 = some o) : RN 46 [.ints .i64 p0, .int .i64 p1, .int .i64 p2] [] = some (.bool o, []) := by
  refine fn_run (o := o) (nr := 0) (F := k46) (st := ⟨entry 0 [.vw [] (.ints .i64 p0), .vw [] (.int .i64 p1), .vw [] (.int .i64 p2)], fun n => ([] : List T)[n]?, 0⟩) (fun (o : Bool) => (.bool o, [])) rfl fns_46 rfl rfl ?_
  refine wp_seq ?_
  refine wp_reg (nx' := 48) rfl (ev_wr rfl (w_box (sv := (.vw _ _)) rfl rfl (absW_cons rfl rfl (absW_nil))) (ev_wr rfl (w_box (sv := (.vw _ _)) rfl rfl (absW_cons rfl rfl (absW_nil))) (ev_den (.vw _ _) rfl rfl (ev_nil)))) (seqQ_n (?_))
  refine wp_seq ?_
  obtain ⟨v2, hv2, h⟩ := bs h
  refine wp_reg (nx' := 128) rfl (ev_den (.vw _ _) rfl rfl (ev_den (.fn 66 [(.ptr 0 [] (some 0)), (.ptr 16 [] (some 0))]) rfl rfl (ev_call1 [(.vw _ _), (.fn 66 [(.ptr 0 [] (some 0)), (.ptr 16 [] (some 0))])] rfl (call_ok (rs := [0, 16]) (rd := []) rfl rfl rfl rfl (argL_cons rfl (argL_cons (argT_f (argL_cons rfl (argL_cons rfl (argL_nil)))) (argL_nil))) rfl rfl (slices_ContainsFunc_ok hv2) rfl rfl rfl rfl rfl) (ev_den (.vw _ _) rfl rfl (ev_den (.vw _ _) rfl rfl (ev_nil)))))) (seqQ_n (?_))
  replace h := Option.some.inj h
  subst h
  exact wp_ret (qf_r ((outs_ok (vs := [(.vw _ _)]) rfl (absW_cons rfl rfl (absW_nil)) rfl rfl)))
/-- loop.example/g01176/impl.IsTraffic -/
noncomputable def impl_IsTraffic (p0 : List Int) : Option Bool :=
if (decide ((List.length p0 : Int) ≤ (40 : Int))) = true then
(impl_allWithin p0 ((0 : Int)) ((1000 : Int))).bind fun v6 =>
some v6
else
some false
theorem impl_IsTraffic_ok {p0 : List Int} {o : Bool} (h : impl_IsTraffic p0 = some o) : RN 16 [.ints .i64 p0] [] = some (.bool o, []) := by
  refine fn_run (o := o) (nr := 0) (F := k16) (st := ⟨entry 0 [.vw [] (.ints .i64 p0)], fun n => ([] : List T)[n]?, 0⟩) (fun (o : Bool) => (.bool o, [])) rfl fns_16 rfl rfl ?_
  refine wp_seq ?_
  refine wp_reg (nx' := 16) rfl (ev_den (.vw _ _) rfl rfl (ev_nil)) (seqQ_n (?_))
  refine wp_seq ?_
  refine wp_gc ?_
  rcases its h with ⟨hc5, h⟩ | ⟨hc5, h⟩
  · obtain ⟨v6, hv6, h⟩ := bs h
    refine wp_reg (nx' := 144) rfl (ev_den (.vw _ _) rfl rfl (ev_den (.vw _ _) rfl rfl (ev_den (.vw _ _) rfl rfl (ev_den (.vw _ _) rfl rfl (ev_on rfl hc5 (ev_den (.vw _ _) rfl rfl (ev_on rfl hc5 (ev_call0 [(.vw _ _), (.vw _ _), (.vw _ _)] rfl (call_ok (rs := []) (rd := []) rfl rfl rfl rfl (argL_cons rfl (argL_cons rfl (argL_cons rfl (argL_nil)))) rfl rfl (impl_allWithin_ok hv6) rfl rfl rfl rfl rfl) (ev_den (.vw _ _) rfl (d_pick_t rfl hc5 rfl) (ev_den (.vw _ _) rfl rfl (ev_nil))))))))))) (gcQ_n (gc_to [] (e := [(2, .vw [] (.bool v6))]) (ts := []) (n := 0) rfl rfl rfl rfl) (seqQ_n (?_)))
    replace h := Option.some.inj h
    subst h
    exact wp_ret (qf_r ((outs_ok (vs := [(.vw _ _)]) rfl (absW_cons rfl rfl (absW_nil)) rfl rfl)))
  · refine wp_reg (nx' := 144) rfl (ev_den (.vw _ _) rfl rfl (ev_den (.vw _ _) rfl rfl (ev_den (.vw _ _) rfl rfl (ev_den (.vw _ _) rfl rfl (ev_off rfl hc5 (ev_off rfl hc5 (ev_den (.vw _ _) rfl (d_pick_f rfl hc5 rfl) (ev_den (.vw _ _) rfl rfl (ev_nil))))))))) (gcQ_n (gc_to [] (e := [(2, .vw [] (.bool false))]) (ts := []) (n := 0) rfl rfl rfl rfl) (seqQ_n (?_)))
    replace h := Option.some.inj h
    subst h
    exact wp_ret (qf_r ((outs_ok (vs := [(.vw _ _)]) rfl (absW_cons rfl rfl (absW_nil)) rfl rfl)))
end Go.Proofs.Ythecknnmfghilaa.Ev.Q3
