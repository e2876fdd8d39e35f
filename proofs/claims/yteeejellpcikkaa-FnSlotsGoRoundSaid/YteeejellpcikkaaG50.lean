/- What functions of the program come to, as plain functions; no condition. -/
import Derived.Test.YteeejellpcikkaaG5C
set_option linter.unusedVariables false
set_option linter.unusedSimpArgs false
set_option maxRecDepth 100000
set_option maxHeartbeats 4000000
set_option linter.unusedVariables false
namespace Go.Proofs.Yteeejellpcikkaa.Ev.G5
open Go
/-- loop.example/g01176/laws.big -/
noncomputable def laws_big (p0 : List Int) (p1 : List Int) : Option Bool :=
if (decide ((List.length p0 : Int) > (1048576 : Int))) = true then
some true
else
some (decide ((List.length p1 : Int) > (w64 ((1048576 : Int) - (List.length p0 : Int)))))
theorem laws_big_ok {p0 : List Int} {p1 : List Int} {o : Bool} (h : laws_big p0 p1 = some o) : RN 5 [.ints .u8 p0, .ints .u8 p1] [] = some (.bool o, []) := by
 refine fn_run (o := o) (nr := 0) (F := k5) (st := ⟨entry 0 [.vw [] (.ints .u8 p0), .vw [] (.ints .u8 p1)], fun n => ([] : List T)[n]?, 0⟩) (fun (o : Bool) => (.bool o, [])) rfl fns_5 rfl rfl rfl ?_
 refine wp_seq ?_
 refine wp_reg (nx' := 16) rfl (ev_v rfl rfl (ev_nil)) (seqQ_n (?_))
 refine wp_seq ?_
 refine wp_gc ?_
 rcases its h with ⟨hc3, h⟩ | ⟨hc3, h⟩
 ·refine wp_reg (nx' := 208) rfl (ev_v rfl rfl (ev_v rfl rfl (ev_v rfl rfl (ev_v rfl rfl (ev_off rfl hc3 (ev_off rfl hc3 (ev_off rfl hc3 (ev_off rfl hc3 (ev_off rfl hc3 (ev_off rfl hc3 (ev_v rfl (d_pick_t rfl hc3 rfl) (ev_v rfl rfl (ev_nil))))))))))))) (gcQ_n (gc_to [] (e := [(4, .vw [] (.bool true))]) (ts := []) (n := 0) rfl rfl rfl rfl) (seqQ_n (?_)))
  replace h := Option.some.inj h
  subst h
  exact wp_ret (qf_r ((outs_ok (vs := [(.vw _ _)]) rfl (absW_cons rfl rfl (absW_nil)) rfl rfl)))
 ·refine wp_reg (nx' := 208) rfl (ev_v rfl rfl (ev_v rfl rfl (ev_v rfl rfl (ev_v rfl rfl (ev_on rfl hc3 (ev_v rfl rfl (ev_on rfl hc3 (ev_v rfl rfl (ev_on rfl hc3 (ev_v rfl rfl (ev_on rfl hc3 (ev_v rfl rfl (ev_on rfl hc3 (ev_v rfl rfl (ev_on rfl hc3 (ev_v rfl rfl (ev_v rfl (d_pick_f rfl hc3 rfl) (ev_v rfl rfl (ev_nil))))))))))))))))))) (gcQ_n (gc_to [] (e := [(4, .vw [] (.bool ((decide ((List.length p1 : Int) > (w64 ((1048576 : Int) - (List.length p0 : Int))))))))]) (ts := []) (n := 0) rfl rfl rfl rfl) (seqQ_n (?_)))
  replace h := Option.some.inj h
  subst h
  exact wp_ret (qf_r ((outs_ok (vs := [(.vw _ _)]) rfl (absW_cons rfl rfl (absW_nil)) rfl rfl)))
noncomputable def spec_l1Cur_next_j1 (c0 : (List Int) × Int × Int) : Int → Option (Int × ((List Int) × Int × Int)) := fun x9 =>
(some ((IntKind.wrap .u64 ((IntKind.wrap .u64 (c0.2.2 * (6364136223846793005 : Int))) + (IntKind.wrap .u64 (x9)))))).bind fun v10 =>
if (decide ((w64 (c0.2.1 + (1 : Int))) ≤ (List.length c0.1 : Int))) = true then
some (x9, (c0.1, (w64 (c0.2.1 + (1 : Int))), (IntKind.wrap .u64 (v10 + (1442695040888963407 : Int)))))
else
(some ((andK .u64 (Int.fdiv (IntKind.wrap .u64 (v10 + (1442695040888963407 : Int))) ((2 : Int) ^ 40)) (255 : Int)))).bind fun v13 =>
some ((w64 (v13)), (c0.1, (w64 (c0.2.1 + (1 : Int))), (IntKind.wrap .u64 (v10 + (1442695040888963407 : Int)))))
/-- (*loop.example/g01176/spec.l1Cur).next -/
noncomputable def spec_l1Cur_next (c0 : (List Int) × Int × Int) : Option (Int × ((List Int) × Int × Int)) :=
if (decide (c0.2.1 < (List.length c0.1 : Int))) = true then
(at? c0.1 c0.2.1).bind fun v15 =>
spec_l1Cur_next_j1 c0 (w64 (v15))
else
spec_l1Cur_next_j1 c0 (0 : Int)
theorem spec_l1Cur_next_ok {c0 : (List Int) × Int × Int} {o : Int × ((List Int) × Int × Int)} (h : spec_l1Cur_next c0 = some o) : RN 72 [.ref 0] [.ptr (.agg [.sh (.ints .u8 c0.1), .int .i64 c0.2.1, .int .u64 c0.2.2])] = some (.int .i64 o.1, [.ptr (.agg [.sh (.ints .u8 o.2.1), .int .i64 o.2.2.1, .int .u64 o.2.2.2])]) := by
 refine fn_run (o := o) (nr := 1) (F := k72) (st := ⟨entry 0 [.ptr 0 [] (some 0)], fun n => ([.ptr (.agg [.sh (.ints .u8 c0.1), .int .i64 c0.2.1, .int .u64 c0.2.2])] : List T)[n]?, 1⟩) (fun (o : Int × ((List Int) × Int × Int)) => (.int .i64 o.1, [.ptr (.agg [.sh (.ints .u8 o.2.1), .int .i64 o.2.2.1, .int .u64 o.2.2.2])])) rfl fns_72 rfl rfl rfl ?_
 refine wp_seq ?_
 refine wp_reg (nx' := 17) rfl (ev_v rfl rfl (ev_nil)) (seqQ_n (?_))
 refine wp_seq ?_
 refine wp_reg (nx' := 33) rfl (ev_v rfl rfl (ev_nil)) (seqQ_n (?_))
 refine wp_seq ?_
 refine wp_join (spec_l1Cur_next_j1 c0) (fun (x9 : Int) => (⟨al .dead [(0, .ptr 0 [] (some 0)), (3, .vw [] (.int .i64 x9))], hl [some (.ptr (.agg [.sh (.ints .u8 c0.1), .int .i64 c0.2.1, .int .u64 c0.2.2]))], 1⟩ : St)) ?_ ?_
 ·rintro x9 o h
  unfold spec_l1Cur_next_j1 at h
  refine seqQ_n (?_)
  refine wp_seq ?_
  refine wp_reg (nx' := 129) rfl (ev_den (.ptr 0 [] (some 0)) rfl rfl (ev_den (.ptr 0 [] (some 0)) rfl rfl (ev_den (.ptr 0 [] (some 1)) rfl rfl (ev_v rfl (d_ld_o rfl (rget_of rfl (get_nil)) rfl rfl) (ev_v rfl rfl (ev_den (.ptr 0 [] (some 0)) rfl rfl (ev_den (.ptr 0 [] (some 1)) rfl rfl (ev_wr0 rfl (w_st_o rfl rfl (st1_of rfl rfl rfl (get_f rfl (get_nil)) rfl (rput_p (put_f rfl (put_nil))))) (ev_nil))))))))) (seqQ_n (?_))
  refine wp_seq ?_
  obtain ⟨v10, hv10, h⟩ := bs h
  refine wp_reg (nx' := 337) rfl (ev_den (.ptr 0 [] (some 0)) rfl rfl (ev_den (.ptr 0 [] (some 0)) rfl rfl (ev_den (.ptr 0 [] (some 0)) rfl rfl (ev_den (.ptr 0 [] (some 2)) rfl rfl (ev_v rfl (d_ld_o rfl (rget_of rfl (get_nil)) rfl rfl) (ev_v rfl rfl (ev_v rfl rfl (ev_v rfl rfl (ev_den (.vw [] (.int .u64 v10)) rfl (d_as_i rfl (Option.some.inj hv10)) (ev_v rfl rfl (ev_den (.ptr 0 [] (some 0)) rfl rfl (ev_den (.ptr 0 [] (some 2)) rfl rfl (ev_wr0 rfl (w_st_o rfl rfl (st1_of rfl rfl rfl (get_f rfl (get_nil)) rfl (rput_p (put_f rfl (put_nil))))) (ev_nil)))))))))))))) (seqQ_n (?_))
  refine wp_seq ?_
  refine wp_gc ?_
  refine wp_seq ?_
  refine wp_reg (nx' := 497) rfl (ev_den (.ptr 0 [] (some 0)) rfl rfl (ev_den (.ptr 0 [] (some 0)) rfl rfl (ev_den (.ptr 0 [] (some 1)) rfl rfl (ev_v rfl (d_ld_o rfl (rget_of rfl (get_nil)) rfl rfl) (ev_den (.ptr 0 [] (some 0)) rfl rfl (ev_den (.ptr 0 [] (some 0)) rfl rfl (ev_den (.ptr 0 [] (some 0)) rfl rfl (ev_v rfl (d_ld_o rfl (rget_of rfl (get_nil)) rfl rfl) (ev_v rfl rfl (ev_v rfl rfl (ev_nil))))))))))) (seqQ_n (?_))
  rcases its h with ⟨hc12, h⟩ | ⟨hc12, h⟩
  ·refine wp_ct rfl hc12 ?_
   refine wp_seq ?_
   refine wp_reg (nx' := 529) rfl (ev_v rfl rfl (ev_v rfl rfl (ev_nil))) (seqQ_n (?_))
   replace h := Option.some.inj h
   subst h
   exact wp_ret (gcQ_r (seqQ_r (qf_r ((outs_ok (vs := [(.vw _ _)]) rfl (absW_cons rfl rfl (absW_nil)) rfl rfl)))))
  ·refine wp_cf rfl hc12 ?_
   refine wp_skip (gcQ_n (gc_to [] (e := [(0, .ptr 0 [] (some 0))]) (ts := [some (.ptr (.agg [.sh (.ints .u8 c0.1), .int .i64 ((w64 (c0.2.1 + (1 : Int)))), .int .u64 ((IntKind.wrap .u64 (v10 + (1442695040888963407 : Int))))]))]) (n := 1) rfl rfl rfl rfl) (seqQ_n (?_)))
   refine wp_seq ?_
   obtain ⟨v13, hv13, h⟩ := bs h
   refine wp_reg (nx' := 129) rfl (ev_den (.ptr 0 [] (some 0)) rfl rfl (ev_den (.ptr 0 [] (some 0)) rfl rfl (ev_den (.ptr 0 [] (some 2)) rfl rfl (ev_v rfl (d_ld_o rfl (rget_of rfl (get_nil)) rfl rfl) (ev_v rfl (d_shr (u := ()) rfl rfl rfl) (ev_den (.vw [] (.int .u64 v13)) rfl (d_as_i rfl (Option.some.inj hv13)) (ev_v rfl rfl (ev_v rfl rfl (ev_nil))))))))) (seqQ_n (?_))
   replace h := Option.some.inj h
   subst h
   exact wp_ret (qf_r ((outs_ok (vs := [(.vw _ _)]) rfl (absW_cons rfl rfl (absW_nil)) rfl rfl)))
 ·refine wp_seq ?_
  refine wp_reg (nx' := 193) rfl (ev_den (.ptr 0 [] (some 0)) rfl rfl (ev_den (.ptr 0 [] (some 0)) rfl rfl (ev_den (.ptr 0 [] (some 1)) rfl rfl (ev_v rfl (d_ld_o rfl (rget_of rfl (get_nil)) rfl rfl) (ev_den (.ptr 0 [] (some 0)) rfl rfl (ev_den (.ptr 0 [] (some 0)) rfl rfl (ev_den (.ptr 0 [] (some 0)) rfl rfl (ev_v rfl (d_ld_o rfl (rget_of rfl (get_nil)) rfl rfl) (ev_v rfl rfl (ev_v rfl rfl (ev_nil))))))))))) (seqQ_n (?_))
  rcases its h with ⟨hc14, h⟩ | ⟨hc14, h⟩
  ·refine wp_ct rfl hc14 ?_
   obtain ⟨v15, hv15, h⟩ := bs h
   exact wp_reg (nx' := 385) rfl (ev_den (.ptr 0 [] (some 0)) rfl rfl (ev_den (.ptr 0 [] (some 0)) rfl rfl (ev_den (.ptr 0 [] (some 0)) rfl rfl (ev_v rfl (d_ld_o rfl (rget_of rfl (get_nil)) rfl rfl) (ev_den (.ptr 0 [] (some 0)) rfl rfl (ev_den (.ptr 0 [] (some 0)) rfl rfl (ev_den (.ptr 0 [] (some 1)) rfl rfl (ev_v rfl (d_ld_o rfl (rget_of rfl (get_nil)) rfl rfl) (ev_den (.pv _ _) rfl (d_idx_vi rfl rfl hv15) (ev_v rfl rfl (ev_v rfl rfl (ev_v rfl rfl (ev_nil))))))))))))) (joinQ_n (w64 (v15)) h (gc_to [] rfl rfl rfl rfl))
  ·refine wp_cf rfl hc14 ?_
   exact wp_skip (joinQ_n (0 : Int) h (gc_to [] rfl rfl rfl rfl))
noncomputable def spec_l1Cur_pick_j1 (p1 : Int) : ((List Int) × Int × Int × Int) → Option (Int × ((List Int) × Int × Int)) := fun (x15, x16, x17, x18) =>
(nz? p1).bind fun u19 =>
some ((Int.tmod x18 p1), (x15, x16, x17))
/-- (*loop.example/g01176/spec.l1Cur).pick -/
noncomputable def spec_l1Cur_pick (p1 : Int) (c0 : (List Int) × Int × Int) : Option (Int × ((List Int) × Int × Int)) :=
if (decide (p1 ≤ (1 : Int))) = true then
some ((0 : Int), c0)
else
(spec_l1Cur_next c0).bind fun v12 =>
if (decide (p1 > (200 : Int))) = true then
(spec_l1Cur_next v12.2).bind fun v21 =>
spec_l1Cur_pick_j1 p1 (v21.2.1, v21.2.2.1, v21.2.2.2, (w64 ((w64 (v12.1 * (256 : Int))) + v21.1)))
else
spec_l1Cur_pick_j1 p1 (v12.2.1, v12.2.2.1, v12.2.2.2, v12.1)
theorem spec_l1Cur_pick_ok {p1 : Int} {c0 : (List Int) × Int × Int} {o : Int × ((List Int) × Int × Int)} (h : spec_l1Cur_pick p1 c0 = some o) : RN 49 [.ref 0, .int .i64 p1] [.ptr (.agg [.sh (.ints .u8 c0.1), .int .i64 c0.2.1, .int .u64 c0.2.2])] = some (.int .i64 o.1, [.ptr (.agg [.sh (.ints .u8 o.2.1), .int .i64 o.2.2.1, .int .u64 o.2.2.2])]) := by
 refine fn_run (o := o) (nr := 1) (F := k49) (st := ⟨entry 0 [.ptr 0 [] (some 0), .vw [] (.int .i64 p1)], fun n => ([.ptr (.agg [.sh (.ints .u8 c0.1), .int .i64 c0.2.1, .int .u64 c0.2.2])] : List T)[n]?, 1⟩) (fun (o : Int × ((List Int) × Int × Int)) => (.int .i64 o.1, [.ptr (.agg [.sh (.ints .u8 o.2.1), .int .i64 o.2.2.1, .int .u64 o.2.2.2])])) rfl fns_49 rfl rfl rfl ?_
 refine wp_seq ?_
 refine wp_reg (nx' := 17) rfl (ev_v rfl rfl (ev_nil)) (seqQ_n (?_))
 refine wp_seq ?_
 refine wp_gc ?_
 refine wp_seq ?_
 refine wp_reg (nx' := 49) rfl (ev_v rfl rfl (ev_v rfl rfl (ev_nil))) (seqQ_n (?_))
 rcases its h with ⟨hc11, h⟩ | ⟨hc11, h⟩
 ·refine wp_ct rfl hc11 ?_
  refine wp_seq ?_
  refine wp_reg (nx' := 65) rfl (ev_v rfl rfl (ev_nil)) (seqQ_n (?_))
  replace h := Option.some.inj h
  subst h
  exact wp_ret (gcQ_r (seqQ_r (qf_r ((outs_ok (vs := [(.vw _ _)]) rfl (absW_cons rfl rfl (absW_nil)) rfl rfl)))))
 ·refine wp_cf rfl hc11 ?_
  refine wp_skip (gcQ_n (gc_to [] (e := [(0, .ptr 0 [] (some 0)), (1, .vw [] (.int .i64 p1))]) (ts := [some (.ptr (.agg [.sh (.ints .u8 c0.1), .int .i64 c0.2.1, .int .u64 c0.2.2]))]) (n := 1) rfl rfl rfl rfl) (seqQ_n (?_)))
  refine wp_seq ?_
  obtain ⟨v12, hv12, h⟩ := bs h
  refine wp_reg (nx' := 49) rfl (ev_den (.ptr 0 [] (some 0)) rfl rfl (ev_call1 [(.ptr 0 [] (some 0))] rfl (call_ok (rs := [0]) (rd := []) rfl rfl rfl rfl (argL_cons rfl (argL_nil)) rfl rfl (spec_l1Cur_next_ok hv12) rfl rfl rfl rfl rfl) (ev_v rfl rfl (ev_nil)))) (seqQ_n (?_))
  refine wp_seq ?_
  refine wp_join (spec_l1Cur_pick_j1 p1) (fun ((x15, x16, x17, x18) : (List Int) × Int × Int × Int) => (⟨al .dead [(1, .vw [] (.int .i64 p1)), (5, .vw [] (.int .i64 x18))], hl [some (.ptr (.agg [.sh (.ints .u8 x15), .int .i64 x16, .int .u64 x17]))], 1⟩ : St)) ?_ ?_
  ·rintro ⟨x15, x16, x17, x18⟩ o h
   unfold spec_l1Cur_pick_j1 at h
   refine seqQ_n (?_)
   refine wp_seq ?_
   obtain ⟨u19, hu19, h⟩ := bs h
   refine wp_reg (nx' := 65) rfl (ev_v rfl rfl (ev_v rfl rfl (ev_v rfl (d_rem rfl rfl hu19) (ev_v rfl rfl (ev_nil))))) (seqQ_n (?_))
   replace h := Option.some.inj h
   subst h
   exact wp_ret (qf_r ((outs_ok (vs := [(.vw _ _)]) rfl (absW_cons rfl rfl (absW_nil)) rfl rfl)))
  ·refine wp_seq ?_
   refine wp_reg (nx' := 81) rfl (ev_v rfl rfl (ev_v rfl rfl (ev_nil))) (seqQ_n (?_))
   rcases its h with ⟨hc20, h⟩ | ⟨hc20, h⟩
   ·refine wp_ct rfl hc20 ?_
    obtain ⟨v21, hv21, h⟩ := bs h
    exact wp_reg (nx' := 177) rfl (ev_v rfl rfl (ev_v rfl rfl (ev_den (.ptr 0 [] (some 0)) rfl rfl (ev_call1 [(.ptr 0 [] (some 0))] rfl (call_ok (rs := [0]) (rd := []) rfl rfl rfl rfl (argL_cons rfl (argL_nil)) rfl rfl (spec_l1Cur_next_ok hv21) rfl rfl rfl rfl rfl) (ev_v rfl rfl (ev_v rfl rfl (ev_nil))))))) (joinQ_n (v21.2.1, v21.2.2.1, v21.2.2.2, (w64 ((w64 (v12.1 * (256 : Int))) + v21.1))) h (gc_to [] rfl rfl rfl rfl))
   ·refine wp_cf rfl hc20 ?_
    exact wp_skip (joinQ_n (v12.2.1, v12.2.2.1, v12.2.2.2, v12.1) h (gc_to [] rfl rfl rfl rfl))
/-- (*loop.example/g01176/spec.l1Cur).one -/
noncomputable def spec_l1Cur_one (p1 : Int) (c0 : (List Int) × Int × Int) : Option (Bool × ((List Int) × Int × Int)) :=
(spec_l1Cur_pick p1 c0).bind fun v2 =>
some ((v2.1 == (0 : Int)), v2.2)
theorem spec_l1Cur_one_ok {p1 : Int} {c0 : (List Int) × Int × Int} {o : Bool × ((List Int) × Int × Int)} (h : spec_l1Cur_one p1 c0 = some o) : RN 67 [.ref 0, .int .i64 p1] [.ptr (.agg [.sh (.ints .u8 c0.1), .int .i64 c0.2.1, .int .u64 c0.2.2])] = some (.bool o.1, [.ptr (.agg [.sh (.ints .u8 o.2.1), .int .i64 o.2.2.1, .int .u64 o.2.2.2])]) := by
 refine fn_run (o := o) (nr := 1) (F := k67) (st := ⟨entry 0 [.ptr 0 [] (some 0), .vw [] (.int .i64 p1)], fun n => ([.ptr (.agg [.sh (.ints .u8 c0.1), .int .i64 c0.2.1, .int .u64 c0.2.2])] : List T)[n]?, 1⟩) (fun (o : Bool × ((List Int) × Int × Int)) => (.bool o.1, [.ptr (.agg [.sh (.ints .u8 o.2.1), .int .i64 o.2.2.1, .int .u64 o.2.2.2])])) rfl fns_67 rfl rfl rfl ?_
 refine wp_seq ?_
 refine wp_reg (nx' := 17) rfl (ev_v rfl rfl (ev_nil)) (seqQ_n (?_))
 refine wp_seq ?_
 obtain ⟨v2, hv2, h⟩ := bs h
 refine wp_reg (nx' := 97) rfl (ev_den (.ptr 0 [] (some 0)) rfl rfl (ev_v rfl rfl (ev_call1 [(.ptr 0 [] (some 0)), (.vw _ _)] rfl (call_ok (rs := [0]) (rd := []) rfl rfl rfl rfl (argL_cons rfl (argL_cons rfl (argL_nil))) rfl rfl (spec_l1Cur_pick_ok hv2) rfl rfl rfl rfl rfl) (ev_v rfl rfl (ev_v rfl rfl (ev_nil)))))) (seqQ_n (?_))
 replace h := Option.some.inj h
 subst h
 exact wp_ret (qf_r ((outs_ok (vs := [(.vw _ _)]) rfl (absW_cons rfl rfl (absW_nil)) rfl rfl)))
/-- (*loop.example/g01176/spec.l1Cur).among -/
noncomputable def spec_l1Cur_among (p1 : List Int) (c0 : (List Int) × Int × Int) : Option (Int × ((List Int) × Int × Int)) :=
(spec_l1Cur_pick ((List.length p1 : Int)) c0).bind fun v3 =>
(at? p1 v3.1).bind fun v4 =>
some (v4, v3.2)
theorem spec_l1Cur_among_ok {p1 : List Int} {c0 : (List Int) × Int × Int} {o : Int × ((List Int) × Int × Int)} (h : spec_l1Cur_among p1 c0 = some o) : RN 68 [.ref 0, .ints .i64 p1] [.ptr (.agg [.sh (.ints .u8 c0.1), .int .i64 c0.2.1, .int .u64 c0.2.2])] = some (.int .i64 o.1, [.ptr (.agg [.sh (.ints .u8 o.2.1), .int .i64 o.2.2.1, .int .u64 o.2.2.2])]) := by
 refine fn_run (o := o) (nr := 1) (F := k68) (st := ⟨entry 0 [.ptr 0 [] (some 0), .vw [] (.ints .i64 p1)], fun n => ([.ptr (.agg [.sh (.ints .u8 c0.1), .int .i64 c0.2.1, .int .u64 c0.2.2])] : List T)[n]?, 1⟩) (fun (o : Int × ((List Int) × Int × Int)) => (.int .i64 o.1, [.ptr (.agg [.sh (.ints .u8 o.2.1), .int .i64 o.2.2.1, .int .u64 o.2.2.2])])) rfl fns_68 rfl rfl rfl ?_
 refine wp_seq ?_
 refine wp_reg (nx' := 17) rfl (ev_v rfl rfl (ev_nil)) (seqQ_n (?_))
 refine wp_seq ?_
 obtain ⟨v3, hv3, h⟩ := bs h
 obtain ⟨v4, hv4, h⟩ := bs h
 refine wp_reg (nx' := 145) rfl (ev_v rfl rfl (ev_den (.ptr 0 [] (some 0)) rfl rfl (ev_v rfl rfl (ev_v rfl rfl (ev_call1 [(.ptr 0 [] (some 0)), (.vw _ _)] rfl (call_ok (rs := [0]) (rd := []) rfl rfl rfl rfl (argL_cons rfl (argL_cons rfl (argL_nil))) rfl rfl (spec_l1Cur_pick_ok hv3) rfl rfl rfl rfl rfl) (ev_den (.pv _ _) rfl (d_idx_vi rfl rfl hv4) (ev_v rfl rfl (ev_v rfl rfl (ev_nil))))))))) (seqQ_n (?_))
 replace h := Option.some.inj h
 subst h
 exact wp_ret (qf_r ((outs_ok (vs := [(.vw _ _)]) rfl (absW_cons rfl rfl (absW_nil)) rfl rfl)))
/-- (*loop.example/g01176/spec.l1Cur).slots -/
noncomputable def spec_l1Cur_slots (c0 : (List Int) × Int × Int) : Option ((Int × Bool) × ((List Int) × Int × Int)) :=
(spec_l1Cur_one ((12 : Int)) c0).bind fun v11 =>
if v11.1 = true then
(spec_l1Cur_among (([(0 : Int), (1 : Int), (2 : Int), (12 : Int), (13 : Int)] : List Int)) v11.2).bind fun v13 =>
(spec_l1Cur_one ((2 : Int)) v13.2).bind fun v14 =>
some ((v13.1, v14.1), v14.2)
else
(spec_l1Cur_pick ((5 : Int)) v11.2).bind fun v15 =>
(spec_l1Cur_one ((2 : Int)) v15.2).bind fun v16 =>
some (((w64 ((2 : Int) + v15.1)), v16.1), v16.2)
theorem spec_l1Cur_slots_ok {c0 : (List Int) × Int × Int} {o : (Int × Bool) × ((List Int) × Int × Int)} (h : spec_l1Cur_slots c0 = some o) : RN 65 [.ref 0] [.ptr (.agg [.sh (.ints .u8 c0.1), .int .i64 c0.2.1, .int .u64 c0.2.2])] = some (.agg [.int .i64 o.1.1, .bool o.1.2], [.ptr (.agg [.sh (.ints .u8 o.2.1), .int .i64 o.2.2.1, .int .u64 o.2.2.2])]) := by
 refine fn_run (o := o) (nr := 1) (F := k65) (st := ⟨entry 0 [.ptr 0 [] (some 0)], fun n => ([.ptr (.agg [.sh (.ints .u8 c0.1), .int .i64 c0.2.1, .int .u64 c0.2.2])] : List T)[n]?, 1⟩) (fun (o : (Int × Bool) × ((List Int) × Int × Int)) => (.agg [.int .i64 o.1.1, .bool o.1.2], [.ptr (.agg [.sh (.ints .u8 o.2.1), .int .i64 o.2.2.1, .int .u64 o.2.2.2])])) rfl fns_65 rfl rfl rfl ?_
 refine wp_seq ?_
 refine wp_reg (nx' := 17) rfl (ev_new (.ptr 1 [] (some 0)) (.ptr (.agg [.int .i64 ((0 : Int)), .bool false])) rfl rfl (ev_nil)) (seqQ_n (?_))
 refine wp_seq ?_
 refine wp_gc ?_
 refine wp_seq ?_
 obtain ⟨v11, hv11, h⟩ := bs h
 refine wp_reg (nx' := 49) rfl (ev_den (.ptr 0 [] (some 0)) rfl rfl (ev_call1 [(.ptr 0 [] (some 0)), (.vw _ _)] rfl (call_ok (rs := [0]) (rd := []) rfl rfl rfl rfl (argL_cons rfl (argL_cons rfl (argL_nil))) rfl rfl (spec_l1Cur_one_ok hv11) rfl rfl rfl rfl rfl) (ev_nil))) (seqQ_n (?_))
 rcases its h with ⟨hc12, h⟩ | ⟨hc12, h⟩
 ·refine wp_ct rfl hc12 ?_
  refine wp_seq ?_
  obtain ⟨v13, hv13, h⟩ := bs h
  obtain ⟨v14, hv14, h⟩ := bs h
  refine wp_reg (nx' := 161) rfl (ev_den (.ptr 0 [] (some 0)) rfl rfl (ev_v rfl rfl (ev_call1 [(.ptr 0 [] (some 0)), (.vw _ _)] rfl (call_ok (rs := [0]) (rd := []) rfl rfl rfl rfl (argL_cons rfl (argL_cons rfl (argL_nil))) rfl rfl (spec_l1Cur_among_ok hv13) rfl rfl rfl rfl rfl) (ev_den (.ptr 0 [] (some 0)) rfl rfl (ev_call1 [(.ptr 0 [] (some 0)), (.vw _ _)] rfl (call_ok (rs := [0]) (rd := []) rfl rfl rfl rfl (argL_cons rfl (argL_cons rfl (argL_nil))) rfl rfl (spec_l1Cur_one_ok hv14) rfl rfl rfl rfl rfl) (ev_den (.agg [(.vw _ _), (.vw _ _)]) rfl rfl (ev_wr0 rfl (w_st_a rfl rfl rfl (stL_cons (st1_of rfl rfl rfl (get_f rfl (get_nil)) rfl (rput_p (put_f rfl (put_nil)))) rfl (stL_cons (st1_of rfl rfl rfl (get_f rfl (get_nil)) rfl (rput_p (put_f rfl (put_nil)))) rfl (stL_nil)))) (ev_nil)))))))) (seqQ_n (?_))
  replace h := Option.some.inj h
  subst h
  exact wp_ret (gcQ_r (seqQ_r (qf_r ((outs_ok (vs := [(.agg [(.vw _ _), (.vw _ _)])]) rfl (absW_cons (retT_agg (absW_cons rfl rfl (absW_cons rfl rfl (absW_nil)))) rfl (absW_nil)) rfl rfl)))))
 ·refine wp_cf rfl hc12 ?_
  refine wp_skip (gcQ_n (gc_to [1] (e := [(0, .ptr 0 [] (some 0)), (2, .ptr 1 [] (some 0))]) (ts := [some (.ptr (.agg [.sh (.ints .u8 v11.2.1), .int .i64 v11.2.2.1, .int .u64 v11.2.2.2])), some (.ptr (.agg [.int .i64 ((0 : Int)), .bool false]))]) (n := 2) rfl rfl rfl rfl) (seqQ_n (?_)))
  refine wp_seq ?_
  obtain ⟨v15, hv15, h⟩ := bs h
  obtain ⟨v16, hv16, h⟩ := bs h
  refine wp_reg (nx' := 114) rfl (ev_den (.ptr 0 [] (some 0)) rfl rfl (ev_call1 [(.ptr 0 [] (some 0)), (.vw _ _)] rfl (call_ok (rs := [0]) (rd := []) rfl rfl rfl rfl (argL_cons rfl (argL_cons rfl (argL_nil))) rfl rfl (spec_l1Cur_pick_ok hv15) rfl rfl rfl rfl rfl) (ev_v rfl rfl (ev_den (.ptr 0 [] (some 0)) rfl rfl (ev_call1 [(.ptr 0 [] (some 0)), (.vw _ _)] rfl (call_ok (rs := [0]) (rd := []) rfl rfl rfl rfl (argL_cons rfl (argL_cons rfl (argL_nil))) rfl rfl (spec_l1Cur_one_ok hv16) rfl rfl rfl rfl rfl) (ev_den (.agg [(.vw _ _), (.vw _ _)]) rfl rfl (ev_wr0 rfl (w_st_a rfl rfl rfl (stL_cons (st1_of rfl rfl rfl (get_f rfl (get_nil)) rfl (rput_p (put_f rfl (put_nil)))) rfl (stL_cons (st1_of rfl rfl rfl (get_f rfl (get_nil)) rfl (rput_p (put_f rfl (put_nil)))) rfl (stL_nil)))) (ev_nil)))))))) (seqQ_n (?_))
  replace h := Option.some.inj h
  subst h
  exact wp_ret (qf_r ((outs_ok (vs := [(.agg [(.vw _ _), (.vw _ _)])]) rfl (absW_cons (retT_agg (absW_cons rfl rfl (absW_cons rfl rfl (absW_nil)))) rfl (absW_nil)) rfl rfl)))
/-- loop.example/g01176/spec.l1In -/
noncomputable def spec_l1In (p0 : Int) (p1 : Int) (p2 : Int) : Option Bool :=
if (decide (p0 ≥ p1)) = true then
some (decide (p0 ≤ p2))
else
some false
theorem spec_l1In_ok {p0 : Int} {p1 : Int} {p2 : Int} {o : Bool} (h : spec_l1In p0 p1 p2 = some o) : RN 46 [.int .i64 p0, .int .i64 p1, .int .i64 p2] [] = some (.bool o, []) := by
 refine fn_run (o := o) (nr := 0) (F := k46) (st := ⟨entry 0 [.vw [] (.int .i64 p0), .vw [] (.int .i64 p1), .vw [] (.int .i64 p2)], fun n => ([] : List T)[n]?, 0⟩) (fun (o : Bool) => (.bool o, [])) rfl fns_46 rfl rfl rfl ?_
 refine wp_seq ?_
 refine wp_reg (nx' := 16) rfl (ev_v rfl rfl (ev_nil)) (seqQ_n (?_))
 refine wp_seq ?_
 refine wp_gc ?_
 rcases its h with ⟨hc3, h⟩ | ⟨hc3, h⟩
 ·refine wp_reg (nx' := 160) rfl (ev_v rfl rfl (ev_v rfl rfl (ev_v rfl rfl (ev_v rfl rfl (ev_on rfl hc3 (ev_v rfl rfl (ev_on rfl hc3 (ev_v rfl rfl (ev_on rfl hc3 (ev_v rfl rfl (ev_v rfl (d_pick_t rfl hc3 rfl) (ev_v rfl rfl (ev_nil))))))))))))) (gcQ_n (gc_to [] (e := [(6, .vw [] (.bool ((decide (p0 ≤ p2)))))]) (ts := []) (n := 0) rfl rfl rfl rfl) (seqQ_n (?_)))
  replace h := Option.some.inj h
  subst h
  exact wp_ret (qf_r ((outs_ok (vs := [(.vw _ _)]) rfl (absW_cons rfl rfl (absW_nil)) rfl rfl)))
 ·refine wp_reg (nx' := 160) rfl (ev_v rfl rfl (ev_v rfl rfl (ev_v rfl rfl (ev_v rfl rfl (ev_off rfl hc3 (ev_off rfl hc3 (ev_off rfl hc3 (ev_v rfl (d_pick_f rfl hc3 rfl) (ev_v rfl rfl (ev_nil)))))))))) (gcQ_n (gc_to [] (e := [(6, .vw [] (.bool false))]) (ts := []) (n := 0) rfl rfl rfl rfl) (seqQ_n (?_)))
  replace h := Option.some.inj h
  subst h
  exact wp_ret (qf_r ((outs_ok (vs := [(.vw _ _)]) rfl (absW_cons rfl rfl (absW_nil)) rfl rfl)))
/-- loop.example/g01176/spec.slGood -/
noncomputable def spec_slGood (p0 : Int × Bool) : Option Bool :=
(spec_l1In p0.1 ((2 : Int)) ((12 : Int))).bind fun v2 =>
some v2
theorem spec_slGood_ok {p0 : Int × Bool} {o : Bool} (h : spec_slGood p0 = some o) : RN 61 [.agg [.int .i64 p0.1, .bool p0.2]] [] = some (.bool o, []) := by
 refine fn_run (o := o) (nr := 0) (F := k61) (st := ⟨entry 0 [.agg [.vw [] (.int .i64 p0.1), .vw [] (.bool p0.2)]], fun n => ([] : List T)[n]?, 0⟩) (fun (o : Bool) => (.bool o, [])) rfl fns_61 rfl rfl rfl ?_
 refine wp_seq ?_
 refine wp_reg (nx' := 32) rfl (ev_wr rfl (w_box (sv := (.agg [(.vw _ _), (.vw _ _)])) rfl rfl (absW_cons rfl rfl (absW_cons rfl rfl (absW_nil)))) (ev_v rfl rfl (ev_nil))) (seqQ_n (?_))
 refine wp_seq ?_
 obtain ⟨v2, hv2, h⟩ := bs h
 refine wp_reg (nx' := 96) rfl (ev_den (.ptr 0 [] (some 0)) rfl rfl (ev_v rfl (d_ld_o rfl (rget_of rfl (get_nil)) rfl rfl) (ev_call0 [(.vw _ _), (.vw _ _), (.vw _ _)] rfl (call_ok (rs := []) (rd := []) rfl rfl rfl rfl (argL_cons rfl (argL_cons rfl (argL_cons rfl (argL_nil)))) rfl rfl (spec_l1In_ok hv2) rfl rfl rfl rfl rfl) (ev_v rfl rfl (ev_nil))))) (seqQ_n (?_))
 replace h := Option.some.inj h
 subst h
 exact wp_ret (qf_r ((outs_ok (vs := [(.vw _ _)]) rfl (absW_cons rfl rfl (absW_nil)) rfl rfl)))
noncomputable def spec_l1Cur_messages_s1 (p1 : Int × Bool) : ((List Int) × Int × Int × (List (Int × Int × Int)) × Int × Int) → Option (((List Int) × Int × Int × (List (Int × Int × Int)) × Int × Int) ⊕ ((List Int) × Int × Int × (List (Int × Int × Int)))) := fun (x136, x137, x138, x139, x140, x141) =>
if (decide (x141 > (0 : Int))) = true then
(spec_l1Cur_pick p1.1 ((x136, x137, x138))).bind fun v182 =>
(spec_l1Cur_pick ((w64 (p1.1 - (1 : Int)))) v182.2).bind fun v183 =>
(nz? p1.1).bind fun u184 =>
(app? x139 (([(x140, v182.1, (Int.tmod (w64 ((w64 (v182.1 + (1 : Int))) + v183.1)) p1.1))] : List (Int × Int × Int)))).bind fun v185 =>
(spec_l1Cur_among (([(0 : Int), (0 : Int), (0 : Int), (1 : Int), (3 : Int)] : List Int)) v183.2).bind fun v186 =>
some (.inl (v186.2.1, v186.2.2.1, v186.2.2.2, v185, (w64 (x140 + v186.1)), (w64 (x141 - (1 : Int)))))
else
some (.inr (x136, x137, x138, x139))
noncomputable def spec_l1Cur_messages_l1 (p1 : Int × Bool) : ((List Int) × Int × Int × (List (Int × Int × Int)) × Int × Int) → Option ((List Int) × Int × Int × (List (Int × Int × Int))) := iter (spec_l1Cur_messages_s1 p1)
noncomputable def spec_l1Cur_messages_j2 : ((List Int) × Int × Int × (List (Int × Int × Int))) → Option ((List (Int × Int × Int)) × ((List Int) × Int × Int)) := fun (x227, x228, x229, x230) =>
some (x230, (x227, x228, x229))
noncomputable def spec_l1Cur_messages_s3 : ((List Int) × Int × Int × (List (Int × Int × Int))) → Option (((List Int) × Int × Int × (List (Int × Int × Int))) ⊕ ((List Int) × Int × Int × (List (Int × Int × Int)))) := fun (x299, x300, x301, x302) =>
(spec_l1Cur_pick ((2 : Int)) ((x299, x300, x301))).bind fun v325 =>
if (decide ((List.length x302 : Int) < (w64 ((20 : Int) + v325.1)))) = true then
(at? x302 ((w64 ((List.length x302 : Int) - (1 : Int))))).bind fun v329 =>
(app? x302 (([(v329.1, v329.2.1, v329.2.2)] : List (Int × Int × Int)))).bind fun v330 =>
some (.inl (v325.2.1, v325.2.2.1, v325.2.2.2, v330))
else
some (.inr (v325.2.1, v325.2.2.1, v325.2.2.2, x302))
noncomputable def spec_l1Cur_messages_l3 : ((List Int) × Int × Int × (List (Int × Int × Int))) → Option ((List Int) × Int × Int × (List (Int × Int × Int))) := iter (spec_l1Cur_messages_s3)
/-- (*loop.example/g01176/spec.l1Cur).messages -/
noncomputable def spec_l1Cur_messages (p1 : Int × Bool) (c0 : (List Int) × Int × Int) : Option ((List (Int × Int × Int)) × ((List Int) × Int × Int)) :=
(spec_slGood p1).bind fun v68 =>
if (!v68) = true then
some ([], c0)
else
(spec_l1Cur_pick ((3 : Int)) c0).bind fun v70 =>
(spec_l1Cur_pick ((10 : Int)) v70.2).bind fun v101 =>
(spec_l1Cur_messages_l1 p1 (v101.2.1, v101.2.2.1, v101.2.2.2, [], v70.1, v101.1)).bind fun (x154, x155, x156, x157) =>
if (decide ((List.length x157 : Int) > (0 : Int))) = true then
(spec_l1Cur_pick ((14 : Int)) ((x154, x155, x156))).bind fun v232 =>
if (v232.1 == (0 : Int)) = true then
(at? x157 ((0 : Int))).bind fun v261 =>
(spec_l1Cur_among (([v261.2.1, (-1 : Int), p1.1] : List Int)) v232.2).bind fun v262 =>
spec_l1Cur_messages_j2 (v262.2.1, v262.2.2.1, v262.2.2.2, (List.set x157 (Int.toNat ((0 : Int))) ((v261.1, v261.2.1, v262.1))))
else
if (v232.1 == (1 : Int)) = true then
(spec_l1Cur_among (([(-1 : Int), (100 : Int), (101 : Int)] : List Int)) v232.2).bind fun v268 =>
(at? x157 ((w64 ((List.length x157 : Int) - (1 : Int))))).bind fun v269 =>
spec_l1Cur_messages_j2 (v268.2.1, v268.2.2.1, v268.2.2.2, (List.set x157 (Int.toNat ((w64 ((List.length x157 : Int) - (1 : Int))))) ((v268.1, v269.2.1, v269.2.2))))
else
if (v232.1 == (2 : Int)) = true then
(spec_l1Cur_messages_l3 (v232.2.1, v232.2.2.1, v232.2.2.2, x157)).bind fun (x311, x312, x313, x314) =>
spec_l1Cur_messages_j2 (x311, x312, x313, x314)
else
spec_l1Cur_messages_j2 (v232.2.1, v232.2.2.1, v232.2.2.2, x157)
else
spec_l1Cur_messages_j2 (x154, x155, x156, x157)
theorem spec_l1Cur_messages_ok {p1 : Int × Bool} {c0 : (List Int) × Int × Int} {o : (List (Int × Int × Int)) × ((List Int) × Int × Int)} (h : spec_l1Cur_messages p1 c0 = some o) : RN 66 [.ref 0, .agg [.int .i64 p1.1, .bool p1.2]] [.ptr (.agg [.sh (.ints .u8 c0.1), .int .i64 c0.2.1, .int .u64 c0.2.2])] = some (.rows 3 (List.map e0 o.1), [.ptr (.agg [.sh (.ints .u8 o.2.1), .int .i64 o.2.2.1, .int .u64 o.2.2.2])]) := by
 refine fn_run (o := o) (nr := 1) (F := k66) (st := ⟨entry 0 [.ptr 0 [] (some 0), .agg [.vw [] (.int .i64 p1.1), .vw [] (.bool p1.2)]], fun n => ([.ptr (.agg [.sh (.ints .u8 c0.1), .int .i64 c0.2.1, .int .u64 c0.2.2])] : List T)[n]?, 1⟩) (fun (o : (List (Int × Int × Int)) × ((List Int) × Int × Int)) => (.rows 3 (List.map e0 o.1), [.ptr (.agg [.sh (.ints .u8 o.2.1), .int .i64 o.2.2.1, .int .u64 o.2.2.2])])) rfl fns_66 rfl rfl rfl ?_
 refine wp_seq ?_
 refine wp_reg (nx' := 33) rfl (ev_wr rfl (w_box (sv := (.agg [(.vw _ _), (.vw _ _)])) rfl rfl (absW_cons rfl rfl (absW_cons rfl rfl (absW_nil)))) (ev_new (.ref 17 [] 3 0 0) (.rows 3 []) rfl rfl (ev_nil))) (seqQ_n (?_))
 refine wp_seq ?_
 refine wp_gc ?_
 refine wp_seq ?_
 obtain ⟨v68, hv68, h⟩ := bs h
 refine wp_reg (nx' := 81) rfl (ev_den (.agg [(.vw _ _), (.vw _ _)]) rfl (d_ld_os rfl (rget_of rfl (get_nil)) rfl (cells_cons rfl (cells_cons rfl (cells_nil)))) (ev_call0 [(.agg [(.vw _ _), (.vw _ _)])] rfl (call_ok (rs := []) (rd := []) rfl rfl rfl rfl (argL_cons (argT_a (argL_cons rfl (argL_cons rfl (argL_nil)))) (argL_nil)) rfl rfl (spec_slGood_ok hv68) rfl rfl rfl rfl rfl) (ev_v rfl rfl (ev_nil)))) (seqQ_n (?_))
 rcases its h with ⟨hc69, h⟩ | ⟨hc69, h⟩
 ·refine wp_ct rfl hc69 ?_
  refine wp_seq ?_
  refine wp_reg (nx' := 97) rfl (ev_new (.ref 81 [] 3 0 0) (.rows 3 []) rfl rfl (ev_nil)) (seqQ_n (?_))
  replace h := Option.some.inj h
  subst h
  exact wp_ret (gcQ_r (seqQ_r (qf_r ((outs_ok (vs := [(.ref 81 _ _ _ _)]) rfl (absW_cons (retT_ref (abs_ref rfl sub_r)) rfl (absW_nil)) rfl rfl)))))
 ·refine wp_cf rfl hc69 ?_
  refine wp_skip (gcQ_n (gc_to [1] (e := [(0, .ptr 0 [] (some 0)), (3, .ptr 1 [] (some 0))]) (ts := [some (.ptr (.agg [.sh (.ints .u8 c0.1), .int .i64 c0.2.1, .int .u64 c0.2.2])), some (.ptr (.agg [.int .i64 p1.1, .bool p1.2]))]) (n := 2) rfl rfl rfl rfl) (seqQ_n (?_)))
  refine wp_seq ?_
  refine wp_reg (nx' := 18) rfl (ev_new (.ref 2 [] 3 0 0) (.rows 3 []) rfl rfl (ev_nil)) (seqQ_n (?_))
  refine wp_seq ?_
  obtain ⟨v70, hv70, h⟩ := bs h
  refine wp_reg (nx' := 66) rfl (ev_den (.ptr 0 [] (some 0)) rfl rfl (ev_call1 [(.ptr 0 [] (some 0)), (.vw _ _)] rfl (call_ok (rs := [0]) (rd := []) rfl rfl rfl rfl (argL_cons rfl (argL_cons rfl (argL_nil))) rfl rfl (spec_l1Cur_pick_ok hv70) rfl rfl rfl rfl rfl) (ev_v rfl rfl (ev_nil)))) (seqQ_n (?_))
  refine wp_seq ?_
  refine wp_gc ?_
  refine wp_seq ?_
  refine wp_gc ?_
  obtain ⟨v101, hv101, h⟩ := bs h
  refine wp_reg (nx' := 114) rfl (ev_den (.ptr 0 [] (some 0)) rfl rfl (ev_call1 [(.ptr 0 [] (some 0)), (.vw _ _)] rfl (call_ok (rs := [0]) (rd := []) rfl rfl rfl rfl (argL_cons rfl (argL_cons rfl (argL_nil))) rfl rfl (spec_l1Cur_pick_ok hv101) rfl rfl rfl rfl rfl) (ev_v rfl rfl (ev_nil)))) (gcQ_n (gc_to [1, 2] (e := [(0, .ptr 0 [] (some 0)), (3, .ptr 1 [] (some 0)), (5, .ref 2 [] 3 0 0), (6, .vw [] (.int .i64 v70.1)), (7, .vw [] (.int .i64 v101.1))]) (ts := [some (.ptr (.agg [.sh (.ints .u8 v101.2.1), .int .i64 v101.2.2.1, .int .u64 v101.2.2.2])), some (.ptr (.agg [.int .i64 p1.1, .bool p1.2])), some (.rows 3 (List.map e0 ([])))]) (n := 3) rfl rfl rfl rfl) (seqQ_n (?_)))
  refine wp_gc ?_
  refine wp_blk ?_
  obtain ⟨w197, hw197, h⟩ := bs h
  refine wp_mono (wp_loop (fun ((x136, x137, x138, x139, x140, x141) : (List Int) × Int × Int × (List (Int × Int × Int)) × Int × Int) => (⟨al .dead [(0, .ptr 0 [] (some 0)), (3, .ptr 1 [] (some 0)), (5, .ref 2 [] 3 0 (List.length x139)), (6, .vw [] (.int .i64 x140)), (7, .vw [] (.int .i64 x141))], hl [some (.ptr (.agg [.sh (.ints .u8 x136), .int .i64 x137, .int .u64 x138])), some (.ptr (.agg [.int .i64 p1.1, .bool p1.2])), some (.rows 3 (List.map e0 x139))], 3⟩ : St)) (fun ((x154, x155, x156, x157) : (List Int) × Int × Int × (List (Int × Int × Int))) e st => e = .exit 0 ∧ gc 1 [0, 3, 5] st = ⟨al .dead [(0, .ptr 0 [] (some 0)), (3, .ptr 1 [] (some 0)), (5, .ref 2 [] 3 0 (List.length x157))], hl [some (.ptr (.agg [.sh (.ints .u8 x154), .int .i64 x155, .int .u64 x156])), some (.ptr (.agg [.int .i64 p1.1, .bool p1.2])), some (.rows 3 (List.map e0 x157))], 3⟩) hw197 ?_) ?_
  ·rintro ⟨x136, x137, x138, x139, x140, x141⟩ o h
   refine wp_gc ?_
   refine wp_seq ?_
   refine wp_gc ?_
   refine wp_seq ?_
   refine wp_reg (nx' := 35) rfl (ev_v rfl rfl (ev_v rfl rfl (ev_nil))) (seqQ_n (?_))
   rcases its h with ⟨hc171, h⟩ | ⟨hc171, h⟩
   ·refine wp_ct rfl hc171 ?_
    refine wp_skip (gcQ_n (gc_to [1, 2] (e := [(0, .ptr 0 [] (some 0)), (3, .ptr 1 [] (some 0)), (5, .ref 2 [] 3 0 (List.length x139)), (6, .vw [] (.int .i64 x140)), (7, .vw [] (.int .i64 x141))]) (ts := [some (.ptr (.agg [.sh (.ints .u8 x136), .int .i64 x137, .int .u64 x138])), some (.ptr (.agg [.int .i64 p1.1, .bool p1.2])), some (.rows 3 (List.map e0 x139))]) (n := 3) rfl rfl rfl rfl) (seqQ_n (?_)))
    refine wp_seq ?_
    refine wp_gc ?_
    refine wp_gc ?_
    refine wp_blk ?_
    refine wp_seq ?_
    obtain ⟨v182, hv182, h⟩ := bs h
    refine wp_reg (nx' := 83) rfl (ev_den (.ptr 0 [] (some 0)) rfl rfl (ev_den (.ptr 1 [] (some 0)) rfl rfl (ev_v rfl (d_ld_o rfl (rget_of rfl (get_nil)) rfl rfl) (ev_call1 [(.ptr 0 [] (some 0)), (.vw _ _)] rfl (call_ok (rs := [0]) (rd := []) rfl rfl rfl rfl (argL_cons rfl (argL_cons rfl (argL_nil))) rfl rfl (spec_l1Cur_pick_ok hv182) rfl rfl rfl rfl rfl) (ev_v rfl rfl (ev_nil)))))) (seqQ_n (?_))
    refine wp_seq ?_
    obtain ⟨v183, hv183, h⟩ := bs h
    obtain ⟨u184, hu184, h⟩ := bs h
    obtain ⟨v185, hv185, h⟩ := bs h
    refine wp_regA rfl (ar_cons (nx' := 371) rfl (rl_cons rfl (ev_den (.ref 2 _ _ _ _) rfl rfl (ev_nil)) (rl_cons rfl (ev_v rfl rfl (ev_nil)) (rl_cons rfl (ev_v rfl rfl (ev_nil)) (rl_cons rfl (ev_v rfl rfl (ev_nil)) (rl_cons rfl (ev_v rfl rfl (ev_nil)) (rl_cons rfl (ev_den (.ptr 0 [] (some 0)) rfl rfl (ev_nil)) (rl_cons rfl (ev_den (.ptr 1 [] (some 0)) rfl rfl (ev_nil)) (rl_cons rfl (ev_v rfl (d_ld_o rfl (rget_of rfl (get_nil)) rfl rfl) (ev_nil)) (rl_cons rfl (ev_v rfl rfl (ev_nil)) (rl_cons rfl (ev_call1 [(.ptr 0 [] (some 0)), (.vw _ _)] rfl (call_ok (rs := [0]) (rd := []) rfl rfl rfl rfl (argL_cons rfl (argL_cons rfl (argL_nil))) rfl rfl (spec_l1Cur_pick_ok hv183) rfl rfl rfl rfl rfl) (ev_nil)) (rl_cons rfl (ev_v rfl rfl (ev_nil)) (rl_cons rfl (ev_den (.ptr 1 [] (some 0)) rfl rfl (ev_nil)) (rl_cons rfl (ev_v rfl (d_ld_o rfl (rget_of rfl (get_nil)) rfl rfl) (ev_nil)) (rl_cons rfl (ev_v rfl (d_rem rfl rfl hu184) (ev_nil)) (rl_cons rfl (ev_den (.agg [(.vw _ _), (.vw _ _), (.vw _ _)]) rfl rfl (ev_nil)) (rl_cons rfl (ev_new (.ref 323 [] 3 0 1) (.rows 3 (List.map e0 (([(x140, v182.1, (Int.tmod (w64 ((w64 (v182.1 + (1 : Int))) + v183.1)) p1.1))] : List (Int × Int × Int))))) rfl rfl (ev_nil)) (rl_cons rfl (ev_wr rfl (w_app_r (xs := x139) (ys := (([(x140, v182.1, (Int.tmod (w64 ((w64 (v182.1 + (1 : Int))) + v183.1)) p1.1))] : List (Int × Int × Int)))) (e := e0) (xv := (.ref 2 _ _ _ _)) (yv := (.ref 323 _ _ _ _)) 2 rfl rfl rfl (abs_ref rfl (sub_r (xs := ([(x140, v182.1, (Int.tmod (w64 ((w64 (v182.1 + (1 : Int))) + v183.1)) p1.1))] : List (Int × Int × Int))))) rfl (abs_ref rfl sub_r) hv185 rfl) (ev_nil)) (rl_cons rfl (ev_den (.ref 2 _ _ _ _) rfl rfl (ev_nil)) (rl_nil))))))))))))))))))) (gc_to [1, 2] (e := [(0, .ptr 0 [] (some 0)), (3, .ptr 1 [] (some 0)), (5, .ref 2 [] 3 0 (List.length v185)), (6, .vw [] (.int .i64 x140)), (7, .vw [] (.int .i64 x141))]) (ts := [some (.ptr (.agg [.sh (.ints .u8 v183.2.1), .int .i64 v183.2.2.1, .int .u64 v183.2.2.2])), some (.ptr (.agg [.int .i64 p1.1, .bool p1.2])), some (.rows 3 (List.map e0 v185))]) (n := 3) rfl rfl rfl rfl) (ar_cons (nx' := 371) rfl (rl_cons rfl (ev_den (.ref 2 _ _ _ _) rfl rfl (ev_nil)) (rl_cons rfl (ev_v rfl rfl (ev_nil)) (rl_cons rfl (ev_v rfl rfl (ev_nil)) (rl_cons rfl (ev_v rfl rfl (ev_nil)) (rl_cons rfl (ev_v rfl rfl (ev_nil)) (rl_cons rfl (ev_den (.ptr 0 [] (some 0)) rfl rfl (ev_nil)) (rl_cons rfl (ev_den (.ptr 1 [] (some 0)) rfl rfl (ev_nil)) (rl_cons rfl (ev_v rfl (d_ld_o rfl (rget_of rfl (get_nil)) rfl rfl) (ev_nil)) (rl_cons rfl (ev_v rfl rfl (ev_nil)) (rl_cons rfl (ev_den (.ptr 1 [] (some 0)) rfl rfl (ev_nil)) (rl_cons rfl (ev_call1 [(.ptr 0 [] (some 0)), (.vw _ _)] rfl (call_ok (rs := [0]) (rd := []) rfl rfl rfl rfl (argL_cons rfl (argL_cons rfl (argL_nil))) rfl rfl (spec_l1Cur_pick_ok hv183) rfl rfl rfl rfl rfl) (ev_nil)) (rl_cons rfl (ev_v rfl rfl (ev_nil)) (rl_cons rfl (ev_v rfl (d_ld_o rfl (rget_of rfl (get_nil)) rfl rfl) (ev_nil)) (rl_cons rfl (ev_v rfl (d_rem rfl rfl hu184) (ev_nil)) (rl_cons rfl (ev_den (.agg [(.vw _ _), (.vw _ _), (.vw _ _)]) rfl rfl (ev_nil)) (rl_cons rfl (ev_new (.ref 323 [] 3 0 1) (.rows 3 (List.map e0 (([(x140, v182.1, (Int.tmod (w64 ((w64 (v182.1 + (1 : Int))) + v183.1)) p1.1))] : List (Int × Int × Int))))) rfl rfl (ev_nil)) (rl_cons rfl (ev_wr rfl (w_app_r (xs := x139) (ys := (([(x140, v182.1, (Int.tmod (w64 ((w64 (v182.1 + (1 : Int))) + v183.1)) p1.1))] : List (Int × Int × Int)))) (e := e0) (xv := (.ref 2 _ _ _ _)) (yv := (.ref 323 _ _ _ _)) 2 rfl rfl rfl (abs_ref rfl (sub_r (xs := ([(x140, v182.1, (Int.tmod (w64 ((w64 (v182.1 + (1 : Int))) + v183.1)) p1.1))] : List (Int × Int × Int))))) rfl (abs_ref rfl sub_r) hv185 rfl) (ev_nil)) (rl_cons rfl (ev_den (.ref 2 _ _ _ _) rfl rfl (ev_nil)) (rl_nil))))))))))))))))))) (gc_to [1, 2] (e := [(0, .ptr 0 [] (some 0)), (3, .ptr 1 [] (some 0)), (5, .ref 2 [] 3 0 (List.length v185)), (6, .vw [] (.int .i64 x140)), (7, .vw [] (.int .i64 x141))]) (ts := [some (.ptr (.agg [.sh (.ints .u8 v183.2.1), .int .i64 v183.2.2.1, .int .u64 v183.2.2.2])), some (.ptr (.agg [.int .i64 p1.1, .bool p1.2])), some (.rows 3 (List.map e0 v185))]) (n := 3) rfl rfl rfl rfl) (ar_cons (nx' := 371) rfl (rl_cons rfl (ev_den (.ref 2 _ _ _ _) rfl rfl (ev_nil)) (rl_cons rfl (ev_v rfl rfl (ev_nil)) (rl_cons rfl (ev_v rfl rfl (ev_nil)) (rl_cons rfl (ev_v rfl rfl (ev_nil)) (rl_cons rfl (ev_v rfl rfl (ev_nil)) (rl_cons rfl (ev_den (.ptr 0 [] (some 0)) rfl rfl (ev_nil)) (rl_cons rfl (ev_den (.ptr 1 [] (some 0)) rfl rfl (ev_nil)) (rl_cons rfl (ev_v rfl (d_ld_o rfl (rget_of rfl (get_nil)) rfl rfl) (ev_nil)) (rl_cons rfl (ev_v rfl rfl (ev_nil)) (rl_cons rfl (ev_den (.ptr 1 [] (some 0)) rfl rfl (ev_nil)) (rl_cons rfl (ev_v rfl (d_ld_o rfl (rget_of rfl (get_nil)) rfl rfl) (ev_nil)) (rl_cons rfl (ev_call1 [(.ptr 0 [] (some 0)), (.vw _ _)] rfl (call_ok (rs := [0]) (rd := []) rfl rfl rfl rfl (argL_cons rfl (argL_cons rfl (argL_nil))) rfl rfl (spec_l1Cur_pick_ok hv183) rfl rfl rfl rfl rfl) (ev_nil)) (rl_cons rfl (ev_v rfl rfl (ev_nil)) (rl_cons rfl (ev_v rfl (d_rem rfl rfl hu184) (ev_nil)) (rl_cons rfl (ev_den (.agg [(.vw _ _), (.vw _ _), (.vw _ _)]) rfl rfl (ev_nil)) (rl_cons rfl (ev_new (.ref 323 [] 3 0 1) (.rows 3 (List.map e0 (([(x140, v182.1, (Int.tmod (w64 ((w64 (v182.1 + (1 : Int))) + v183.1)) p1.1))] : List (Int × Int × Int))))) rfl rfl (ev_nil)) (rl_cons rfl (ev_wr rfl (w_app_r (xs := x139) (ys := (([(x140, v182.1, (Int.tmod (w64 ((w64 (v182.1 + (1 : Int))) + v183.1)) p1.1))] : List (Int × Int × Int)))) (e := e0) (xv := (.ref 2 _ _ _ _)) (yv := (.ref 323 _ _ _ _)) 2 rfl rfl rfl (abs_ref rfl (sub_r (xs := ([(x140, v182.1, (Int.tmod (w64 ((w64 (v182.1 + (1 : Int))) + v183.1)) p1.1))] : List (Int × Int × Int))))) rfl (abs_ref rfl sub_r) hv185 rfl) (ev_nil)) (rl_cons rfl (ev_den (.ref 2 _ _ _ _) rfl rfl (ev_nil)) (rl_nil))))))))))))))))))) (gc_to [1, 2] (e := [(0, .ptr 0 [] (some 0)), (3, .ptr 1 [] (some 0)), (5, .ref 2 [] 3 0 (List.length v185)), (6, .vw [] (.int .i64 x140)), (7, .vw [] (.int .i64 x141))]) (ts := [some (.ptr (.agg [.sh (.ints .u8 v183.2.1), .int .i64 v183.2.2.1, .int .u64 v183.2.2.2])), some (.ptr (.agg [.int .i64 p1.1, .bool p1.2])), some (.rows 3 (List.map e0 v185))]) (n := 3) rfl rfl rfl rfl) (ar_nil)))) (seqQ_n (?_))
    obtain ⟨v186, hv186, h⟩ := bs h
    refine wp_reg (nx' := 99) rfl (ev_v rfl rfl (ev_den (.ptr 0 [] (some 0)) rfl rfl (ev_v rfl rfl (ev_call1 [(.ptr 0 [] (some 0)), (.vw _ _)] rfl (call_ok (rs := [0]) (rd := []) rfl rfl rfl rfl (argL_cons rfl (argL_cons rfl (argL_nil))) rfl rfl (spec_l1Cur_among_ok hv186) rfl rfl rfl rfl rfl) (ev_v rfl rfl (ev_v rfl rfl (ev_nil))))))) (blkQ_n (gcQ_n (gc_to [1, 2] (e := [(0, .ptr 0 [] (some 0)), (3, .ptr 1 [] (some 0)), (5, .ref 2 [] 3 0 (List.length v185)), (6, .vw [] (.int .i64 ((w64 (x140 + v186.1))))), (7, .vw [] (.int .i64 x141))]) (ts := [some (.ptr (.agg [.sh (.ints .u8 v186.2.1), .int .i64 v186.2.2.1, .int .u64 v186.2.2.2])), some (.ptr (.agg [.int .i64 p1.1, .bool p1.2])), some (.rows 3 (List.map e0 v185))]) (n := 3) rfl rfl rfl rfl) (gcQ_n (gc_to [1, 2] (e := [(0, .ptr 0 [] (some 0)), (3, .ptr 1 [] (some 0)), (5, .ref 2 [] 3 0 (List.length v185)), (6, .vw [] (.int .i64 ((w64 (x140 + v186.1))))), (7, .vw [] (.int .i64 x141))]) (ts := [some (.ptr (.agg [.sh (.ints .u8 v186.2.1), .int .i64 v186.2.2.1, .int .u64 v186.2.2.2])), some (.ptr (.agg [.int .i64 p1.1, .bool p1.2])), some (.rows 3 (List.map e0 v185))]) (n := 3) rfl rfl rfl rfl) (seqQ_n (?_)))))
    replace h := Option.some.inj h
    subst h
    exact wp_reg (nx' := 51) rfl (ev_v rfl rfl (ev_v rfl rfl (ev_v rfl rfl (ev_nil)))) (gcQ_n (gc_to [1, 2] (e := [(0, .ptr 0 [] (some 0)), (3, .ptr 1 [] (some 0)), (5, .ref 2 [] 3 0 (List.length v185)), (6, .vw [] (.int .i64 ((w64 (x140 + v186.1))))), (7, .vw [] (.int .i64 ((w64 (x141 - (1 : Int))))))]) (ts := [some (.ptr (.agg [.sh (.ints .u8 v186.2.1), .int .i64 v186.2.2.1, .int .u64 v186.2.2.2])), some (.ptr (.agg [.int .i64 p1.1, .bool p1.2])), some (.rows 3 (List.map e0 v185))]) (n := 3) rfl rfl rfl rfl) (loopQ_n rfl))
   ·refine wp_cf rfl hc171 ?_
    replace h := Option.some.inj h
    subst h
    exact wp_exit (gcQ_e (seqQ_e (gcQ_e (loopQ_e (And.intro rfl (gc_to [1, 2] (e := [(0, .ptr 0 [] (some 0)), (3, .ptr 1 [] (some 0)), (5, .ref 2 [] 3 0 (List.length x139))]) (ts := [some (.ptr (.agg [.sh (.ints .u8 x136), .int .i64 x137, .int .u64 x138])), some (.ptr (.agg [.int .i64 p1.1, .bool p1.2])), some (.rows 3 (List.map e0 x139))]) (n := 3) rfl rfl rfl rfl))))))
  ·intro e st197 hg197
   obtain ⟨x154, x155, x156, x157⟩ := w197
   obtain ⟨rfl, hg197⟩ := hg197
   refine blkQ_h (gcQ_n hg197 (gcQ_n (gc_to [1, 2] (e := [(0, .ptr 0 [] (some 0)), (3, .ptr 1 [] (some 0)), (5, .ref 2 [] 3 0 (List.length x157))]) (ts := [some (.ptr (.agg [.sh (.ints .u8 x154), .int .i64 x155, .int .u64 x156])), some (.ptr (.agg [.int .i64 p1.1, .bool p1.2])), some (.rows 3 (List.map e0 x157))]) (n := 3) rfl rfl rfl rfl) (seqQ_n (?_))))
   refine wp_seq ?_
   refine wp_join (spec_l1Cur_messages_j2) (fun ((x227, x228, x229, x230) : (List Int) × Int × Int × (List (Int × Int × Int))) => (⟨al .dead [(5, .ref 1 [] 3 0 (List.length x230))], hl [some (.ptr (.agg [.sh (.ints .u8 x227), .int .i64 x228, .int .u64 x229])), some (.rows 3 (List.map e0 x230))], 2⟩ : St)) ?_ ?_
   ·rintro ⟨x227, x228, x229, x230⟩ o h
    unfold spec_l1Cur_messages_j2 at h
    refine seqQ_n (?_)
    refine wp_seq ?_
    refine wp_reg (nx' := 34) rfl (ev_den (.ref 1 _ _ _ _) rfl rfl (ev_den (.ref 1 _ _ _ _) rfl rfl (ev_nil))) (seqQ_n (?_))
    replace h := Option.some.inj h
    subst h
    exact wp_ret (qf_r ((outs_ok (vs := [(.ref 1 _ _ _ _)]) rfl (absW_cons (retT_ref (abs_ref rfl sub_r)) rfl (absW_nil)) rfl rfl)))
   ·refine wp_seq ?_
    refine wp_reg (nx' := 51) rfl (ev_den (.ref 2 _ _ _ _) rfl rfl (ev_v rfl rfl (ev_v rfl rfl (ev_nil)))) (seqQ_n (?_))
    rcases its h with ⟨hc231, h⟩ | ⟨hc231, h⟩
    ·refine wp_ct rfl hc231 ?_
     refine wp_seq ?_
     obtain ⟨v232, hv232, h⟩ := bs h
     refine wp_reg (nx' := 83) rfl (ev_den (.ptr 0 [] (some 0)) rfl rfl (ev_call1 [(.ptr 0 [] (some 0)), (.vw _ _)] rfl (call_ok (rs := [0]) (rd := []) rfl rfl rfl rfl (argL_cons rfl (argL_cons rfl (argL_nil))) rfl rfl (spec_l1Cur_pick_ok hv232) rfl rfl rfl rfl rfl) (ev_nil))) (seqQ_n (?_))
     refine wp_gc ?_
     refine wp_blk ?_
     refine wp_seq ?_
     refine wp_reg (nx' := 115) rfl (ev_v rfl rfl (ev_v rfl rfl (ev_nil))) (seqQ_n (?_))
     rcases its h with ⟨hc260, h⟩ | ⟨hc260, h⟩
     ·refine wp_ct rfl hc260 ?_
      obtain ⟨v261, hv261, h⟩ := bs h
      obtain ⟨v262, hv262, h⟩ := bs h
      exact wp_reg (nx' := 323) rfl (ev_den (.ref 2 _ _ _ _) rfl rfl (ev_den (.ptr 0 [] (some 0)) rfl rfl (ev_den (.ref 2 _ _ _ _) rfl rfl (ev_den (.ptr 2 [.e (Int.toNat ((0 : Int)))] (some 0)) rfl (d_idx_r (p := []) rfl rfl hv261) (ev_den (.ptr 2 [.e (Int.toNat ((0 : Int)))] (some 1)) rfl rfl (ev_v rfl (d_ld_o rfl (rget_of rfl (get_r (e := e0) hv261 (get_nil))) rfl rfl) (ev_den (.ptr 1 [] (some 0)) rfl rfl (ev_v rfl (d_ld_o rfl (rget_of rfl (get_nil)) rfl rfl) (ev_v rfl rfl (ev_call1 [(.ptr 0 [] (some 0)), (.vw _ _)] rfl (call_ok (rs := [0]) (rd := []) rfl rfl rfl rfl (argL_cons rfl (argL_cons rfl (argL_nil))) rfl rfl (spec_l1Cur_among_ok hv262) rfl rfl rfl rfl rfl) (ev_den (.ptr 2 [.e (Int.toNat ((0 : Int)))] (some 0)) rfl (d_idx_r (p := []) rfl rfl hv261) (ev_den (.ptr 2 [.e (Int.toNat ((0 : Int)))] (some 2)) rfl rfl (ev_wr0 rfl (w_st_o rfl rfl (st1_of rfl rfl rfl (get_r (e := e0) hv261 (get_f rfl (get_nil))) rfl (rput_r (put_r (e := e0) ((v261.1, v261.2.1, v262.1)) hv261 (put_f rfl (put_nil)))))) (ev_relen (b := (List.length ((List.set x157 (Int.toNat ((0 : Int))) ((v261.1, v261.2.1, v262.1)))))) 5 rfl List.length_set.symm (ev_nil))))))))))))))) (blkQ_n (gcQ_n (gc_to [2] (e := [(5, .ref 1 [] 3 0 (List.length ((List.set x157 (Int.toNat ((0 : Int))) ((v261.1, v261.2.1, v262.1))))))]) (ts := [some (.ptr (.agg [.sh (.ints .u8 v262.2.1), .int .i64 v262.2.2.1, .int .u64 v262.2.2.2])), some (.rows 3 (List.map e0 ((List.set x157 (Int.toNat ((0 : Int))) ((v261.1, v261.2.1, v262.1))))))]) (n := 2) rfl rfl rfl rfl) (joinQ_n (v262.2.1, v262.2.2.1, v262.2.2.2, (List.set x157 (Int.toNat ((0 : Int))) ((v261.1, v261.2.1, v262.1)))) h (gc_to [1] rfl rfl rfl rfl))))
     ·refine wp_cf rfl hc260 ?_
      refine wp_seq ?_
      refine wp_reg (nx' := 147) rfl (ev_v rfl rfl (ev_v rfl rfl (ev_nil))) (seqQ_n (?_))
      rcases its h with ⟨hc267, h⟩ | ⟨hc267, h⟩
      ·refine wp_ct rfl hc267 ?_
       obtain ⟨v268, hv268, h⟩ := bs h
       obtain ⟨v269, hv269, h⟩ := bs h
       exact wp_reg (nx' := 307) rfl (ev_den (.ref 2 _ _ _ _) rfl rfl (ev_den (.ref 2 _ _ _ _) rfl rfl (ev_v rfl rfl (ev_v rfl rfl (ev_den (.ptr 0 [] (some 0)) rfl rfl (ev_v rfl rfl (ev_call1 [(.ptr 0 [] (some 0)), (.vw _ _)] rfl (call_ok (rs := [0]) (rd := []) rfl rfl rfl rfl (argL_cons rfl (argL_cons rfl (argL_nil))) rfl rfl (spec_l1Cur_among_ok hv268) rfl rfl rfl rfl rfl) (ev_den (.ptr 2 [.e (Int.toNat ((w64 ((List.length x157 : Int) - (1 : Int)))))] (some 0)) rfl (d_idx_r (p := []) rfl rfl hv269) (ev_den (.ptr 2 [.e (Int.toNat ((w64 ((List.length x157 : Int) - (1 : Int)))))] (some 0)) rfl rfl (ev_wr0 rfl (w_st_o rfl rfl (st1_of rfl rfl rfl (get_r (e := e0) hv269 (get_f rfl (get_nil))) rfl (rput_r (put_r (e := e0) ((v268.1, v269.2.1, v269.2.2)) hv269 (put_f rfl (put_nil)))))) (ev_relen (b := (List.length ((List.set x157 (Int.toNat ((w64 ((List.length x157 : Int) - (1 : Int))))) ((v268.1, v269.2.1, v269.2.2)))))) 5 rfl List.length_set.symm (ev_nil)))))))))))) (blkQ_n (gcQ_n (gc_to [2] (e := [(5, .ref 1 [] 3 0 (List.length ((List.set x157 (Int.toNat ((w64 ((List.length x157 : Int) - (1 : Int))))) ((v268.1, v269.2.1, v269.2.2))))))]) (ts := [some (.ptr (.agg [.sh (.ints .u8 v268.2.1), .int .i64 v268.2.2.1, .int .u64 v268.2.2.2])), some (.rows 3 (List.map e0 ((List.set x157 (Int.toNat ((w64 ((List.length x157 : Int) - (1 : Int))))) ((v268.1, v269.2.1, v269.2.2))))))]) (n := 2) rfl rfl rfl rfl) (joinQ_n (v268.2.1, v268.2.2.1, v268.2.2.2, (List.set x157 (Int.toNat ((w64 ((List.length x157 : Int) - (1 : Int))))) ((v268.1, v269.2.1, v269.2.2)))) h (gc_to [1] rfl rfl rfl rfl))))
      ·refine wp_cf rfl hc267 ?_
       refine wp_seq ?_
       refine wp_reg (nx' := 179) rfl (ev_v rfl rfl (ev_v rfl rfl (ev_nil))) (seqQ_n (?_))
       rcases its h with ⟨hc274, h⟩ | ⟨hc274, h⟩
       ·refine wp_ct rfl hc274 ?_
        refine wp_pre (gc_to [2] (e := [(0, .ptr 0 [] (some 0)), (5, .ref 1 [] 3 0 (List.length x157))]) (ts := [some (.ptr (.agg [.sh (.ints .u8 v232.2.1), .int .i64 v232.2.2.1, .int .u64 v232.2.2.2])), some (.rows 3 (List.map e0 x157))]) (n := 2) rfl rfl rfl rfl) ?_
        refine wp_gc ?_
        refine wp_blk ?_
        obtain ⟨w339, hw339, h⟩ := bs h
        refine wp_mono (wp_loop (fun ((x299, x300, x301, x302) : (List Int) × Int × Int × (List (Int × Int × Int))) => (⟨al .dead [(0, .ptr 0 [] (some 0)), (5, .ref 1 [] 3 0 (List.length x302))], hl [some (.ptr (.agg [.sh (.ints .u8 x299), .int .i64 x300, .int .u64 x301])), some (.rows 3 (List.map e0 x302))], 2⟩ : St)) (fun ((x311, x312, x313, x314) : (List Int) × Int × Int × (List (Int × Int × Int))) e st => e = .exit 3 ∧ gc 1 [5] st = ⟨al .dead [(5, .ref 1 [] 3 0 (List.length x314))], hl [some (.ptr (.agg [.sh (.ints .u8 x311), .int .i64 x312, .int .u64 x313])), some (.rows 3 (List.map e0 x314))], 2⟩) hw339 ?_) ?_
        ·rintro ⟨x299, x300, x301, x302⟩ o h
         refine wp_gc ?_
         refine wp_seq ?_
         refine wp_gc ?_
         refine wp_seq ?_
         obtain ⟨v325, hv325, h⟩ := bs h
         refine wp_reg (nx' := 98) rfl (ev_den (.ref 1 _ _ _ _) rfl rfl (ev_v rfl rfl (ev_den (.ptr 0 [] (some 0)) rfl rfl (ev_call1 [(.ptr 0 [] (some 0)), (.vw _ _)] rfl (call_ok (rs := [0]) (rd := []) rfl rfl rfl rfl (argL_cons rfl (argL_cons rfl (argL_nil))) rfl rfl (spec_l1Cur_pick_ok hv325) rfl rfl rfl rfl rfl) (ev_v rfl rfl (ev_v rfl rfl (ev_nil))))))) (seqQ_n (?_))
         rcases its h with ⟨hc326, h⟩ | ⟨hc326, h⟩
         ·refine wp_ct rfl hc326 ?_
          refine wp_skip (gcQ_n (gc_to [1] (e := [(0, .ptr 0 [] (some 0)), (5, .ref 1 [] 3 0 (List.length x302))]) (ts := [some (.ptr (.agg [.sh (.ints .u8 v325.2.1), .int .i64 v325.2.2.1, .int .u64 v325.2.2.2])), some (.rows 3 (List.map e0 x302))]) (n := 2) rfl rfl rfl rfl) (seqQ_n (?_)))
          refine wp_gc ?_
          refine wp_blk ?_
          obtain ⟨v329, hv329, h⟩ := bs h
          obtain ⟨v330, hv330, h⟩ := bs h
          replace h := Option.some.inj h
          subst h
          exact wp_reg (nx' := 162) rfl (ev_den (.ref 1 _ _ _ _) rfl rfl (ev_den (.ref 1 _ _ _ _) rfl rfl (ev_den (.ref 1 _ _ _ _) rfl rfl (ev_v rfl rfl (ev_v rfl rfl (ev_den (.ptr 1 [.e (Int.toNat ((w64 ((List.length x302 : Int) - (1 : Int)))))] (some 0)) rfl (d_idx_r (p := []) rfl rfl hv329) (ev_den (.agg [(.vw _ _), (.vw _ _), (.vw _ _)]) rfl (d_ld_os rfl (rget_of rfl (get_r (e := e0) hv329 (get_nil))) rfl (cells_cons rfl (cells_cons rfl (cells_cons rfl (cells_nil))))) (ev_new (.ref 114 [] 3 0 1) (.rows 3 (List.map e0 (([(v329.1, v329.2.1, v329.2.2)] : List (Int × Int × Int))))) rfl rfl (ev_wr rfl (w_app_r (xs := x302) (ys := (([(v329.1, v329.2.1, v329.2.2)] : List (Int × Int × Int)))) (e := e0) (xv := (.ref 1 _ _ _ _)) (yv := (.ref 114 _ _ _ _)) 1 rfl rfl rfl (abs_ref rfl (sub_r (xs := ([(v329.1, v329.2.1, v329.2.2)] : List (Int × Int × Int))))) rfl (abs_ref rfl sub_r) hv330 rfl) (ev_den (.ref 1 _ _ _ _) rfl rfl (ev_nil))))))))))) (blkQ_n (gcQ_n (gc_to [1] (e := [(0, .ptr 0 [] (some 0)), (5, .ref 1 [] 3 0 (List.length v330))]) (ts := [some (.ptr (.agg [.sh (.ints .u8 v325.2.1), .int .i64 v325.2.2.1, .int .u64 v325.2.2.2])), some (.rows 3 (List.map e0 v330))]) (n := 2) rfl rfl rfl rfl) (gcQ_n (gc_to [1] (e := [(0, .ptr 0 [] (some 0)), (5, .ref 1 [] 3 0 (List.length v330))]) (ts := [some (.ptr (.agg [.sh (.ints .u8 v325.2.1), .int .i64 v325.2.2.1, .int .u64 v325.2.2.2])), some (.rows 3 (List.map e0 v330))]) (n := 2) rfl rfl rfl rfl) (loopQ_n rfl))))
         ·refine wp_cf rfl hc326 ?_
          replace h := Option.some.inj h
          subst h
          exact wp_exit (gcQ_e (seqQ_e (gcQ_e (loopQ_e (And.intro rfl (gc_to [1] (e := [(5, .ref 1 [] 3 0 (List.length x302))]) (ts := [some (.ptr (.agg [.sh (.ints .u8 v325.2.1), .int .i64 v325.2.2.1, .int .u64 v325.2.2.2])), some (.rows 3 (List.map e0 x302))]) (n := 2) rfl rfl rfl rfl))))))
        ·intro e st339 hg339
         obtain ⟨x311, x312, x313, x314⟩ := w339
         obtain ⟨rfl, hg339⟩ := hg339
         exact blkQ_h (gcQ_n hg339 (blkQ_n (gcQ_n (gc_to [1] (e := [(5, .ref 1 [] 3 0 (List.length x314))]) (ts := [some (.ptr (.agg [.sh (.ints .u8 x311), .int .i64 x312, .int .u64 x313])), some (.rows 3 (List.map e0 x314))]) (n := 2) rfl rfl rfl rfl) (joinQ_n (x311, x312, x313, x314) h (gc_to [1] rfl rfl rfl rfl)))))
       ·refine wp_cf rfl hc274 ?_
        exact wp_skip (blkQ_n (gcQ_n (gc_to [2] (e := [(5, .ref 1 [] 3 0 (List.length x157))]) (ts := [some (.ptr (.agg [.sh (.ints .u8 v232.2.1), .int .i64 v232.2.2.1, .int .u64 v232.2.2.2])), some (.rows 3 (List.map e0 x157))]) (n := 2) rfl rfl rfl rfl) (joinQ_n (v232.2.1, v232.2.2.1, v232.2.2.2, x157) h (gc_to [1] rfl rfl rfl rfl))))
    ·refine wp_cf rfl hc231 ?_
     exact wp_skip (joinQ_n (x154, x155, x156, x157) h (gc_to [2] rfl rfl rfl rfl))
/-- (*loop.example/g01176/spec.l1Cur).slotted -/
noncomputable def spec_l1Cur_slotted (c0 : (List Int) × Int × Int) : Option (((Int × Bool) × (List (Int × Int × Int))) × ((List Int) × Int × Int)) :=
(spec_l1Cur_slots c0).bind fun v3 =>
(spec_l1Cur_messages v3.1 v3.2).bind fun v4 =>
some ((v3.1, v4.1), v4.2)
theorem spec_l1Cur_slotted_ok {c0 : (List Int) × Int × Int} {o : ((Int × Bool) × (List (Int × Int × Int))) × ((List Int) × Int × Int)} (h : spec_l1Cur_slotted c0 = some o) : RN 39 [.ref 0] [.ptr (.agg [.sh (.ints .u8 c0.1), .int .i64 c0.2.1, .int .u64 c0.2.2])] = some (.tup [.agg [.int .i64 o.1.1.1, .bool o.1.1.2], .rows 3 (List.map e0 o.1.2)], [.ptr (.agg [.sh (.ints .u8 o.2.1), .int .i64 o.2.2.1, .int .u64 o.2.2.2])]) := by
 refine fn_run (o := o) (nr := 1) (F := k39) (st := ⟨entry 0 [.ptr 0 [] (some 0)], fun n => ([.ptr (.agg [.sh (.ints .u8 c0.1), .int .i64 c0.2.1, .int .u64 c0.2.2])] : List T)[n]?, 1⟩) (fun (o : ((Int × Bool) × (List (Int × Int × Int))) × ((List Int) × Int × Int)) => (.tup [.agg [.int .i64 o.1.1.1, .bool o.1.1.2], .rows 3 (List.map e0 o.1.2)], [.ptr (.agg [.sh (.ints .u8 o.2.1), .int .i64 o.2.2.1, .int .u64 o.2.2.2])])) rfl fns_39 rfl rfl rfl ?_
 refine wp_seq ?_
 refine wp_reg (nx' := 33) rfl (ev_new (.ptr 1 [] (some 0)) (.ptr (.agg [.int .i64 ((0 : Int)), .bool false])) rfl rfl (ev_new (.ref 17 [] 3 0 0) (.rows 3 []) rfl rfl (ev_nil))) (seqQ_n (?_))
 refine wp_seq ?_
 obtain ⟨v3, hv3, h⟩ := bs h
 refine wp_reg (nx' := 97) rfl (ev_den (.ptr 0 [] (some 0)) rfl rfl (ev_call1 [(.ptr 0 [] (some 0))] rfl (call_ok (rs := [0]) (rd := []) rfl rfl rfl rfl (argL_cons rfl (argL_nil)) rfl rfl (spec_l1Cur_slots_ok hv3) rfl rfl rfl (bindR_a (bindL_cons rfl (bindL_cons rfl (bindL_nil)))) rfl) (ev_new (.ptr 65 [] (some 0)) (.ptr (.agg [.int .i64 ((0 : Int)), .bool false])) rfl rfl (ev_wr0 rfl (w_st_a rfl rfl rfl (stL_cons (st1_of rfl rfl rfl (get_f rfl (get_nil)) rfl (rput_p (put_f rfl (put_nil)))) rfl (stL_cons (st1_of rfl rfl rfl (get_f rfl (get_nil)) rfl (rput_p (put_f rfl (put_nil)))) rfl (stL_nil)))) (ev_nil))))) (seqQ_n (?_))
 refine wp_seq ?_
 obtain ⟨v4, hv4, h⟩ := bs h
 refine wp_regA rfl (ar_cons (nx' := 193) rfl (rl_cons rfl (ev_den (.agg [(.vw _ _), (.vw _ _)]) rfl (d_ld_os rfl (rget_of rfl (get_nil)) rfl (cells_cons rfl (cells_cons rfl (cells_nil)))) (ev_nil)) (rl_cons rfl (ev_den (.ptr 0 [] (some 0)) rfl rfl (ev_nil)) (rl_cons rfl (ev_den (.agg [(.vw _ _), (.vw _ _)]) rfl (d_ld_os rfl (rget_of rfl (get_nil)) rfl (cells_cons rfl (cells_cons rfl (cells_nil)))) (ev_nil)) (rl_cons rfl (ev_call1 [(.ptr 0 [] (some 0)), (.agg [(.vw _ _), (.vw _ _)])] rfl (call_ok (rs := [0]) (rd := []) rfl rfl rfl rfl (argL_cons rfl (argL_cons (argT_a (argL_cons rfl (argL_cons rfl (argL_nil)))) (argL_nil))) rfl rfl (spec_l1Cur_messages_ok hv4) rfl rfl rfl bindR_r rfl) (ev_nil)) (rl_cons rfl (ev_wr0 rfl (w_st_a rfl rfl rfl (stL_cons (st1_of rfl rfl rfl (get_f rfl (get_nil)) rfl (rput_p (put_f rfl (put_nil)))) rfl (stL_cons (st1_of rfl rfl rfl (get_f rfl (get_nil)) rfl (rput_p (put_f rfl (put_nil)))) rfl (stL_nil)))) (ev_nil)) (rl_cons rfl (ev_den (.ref 145 _ _ _ _) rfl rfl (ev_nil)) (rl_nil))))))) (gc_to [1, 145] (e := [(2, .ptr 1 [] (some 0)), (3, .ref 2 [] 3 0 (List.length v4.1))]) (ts := [some (.ptr (.agg [.sh (.ints .u8 v4.2.1), .int .i64 v4.2.2.1, .int .u64 v4.2.2.2])), some (.ptr (.agg [.int .i64 v3.1.1, .bool v3.1.2])), some (.rows 3 (List.map e0 v4.1))]) (n := 3) rfl rfl rfl rfl) (ar_cons (nx' := 193) rfl (rl_cons rfl (ev_den (.ptr 0 [] (some 0)) rfl rfl (ev_nil)) (rl_cons rfl (ev_den (.agg [(.vw _ _), (.vw _ _)]) rfl (d_ld_os rfl (rget_of rfl (get_nil)) rfl (cells_cons rfl (cells_cons rfl (cells_nil)))) (ev_nil)) (rl_cons rfl (ev_call1 [(.ptr 0 [] (some 0)), (.agg [(.vw _ _), (.vw _ _)])] rfl (call_ok (rs := [0]) (rd := []) rfl rfl rfl rfl (argL_cons rfl (argL_cons (argT_a (argL_cons rfl (argL_cons rfl (argL_nil)))) (argL_nil))) rfl rfl (spec_l1Cur_messages_ok hv4) rfl rfl rfl bindR_r rfl) (ev_nil)) (rl_cons rfl (ev_den (.agg [(.vw _ _), (.vw _ _)]) rfl (d_ld_os rfl (rget_of rfl (get_nil)) rfl (cells_cons rfl (cells_cons rfl (cells_nil)))) (ev_nil)) (rl_cons rfl (ev_wr0 rfl (w_st_a rfl rfl rfl (stL_cons (st1_of rfl rfl rfl (get_f rfl (get_nil)) rfl (rput_p (put_f rfl (put_nil)))) rfl (stL_cons (st1_of rfl rfl rfl (get_f rfl (get_nil)) rfl (rput_p (put_f rfl (put_nil)))) rfl (stL_nil)))) (ev_nil)) (rl_cons rfl (ev_den (.ref 145 _ _ _ _) rfl rfl (ev_nil)) (rl_nil))))))) (gc_to [1, 145] (e := [(2, .ptr 1 [] (some 0)), (3, .ref 2 [] 3 0 (List.length v4.1))]) (ts := [some (.ptr (.agg [.sh (.ints .u8 v4.2.1), .int .i64 v4.2.2.1, .int .u64 v4.2.2.2])), some (.ptr (.agg [.int .i64 v3.1.1, .bool v3.1.2])), some (.rows 3 (List.map e0 v4.1))]) (n := 3) rfl rfl rfl rfl) (ar_nil))) (seqQ_n (?_))
 replace h := Option.some.inj h
 subst h
 exact wp_ret (qf_r ((outs_ok (vs := [(.agg [(.vw _ _), (.vw _ _)]), (.ref 2 _ _ _ _)]) rfl (absW_cons (retT_agg (absW_cons rfl rfl (absW_cons rfl rfl (absW_nil)))) rfl (absW_cons (retT_ref (abs_ref rfl sub_r)) rfl (absW_nil))) rfl rfl)))
/-- loop.example/g01176/spec.DrawAreMessages -/
noncomputable def spec_DrawAreMessages (p0 : List Int) : Option (((Int × Bool) × (List (Int × Int × Int)))) :=
(spec_l1Cur_slotted ((p0, (0 : Int), (0 : Int)))).bind fun v2 =>
some v2.1
theorem spec_DrawAreMessages_ok {p0 : List Int} {o : ((Int × Bool) × (List (Int × Int × Int)))} (h : spec_DrawAreMessages p0 = some o) : RN 56 [.ints .u8 p0] [] = some (.tup [.agg [.int .i64 o.1.1, .bool o.1.2], .rows 3 (List.map e0 o.2)], []) := by
 refine fn_run (o := o) (nr := 0) (F := k56) (st := ⟨entry 0 [.vw [] (.ints .u8 p0)], fun n => ([] : List T)[n]?, 0⟩) (fun (o : ((Int × Bool) × (List (Int × Int × Int)))) => (.tup [.agg [.int .i64 o.1.1, .bool o.1.2], .rows 3 (List.map e0 o.2)], [])) rfl fns_56 rfl rfl rfl ?_
 refine wp_seq ?_
 refine wp_reg (nx' := 32) rfl (ev_new (.ptr 0 [] (some 0)) (.ptr (.agg [.int .i64 ((0 : Int)), .bool false])) rfl rfl (ev_new (.ref 16 [] 3 0 0) (.rows 3 []) rfl rfl (ev_nil))) (seqQ_n (?_))
 refine wp_seq ?_
 refine wp_reg (nx' := 96) rfl (ev_v rfl rfl (ev_den (.agg [(.vw _ _), (.vw _ _), (.vw _ _)]) rfl rfl (ev_wr rfl (w_box (sv := (.agg [(.vw _ _), (.vw _ _), (.vw _ _)])) rfl rfl (absW_cons rfl rfl (absW_cons rfl rfl (absW_cons rfl rfl (absW_nil))))) (ev_den (.ptr 64 [] (some 0)) rfl rfl (ev_nil))))) (seqQ_n (?_))
 refine wp_seq ?_
 obtain ⟨v2, hv2, h⟩ := bs h
 refine wp_reg (nx' := 192) rfl (ev_den (.ptr 64 [] (some 0)) rfl rfl (ev_call1 [(.ptr 64 [] (some 0))] rfl (call_ok (rs := [64]) (rd := []) rfl rfl rfl rfl (argL_cons rfl (argL_nil)) rfl rfl (spec_l1Cur_slotted_ok hv2) rfl rfl rfl (bindR_t (bindL_cons (bindR_a (bindL_cons rfl (bindL_cons rfl (bindL_nil)))) (bindL_cons bindR_r (bindL_nil)))) rfl) (ev_den (.agg [(.vw _ _), (.vw _ _)]) rfl rfl (ev_den (.ref 112 _ _ _ _) rfl rfl (ev_wr0 rfl (w_st_a rfl rfl rfl (stL_cons (st1_of rfl rfl rfl (get_f rfl (get_nil)) rfl (rput_p (put_f rfl (put_nil)))) rfl (stL_cons (st1_of rfl rfl rfl (get_f rfl (get_nil)) rfl (rput_p (put_f rfl (put_nil)))) rfl (stL_nil)))) (ev_den (.ref 112 _ _ _ _) rfl rfl (ev_nil))))))) (seqQ_n (?_))
 replace h := Option.some.inj h
 subst h
 exact wp_ret (qf_r ((outs_ok (vs := [(.agg [(.vw _ _), (.vw _ _)]), (.ref 112 _ _ _ _)]) rfl (absW_cons (retT_agg (absW_cons rfl rfl (absW_cons rfl rfl (absW_nil)))) rfl (absW_cons (retT_ref (abs_ref rfl sub_r)) rfl (absW_nil))) rfl rfl)))
end Go.Proofs.Yteeejellpcikkaa.Ev.G5
