/- What functions of the program come to, as plain functions; no condition. -/
import Derived.Test.YtdblfocadcgmaaaW7C
set_option linter.unusedVariables false
set_option linter.unusedSimpArgs false
set_option maxRecDepth 100000
set_option maxHeartbeats 4000000
set_option linter.unusedVariables false
namespace Go.Proofs.Ytdblfocadcgmaaa.Ev.W7
open Go
noncomputable def laws_big (p0 : List Int) (p1 : List Int) : Option Bool :=
if (decide ((List.length p0 : Int) > (1048576 : Int))) = true then
some true
else
some (decide ((List.length p1 : Int) > (w64 ((1048576 : Int) - (List.length p0 : Int)))))
theorem laws_big_ok {p0 : List Int} {p1 : List Int} {o : Bool} (h : laws_big p0 p1 = some o) : RN 5 [.ints .u8 p0, .ints .u8 p1] [] = some (.bool o, []) := by
 refine fn_run (o := o) (nr := 0) (F := k5) (st := ⟨entry 0 [.vw [] (.ints .u8 p0), .vw [] (.ints .u8 p1)], fun n => ([] : List T)[n]?, 0⟩) (fun (o : Bool) => (.bool o, [])) z fns_5 z z z ?_
 refine wp_seq ?_
 refine wp_reg (nx' := 16) z (ev_v z z (ev_nil)) (seqQ_n (?_))
 refine wp_seq ?_
 refine wp_gc ?_
 rcases its h with ⟨hc3, h⟩ | ⟨hc3, h⟩
 ·refine wp_reg (nx' := 208) z (ev_v z z (ev_v z z (ev_v z z (ev_v z z (ev_off z hc3 (ev_off z hc3 (ev_off z hc3 (ev_off z hc3 (ev_off z hc3 (ev_off z hc3 (ev_v z (d_pick_t z hc3 z) (ev_v z z (ev_nil))))))))))))) (gcQ_n (gc_to [] (e := [(4, .vw [] (.bool true))]) (ts := []) (n := 0) z z z z) (seqQ_n (?_)))
  replace h := Option.some.inj h
  subst h
  exact wp_ret (qf_r ((outs_ok (vs := [(.vw _ _)]) z (absW_cons z z (absW_nil)) z z)))
 ·refine wp_reg (nx' := 208) z (ev_v z z (ev_v z z (ev_v z z (ev_v z z (ev_on z hc3 (ev_v z z (ev_on z hc3 (ev_v z z (ev_on z hc3 (ev_v z z (ev_on z hc3 (ev_v z z (ev_on z hc3 (ev_v z z (ev_on z hc3 (ev_v z z (ev_v z (d_pick_f z hc3 z) (ev_v z z (ev_nil))))))))))))))))))) (gcQ_n (gc_to [] (e := [(4, .vw [] (.bool ((decide ((List.length p1 : Int) > (w64 ((1048576 : Int) - (List.length p0 : Int))))))))]) (ts := []) (n := 0) z z z z) (seqQ_n (?_)))
  replace h := Option.some.inj h
  subst h
  exact wp_ret (qf_r ((outs_ok (vs := [(.vw _ _)]) z (absW_cons z z (absW_nil)) z z)))
noncomputable def spec_l1Cur_next_j1 (c0 : (List Int) × Int × Int) : Int → Option (Int × ((List Int) × Int × Int)) := fun x9 =>
(some ((IntKind.wrap .u64 ((IntKind.wrap .u64 (c0.2.2 * (6364136223846793005 : Int))) + (IntKind.wrap .u64 (x9)))))).bind fun v10 =>
if (decide ((w64 (c0.2.1 + (1 : Int))) ≤ (List.length c0.1 : Int))) = true then
some (x9, (c0.1, (w64 (c0.2.1 + (1 : Int))), (IntKind.wrap .u64 (v10 + (1442695040888963407 : Int)))))
else
(some ((andK .u64 (Int.fdiv (IntKind.wrap .u64 (v10 + (1442695040888963407 : Int))) ((2 : Int) ^ 40)) (255 : Int)))).bind fun v13 =>
some ((w64 (v13)), (c0.1, (w64 (c0.2.1 + (1 : Int))), (IntKind.wrap .u64 (v10 + (1442695040888963407 : Int)))))
noncomputable def spec_l1Cur_next (c0 : (List Int) × Int × Int) : Option (Int × ((List Int) × Int × Int)) :=
if (decide (c0.2.1 < (List.length c0.1 : Int))) = true then
(at? c0.1 c0.2.1).bind fun v15 =>
spec_l1Cur_next_j1 c0 (w64 (v15))
else
spec_l1Cur_next_j1 c0 (0 : Int)
theorem spec_l1Cur_next_ok {c0 : (List Int) × Int × Int} {o : Int × ((List Int) × Int × Int)} (h : spec_l1Cur_next c0 = some o) : RN 79 [.ref 0] [.ptr (.agg [.sh (.ints .u8 c0.1), .int .i64 c0.2.1, .int .u64 c0.2.2])] = some (.int .i64 o.1, [.ptr (.agg [.sh (.ints .u8 o.2.1), .int .i64 o.2.2.1, .int .u64 o.2.2.2])]) := by
 refine fn_run (o := o) (nr := 1) (F := k79) (st := ⟨entry 0 [.ptr 0 [] (some 0)], fun n => ([.ptr (.agg [.sh (.ints .u8 c0.1), .int .i64 c0.2.1, .int .u64 c0.2.2])] : List T)[n]?, 1⟩) (fun (o : Int × ((List Int) × Int × Int)) => (.int .i64 o.1, [.ptr (.agg [.sh (.ints .u8 o.2.1), .int .i64 o.2.2.1, .int .u64 o.2.2.2])])) z fns_79 z z z ?_
 refine wp_seq ?_
 refine wp_reg (nx' := 17) z (ev_v z z (ev_nil)) (seqQ_n (?_))
 refine wp_seq ?_
 refine wp_reg (nx' := 33) z (ev_v z z (ev_nil)) (seqQ_n (?_))
 refine wp_seq ?_
 refine wp_join (spec_l1Cur_next_j1 c0) (fun (x9 : Int) => (⟨al .dead [(0, .ptr 0 [] (some 0)), (3, .vw [] (.int .i64 x9))], hl [some (.ptr (.agg [.sh (.ints .u8 c0.1), .int .i64 c0.2.1, .int .u64 c0.2.2]))], 1⟩ : St)) ?_ ?_
 ·rintro x9 o h
  unfold spec_l1Cur_next_j1 at h
  refine seqQ_n (?_)
  refine wp_seq ?_
  refine wp_reg (nx' := 129) z (ev_den (.ptr 0 [] (some 0)) z z (ev_den (.ptr 0 [] (some 0)) z z (ev_den (.ptr 0 [] (some 1)) z z (ev_v z (d_ld_o z (rget_of z (get_nil)) z z) (ev_v z z (ev_den (.ptr 0 [] (some 0)) z z (ev_den (.ptr 0 [] (some 1)) z z (ev_wr0 z (w_st_o z z (st1_of z z z (get_f z (get_nil)) z (rput_p (put_f z (put_nil))))) (ev_nil))))))))) (seqQ_n (?_))
  refine wp_seq ?_
  obtain ⟨v10, hv10, h⟩ := bs h
  refine wp_reg (nx' := 337) z (ev_den (.ptr 0 [] (some 0)) z z (ev_den (.ptr 0 [] (some 0)) z z (ev_den (.ptr 0 [] (some 0)) z z (ev_den (.ptr 0 [] (some 2)) z z (ev_v z (d_ld_o z (rget_of z (get_nil)) z z) (ev_v z z (ev_v z z (ev_v z z (ev_den (.vw [] (.int .u64 v10)) z (d_as_i z (Option.some.inj hv10)) (ev_v z z (ev_den (.ptr 0 [] (some 0)) z z (ev_den (.ptr 0 [] (some 2)) z z (ev_wr0 z (w_st_o z z (st1_of z z z (get_f z (get_nil)) z (rput_p (put_f z (put_nil))))) (ev_nil)))))))))))))) (seqQ_n (?_))
  refine wp_seq ?_
  refine wp_gc ?_
  refine wp_seq ?_
  refine wp_reg (nx' := 497) z (ev_den (.ptr 0 [] (some 0)) z z (ev_den (.ptr 0 [] (some 0)) z z (ev_den (.ptr 0 [] (some 1)) z z (ev_v z (d_ld_o z (rget_of z (get_nil)) z z) (ev_den (.ptr 0 [] (some 0)) z z (ev_den (.ptr 0 [] (some 0)) z z (ev_den (.ptr 0 [] (some 0)) z z (ev_v z (d_ld_o z (rget_of z (get_nil)) z z) (ev_v z z (ev_v z z (ev_nil))))))))))) (seqQ_n (?_))
  rcases its h with ⟨hc12, h⟩ | ⟨hc12, h⟩
  ·refine wp_ct z hc12 ?_
   refine wp_seq ?_
   refine wp_reg (nx' := 529) z (ev_v z z (ev_v z z (ev_nil))) (seqQ_n (?_))
   replace h := Option.some.inj h
   subst h
   exact wp_ret (gcQ_r (seqQ_r (qf_r ((outs_ok (vs := [(.vw _ _)]) z (absW_cons z z (absW_nil)) z z)))))
  ·refine wp_cf z hc12 ?_
   refine wp_skip (gcQ_n (gc_to [] (e := [(0, .ptr 0 [] (some 0))]) (ts := [some (.ptr (.agg [.sh (.ints .u8 c0.1), .int .i64 ((w64 (c0.2.1 + (1 : Int)))), .int .u64 ((IntKind.wrap .u64 (v10 + (1442695040888963407 : Int))))]))]) (n := 1) z z z z) (seqQ_n (?_)))
   refine wp_seq ?_
   obtain ⟨v13, hv13, h⟩ := bs h
   refine wp_reg (nx' := 129) z (ev_den (.ptr 0 [] (some 0)) z z (ev_den (.ptr 0 [] (some 0)) z z (ev_den (.ptr 0 [] (some 2)) z z (ev_v z (d_ld_o z (rget_of z (get_nil)) z z) (ev_v z (d_shr (u := ()) z z z) (ev_den (.vw [] (.int .u64 v13)) z (d_as_i z (Option.some.inj hv13)) (ev_v z z (ev_v z z (ev_nil))))))))) (seqQ_n (?_))
   replace h := Option.some.inj h
   subst h
   exact wp_ret (qf_r ((outs_ok (vs := [(.vw _ _)]) z (absW_cons z z (absW_nil)) z z)))
 ·refine wp_seq ?_
  refine wp_reg (nx' := 193) z (ev_den (.ptr 0 [] (some 0)) z z (ev_den (.ptr 0 [] (some 0)) z z (ev_den (.ptr 0 [] (some 1)) z z (ev_v z (d_ld_o z (rget_of z (get_nil)) z z) (ev_den (.ptr 0 [] (some 0)) z z (ev_den (.ptr 0 [] (some 0)) z z (ev_den (.ptr 0 [] (some 0)) z z (ev_v z (d_ld_o z (rget_of z (get_nil)) z z) (ev_v z z (ev_v z z (ev_nil))))))))))) (seqQ_n (?_))
  rcases its h with ⟨hc14, h⟩ | ⟨hc14, h⟩
  ·refine wp_ct z hc14 ?_
   obtain ⟨v15, hv15, h⟩ := bs h
   exact wp_reg (nx' := 385) z (ev_den (.ptr 0 [] (some 0)) z z (ev_den (.ptr 0 [] (some 0)) z z (ev_den (.ptr 0 [] (some 0)) z z (ev_v z (d_ld_o z (rget_of z (get_nil)) z z) (ev_den (.ptr 0 [] (some 0)) z z (ev_den (.ptr 0 [] (some 0)) z z (ev_den (.ptr 0 [] (some 1)) z z (ev_v z (d_ld_o z (rget_of z (get_nil)) z z) (ev_den (.pv _ _) z (d_idx_vi z z hv15) (ev_v z z (ev_v z z (ev_v z z (ev_nil))))))))))))) (joinQ_n (w64 (v15)) h (gc_to [] z z z z))
  ·refine wp_cf z hc14 ?_
   exact wp_skip (joinQ_n (0 : Int) h (gc_to [] z z z z))
noncomputable def spec_l1Cur_pick_j1 (p1 : Int) : ((List Int) × Int × Int × Int) → Option (Int × ((List Int) × Int × Int)) := fun (x15, x16, x17, x18) =>
(nz? p1).bind fun u19 =>
some ((Int.tmod x18 p1), (x15, x16, x17))
noncomputable def spec_l1Cur_pick (p1 : Int) (c0 : (List Int) × Int × Int) : Option (Int × ((List Int) × Int × Int)) :=
if (decide (p1 ≤ (1 : Int))) = true then
some ((0 : Int), c0)
else
(spec_l1Cur_next c0).bind fun v12 =>
if (decide (p1 > (200 : Int))) = true then
(spec_l1Cur_next v12.2).bind fun v21 =>
spec_l1Cur_pick_j1 p1 (v21.2.1, v21.2.2.1, v21.2.2.2, (w64 ((w64 (v12.1 * (256 : Int))) + v21.1)))
else
spec_l1Cur_pick_j1 p1 (v12.2.1, v12.2.2.1, v12.2.2.2, v12.1)
theorem spec_l1Cur_pick_ok {p1 : Int} {c0 : (List Int) × Int × Int} {o : Int × ((List Int) × Int × Int)} (h : spec_l1Cur_pick p1 c0 = some o) : RN 65 [.ref 0, .int .i64 p1] [.ptr (.agg [.sh (.ints .u8 c0.1), .int .i64 c0.2.1, .int .u64 c0.2.2])] = some (.int .i64 o.1, [.ptr (.agg [.sh (.ints .u8 o.2.1), .int .i64 o.2.2.1, .int .u64 o.2.2.2])]) := by
 refine fn_run (o := o) (nr := 1) (F := k65) (st := ⟨entry 0 [.ptr 0 [] (some 0), .vw [] (.int .i64 p1)], fun n => ([.ptr (.agg [.sh (.ints .u8 c0.1), .int .i64 c0.2.1, .int .u64 c0.2.2])] : List T)[n]?, 1⟩) (fun (o : Int × ((List Int) × Int × Int)) => (.int .i64 o.1, [.ptr (.agg [.sh (.ints .u8 o.2.1), .int .i64 o.2.2.1, .int .u64 o.2.2.2])])) z fns_65 z z z ?_
 refine wp_seq ?_
 refine wp_reg (nx' := 17) z (ev_v z z (ev_nil)) (seqQ_n (?_))
 refine wp_seq ?_
 refine wp_gc ?_
 refine wp_seq ?_
 refine wp_reg (nx' := 49) z (ev_v z z (ev_v z z (ev_nil))) (seqQ_n (?_))
 rcases its h with ⟨hc11, h⟩ | ⟨hc11, h⟩
 ·refine wp_ct z hc11 ?_
  refine wp_seq ?_
  refine wp_reg (nx' := 65) z (ev_v z z (ev_nil)) (seqQ_n (?_))
  replace h := Option.some.inj h
  subst h
  exact wp_ret (gcQ_r (seqQ_r (qf_r ((outs_ok (vs := [(.vw _ _)]) z (absW_cons z z (absW_nil)) z z)))))
 ·refine wp_cf z hc11 ?_
  refine wp_skip (gcQ_n (gc_to [] (e := [(0, .ptr 0 [] (some 0)), (1, .vw [] (.int .i64 p1))]) (ts := [some (.ptr (.agg [.sh (.ints .u8 c0.1), .int .i64 c0.2.1, .int .u64 c0.2.2]))]) (n := 1) z z z z) (seqQ_n (?_)))
  refine wp_seq ?_
  obtain ⟨v12, hv12, h⟩ := bs h
  refine wp_reg (nx' := 49) z (ev_den (.ptr 0 [] (some 0)) z z (ev_call1 [(.ptr 0 [] (some 0))] z (call_okt (call_ok (rs := [0]) (rd := []) z z z z (argL_cons z (argL_nil)) z z (spec_l1Cur_next_ok hv12) z z z z z)) (ev_v z z (ev_nil)))) (seqQ_n (?_))
  refine wp_seq ?_
  refine wp_join (spec_l1Cur_pick_j1 p1) (fun ((x15, x16, x17, x18) : (List Int) × Int × Int × Int) => (⟨al .dead [(1, .vw [] (.int .i64 p1)), (5, .vw [] (.int .i64 x18))], hl [some (.ptr (.agg [.sh (.ints .u8 x15), .int .i64 x16, .int .u64 x17]))], 1⟩ : St)) ?_ ?_
  ·rintro ⟨x15, x16, x17, x18⟩ o h
   unfold spec_l1Cur_pick_j1 at h
   refine seqQ_n (?_)
   refine wp_seq ?_
   obtain ⟨u19, hu19, h⟩ := bs h
   refine wp_reg (nx' := 65) z (ev_v z z (ev_v z z (ev_v z (d_rem z z hu19) (ev_v z z (ev_nil))))) (seqQ_n (?_))
   replace h := Option.some.inj h
   subst h
   exact wp_ret (qf_r ((outs_ok (vs := [(.vw _ _)]) z (absW_cons z z (absW_nil)) z z)))
  ·refine wp_seq ?_
   refine wp_reg (nx' := 81) z (ev_v z z (ev_v z z (ev_nil))) (seqQ_n (?_))
   rcases its h with ⟨hc20, h⟩ | ⟨hc20, h⟩
   ·refine wp_ct z hc20 ?_
    obtain ⟨v21, hv21, h⟩ := bs h
    exact wp_reg (nx' := 177) z (ev_v z z (ev_v z z (ev_den (.ptr 0 [] (some 0)) z z (ev_call1 [(.ptr 0 [] (some 0))] z (call_okt (call_ok (rs := [0]) (rd := []) z z z z (argL_cons z (argL_nil)) z z (spec_l1Cur_next_ok hv21) z z z z z)) (ev_v z z (ev_v z z (ev_nil))))))) (joinQ_n (v21.2.1, v21.2.2.1, v21.2.2.2, (w64 ((w64 (v12.1 * (256 : Int))) + v21.1))) h (gc_to [] z z z z))
   ·refine wp_cf z hc20 ?_
    exact wp_skip (joinQ_n (v12.2.1, v12.2.2.1, v12.2.2.2, v12.1) h (gc_to [] z z z z))
noncomputable def spec_l1Cur_among (p1 : List Int) (c0 : (List Int) × Int × Int) : Option (Int × ((List Int) × Int × Int)) :=
(spec_l1Cur_pick ((List.length p1 : Int)) c0).bind fun v3 =>
(at? p1 v3.1).bind fun v4 =>
some (v4, v3.2)
theorem spec_l1Cur_among_ok {p1 : List Int} {c0 : (List Int) × Int × Int} {o : Int × ((List Int) × Int × Int)} (h : spec_l1Cur_among p1 c0 = some o) : RN 58 [.ref 0, .ints .i64 p1] [.ptr (.agg [.sh (.ints .u8 c0.1), .int .i64 c0.2.1, .int .u64 c0.2.2])] = some (.int .i64 o.1, [.ptr (.agg [.sh (.ints .u8 o.2.1), .int .i64 o.2.2.1, .int .u64 o.2.2.2])]) := by
 refine fn_run (o := o) (nr := 1) (F := k58) (st := ⟨entry 0 [.ptr 0 [] (some 0), .vw [] (.ints .i64 p1)], fun n => ([.ptr (.agg [.sh (.ints .u8 c0.1), .int .i64 c0.2.1, .int .u64 c0.2.2])] : List T)[n]?, 1⟩) (fun (o : Int × ((List Int) × Int × Int)) => (.int .i64 o.1, [.ptr (.agg [.sh (.ints .u8 o.2.1), .int .i64 o.2.2.1, .int .u64 o.2.2.2])])) z fns_58 z z z ?_
 refine wp_seq ?_
 refine wp_reg (nx' := 17) z (ev_v z z (ev_nil)) (seqQ_n (?_))
 refine wp_seq ?_
 obtain ⟨v3, hv3, h⟩ := bs h
 obtain ⟨v4, hv4, h⟩ := bs h
 refine wp_reg (nx' := 145) z (ev_v z z (ev_den (.ptr 0 [] (some 0)) z z (ev_v z z (ev_v z z (ev_call1 [(.ptr 0 [] (some 0)), (.vw _ _)] z (call_okt (call_ok (rs := [0]) (rd := []) z z z z (argL_cons z (argL_cons z (argL_nil))) z z (spec_l1Cur_pick_ok hv3) z z z z z)) (ev_den (.pv _ _) z (d_idx_vi z z hv4) (ev_v z z (ev_v z z (ev_nil))))))))) (seqQ_n (?_))
 replace h := Option.some.inj h
 subst h
 exact wp_ret (qf_r ((outs_ok (vs := [(.vw _ _)]) z (absW_cons z z (absW_nil)) z z)))
noncomputable def spec_l1Cur_tokens_j1 : ((List Int) × Int × Int × Int × Int × Int) → Option ((Int × Int × Int) × ((List Int) × Int × Int)) := fun (x27, x28, x29, x30, x31, x32) =>
some ((x30, x31, x32), (x27, x28, x29))
noncomputable def spec_l1Cur_tokens (c0 : (List Int) × Int × Int) : Option ((Int × Int × Int) × ((List Int) × Int × Int)) :=
(spec_l1Cur_pick ((4 : Int)) c0).bind fun v17 =>
(spec_l1Cur_pick ((3 : Int)) v17.2).bind fun v18 =>
(spec_l1Cur_pick ((3 : Int)) v18.2).bind fun v19 =>
(spec_l1Cur_pick ((18 : Int)) v19.2).bind fun v33 =>
if (v33.1 == (0 : Int)) = true then
(spec_l1Cur_among (([(1 : Int), (12 : Int), (13 : Int), (-1 : Int), (4611686018427387904 : Int)] : List Int)) v33.2).bind fun v41 =>
spec_l1Cur_tokens_j1 (v41.2.1, v41.2.2.1, v41.2.2.2, v41.1, (w64 ((1 : Int) + v18.1)), (w64 ((1 : Int) + v19.1)))
else
if (v33.1 == (1 : Int)) = true then
(spec_l1Cur_among (([(0 : Int), (10 : Int), (11 : Int), (-1 : Int)] : List Int)) v33.2).bind fun v49 =>
spec_l1Cur_tokens_j1 (v49.2.1, v49.2.2.1, v49.2.2.2, (w64 ((2 : Int) + v17.1)), v49.1, (w64 ((1 : Int) + v19.1)))
else
if (v33.1 == (2 : Int)) = true then
(spec_l1Cur_among (([(0 : Int), (10 : Int), (11 : Int), (4611686018427387904 : Int)] : List Int)) v33.2).bind fun v57 =>
spec_l1Cur_tokens_j1 (v57.2.1, v57.2.2.1, v57.2.2.2, (w64 ((2 : Int) + v17.1)), (w64 ((1 : Int) + v18.1)), v57.1)
else
spec_l1Cur_tokens_j1 (v33.2.1, v33.2.2.1, v33.2.2.2, (w64 ((2 : Int) + v17.1)), (w64 ((1 : Int) + v18.1)), (w64 ((1 : Int) + v19.1)))
theorem spec_l1Cur_tokens_ok {c0 : (List Int) × Int × Int} {o : (Int × Int × Int) × ((List Int) × Int × Int)} (h : spec_l1Cur_tokens c0 = some o) : RN 57 [.ref 0] [.ptr (.agg [.sh (.ints .u8 c0.1), .int .i64 c0.2.1, .int .u64 c0.2.2])] = some (.agg [.int .i64 o.1.1, .int .i64 o.1.2.1, .int .i64 o.1.2.2], [.ptr (.agg [.sh (.ints .u8 o.2.1), .int .i64 o.2.2.1, .int .u64 o.2.2.2])]) := by
 refine fn_run (o := o) (nr := 1) (F := k57) (st := ⟨entry 0 [.ptr 0 [] (some 0)], fun n => ([.ptr (.agg [.sh (.ints .u8 c0.1), .int .i64 c0.2.1, .int .u64 c0.2.2])] : List T)[n]?, 1⟩) (fun (o : (Int × Int × Int) × ((List Int) × Int × Int)) => (.agg [.int .i64 o.1.1, .int .i64 o.1.2.1, .int .i64 o.1.2.2], [.ptr (.agg [.sh (.ints .u8 o.2.1), .int .i64 o.2.2.1, .int .u64 o.2.2.2])])) z fns_57 z z z ?_
 refine wp_seq ?_
 refine wp_reg (nx' := 17) z (ev_new (.ptr 1 [] (some 0)) (.ptr (.agg [.int .i64 ((0 : Int)), .int .i64 ((0 : Int)), .int .i64 ((0 : Int))])) z z (ev_nil)) (seqQ_n (?_))
 refine wp_seq ?_
 obtain ⟨v17, hv17, h⟩ := bs h
 obtain ⟨v18, hv18, h⟩ := bs h
 obtain ⟨v19, hv19, h⟩ := bs h
 refine wp_reg (nx' := 209) z (ev_den (.ptr 0 [] (some 0)) z z (ev_call1 [(.ptr 0 [] (some 0)), (.vw _ _)] z (call_okt (call_ok (rs := [0]) (rd := []) z z z z (argL_cons z (argL_cons z (argL_nil))) z z (spec_l1Cur_pick_ok hv17) z z z z z)) (ev_v z z (ev_den (.ptr 0 [] (some 0)) z z (ev_call1 [(.ptr 0 [] (some 0)), (.vw _ _)] z (call_okt (call_ok (rs := [0]) (rd := []) z z z z (argL_cons z (argL_cons z (argL_nil))) z z (spec_l1Cur_pick_ok hv18) z z z z z)) (ev_v z z (ev_den (.ptr 0 [] (some 0)) z z (ev_call1 [(.ptr 0 [] (some 0)), (.vw _ _)] z (call_okt (call_ok (rs := [0]) (rd := []) z z z z (argL_cons z (argL_cons z (argL_nil))) z z (spec_l1Cur_pick_ok hv19) z z z z z)) (ev_v z z (ev_den (.agg [(.vw _ _), (.vw _ _), (.vw _ _)]) z z (ev_new (.ptr 177 [] (some 0)) (.ptr (.agg [.int .i64 ((0 : Int)), .int .i64 ((0 : Int)), .int .i64 ((0 : Int))])) z z (ev_wr0 z (w_st_a z z z (stL_cons (st1_of z z z (get_f z (get_nil)) z (rput_p (put_f z (put_nil)))) z (stL_cons (st1_of z z z (get_f z (get_nil)) z (rput_p (put_f z (put_nil)))) z (stL_cons (st1_of z z z (get_f z (get_nil)) z (rput_p (put_f z (put_nil)))) z (stL_nil))))) (ev_nil))))))))))))) (seqQ_n (?_))
 refine wp_seq ?_
 refine wp_join (spec_l1Cur_tokens_j1) (fun ((x27, x28, x29, x30, x31, x32) : (List Int) × Int × Int × Int × Int × Int) => (⟨al .dead [(2, .ptr 1 [] (some 0)), (3, .ptr 2 [] (some 0))], hl [some (.ptr (.agg [.sh (.ints .u8 x27), .int .i64 x28, .int .u64 x29])), some (.ptr (.agg [.int .i64 ((0 : Int)), .int .i64 ((0 : Int)), .int .i64 ((0 : Int))])), some (.ptr (.agg [.int .i64 x30, .int .i64 x31, .int .i64 x32]))], 3⟩ : St)) ?_ ?_
 ·rintro ⟨x27, x28, x29, x30, x31, x32⟩ o h
  unfold spec_l1Cur_tokens_j1 at h
  refine seqQ_n (?_)
  refine wp_seq ?_
  refine wp_reg (nx' := 35) z (ev_den (.agg [(.vw _ _), (.vw _ _), (.vw _ _)]) z (d_ld_os z (rget_of z (get_nil)) z (cells_cons z (cells_cons z (cells_cons z (cells_nil))))) (ev_wr0 z (w_st_a z z z (stL_cons (st1_of z z z (get_f z (get_nil)) z (rput_p (put_f z (put_nil)))) z (stL_cons (st1_of z z z (get_f z (get_nil)) z (rput_p (put_f z (put_nil)))) z (stL_cons (st1_of z z z (get_f z (get_nil)) z (rput_p (put_f z (put_nil)))) z (stL_nil))))) (ev_nil))) (seqQ_n (?_))
  replace h := Option.some.inj h
  subst h
  exact wp_ret (qf_r ((outs_ok (vs := [(.agg [(.vw _ _), (.vw _ _), (.vw _ _)])]) z (absW_cons (retT_agg (absW_cons z z (absW_cons z z (absW_cons z z (absW_nil))))) z (absW_nil)) z z)))
 ·refine wp_seq ?_
  obtain ⟨v33, hv33, h⟩ := bs h
  refine wp_reg (nx' := 241) z (ev_den (.ptr 0 [] (some 0)) z z (ev_call1 [(.ptr 0 [] (some 0)), (.vw _ _)] z (call_okt (call_ok (rs := [0]) (rd := []) z z z z (argL_cons z (argL_cons z (argL_nil))) z z (spec_l1Cur_pick_ok hv33) z z z z z)) (ev_nil))) (seqQ_n (?_))
  refine wp_gc ?_
  refine wp_blk ?_
  refine wp_seq ?_
  refine wp_reg (nx' := 273) z (ev_v z z (ev_v z z (ev_nil))) (seqQ_n (?_))
  rcases its h with ⟨hc40, h⟩ | ⟨hc40, h⟩
  ·refine wp_ct z hc40 ?_
   obtain ⟨v41, hv41, h⟩ := bs h
   exact wp_reg (nx' := 353) z (ev_den (.ptr 0 [] (some 0)) z z (ev_v z z (ev_call1 [(.ptr 0 [] (some 0)), (.vw _ _)] z (call_okt (call_ok (rs := [0]) (rd := []) z z z z (argL_cons z (argL_cons z (argL_nil))) z z (spec_l1Cur_among_ok hv41) z z z z z)) (ev_den (.ptr 177 [] (some 0)) z z (ev_wr0 z (w_st_o z z (st1_of z z z (get_f z (get_nil)) z (rput_p (put_f z (put_nil))))) (ev_nil)))))) (blkQ_n (gcQ_n (gc_to [1, 177] (e := [(2, .ptr 1 [] (some 0)), (3, .ptr 2 [] (some 0))]) (ts := [some (.ptr (.agg [.sh (.ints .u8 v41.2.1), .int .i64 v41.2.2.1, .int .u64 v41.2.2.2])), some (.ptr (.agg [.int .i64 ((0 : Int)), .int .i64 ((0 : Int)), .int .i64 ((0 : Int))])), some (.ptr (.agg [.int .i64 v41.1, .int .i64 ((w64 ((1 : Int) + v18.1))), .int .i64 ((w64 ((1 : Int) + v19.1)))]))]) (n := 3) z z z z) (joinQ_n (v41.2.1, v41.2.2.1, v41.2.2.2, v41.1, (w64 ((1 : Int) + v18.1)), (w64 ((1 : Int) + v19.1))) h (gc_to [1, 2] z z z z))))
  ·refine wp_cf z hc40 ?_
   refine wp_seq ?_
   refine wp_reg (nx' := 305) z (ev_v z z (ev_v z z (ev_nil))) (seqQ_n (?_))
   rcases its h with ⟨hc48, h⟩ | ⟨hc48, h⟩
   ·refine wp_ct z hc48 ?_
    obtain ⟨v49, hv49, h⟩ := bs h
    exact wp_reg (nx' := 385) z (ev_den (.ptr 0 [] (some 0)) z z (ev_v z z (ev_call1 [(.ptr 0 [] (some 0)), (.vw _ _)] z (call_okt (call_ok (rs := [0]) (rd := []) z z z z (argL_cons z (argL_cons z (argL_nil))) z z (spec_l1Cur_among_ok hv49) z z z z z)) (ev_den (.ptr 177 [] (some 1)) z z (ev_wr0 z (w_st_o z z (st1_of z z z (get_f z (get_nil)) z (rput_p (put_f z (put_nil))))) (ev_nil)))))) (blkQ_n (gcQ_n (gc_to [1, 177] (e := [(2, .ptr 1 [] (some 0)), (3, .ptr 2 [] (some 0))]) (ts := [some (.ptr (.agg [.sh (.ints .u8 v49.2.1), .int .i64 v49.2.2.1, .int .u64 v49.2.2.2])), some (.ptr (.agg [.int .i64 ((0 : Int)), .int .i64 ((0 : Int)), .int .i64 ((0 : Int))])), some (.ptr (.agg [.int .i64 ((w64 ((2 : Int) + v17.1))), .int .i64 v49.1, .int .i64 ((w64 ((1 : Int) + v19.1)))]))]) (n := 3) z z z z) (joinQ_n (v49.2.1, v49.2.2.1, v49.2.2.2, (w64 ((2 : Int) + v17.1)), v49.1, (w64 ((1 : Int) + v19.1))) h (gc_to [1, 2] z z z z))))
   ·refine wp_cf z hc48 ?_
    refine wp_seq ?_
    refine wp_reg (nx' := 337) z (ev_v z z (ev_v z z (ev_nil))) (seqQ_n (?_))
    rcases its h with ⟨hc56, h⟩ | ⟨hc56, h⟩
    ·refine wp_ct z hc56 ?_
     obtain ⟨v57, hv57, h⟩ := bs h
     exact wp_reg (nx' := 417) z (ev_den (.ptr 0 [] (some 0)) z z (ev_v z z (ev_call1 [(.ptr 0 [] (some 0)), (.vw _ _)] z (call_okt (call_ok (rs := [0]) (rd := []) z z z z (argL_cons z (argL_cons z (argL_nil))) z z (spec_l1Cur_among_ok hv57) z z z z z)) (ev_den (.ptr 177 [] (some 2)) z z (ev_wr0 z (w_st_o z z (st1_of z z z (get_f z (get_nil)) z (rput_p (put_f z (put_nil))))) (ev_nil)))))) (blkQ_n (gcQ_n (gc_to [1, 177] (e := [(2, .ptr 1 [] (some 0)), (3, .ptr 2 [] (some 0))]) (ts := [some (.ptr (.agg [.sh (.ints .u8 v57.2.1), .int .i64 v57.2.2.1, .int .u64 v57.2.2.2])), some (.ptr (.agg [.int .i64 ((0 : Int)), .int .i64 ((0 : Int)), .int .i64 ((0 : Int))])), some (.ptr (.agg [.int .i64 ((w64 ((2 : Int) + v17.1))), .int .i64 ((w64 ((1 : Int) + v18.1))), .int .i64 v57.1]))]) (n := 3) z z z z) (joinQ_n (v57.2.1, v57.2.2.1, v57.2.2.2, (w64 ((2 : Int) + v17.1)), (w64 ((1 : Int) + v18.1)), v57.1) h (gc_to [1, 2] z z z z))))
    ·refine wp_cf z hc56 ?_
     exact wp_skip (blkQ_n (gcQ_n (gc_to [1, 177] (e := [(2, .ptr 1 [] (some 0)), (3, .ptr 2 [] (some 0))]) (ts := [some (.ptr (.agg [.sh (.ints .u8 v33.2.1), .int .i64 v33.2.2.1, .int .u64 v33.2.2.2])), some (.ptr (.agg [.int .i64 ((0 : Int)), .int .i64 ((0 : Int)), .int .i64 ((0 : Int))])), some (.ptr (.agg [.int .i64 ((w64 ((2 : Int) + v17.1))), .int .i64 ((w64 ((1 : Int) + v18.1))), .int .i64 ((w64 ((1 : Int) + v19.1)))]))]) (n := 3) z z z z) (joinQ_n (v33.2.1, v33.2.2.1, v33.2.2.2, (w64 ((2 : Int) + v17.1)), (w64 ((1 : Int) + v18.1)), (w64 ((1 : Int) + v19.1))) h (gc_to [1, 2] z z z z))))
noncomputable def spec_l1Least (p0 : Int) (p1 : Int) : Option Int :=
if (decide (p0 < p1)) = true then
some p0
else
some p1
theorem spec_l1Least_ok {p0 : Int} {p1 : Int} {o : Int} (h : spec_l1Least p0 p1 = some o) : RN 77 [.int .i64 p0, .int .i64 p1] [] = some (.int .i64 o, []) := by
 refine fn_run (o := o) (nr := 0) (F := k77) (st := ⟨entry 0 [.vw [] (.int .i64 p0), .vw [] (.int .i64 p1)], fun n => ([] : List T)[n]?, 0⟩) (fun (o : Int) => (.int .i64 o, [])) z fns_77 z z z ?_
 refine wp_seq ?_
 refine wp_reg (nx' := 16) z (ev_v z z (ev_nil)) (seqQ_n (?_))
 refine wp_seq ?_
 refine wp_gc ?_
 refine wp_seq ?_
 refine wp_reg (nx' := 64) z (ev_v z z (ev_v z z (ev_v z z (ev_nil)))) (seqQ_n (?_))
 rcases its h with ⟨hc3, h⟩ | ⟨hc3, h⟩
 ·refine wp_ct z hc3 ?_
  refine wp_seq ?_
  refine wp_reg (nx' := 96) z (ev_v z z (ev_v z z (ev_nil))) (seqQ_n (?_))
  replace h := Option.some.inj h
  subst h
  exact wp_ret (gcQ_r (seqQ_r (qf_r ((outs_ok (vs := [(.vw _ _)]) z (absW_cons z z (absW_nil)) z z)))))
 ·refine wp_cf z hc3 ?_
  refine wp_skip (gcQ_n (gc_to [] (e := [(1, .vw [] (.int .i64 p1))]) (ts := []) (n := 0) z z z z) (seqQ_n (?_)))
  refine wp_seq ?_
  refine wp_reg (nx' := 32) z (ev_v z z (ev_v z z (ev_nil))) (seqQ_n (?_))
  replace h := Option.some.inj h
  subst h
  exact wp_ret (qf_r ((outs_ok (vs := [(.vw _ _)]) z (absW_cons z z (absW_nil)) z z)))
noncomputable def spec_l1Most (p0 : Int) (p1 : Int) : Option Int :=
if (decide (p0 > p1)) = true then
some p0
else
some p1
theorem spec_l1Most_ok {p0 : Int} {p1 : Int} {o : Int} (h : spec_l1Most p0 p1 = some o) : RN 51 [.int .i64 p0, .int .i64 p1] [] = some (.int .i64 o, []) := by
 refine fn_run (o := o) (nr := 0) (F := k51) (st := ⟨entry 0 [.vw [] (.int .i64 p0), .vw [] (.int .i64 p1)], fun n => ([] : List T)[n]?, 0⟩) (fun (o : Int) => (.int .i64 o, [])) z fns_51 z z z ?_
 refine wp_seq ?_
 refine wp_reg (nx' := 16) z (ev_v z z (ev_nil)) (seqQ_n (?_))
 refine wp_seq ?_
 refine wp_gc ?_
 refine wp_seq ?_
 refine wp_reg (nx' := 64) z (ev_v z z (ev_v z z (ev_v z z (ev_nil)))) (seqQ_n (?_))
 rcases its h with ⟨hc3, h⟩ | ⟨hc3, h⟩
 ·refine wp_ct z hc3 ?_
  refine wp_seq ?_
  refine wp_reg (nx' := 96) z (ev_v z z (ev_v z z (ev_nil))) (seqQ_n (?_))
  replace h := Option.some.inj h
  subst h
  exact wp_ret (gcQ_r (seqQ_r (qf_r ((outs_ok (vs := [(.vw _ _)]) z (absW_cons z z (absW_nil)) z z)))))
 ·refine wp_cf z hc3 ?_
  refine wp_skip (gcQ_n (gc_to [] (e := [(1, .vw [] (.int .i64 p1))]) (ts := []) (n := 0) z z z z) (seqQ_n (?_)))
  refine wp_seq ?_
  refine wp_reg (nx' := 32) z (ev_v z z (ev_v z z (ev_nil))) (seqQ_n (?_))
  replace h := Option.some.inj h
  subst h
  exact wp_ret (qf_r ((outs_ok (vs := [(.vw _ _)]) z (absW_cons z z (absW_nil)) z z)))
noncomputable def spec_l1Cur_one (p1 : Int) (c0 : (List Int) × Int × Int) : Option (Bool × ((List Int) × Int × Int)) :=
(spec_l1Cur_pick p1 c0).bind fun v2 =>
some ((v2.1 == (0 : Int)), v2.2)
theorem spec_l1Cur_one_ok {p1 : Int} {c0 : (List Int) × Int × Int} {o : Bool × ((List Int) × Int × Int)} (h : spec_l1Cur_one p1 c0 = some o) : RN 78 [.ref 0, .int .i64 p1] [.ptr (.agg [.sh (.ints .u8 c0.1), .int .i64 c0.2.1, .int .u64 c0.2.2])] = some (.bool o.1, [.ptr (.agg [.sh (.ints .u8 o.2.1), .int .i64 o.2.2.1, .int .u64 o.2.2.2])]) := by
 refine fn_run (o := o) (nr := 1) (F := k78) (st := ⟨entry 0 [.ptr 0 [] (some 0), .vw [] (.int .i64 p1)], fun n => ([.ptr (.agg [.sh (.ints .u8 c0.1), .int .i64 c0.2.1, .int .u64 c0.2.2])] : List T)[n]?, 1⟩) (fun (o : Bool × ((List Int) × Int × Int)) => (.bool o.1, [.ptr (.agg [.sh (.ints .u8 o.2.1), .int .i64 o.2.2.1, .int .u64 o.2.2.2])])) z fns_78 z z z ?_
 refine wp_seq ?_
 refine wp_reg (nx' := 17) z (ev_v z z (ev_nil)) (seqQ_n (?_))
 refine wp_seq ?_
 obtain ⟨v2, hv2, h⟩ := bs h
 refine wp_reg (nx' := 97) z (ev_den (.ptr 0 [] (some 0)) z z (ev_v z z (ev_call1 [(.ptr 0 [] (some 0)), (.vw _ _)] z (call_okt (call_ok (rs := [0]) (rd := []) z z z z (argL_cons z (argL_cons z (argL_nil))) z z (spec_l1Cur_pick_ok hv2) z z z z z)) (ev_v z z (ev_v z z (ev_nil)))))) (seqQ_n (?_))
 replace h := Option.some.inj h
 subst h
 exact wp_ret (qf_r ((outs_ok (vs := [(.vw _ _)]) z (absW_cons z z (absW_nil)) z z)))
noncomputable def spec_l1Cur_calls_s1 (v71 : Int) : ((List Int) × Int × Int × (List (Int × Int × Int)) × Int × Int) → Option (((List Int) × Int × Int × (List (Int × Int × Int)) × Int × Int) ⊕ ((List Int) × Int × Int × (List (Int × Int × Int)) × Int)) := fun (x134, x135, x136, x137, x138, x139) =>
if (decide (x139 > (0 : Int))) = true then
(spec_l1Cur_among (([(0 : Int), (0 : Int), (0 : Int), (1 : Int), (2 : Int), (9 : Int)] : List Int)) ((x134, x135, x136))).bind fun v177 =>
(spec_l1Cur_pick v71 v177.2).bind fun v178 =>
(spec_l1Cur_pick v71 v178.2).bind fun v179 =>
(app? x137 (([((w64 (x138 + v177.1)), v178.1, v179.1)] : List (Int × Int × Int)))).bind fun v180 =>
some (.inl (v179.2.1, v179.2.2.1, v179.2.2.2, v180, (w64 (x138 + v177.1)), (w64 (x139 - (1 : Int)))))
else
some (.inr (x134, x135, x136, x137, x138))
noncomputable def spec_l1Cur_calls_l1 (v71 : Int) : ((List Int) × Int × Int × (List (Int × Int × Int)) × Int × Int) → Option ((List Int) × Int × Int × (List (Int × Int × Int)) × Int) := iter (spec_l1Cur_calls_s1 v71)
noncomputable def spec_l1Cur_calls_j3 : ((List Int) × Int × Int × (List (Int × Int × Int))) → Option ((List (Int × Int × Int)) × ((List Int) × Int × Int)) := fun (x228, x229, x230, x231) =>
some (x231, (x228, x229, x230))
noncomputable def spec_l1Cur_calls_s4 (x155 : Int) : ((List Int) × Int × Int × (List (Int × Int × Int))) → Option (((List Int) × Int × Int × (List (Int × Int × Int))) ⊕ ((List Int) × Int × Int × (List (Int × Int × Int)))) := fun (x255, x256, x257, x258) =>
(spec_l1Cur_pick ((2 : Int)) ((x255, x256, x257))).bind fun v279 =>
if (decide ((List.length x258 : Int) < (w64 ((20 : Int) + v279.1)))) = true then
(app? x258 (([(x155, (0 : Int), (0 : Int))] : List (Int × Int × Int)))).bind fun v282 =>
some (.inl (v279.2.1, v279.2.2.1, v279.2.2.2, v282))
else
some (.inr (v279.2.1, v279.2.2.1, v279.2.2.2, x258))
noncomputable def spec_l1Cur_calls_l4 (x155 : Int) : ((List Int) × Int × Int × (List (Int × Int × Int))) → Option ((List Int) × Int × Int × (List (Int × Int × Int))) := iter (spec_l1Cur_calls_s4 x155)
noncomputable def spec_l1Cur_calls_j2 (x155 : Int) : ((List Int) × Int × Int × (List (Int × Int × Int))) → Option ((List (Int × Int × Int)) × ((List Int) × Int × Int)) := fun (x204, x205, x206, x207) =>
(spec_l1Cur_one ((20 : Int)) ((x204, x205, x206))).bind fun v232 =>
if v232.1 = true then
(spec_l1Cur_calls_l4 x155 (v232.2.1, v232.2.2.1, v232.2.2.2, x207)).bind fun (x266, x267, x268, x269) =>
spec_l1Cur_calls_j3 (x266, x267, x268, x269)
else
spec_l1Cur_calls_j3 (v232.2.1, v232.2.2.1, v232.2.2.2, x207)
noncomputable def spec_l1Cur_calls (p1 : Int × Int × Int) (c0 : (List Int) × Int × Int) : Option ((List (Int × Int × Int)) × ((List Int) × Int × Int)) :=
(spec_l1Least p1.1 ((12 : Int))).bind fun v70 =>
(spec_l1Most ((1 : Int)) v70).bind fun v71 =>
(spec_l1Cur_among (([(0 : Int), (1 : Int), (3 : Int), (6 : Int), (10 : Int), (20 : Int)] : List Int)) c0).bind fun v101 =>
(spec_l1Cur_calls_l1 v71 (v101.2.1, v101.2.2.1, v101.2.2.2, [], (0 : Int), v101.1)).bind fun (x151, x152, x153, x154, x155) =>
if (decide ((List.length x154 : Int) > (0 : Int))) = true then
(spec_l1Cur_pick ((16 : Int)) ((x151, x152, x153))).bind fun v301 =>
if (v301.1 == (0 : Int)) = true then
(spec_l1Cur_among (([(-1 : Int), (50 : Int), (1000 : Int), (1001 : Int), (4611686018427387904 : Int)] : List Int)) v301.2).bind fun v312 =>
(at? x154 ((0 : Int))).bind fun v313 =>
spec_l1Cur_calls_j2 x155 (v312.2.1, v312.2.2.1, v312.2.2.2, (List.set x154 (Int.toNat ((0 : Int))) ((v312.1, v313.2.1, v313.2.2))))
else
if (v301.1 == (1 : Int)) = true then
(spec_l1Cur_pick ((List.length x154 : Int)) v301.2).bind fun v319 =>
(spec_l1Cur_among (([(-1 : Int), v71, (4611686018427387904 : Int)] : List Int)) v319.2).bind fun v320 =>
(at? x154 v319.1).bind fun v321 =>
spec_l1Cur_calls_j2 x155 (v320.2.1, v320.2.2.1, v320.2.2.2, (List.set x154 (Int.toNat v319.1) ((v321.1, v320.1, v321.2.2))))
else
if (v301.1 == (2 : Int)) = true then
(at? x154 ((w64 ((List.length x154 : Int) - (1 : Int))))).bind fun v327 =>
spec_l1Cur_calls_j2 x155 (v301.2.1, v301.2.2.1, v301.2.2.2, (List.set x154 (Int.toNat ((w64 ((List.length x154 : Int) - (1 : Int))))) (((1000 : Int), v327.2.1, v327.2.2))))
else
spec_l1Cur_calls_j2 x155 (v301.2.1, v301.2.2.1, v301.2.2.2, x154)
else
spec_l1Cur_calls_j2 x155 (x151, x152, x153, x154)
theorem spec_l1Cur_calls_ok {p1 : Int × Int × Int} {c0 : (List Int) × Int × Int} {o : (List (Int × Int × Int)) × ((List Int) × Int × Int)} (h : spec_l1Cur_calls p1 c0 = some o) : RN 64 [.ref 0, .agg [.int .i64 p1.1, .int .i64 p1.2.1, .int .i64 p1.2.2]] [.ptr (.agg [.sh (.ints .u8 c0.1), .int .i64 c0.2.1, .int .u64 c0.2.2])] = some (.rows 3 (List.map e0 o.1), [.ptr (.agg [.sh (.ints .u8 o.2.1), .int .i64 o.2.2.1, .int .u64 o.2.2.2])]) := by
 refine fn_run (o := o) (nr := 1) (F := k64) (st := ⟨entry 0 [.ptr 0 [] (some 0), .agg [.vw [] (.int .i64 p1.1), .vw [] (.int .i64 p1.2.1), .vw [] (.int .i64 p1.2.2)]], fun n => ([.ptr (.agg [.sh (.ints .u8 c0.1), .int .i64 c0.2.1, .int .u64 c0.2.2])] : List T)[n]?, 1⟩) (fun (o : (List (Int × Int × Int)) × ((List Int) × Int × Int)) => (.rows 3 (List.map e0 o.1), [.ptr (.agg [.sh (.ints .u8 o.2.1), .int .i64 o.2.2.1, .int .u64 o.2.2.2])])) z fns_64 z z z ?_
 refine wp_seq ?_
 refine wp_reg (nx' := 33) z (ev_wr z (w_box (sv := (.agg [(.vw _ _), (.vw _ _), (.vw _ _)])) z z (absW_cons z z (absW_cons z z (absW_cons z z (absW_nil))))) (ev_new (.ref 17 [] 3 0 0) (.rows 3 []) z z (ev_nil))) (seqQ_n (?_))
 refine wp_seq ?_
 obtain ⟨v70, hv70, h⟩ := bs h
 obtain ⟨v71, hv71, h⟩ := bs h
 refine wp_reg (nx' := 113) z (ev_den (.ptr 1 [] (some 0)) z z (ev_v z (d_ld_o z (rget_of z (get_nil)) z z) (ev_call0 [(.vw _ _), (.vw _ _)] z (call_okf (vs' := [(.vw _ _), (.vw _ _)]) z (call_ok (rs := []) (rd := []) z z z z (argL_cons z (argL_cons z (argL_nil))) z z (spec_l1Least_ok hv70) z z z z z)) (ev_call0 [(.vw _ _), (.vw _ _)] z (call_okf (vs' := [(.vw _ _), (.vw _ _)]) z (call_ok (rs := []) (rd := []) z z z z (argL_cons z (argL_cons z (argL_nil))) z z (spec_l1Most_ok hv71) z z z z z)) (ev_v z z (ev_nil)))))) (seqQ_n (?_))
 refine wp_seq ?_
 refine wp_reg (nx' := 129) z (ev_new (.ref 113 [] 3 0 0) (.rows 3 []) z z (ev_nil)) (seqQ_n (?_))
 refine wp_seq ?_
 refine wp_reg (nx' := 145) z (ev_v z z (ev_nil)) (seqQ_n (?_))
 refine wp_seq ?_
 refine wp_gc ?_
 refine wp_seq ?_
 refine wp_gc ?_
 obtain ⟨v101, hv101, h⟩ := bs h
 refine wp_reg (nx' := 209) z (ev_den (.ptr 0 [] (some 0)) z z (ev_v z z (ev_call1 [(.ptr 0 [] (some 0)), (.vw _ _)] z (call_okt (call_ok (rs := [0]) (rd := []) z z z z (argL_cons z (argL_cons z (argL_nil))) z z (spec_l1Cur_among_ok hv101) z z z z z)) (ev_v z z (ev_nil))))) (gcQ_n (gc_to [113] (e := [(0, .ptr 0 [] (some 0)), (5, .vw [] (.int .i64 v71)), (6, .ref 1 [] 3 0 0), (7, .vw [] (.int .i64 ((0 : Int)))), (8, .vw [] (.int .i64 v101.1))]) (ts := [some (.ptr (.agg [.sh (.ints .u8 v101.2.1), .int .i64 v101.2.2.1, .int .u64 v101.2.2.2])), some (.rows 3 (List.map e0 ([])))]) (n := 2) z z z z) (seqQ_n (?_)))
 refine wp_gc ?_
 refine wp_blk ?_
 obtain ⟨w192, hw192, h⟩ := bs h
 refine wp_mono (wp_loop (fun ((x134, x135, x136, x137, x138, x139) : (List Int) × Int × Int × (List (Int × Int × Int)) × Int × Int) => (⟨al .dead [(0, .ptr 0 [] (some 0)), (5, .vw [] (.int .i64 v71)), (6, .ref 1 [] 3 0 (List.length x137)), (7, .vw [] (.int .i64 x138)), (8, .vw [] (.int .i64 x139))], hl [some (.ptr (.agg [.sh (.ints .u8 x134), .int .i64 x135, .int .u64 x136])), some (.rows 3 (List.map e0 x137))], 2⟩ : St)) (fun ((x151, x152, x153, x154, x155) : (List Int) × Int × Int × (List (Int × Int × Int)) × Int) e st => e = .exit 0 ∧ gc 1 [0, 5, 6, 7] st = ⟨al .dead [(0, .ptr 0 [] (some 0)), (5, .vw [] (.int .i64 v71)), (6, .ref 1 [] 3 0 (List.length x154)), (7, .vw [] (.int .i64 x155))], hl [some (.ptr (.agg [.sh (.ints .u8 x151), .int .i64 x152, .int .u64 x153])), some (.rows 3 (List.map e0 x154))], 2⟩) hw192 ?_) ?_
 ·rintro ⟨x134, x135, x136, x137, x138, x139⟩ o h
  refine wp_gc ?_
  refine wp_seq ?_
  refine wp_gc ?_
  refine wp_seq ?_
  refine wp_reg (nx' := 34) z (ev_v z z (ev_v z z (ev_nil))) (seqQ_n (?_))
  rcases its h with ⟨hc168, h⟩ | ⟨hc168, h⟩
  ·refine wp_ct z hc168 ?_
   refine wp_skip (gcQ_n (gc_to [1] (e := [(0, .ptr 0 [] (some 0)), (5, .vw [] (.int .i64 v71)), (6, .ref 1 [] 3 0 (List.length x137)), (7, .vw [] (.int .i64 x138)), (8, .vw [] (.int .i64 x139))]) (ts := [some (.ptr (.agg [.sh (.ints .u8 x134), .int .i64 x135, .int .u64 x136])), some (.rows 3 (List.map e0 x137))]) (n := 2) z z z z) (seqQ_n (?_)))
   refine wp_seq ?_
   refine wp_gc ?_
   refine wp_gc ?_
   refine wp_blk ?_
   refine wp_seq ?_
   obtain ⟨v177, hv177, h⟩ := bs h
   refine wp_reg (nx' := 98) z (ev_v z z (ev_den (.ptr 0 [] (some 0)) z z (ev_v z z (ev_call1 [(.ptr 0 [] (some 0)), (.vw _ _)] z (call_okt (call_ok (rs := [0]) (rd := []) z z z z (argL_cons z (argL_cons z (argL_nil))) z z (spec_l1Cur_among_ok hv177) z z z z z)) (ev_v z z (ev_v z z (ev_nil))))))) (seqQ_n (?_))
   obtain ⟨v178, hv178, h⟩ := bs h
   obtain ⟨v179, hv179, h⟩ := bs h
   obtain ⟨v180, hv180, h⟩ := bs h
   refine wp_reg (nx' := 290) z (ev_den (.ref 1 _ _ _ _) z z (ev_v z z (ev_den (.ptr 0 [] (some 0)) z z (ev_v z z (ev_call1 [(.ptr 0 [] (some 0)), (.vw _ _)] z (call_okt (call_ok (rs := [0]) (rd := []) z z z z (argL_cons z (argL_cons z (argL_nil))) z z (spec_l1Cur_pick_ok hv178) z z z z z)) (ev_den (.ptr 0 [] (some 0)) z z (ev_v z z (ev_call1 [(.ptr 0 [] (some 0)), (.vw _ _)] z (call_okt (call_ok (rs := [0]) (rd := []) z z z z (argL_cons z (argL_cons z (argL_nil))) z z (spec_l1Cur_pick_ok hv179) z z z z z)) (ev_den (.agg [(.vw _ _), (.vw _ _), (.vw _ _)]) z z (ev_new (.ref 242 [] 3 0 1) (.rows 3 (List.map e0 (([((w64 (x138 + v177.1)), v178.1, v179.1)] : List (Int × Int × Int))))) z z (ev_wr z (w_app_r (xs := x137) (ys := (([((w64 (x138 + v177.1)), v178.1, v179.1)] : List (Int × Int × Int)))) (e := e0) (xv := (.ref 1 _ _ _ _)) (yv := (.ref 242 _ _ _ _)) 1 z z z (abs_ref z (sub_r (xs := ([((w64 (x138 + v177.1)), v178.1, v179.1)] : List (Int × Int × Int))))) z (abs_ref z sub_r) hv180 z) (ev_den (.ref 1 _ _ _ _) z z (ev_nil))))))))))))) (blkQ_n (gcQ_n (gc_to [1] (e := [(0, .ptr 0 [] (some 0)), (5, .vw [] (.int .i64 v71)), (6, .ref 1 [] 3 0 (List.length v180)), (7, .vw [] (.int .i64 ((w64 (x138 + v177.1))))), (8, .vw [] (.int .i64 x139))]) (ts := [some (.ptr (.agg [.sh (.ints .u8 v179.2.1), .int .i64 v179.2.2.1, .int .u64 v179.2.2.2])), some (.rows 3 (List.map e0 v180))]) (n := 2) z z z z) (gcQ_n (gc_to [1] (e := [(0, .ptr 0 [] (some 0)), (5, .vw [] (.int .i64 v71)), (6, .ref 1 [] 3 0 (List.length v180)), (7, .vw [] (.int .i64 ((w64 (x138 + v177.1))))), (8, .vw [] (.int .i64 x139))]) (ts := [some (.ptr (.agg [.sh (.ints .u8 v179.2.1), .int .i64 v179.2.2.1, .int .u64 v179.2.2.2])), some (.rows 3 (List.map e0 v180))]) (n := 2) z z z z) (seqQ_n (?_)))))
   replace h := Option.some.inj h
   subst h
   exact wp_reg (nx' := 50) z (ev_v z z (ev_v z z (ev_v z z (ev_nil)))) (gcQ_n (gc_to [1] (e := [(0, .ptr 0 [] (some 0)), (5, .vw [] (.int .i64 v71)), (6, .ref 1 [] 3 0 (List.length v180)), (7, .vw [] (.int .i64 ((w64 (x138 + v177.1))))), (8, .vw [] (.int .i64 ((w64 (x139 - (1 : Int))))))]) (ts := [some (.ptr (.agg [.sh (.ints .u8 v179.2.1), .int .i64 v179.2.2.1, .int .u64 v179.2.2.2])), some (.rows 3 (List.map e0 v180))]) (n := 2) z z z z) (loopQ_n z))
  ·refine wp_cf z hc168 ?_
   replace h := Option.some.inj h
   subst h
   exact wp_exit (gcQ_e (seqQ_e (gcQ_e (loopQ_e (And.intro z (gc_to [1] (e := [(0, .ptr 0 [] (some 0)), (5, .vw [] (.int .i64 v71)), (6, .ref 1 [] 3 0 (List.length x137)), (7, .vw [] (.int .i64 x138))]) (ts := [some (.ptr (.agg [.sh (.ints .u8 x134), .int .i64 x135, .int .u64 x136])), some (.rows 3 (List.map e0 x137))]) (n := 2) z z z z))))))
 ·intro e st192 hg192
  obtain ⟨x151, x152, x153, x154, x155⟩ := w192
  obtain ⟨rfl, hg192⟩ := hg192
  refine blkQ_h (gcQ_n hg192 (gcQ_n (gc_to [1] (e := [(0, .ptr 0 [] (some 0)), (5, .vw [] (.int .i64 v71)), (6, .ref 1 [] 3 0 (List.length x154)), (7, .vw [] (.int .i64 x155))]) (ts := [some (.ptr (.agg [.sh (.ints .u8 x151), .int .i64 x152, .int .u64 x153])), some (.rows 3 (List.map e0 x154))]) (n := 2) z z z z) (seqQ_n (?_))))
  refine wp_seq ?_
  refine wp_join (spec_l1Cur_calls_j2 x155) (fun ((x204, x205, x206, x207) : (List Int) × Int × Int × (List (Int × Int × Int))) => (⟨al .dead [(0, .ptr 0 [] (some 0)), (6, .ref 1 [] 3 0 (List.length x207)), (7, .vw [] (.int .i64 x155))], hl [some (.ptr (.agg [.sh (.ints .u8 x204), .int .i64 x205, .int .u64 x206])), some (.rows 3 (List.map e0 x207))], 2⟩ : St)) ?_ ?_
  ·rintro ⟨x204, x205, x206, x207⟩ o h
   unfold spec_l1Cur_calls_j2 at h
   refine seqQ_n (?_)
   refine wp_seq ?_
   refine wp_join (spec_l1Cur_calls_j3) (fun ((x228, x229, x230, x231) : (List Int) × Int × Int × (List (Int × Int × Int))) => (⟨al .dead [(6, .ref 1 [] 3 0 (List.length x231))], hl [some (.ptr (.agg [.sh (.ints .u8 x228), .int .i64 x229, .int .u64 x230])), some (.rows 3 (List.map e0 x231))], 2⟩ : St)) ?_ ?_
   ·rintro ⟨x228, x229, x230, x231⟩ o h
    unfold spec_l1Cur_calls_j3 at h
    refine seqQ_n (?_)
    refine wp_seq ?_
    refine wp_reg (nx' := 34) z (ev_den (.ref 1 _ _ _ _) z z (ev_den (.ref 1 _ _ _ _) z z (ev_nil))) (seqQ_n (?_))
    replace h := Option.some.inj h
    subst h
    exact wp_ret (qf_r ((outs_ok (vs := [(.ref 1 _ _ _ _)]) z (absW_cons (retT_ref (abs_ref z sub_r)) z (absW_nil)) z z)))
   ·refine wp_seq ?_
    obtain ⟨v232, hv232, h⟩ := bs h
    refine wp_reg (nx' := 34) z (ev_den (.ptr 0 [] (some 0)) z z (ev_call1 [(.ptr 0 [] (some 0)), (.vw _ _)] z (call_okt (call_ok (rs := [0]) (rd := []) z z z z (argL_cons z (argL_cons z (argL_nil))) z z (spec_l1Cur_one_ok hv232) z z z z z)) (ev_nil))) (seqQ_n (?_))
    rcases its h with ⟨hc233, h⟩ | ⟨hc233, h⟩
    ·refine wp_ct z hc233 ?_
     refine wp_pre (gc_to [1] (e := [(0, .ptr 0 [] (some 0)), (6, .ref 1 [] 3 0 (List.length x207)), (7, .vw [] (.int .i64 x155))]) (ts := [some (.ptr (.agg [.sh (.ints .u8 v232.2.1), .int .i64 v232.2.2.1, .int .u64 v232.2.2.2])), some (.rows 3 (List.map e0 x207))]) (n := 2) z z z z) ?_
     refine wp_gc ?_
     refine wp_blk ?_
     obtain ⟨w291, hw291, h⟩ := bs h
     refine wp_mono (wp_loop (fun ((x255, x256, x257, x258) : (List Int) × Int × Int × (List (Int × Int × Int))) => (⟨al .dead [(0, .ptr 0 [] (some 0)), (6, .ref 1 [] 3 0 (List.length x258)), (7, .vw [] (.int .i64 x155))], hl [some (.ptr (.agg [.sh (.ints .u8 x255), .int .i64 x256, .int .u64 x257])), some (.rows 3 (List.map e0 x258))], 2⟩ : St)) (fun ((x266, x267, x268, x269) : (List Int) × Int × Int × (List (Int × Int × Int))) e st => e = .exit 3 ∧ gc 1 [6] st = ⟨al .dead [(6, .ref 1 [] 3 0 (List.length x269))], hl [some (.ptr (.agg [.sh (.ints .u8 x266), .int .i64 x267, .int .u64 x268])), some (.rows 3 (List.map e0 x269))], 2⟩) hw291 ?_) ?_
     ·rintro ⟨x255, x256, x257, x258⟩ o h
      refine wp_gc ?_
      refine wp_seq ?_
      refine wp_gc ?_
      refine wp_seq ?_
      obtain ⟨v279, hv279, h⟩ := bs h
      refine wp_reg (nx' := 98) z (ev_den (.ref 1 _ _ _ _) z z (ev_v z z (ev_den (.ptr 0 [] (some 0)) z z (ev_call1 [(.ptr 0 [] (some 0)), (.vw _ _)] z (call_okt (call_ok (rs := [0]) (rd := []) z z z z (argL_cons z (argL_cons z (argL_nil))) z z (spec_l1Cur_pick_ok hv279) z z z z z)) (ev_v z z (ev_v z z (ev_nil))))))) (seqQ_n (?_))
      rcases its h with ⟨hc280, h⟩ | ⟨hc280, h⟩
      ·refine wp_ct z hc280 ?_
       refine wp_skip (gcQ_n (gc_to [1] (e := [(0, .ptr 0 [] (some 0)), (6, .ref 1 [] 3 0 (List.length x258)), (7, .vw [] (.int .i64 x155))]) (ts := [some (.ptr (.agg [.sh (.ints .u8 v279.2.1), .int .i64 v279.2.2.1, .int .u64 v279.2.2.2])), some (.rows 3 (List.map e0 x258))]) (n := 2) z z z z) (seqQ_n (?_)))
       refine wp_gc ?_
       refine wp_blk ?_
       obtain ⟨v282, hv282, h⟩ := bs h
       replace h := Option.some.inj h
       subst h
       exact wp_reg (nx' := 98) z (ev_den (.ref 1 _ _ _ _) z z (ev_v z z (ev_den (.agg [(.vw _ _), (.vw _ _), (.vw _ _)]) z z (ev_new (.ref 50 [] 3 0 1) (.rows 3 (List.map e0 (([(x155, (0 : Int), (0 : Int))] : List (Int × Int × Int))))) z z (ev_wr z (w_app_r (xs := x258) (ys := (([(x155, (0 : Int), (0 : Int))] : List (Int × Int × Int)))) (e := e0) (xv := (.ref 1 _ _ _ _)) (yv := (.ref 50 _ _ _ _)) 1 z z z (abs_ref z (sub_r (xs := ([(x155, (0 : Int), (0 : Int))] : List (Int × Int × Int))))) z (abs_ref z sub_r) hv282 z) (ev_den (.ref 1 _ _ _ _) z z (ev_nil))))))) (blkQ_n (gcQ_n (gc_to [1] (e := [(0, .ptr 0 [] (some 0)), (6, .ref 1 [] 3 0 (List.length v282)), (7, .vw [] (.int .i64 x155))]) (ts := [some (.ptr (.agg [.sh (.ints .u8 v279.2.1), .int .i64 v279.2.2.1, .int .u64 v279.2.2.2])), some (.rows 3 (List.map e0 v282))]) (n := 2) z z z z) (gcQ_n (gc_to [1] (e := [(0, .ptr 0 [] (some 0)), (6, .ref 1 [] 3 0 (List.length v282)), (7, .vw [] (.int .i64 x155))]) (ts := [some (.ptr (.agg [.sh (.ints .u8 v279.2.1), .int .i64 v279.2.2.1, .int .u64 v279.2.2.2])), some (.rows 3 (List.map e0 v282))]) (n := 2) z z z z) (loopQ_n z))))
      ·refine wp_cf z hc280 ?_
       replace h := Option.some.inj h
       subst h
       exact wp_exit (gcQ_e (seqQ_e (gcQ_e (loopQ_e (And.intro z (gc_to [1] (e := [(6, .ref 1 [] 3 0 (List.length x258))]) (ts := [some (.ptr (.agg [.sh (.ints .u8 v279.2.1), .int .i64 v279.2.2.1, .int .u64 v279.2.2.2])), some (.rows 3 (List.map e0 x258))]) (n := 2) z z z z))))))
     ·intro e st291 hg291
      obtain ⟨x266, x267, x268, x269⟩ := w291
      obtain ⟨rfl, hg291⟩ := hg291
      exact blkQ_h (gcQ_n hg291 (joinQ_n (x266, x267, x268, x269) h (gc_to [1] z z z z)))
    ·refine wp_cf z hc233 ?_
     exact wp_skip (joinQ_n (v232.2.1, v232.2.2.1, v232.2.2.2, x207) h (gc_to [1] z z z z))
  ·refine wp_seq ?_
   refine wp_reg (nx' := 50) z (ev_den (.ref 1 _ _ _ _) z z (ev_v z z (ev_v z z (ev_nil)))) (seqQ_n (?_))
   rcases its h with ⟨hc300, h⟩ | ⟨hc300, h⟩
   ·refine wp_ct z hc300 ?_
    refine wp_seq ?_
    obtain ⟨v301, hv301, h⟩ := bs h
    refine wp_reg (nx' := 82) z (ev_den (.ptr 0 [] (some 0)) z z (ev_call1 [(.ptr 0 [] (some 0)), (.vw _ _)] z (call_okt (call_ok (rs := [0]) (rd := []) z z z z (argL_cons z (argL_cons z (argL_nil))) z z (spec_l1Cur_pick_ok hv301) z z z z z)) (ev_nil))) (seqQ_n (?_))
    refine wp_gc ?_
    refine wp_blk ?_
    refine wp_seq ?_
    refine wp_reg (nx' := 114) z (ev_v z z (ev_v z z (ev_nil))) (seqQ_n (?_))
    rcases its h with ⟨hc311, h⟩ | ⟨hc311, h⟩
    ·refine wp_ct z hc311 ?_
     obtain ⟨v312, hv312, h⟩ := bs h
     obtain ⟨v313, hv313, h⟩ := bs h
     exact wp_reg (nx' := 226) z (ev_den (.ref 1 _ _ _ _) z z (ev_den (.ptr 0 [] (some 0)) z z (ev_v z z (ev_call1 [(.ptr 0 [] (some 0)), (.vw _ _)] z (call_okt (call_ok (rs := [0]) (rd := []) z z z z (argL_cons z (argL_cons z (argL_nil))) z z (spec_l1Cur_among_ok hv312) z z z z z)) (ev_den (.ptr 1 [.e (Int.toNat ((0 : Int)))] (some 0)) z (d_idx_r (p := []) z z hv313) (ev_den (.ptr 1 [.e (Int.toNat ((0 : Int)))] (some 0)) z z (ev_wr0 z (w_st_o z z (st1_of z z z (get_r (e := e0) hv313 (get_f z (get_nil))) z (rput_r (put_r (e := e0) ((v312.1, v313.2.1, v313.2.2)) hv313 (put_f z (put_nil)))))) (ev_relen (b := (List.length ((List.set x154 (Int.toNat ((0 : Int))) ((v312.1, v313.2.1, v313.2.2)))))) 6 z List.length_set.symm (ev_nil))))))))) (blkQ_n (gcQ_n (gc_to [1] (e := [(0, .ptr 0 [] (some 0)), (6, .ref 1 [] 3 0 (List.length ((List.set x154 (Int.toNat ((0 : Int))) ((v312.1, v313.2.1, v313.2.2)))))), (7, .vw [] (.int .i64 x155))]) (ts := [some (.ptr (.agg [.sh (.ints .u8 v312.2.1), .int .i64 v312.2.2.1, .int .u64 v312.2.2.2])), some (.rows 3 (List.map e0 ((List.set x154 (Int.toNat ((0 : Int))) ((v312.1, v313.2.1, v313.2.2))))))]) (n := 2) z z z z) (joinQ_n (v312.2.1, v312.2.2.1, v312.2.2.2, (List.set x154 (Int.toNat ((0 : Int))) ((v312.1, v313.2.1, v313.2.2)))) h (gc_to [1] z z z z))))
    ·refine wp_cf z hc311 ?_
     refine wp_seq ?_
     refine wp_reg (nx' := 146) z (ev_v z z (ev_v z z (ev_nil))) (seqQ_n (?_))
     rcases its h with ⟨hc318, h⟩ | ⟨hc318, h⟩
     ·refine wp_ct z hc318 ?_
      obtain ⟨v319, hv319, h⟩ := bs h
      obtain ⟨v320, hv320, h⟩ := bs h
      obtain ⟨v321, hv321, h⟩ := bs h
      exact wp_reg (nx' := 338) z (ev_den (.ref 1 _ _ _ _) z z (ev_den (.ptr 0 [] (some 0)) z z (ev_den (.ref 1 _ _ _ _) z z (ev_v z z (ev_call1 [(.ptr 0 [] (some 0)), (.vw _ _)] z (call_okt (call_ok (rs := [0]) (rd := []) z z z z (argL_cons z (argL_cons z (argL_nil))) z z (spec_l1Cur_pick_ok hv319) z z z z z)) (ev_den (.ptr 0 [] (some 0)) z z (ev_v z z (ev_v z z (ev_call1 [(.ptr 0 [] (some 0)), (.vw _ _)] z (call_okt (call_ok (rs := [0]) (rd := []) z z z z (argL_cons z (argL_cons z (argL_nil))) z z (spec_l1Cur_among_ok hv320) z z z z z)) (ev_den (.ptr 1 [.e (Int.toNat v319.1)] (some 0)) z (d_idx_r (p := []) z z hv321) (ev_den (.ptr 1 [.e (Int.toNat v319.1)] (some 1)) z z (ev_wr0 z (w_st_o z z (st1_of z z z (get_r (e := e0) hv321 (get_f z (get_nil))) z (rput_r (put_r (e := e0) ((v321.1, v320.1, v321.2.2)) hv321 (put_f z (put_nil)))))) (ev_relen (b := (List.length ((List.set x154 (Int.toNat v319.1) ((v321.1, v320.1, v321.2.2)))))) 6 z List.length_set.symm (ev_nil)))))))))))))) (blkQ_n (gcQ_n (gc_to [1] (e := [(0, .ptr 0 [] (some 0)), (6, .ref 1 [] 3 0 (List.length ((List.set x154 (Int.toNat v319.1) ((v321.1, v320.1, v321.2.2)))))), (7, .vw [] (.int .i64 x155))]) (ts := [some (.ptr (.agg [.sh (.ints .u8 v320.2.1), .int .i64 v320.2.2.1, .int .u64 v320.2.2.2])), some (.rows 3 (List.map e0 ((List.set x154 (Int.toNat v319.1) ((v321.1, v320.1, v321.2.2))))))]) (n := 2) z z z z) (joinQ_n (v320.2.1, v320.2.2.1, v320.2.2.2, (List.set x154 (Int.toNat v319.1) ((v321.1, v320.1, v321.2.2)))) h (gc_to [1] z z z z))))
     ·refine wp_cf z hc318 ?_
      refine wp_seq ?_
      refine wp_reg (nx' := 178) z (ev_v z z (ev_v z z (ev_nil))) (seqQ_n (?_))
      rcases its h with ⟨hc326, h⟩ | ⟨hc326, h⟩
      ·refine wp_ct z hc326 ?_
       obtain ⟨v327, hv327, h⟩ := bs h
       exact wp_reg (nx' := 290) z (ev_den (.ref 1 _ _ _ _) z z (ev_den (.ref 1 _ _ _ _) z z (ev_v z z (ev_v z z (ev_den (.ptr 1 [.e (Int.toNat ((w64 ((List.length x154 : Int) - (1 : Int)))))] (some 0)) z (d_idx_r (p := []) z z hv327) (ev_den (.ptr 1 [.e (Int.toNat ((w64 ((List.length x154 : Int) - (1 : Int)))))] (some 0)) z z (ev_wr0 z (w_st_o z z (st1_of z z z (get_r (e := e0) hv327 (get_f z (get_nil))) z (rput_r (put_r (e := e0) (((1000 : Int), v327.2.1, v327.2.2)) hv327 (put_f z (put_nil)))))) (ev_relen (b := (List.length ((List.set x154 (Int.toNat ((w64 ((List.length x154 : Int) - (1 : Int))))) (((1000 : Int), v327.2.1, v327.2.2)))))) 6 z List.length_set.symm (ev_nil))))))))) (blkQ_n (gcQ_n (gc_to [1] (e := [(0, .ptr 0 [] (some 0)), (6, .ref 1 [] 3 0 (List.length ((List.set x154 (Int.toNat ((w64 ((List.length x154 : Int) - (1 : Int))))) (((1000 : Int), v327.2.1, v327.2.2)))))), (7, .vw [] (.int .i64 x155))]) (ts := [some (.ptr (.agg [.sh (.ints .u8 v301.2.1), .int .i64 v301.2.2.1, .int .u64 v301.2.2.2])), some (.rows 3 (List.map e0 ((List.set x154 (Int.toNat ((w64 ((List.length x154 : Int) - (1 : Int))))) (((1000 : Int), v327.2.1, v327.2.2))))))]) (n := 2) z z z z) (joinQ_n (v301.2.1, v301.2.2.1, v301.2.2.2, (List.set x154 (Int.toNat ((w64 ((List.length x154 : Int) - (1 : Int))))) (((1000 : Int), v327.2.1, v327.2.2)))) h (gc_to [1] z z z z))))
      ·refine wp_cf z hc326 ?_
       exact wp_skip (blkQ_n (gcQ_n (gc_to [1] (e := [(0, .ptr 0 [] (some 0)), (6, .ref 1 [] 3 0 (List.length x154)), (7, .vw [] (.int .i64 x155))]) (ts := [some (.ptr (.agg [.sh (.ints .u8 v301.2.1), .int .i64 v301.2.2.1, .int .u64 v301.2.2.2])), some (.rows 3 (List.map e0 x154))]) (n := 2) z z z z) (joinQ_n (v301.2.1, v301.2.2.1, v301.2.2.2, x154) h (gc_to [1] z z z z))))
   ·refine wp_cf z hc300 ?_
    exact wp_skip (joinQ_n (x151, x152, x153, x154) h (gc_to [1] z z z z))
noncomputable def spec_DrawAreCalls (p0 : List Int) : Option (((Int × Int × Int) × (List (Int × Int × Int)))) :=
(spec_l1Cur_tokens ((p0, (0 : Int), (0 : Int)))).bind fun v3 =>
(spec_l1Cur_calls v3.1 v3.2).bind fun v4 =>
some (v3.1, v4.1)
theorem spec_DrawAreCalls_ok {p0 : List Int} {o : ((Int × Int × Int) × (List (Int × Int × Int)))} (h : spec_DrawAreCalls p0 = some o) : RN 48 [.ints .u8 p0] [] = some (.tup [.agg [.int .i64 o.1.1, .int .i64 o.1.2.1, .int .i64 o.1.2.2], .rows 3 (List.map e0 o.2)], []) := by
 refine fn_run (o := o) (nr := 0) (F := k48) (st := ⟨entry 0 [.vw [] (.ints .u8 p0)], fun n => ([] : List T)[n]?, 0⟩) (fun (o : ((Int × Int × Int) × (List (Int × Int × Int)))) => (.tup [.agg [.int .i64 o.1.1, .int .i64 o.1.2.1, .int .i64 o.1.2.2], .rows 3 (List.map e0 o.2)], [])) z fns_48 z z z ?_
 refine wp_seq ?_
 refine wp_reg (nx' := 32) z (ev_new (.ptr 0 [] (some 0)) (.ptr (.agg [.int .i64 ((0 : Int)), .int .i64 ((0 : Int)), .int .i64 ((0 : Int))])) z z (ev_new (.ref 16 [] 3 0 0) (.rows 3 []) z z (ev_nil))) (seqQ_n (?_))
 refine wp_seq ?_
 refine wp_reg (nx' := 96) z (ev_v z z (ev_den (.agg [(.vw _ _), (.vw _ _), (.vw _ _)]) z z (ev_wr z (w_box (sv := (.agg [(.vw _ _), (.vw _ _), (.vw _ _)])) z z (absW_cons z z (absW_cons z z (absW_cons z z (absW_nil))))) (ev_den (.ptr 64 [] (some 0)) z z (ev_nil))))) (seqQ_n (?_))
 refine wp_seq ?_
 obtain ⟨v3, hv3, h⟩ := bs h
 refine wp_reg (nx' := 160) z (ev_den (.ptr 64 [] (some 0)) z z (ev_call1 [(.ptr 64 [] (some 0))] z (call_okt (call_ok (rs := [64]) (rd := []) z z z z (argL_cons z (argL_nil)) z z (spec_l1Cur_tokens_ok hv3) z z z (bindR_a (bindL_cons z (bindL_cons z (bindL_cons z (bindL_nil))))) z)) (ev_new (.ptr 128 [] (some 0)) (.ptr (.agg [.int .i64 ((0 : Int)), .int .i64 ((0 : Int)), .int .i64 ((0 : Int))])) z z (ev_wr0 z (w_st_a z z z (stL_cons (st1_of z z z (get_f z (get_nil)) z (rput_p (put_f z (put_nil)))) z (stL_cons (st1_of z z z (get_f z (get_nil)) z (rput_p (put_f z (put_nil)))) z (stL_cons (st1_of z z z (get_f z (get_nil)) z (rput_p (put_f z (put_nil)))) z (stL_nil))))) (ev_nil))))) (seqQ_n (?_))
 refine wp_seq ?_
 obtain ⟨v4, hv4, h⟩ := bs h
 refine wp_regA z (ar_cons (nx' := 256) z (rl_cons z (ev_den (.agg [(.vw _ _), (.vw _ _), (.vw _ _)]) z (d_ld_os z (rget_of z (get_nil)) z (cells_cons z (cells_cons z (cells_cons z (cells_nil))))) (ev_nil)) (rl_cons z (ev_den (.ptr 64 [] (some 0)) z z (ev_nil)) (rl_cons z (ev_den (.agg [(.vw _ _), (.vw _ _), (.vw _ _)]) z (d_ld_os z (rget_of z (get_nil)) z (cells_cons z (cells_cons z (cells_cons z (cells_nil))))) (ev_nil)) (rl_cons z (ev_call1 [(.ptr 64 [] (some 0)), (.agg [(.vw _ _), (.vw _ _), (.vw _ _)])] z (call_okt (call_ok (rs := [64]) (rd := []) z z z z (argL_cons z (argL_cons (argT_a (argL_cons z (argL_cons z (argL_cons z (argL_nil))))) (argL_nil))) z z (spec_l1Cur_calls_ok hv4) z z z bindR_r z)) (ev_nil)) (rl_cons z (ev_wr0 z (w_st_a z z z (stL_cons (st1_of z z z (get_f z (get_nil)) z (rput_p (put_f z (put_nil)))) z (stL_cons (st1_of z z z (get_f z (get_nil)) z (rput_p (put_f z (put_nil)))) z (stL_cons (st1_of z z z (get_f z (get_nil)) z (rput_p (put_f z (put_nil)))) z (stL_nil))))) (ev_nil)) (rl_cons z (ev_den (.ref 208 _ _ _ _) z z (ev_nil)) (rl_nil))))))) (gc_to [0, 208] (e := [(2, .ptr 0 [] (some 0)), (3, .ref 1 [] 3 0 (List.length v4.1))]) (ts := [some (.ptr (.agg [.int .i64 v3.1.1, .int .i64 v3.1.2.1, .int .i64 v3.1.2.2])), some (.rows 3 (List.map e0 v4.1))]) (n := 2) z z z z) (ar_cons (nx' := 256) z (rl_cons z (ev_den (.ptr 64 [] (some 0)) z z (ev_nil)) (rl_cons z (ev_den (.agg [(.vw _ _), (.vw _ _), (.vw _ _)]) z (d_ld_os z (rget_of z (get_nil)) z (cells_cons z (cells_cons z (cells_cons z (cells_nil))))) (ev_nil)) (rl_cons z (ev_call1 [(.ptr 64 [] (some 0)), (.agg [(.vw _ _), (.vw _ _), (.vw _ _)])] z (call_okt (call_ok (rs := [64]) (rd := []) z z z z (argL_cons z (argL_cons (argT_a (argL_cons z (argL_cons z (argL_cons z (argL_nil))))) (argL_nil))) z z (spec_l1Cur_calls_ok hv4) z z z bindR_r z)) (ev_nil)) (rl_cons z (ev_den (.agg [(.vw _ _), (.vw _ _), (.vw _ _)]) z (d_ld_os z (rget_of z (get_nil)) z (cells_cons z (cells_cons z (cells_cons z (cells_nil))))) (ev_nil)) (rl_cons z (ev_wr0 z (w_st_a z z z (stL_cons (st1_of z z z (get_f z (get_nil)) z (rput_p (put_f z (put_nil)))) z (stL_cons (st1_of z z z (get_f z (get_nil)) z (rput_p (put_f z (put_nil)))) z (stL_cons (st1_of z z z (get_f z (get_nil)) z (rput_p (put_f z (put_nil)))) z (stL_nil))))) (ev_nil)) (rl_cons z (ev_den (.ref 208 _ _ _ _) z z (ev_nil)) (rl_nil))))))) (gc_to [0, 208] (e := [(2, .ptr 0 [] (some 0)), (3, .ref 1 [] 3 0 (List.length v4.1))]) (ts := [some (.ptr (.agg [.int .i64 v3.1.1, .int .i64 v3.1.2.1, .int .i64 v3.1.2.2])), some (.rows 3 (List.map e0 v4.1))]) (n := 2) z z z z) (ar_nil))) (seqQ_n (?_))
 replace h := Option.some.inj h
 subst h
 exact wp_ret (qf_r ((outs_ok (vs := [(.agg [(.vw _ _), (.vw _ _), (.vw _ _)]), (.ref 1 _ _ _ _)]) z (absW_cons (retT_agg (absW_cons z z (absW_cons z z (absW_cons z z (absW_nil))))) z (absW_cons (retT_ref (abs_ref z sub_r)) z (absW_nil))) z z)))
end Go.Proofs.Ytdblfocadcgmaaa.Ev.W7
