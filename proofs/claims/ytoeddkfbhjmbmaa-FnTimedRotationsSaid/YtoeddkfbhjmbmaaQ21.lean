/- What functions of the program come to, as plain functions; no condition. -/
import Derived.Test.YtoeddkfbhjmbmaaQ20
set_option linter.unusedVariables false
set_option linter.unusedSimpArgs false
set_option maxRecDepth 100000
set_option maxHeartbeats 4000000
set_option linter.unusedVariables false
namespace Go.Proofs.Ytoeddkfbhjmbmaa.Ev.Q2
open Go
noncomputable def spec_l1Cur_wished_s2 (v79 : (Int × Int × (List Int)) × ((List Int) × Int × Int)) (v80 : Int × ((List Int) × Int × Int)) : ((List Int) × Int × Int × (List Int) × Int) → Option (((List Int) × Int × Int × (List Int) × Int) ⊕ ((List Int) × Int × Int × (List Int))) := fun (x372, x373, x374, x375, x376) =>
if (decide (x376 < (List.length v79.1.2.2 : Int))) = true then
(spec_l1Cur_pick v80.1 ((x372, x373, x374))).bind fun v403 =>
(app? x375 (([v403.1] : List Int))).bind fun v404 =>
some (.inl (v403.2.1, v403.2.2.1, v403.2.2.2, v404, (w64 (x376 + (1 : Int)))))
else
some (.inr (x372, x373, x374, x375))
noncomputable def spec_l1Cur_wished_l2 (v79 : (Int × Int × (List Int)) × ((List Int) × Int × Int)) (v80 : Int × ((List Int) × Int × Int)) : ((List Int) × Int × Int × (List Int) × Int) → Option ((List Int) × Int × Int × (List Int)) := iter (spec_l1Cur_wished_s2 v79 v80)
noncomputable def spec_l1Cur_wished_s1 (v79 : (Int × Int × (List Int)) × ((List Int) × Int × Int)) (v80 : Int × ((List Int) × Int × Int)) : ((List Int) × Int × Int × (List (List Int)) × Int) → Option (((List Int) × Int × Int × (List (List Int)) × Int) ⊕ ((List Int) × Int × Int × (List (List Int)))) := fun (x222, x223, x224, x225, x226) =>
if (decide (x226 > (0 : Int))) = true then
(spec_l1Cur_wished_l2 v79 v80 (x222, x223, x224, [], (0 : Int))).bind fun (x385, x386, x387, x388) =>
(app? x225 (([x388] : List (List Int)))).bind fun v415 =>
some (.inl (x385, x386, x387, v415, (w64 (x226 - (1 : Int)))))
else
some (.inr (x222, x223, x224, x225))
noncomputable def spec_l1Cur_wished_l1 (v79 : (Int × Int × (List Int)) × ((List Int) × Int × Int)) (v80 : Int × ((List Int) × Int × Int)) : ((List Int) × Int × Int × (List (List Int)) × Int) → Option ((List Int) × Int × Int × (List (List Int))) := iter (spec_l1Cur_wished_s1 v79 v80)
noncomputable def spec_l1Cur_wished_j3 (v79 : (Int × Int × (List Int)) × ((List Int) × Int × Int)) : ((List Int) × Int × Int × (List (List Int))) → Option (((Int × Int × (List Int)) × (List (List Int))) × ((List Int) × Int × Int)) := fun (x435, x436, x437, x438) =>
some ((v79.1, x438), (x435, x436, x437))
/-- (*loop.example/g01176/spec.l1Cur).wished -/
noncomputable def spec_l1Cur_wished (c0 : (List Int) × Int × Int) : Option (((Int × Int × (List Int)) × (List (List Int))) × ((List Int) × Int × Int)) :=
(spec_l1Cur_timed c0).bind fun v79 =>
(spec_l1Cur_among (([(2 : Int), (10 : Int), (60 : Int), (200 : Int)] : List Int)) v79.2).bind fun v80 =>
(spec_l1Cur_pick ((6 : Int)) v80.2).bind fun v141 =>
(spec_l1Cur_wished_l1 v79 v80 (v141.2.1, v141.2.2.1, v141.2.2.2, [], v141.1)).bind fun (x254, x255, x256, x257) =>
if (decide ((List.length x257 : Int) > (0 : Int))) = true then
(spec_l1Cur_pick ((12 : Int)) ((x254, x255, x256))).bind fun v440 =>
if (v440.1 == (0 : Int)) = true then
(at? x257 ((0 : Int))).bind fun v449 =>
(app? v449 (([(1 : Int)] : List Int))).bind fun v450 =>
spec_l1Cur_wished_j3 v79 (v440.2.1, v440.2.2.1, v440.2.2.2, (List.set x257 (Int.toNat ((0 : Int))) v450))
else
if (v440.1 == (1 : Int)) = true then
(at? x257 ((0 : Int))).bind fun v456 =>
(spec_l1Cur_among (([(-1 : Int), (200 : Int), (201 : Int)] : List Int)) v440.2).bind fun v457 =>
(at? v456 ((0 : Int))).bind fun v458 =>
spec_l1Cur_wished_j3 v79 (v457.2.1, v457.2.2.1, v457.2.2.2, (List.set x257 (Int.toNat ((0 : Int))) ((List.set v456 (Int.toNat ((0 : Int))) v457.1))))
else
spec_l1Cur_wished_j3 v79 (v440.2.1, v440.2.2.1, v440.2.2.2, x257)
else
spec_l1Cur_wished_j3 v79 (x254, x255, x256, x257)
theorem spec_l1Cur_wished_ok {c0 : (List Int) × Int × Int} {o : ((Int × Int × (List Int)) × (List (List Int))) × ((List Int) × Int × Int)} (h : spec_l1Cur_wished c0 = some o) : RN 88 [.ref 0] [.ptr (.agg [.sh (.ints .u8 c0.1), .int .i64 c0.2.1, .int .u64 c0.2.2])] = some (.tup [.agg [.int .i64 o.1.1.1, .int .i64 o.1.1.2.1, .ints .i64 o.1.1.2.2], .rows 1 (List.map (T.ints .i64) o.1.2)], [.ptr (.agg [.sh (.ints .u8 o.2.1), .int .i64 o.2.2.1, .int .u64 o.2.2.2])]) := by
  refine fn_run (o := o) (nr := 1) (F := k88) (st := ⟨entry 0 [.ptr 0 [] (some 0)], fun n => ([.ptr (.agg [.sh (.ints .u8 c0.1), .int .i64 c0.2.1, .int .u64 c0.2.2])] : List T)[n]?, 1⟩) (fun (o : ((Int × Int × (List Int)) × (List (List Int))) × ((List Int) × Int × Int)) => (.tup [.agg [.int .i64 o.1.1.1, .int .i64 o.1.1.2.1, .ints .i64 o.1.1.2.2], .rows 1 (List.map (T.ints .i64) o.1.2)], [.ptr (.agg [.sh (.ints .u8 o.2.1), .int .i64 o.2.2.1, .int .u64 o.2.2.2])])) rfl fns_88 rfl rfl ?_
  refine wp_seq ?_
  refine wp_reg (nx' := 33) rfl (ev_new (.ptr 1 [] (some 0)) (.ptr (.agg [.int .i64 ((0 : Int)), .int .i64 ((0 : Int)), .ints .i64 ([])])) rfl rfl (ev_new (.ref 17 [] 1 0 0) (.rows 1 []) rfl rfl (ev_nil))) (seqQ_n (?_))
  refine wp_seq ?_
  obtain ⟨v79, hv79, h⟩ := bs h
  refine wp_reg (nx' := 97) rfl (ev_den (.ptr 0 [] (some 0)) rfl rfl (ev_call1 [(.ptr 0 [] (some 0))] rfl (call_ok (rs := [0]) (rd := []) rfl rfl rfl rfl (argL_cons rfl (argL_nil)) rfl rfl (spec_l1Cur_timed_ok hv79) rfl rfl rfl (bindR_a (bindL_cons rfl (bindL_cons rfl (bindL_cons rfl (bindL_nil))))) rfl) (ev_new (.ptr 65 [] (some 0)) (.ptr (.agg [.int .i64 ((0 : Int)), .int .i64 ((0 : Int)), .ints .i64 ([])])) rfl rfl (ev_wr0 rfl (w_st_a rfl rfl rfl (stL_cons (st1_of rfl rfl rfl (get_f rfl (get_nil)) rfl (rput_p (put_f rfl (put_nil)))) rfl (stL_cons (st1_of rfl rfl rfl (get_f rfl (get_nil)) rfl (rput_p (put_f rfl (put_nil)))) rfl (stL_cons (st1_of (abs_ref rfl sub_i) rfl rfl (get_f rfl (get_nil)) rfl (rput_p (put_f rfl (put_nil)))) rfl (stL_nil))))) (ev_nil))))) (seqQ_n (?_))
  refine wp_seq ?_
  refine wp_reg (nx' := 113) rfl (ev_new (.ref 97 [] 1 0 0) (.rows 1 []) rfl rfl (ev_nil)) (seqQ_n (?_))
  refine wp_seq ?_
  obtain ⟨v80, hv80, h⟩ := bs h
  refine wp_reg (nx' := 177) rfl (ev_den (.ptr 0 [] (some 0)) rfl rfl (ev_den (.vw _ _) rfl rfl (ev_call1 [(.ptr 0 [] (some 0)), (.vw _ _)] rfl (call_ok (rs := [0]) (rd := []) rfl rfl rfl rfl (argL_cons rfl (argL_cons rfl (argL_nil))) rfl rfl (spec_l1Cur_among_ok hv80) rfl rfl rfl rfl rfl) (ev_den (.vw _ _) rfl rfl (ev_nil))))) (seqQ_n (?_))
  refine wp_seq ?_
  refine wp_gc ?_
  refine wp_seq ?_
  refine wp_gc ?_
  obtain ⟨v141, hv141, h⟩ := bs h
  refine wp_reg (nx' := 225) rfl (ev_den (.ptr 0 [] (some 0)) rfl rfl (ev_call1 [(.ptr 0 [] (some 0)), (.vw _ _)] rfl (call_ok (rs := [0]) (rd := []) rfl rfl rfl rfl (argL_cons rfl (argL_cons rfl (argL_nil))) rfl rfl (spec_l1Cur_pick_ok hv141) rfl rfl rfl rfl rfl) (ev_den (.vw _ _) rfl rfl (ev_nil)))) (gcQ_n (gc_to [1, 65, 97] (e := [(0, .ptr 0 [] (some 0)), (2, .ptr 1 [] (some 0)), (4, .ptr 2 [] (some 0)), (5, .ref 3 [] 1 0 0), (6, .vw [] (.int .i64 v80.1)), (7, .vw [] (.int .i64 v141.1))]) (ts := [some (.ptr (.agg [.sh (.ints .u8 v141.2.1), .int .i64 v141.2.2.1, .int .u64 v141.2.2.2])), some (.ptr (.agg [.int .i64 ((0 : Int)), .int .i64 ((0 : Int)), .ints .i64 ([])])), some (.ptr (.agg [.int .i64 v79.1.1, .int .i64 v79.1.2.1, .ints .i64 v79.1.2.2])), some (.rows 1 (List.map (T.ints .i64) ([])))]) (n := 4) rfl rfl rfl rfl) (seqQ_n (?_)))
  refine wp_gc ?_
  refine wp_blk ?_
  obtain ⟨w425, hw425, h⟩ := bs h
  refine wp_mono (wp_loop (fun ((x222, x223, x224, x225, x226) : (List Int) × Int × Int × (List (List Int)) × Int) => (⟨al .dead [(0, .ptr 0 [] (some 0)), (2, .ptr 1 [] (some 0)), (4, .ptr 2 [] (some 0)), (5, .ref 3 [] 1 0 (List.length x225)), (6, .vw [] (.int .i64 v80.1)), (7, .vw [] (.int .i64 x226))], hl [some (.ptr (.agg [.sh (.ints .u8 x222), .int .i64 x223, .int .u64 x224])), some (.ptr (.agg [.int .i64 ((0 : Int)), .int .i64 ((0 : Int)), .ints .i64 ([])])), some (.ptr (.agg [.int .i64 v79.1.1, .int .i64 v79.1.2.1, .ints .i64 v79.1.2.2])), some (.rows 1 (List.map (T.ints .i64) x225))], 4⟩ : St)) (fun ((x254, x255, x256, x257) : (List Int) × Int × Int × (List (List Int))) e st => e = .exit 0 ∧ gc 1 [0, 2, 4, 5] st = ⟨al .dead [(0, .ptr 0 [] (some 0)), (2, .ptr 1 [] (some 0)), (4, .ptr 2 [] (some 0)), (5, .ref 3 [] 1 0 (List.length x257))], hl [some (.ptr (.agg [.sh (.ints .u8 x254), .int .i64 x255, .int .u64 x256])), some (.ptr (.agg [.int .i64 ((0 : Int)), .int .i64 ((0 : Int)), .ints .i64 ([])])), some (.ptr (.agg [.int .i64 v79.1.1, .int .i64 v79.1.2.1, .ints .i64 v79.1.2.2])), some (.rows 1 (List.map (T.ints .i64) x257))], 4⟩) hw425 ?_) ?_
  · rintro ⟨x222, x223, x224, x225, x226⟩ o h
    refine wp_gc ?_
    refine wp_seq ?_
    refine wp_gc ?_
    refine wp_seq ?_
    refine wp_reg (nx' := 36) rfl (ev_den (.vw _ _) rfl rfl (ev_den (.vw _ _) rfl rfl (ev_nil))) (seqQ_n (?_))
    rcases its h with ⟨hc286, h⟩ | ⟨hc286, h⟩
    · refine wp_ct rfl hc286 ?_
      refine wp_skip (gcQ_n (gc_to [1, 2, 3] (e := [(0, .ptr 0 [] (some 0)), (2, .ptr 1 [] (some 0)), (4, .ptr 2 [] (some 0)), (5, .ref 3 [] 1 0 (List.length x225)), (6, .vw [] (.int .i64 v80.1)), (7, .vw [] (.int .i64 x226))]) (ts := [some (.ptr (.agg [.sh (.ints .u8 x222), .int .i64 x223, .int .u64 x224])), some (.ptr (.agg [.int .i64 ((0 : Int)), .int .i64 ((0 : Int)), .ints .i64 ([])])), some (.ptr (.agg [.int .i64 v79.1.1, .int .i64 v79.1.2.1, .ints .i64 v79.1.2.2])), some (.rows 1 (List.map (T.ints .i64) x225))]) (n := 4) rfl rfl rfl rfl) (seqQ_n (?_)))
      refine wp_seq ?_
      refine wp_gc ?_
      refine wp_gc ?_
      refine wp_blk ?_
      refine wp_seq ?_
      refine wp_reg (nx' := 20) rfl (ev_new (.ref 4 [] 1 0 0) (.ints .i64 []) rfl rfl (ev_nil)) (seqQ_n (?_))
      refine wp_seq ?_
      refine wp_gc ?_
      refine wp_seq ?_
      refine wp_gc ?_
      refine wp_reg (nx' := 84) rfl (ev_den (.ptr 2 [] (some 2)) rfl rfl (ev_den (.ref 2 [.f 2] _ _ _) rfl (d_ld_o rfl (rget_of rfl (get_nil)) rfl rfl) (ev_den (.vw _ _) rfl rfl (ev_den (.vw _ _) rfl rfl (ev_nil))))) (gcQ_n (gc_to [1, 2, 3, 4] (e := [(0, .ptr 0 [] (some 0)), (2, .ptr 1 [] (some 0)), (4, .ptr 2 [] (some 0)), (5, .ref 3 [] 1 0 (List.length x225)), (6, .vw [] (.int .i64 v80.1)), (7, .vw [] (.int .i64 x226)), (8, .ref 4 [] 1 0 0), (22, .vw [] (.int .i64 ((List.length v79.1.2.2 : Int)))), (23, .vw [] (.int .i64 ((0 : Int))))]) (ts := [some (.ptr (.agg [.sh (.ints .u8 x222), .int .i64 x223, .int .u64 x224])), some (.ptr (.agg [.int .i64 ((0 : Int)), .int .i64 ((0 : Int)), .ints .i64 ([])])), some (.ptr (.agg [.int .i64 v79.1.1, .int .i64 v79.1.2.1, .ints .i64 v79.1.2.2])), some (.rows 1 (List.map (T.ints .i64) x225)), some (.ints .i64 ([]))]) (n := 5) rfl rfl rfl rfl) (seqQ_n (?_)))
      refine wp_gc ?_
      refine wp_blk ?_
      obtain ⟨w414, hw414, h⟩ := bs h
      refine wp_mono (wp_loop (fun ((x372, x373, x374, x375, x376) : (List Int) × Int × Int × (List Int) × Int) => (⟨al .dead [(0, .ptr 0 [] (some 0)), (2, .ptr 1 [] (some 0)), (4, .ptr 2 [] (some 0)), (5, .ref 3 [] 1 0 (List.length x225)), (6, .vw [] (.int .i64 v80.1)), (7, .vw [] (.int .i64 x226)), (8, .ref 4 [] 1 0 (List.length x375)), (22, .vw [] (.int .i64 ((List.length v79.1.2.2 : Int)))), (23, .vw [] (.int .i64 x376))], hl [some (.ptr (.agg [.sh (.ints .u8 x372), .int .i64 x373, .int .u64 x374])), some (.ptr (.agg [.int .i64 ((0 : Int)), .int .i64 ((0 : Int)), .ints .i64 ([])])), some (.ptr (.agg [.int .i64 v79.1.1, .int .i64 v79.1.2.1, .ints .i64 v79.1.2.2])), some (.rows 1 (List.map (T.ints .i64) x225)), some (.ints .i64 x375)], 5⟩ : St)) (fun ((x385, x386, x387, x388) : (List Int) × Int × Int × (List Int)) e st => e = .exit 2 ∧ gc 1 [0, 2, 4, 5, 6, 7, 8] st = ⟨al .dead [(0, .ptr 0 [] (some 0)), (2, .ptr 1 [] (some 0)), (4, .ptr 2 [] (some 0)), (5, .ref 3 [] 1 0 (List.length x225)), (6, .vw [] (.int .i64 v80.1)), (7, .vw [] (.int .i64 x226)), (8, .ref 4 [] 1 0 (List.length x388))], hl [some (.ptr (.agg [.sh (.ints .u8 x385), .int .i64 x386, .int .u64 x387])), some (.ptr (.agg [.int .i64 ((0 : Int)), .int .i64 ((0 : Int)), .ints .i64 ([])])), some (.ptr (.agg [.int .i64 v79.1.1, .int .i64 v79.1.2.1, .ints .i64 v79.1.2.2])), some (.rows 1 (List.map (T.ints .i64) x225)), some (.ints .i64 x388)], 5⟩) hw414 ?_) ?_
      · rintro ⟨x372, x373, x374, x375, x376⟩ o h
        refine wp_gc ?_
        refine wp_seq ?_
        refine wp_reg (nx' := 21) rfl (ev_den (.vw _ _) rfl rfl (ev_nil)) (seqQ_n (?_))
        refine wp_seq ?_
        refine wp_gc ?_
        rcases its h with ⟨hc398, h⟩ | ⟨hc398, h⟩
        · refine wp_ct rfl hc398 ?_
          refine wp_skip (gcQ_n (gc_to [1, 2, 3, 4] (e := [(0, .ptr 0 [] (some 0)), (2, .ptr 1 [] (some 0)), (4, .ptr 2 [] (some 0)), (5, .ref 3 [] 1 0 (List.length x225)), (6, .vw [] (.int .i64 v80.1)), (7, .vw [] (.int .i64 x226)), (8, .ref 4 [] 1 0 (List.length x375)), (22, .vw [] (.int .i64 ((List.length v79.1.2.2 : Int)))), (23, .vw [] (.int .i64 x376))]) (ts := [some (.ptr (.agg [.sh (.ints .u8 x372), .int .i64 x373, .int .u64 x374])), some (.ptr (.agg [.int .i64 ((0 : Int)), .int .i64 ((0 : Int)), .ints .i64 ([])])), some (.ptr (.agg [.int .i64 v79.1.1, .int .i64 v79.1.2.1, .ints .i64 v79.1.2.2])), some (.rows 1 (List.map (T.ints .i64) x225)), some (.ints .i64 x375)]) (n := 5) rfl rfl rfl rfl) (seqQ_n (?_)))
          refine wp_seq ?_
          refine wp_gc ?_
          refine wp_gc ?_
          refine wp_blk ?_
          obtain ⟨v403, hv403, h⟩ := bs h
          obtain ⟨v404, hv404, h⟩ := bs h
          refine wp_reg (nx' := 117) rfl (ev_den (.ref 4 _ _ _ _) rfl rfl (ev_den (.ptr 0 [] (some 0)) rfl rfl (ev_den (.vw _ _) rfl rfl (ev_call1 [(.ptr 0 [] (some 0)), (.vw _ _)] rfl (call_ok (rs := [0]) (rd := []) rfl rfl rfl rfl (argL_cons rfl (argL_cons rfl (argL_nil))) rfl rfl (spec_l1Cur_pick_ok hv403) rfl rfl rfl rfl rfl) (ev_den (.vw _ _) rfl rfl (ev_wr rfl (w_app_i (xv := (.ref 4 _ _ _ _)) 4 rfl rfl (abs_ref rfl sub_i) hv404 rfl) (ev_den (.ref 4 _ _ _ _) rfl rfl (ev_nil)))))))) (blkQ_n (gcQ_n (gc_to [1, 2, 3, 4] (e := [(0, .ptr 0 [] (some 0)), (2, .ptr 1 [] (some 0)), (4, .ptr 2 [] (some 0)), (5, .ref 3 [] 1 0 (List.length x225)), (6, .vw [] (.int .i64 v80.1)), (7, .vw [] (.int .i64 x226)), (8, .ref 4 [] 1 0 (List.length v404)), (22, .vw [] (.int .i64 ((List.length v79.1.2.2 : Int)))), (23, .vw [] (.int .i64 x376))]) (ts := [some (.ptr (.agg [.sh (.ints .u8 v403.2.1), .int .i64 v403.2.2.1, .int .u64 v403.2.2.2])), some (.ptr (.agg [.int .i64 ((0 : Int)), .int .i64 ((0 : Int)), .ints .i64 ([])])), some (.ptr (.agg [.int .i64 v79.1.1, .int .i64 v79.1.2.1, .ints .i64 v79.1.2.2])), some (.rows 1 (List.map (T.ints .i64) x225)), some (.ints .i64 v404)]) (n := 5) rfl rfl rfl rfl) (gcQ_n (gc_to [1, 2, 3, 4] (e := [(0, .ptr 0 [] (some 0)), (2, .ptr 1 [] (some 0)), (4, .ptr 2 [] (some 0)), (5, .ref 3 [] 1 0 (List.length x225)), (6, .vw [] (.int .i64 v80.1)), (7, .vw [] (.int .i64 x226)), (8, .ref 4 [] 1 0 (List.length v404)), (22, .vw [] (.int .i64 ((List.length v79.1.2.2 : Int)))), (23, .vw [] (.int .i64 x376))]) (ts := [some (.ptr (.agg [.sh (.ints .u8 v403.2.1), .int .i64 v403.2.2.1, .int .u64 v403.2.2.2])), some (.ptr (.agg [.int .i64 ((0 : Int)), .int .i64 ((0 : Int)), .ints .i64 ([])])), some (.ptr (.agg [.int .i64 v79.1.1, .int .i64 v79.1.2.1, .ints .i64 v79.1.2.2])), some (.rows 1 (List.map (T.ints .i64) x225)), some (.ints .i64 v404)]) (n := 5) rfl rfl rfl rfl) (seqQ_n (?_)))))
          cases h
          exact wp_reg (nx' := 37) rfl (ev_den (.vw _ _) rfl rfl (ev_den (.vw _ _) rfl rfl (ev_nil))) (gcQ_n (gc_to [1, 2, 3, 4] (e := [(0, .ptr 0 [] (some 0)), (2, .ptr 1 [] (some 0)), (4, .ptr 2 [] (some 0)), (5, .ref 3 [] 1 0 (List.length x225)), (6, .vw [] (.int .i64 v80.1)), (7, .vw [] (.int .i64 x226)), (8, .ref 4 [] 1 0 (List.length v404)), (22, .vw [] (.int .i64 ((List.length v79.1.2.2 : Int)))), (23, .vw [] (.int .i64 ((w64 (x376 + (1 : Int))))))]) (ts := [some (.ptr (.agg [.sh (.ints .u8 v403.2.1), .int .i64 v403.2.2.1, .int .u64 v403.2.2.2])), some (.ptr (.agg [.int .i64 ((0 : Int)), .int .i64 ((0 : Int)), .ints .i64 ([])])), some (.ptr (.agg [.int .i64 v79.1.1, .int .i64 v79.1.2.1, .ints .i64 v79.1.2.2])), some (.rows 1 (List.map (T.ints .i64) x225)), some (.ints .i64 v404)]) (n := 5) rfl rfl rfl rfl) (loopQ_n rfl))
        · refine wp_cf rfl hc398 ?_
          cases h
          exact wp_exit (gcQ_e (seqQ_e (gcQ_e (loopQ_e (And.intro rfl (gc_to [1, 2, 3, 4] (e := [(0, .ptr 0 [] (some 0)), (2, .ptr 1 [] (some 0)), (4, .ptr 2 [] (some 0)), (5, .ref 3 [] 1 0 (List.length x225)), (6, .vw [] (.int .i64 v80.1)), (7, .vw [] (.int .i64 x226)), (8, .ref 4 [] 1 0 (List.length x375))]) (ts := [some (.ptr (.agg [.sh (.ints .u8 x372), .int .i64 x373, .int .u64 x374])), some (.ptr (.agg [.int .i64 ((0 : Int)), .int .i64 ((0 : Int)), .ints .i64 ([])])), some (.ptr (.agg [.int .i64 v79.1.1, .int .i64 v79.1.2.1, .ints .i64 v79.1.2.2])), some (.rows 1 (List.map (T.ints .i64) x225)), some (.ints .i64 x375)]) (n := 5) rfl rfl rfl rfl))))))
      · intro e st414 hg414
        obtain ⟨x385, x386, x387, x388⟩ := w414
        obtain ⟨rfl, hg414⟩ := hg414
        refine blkQ_h (gcQ_n hg414 (gcQ_n (gc_to [1, 2, 3, 4] (e := [(0, .ptr 0 [] (some 0)), (2, .ptr 1 [] (some 0)), (4, .ptr 2 [] (some 0)), (5, .ref 3 [] 1 0 (List.length x225)), (6, .vw [] (.int .i64 v80.1)), (7, .vw [] (.int .i64 x226)), (8, .ref 4 [] 1 0 (List.length x388))]) (ts := [some (.ptr (.agg [.sh (.ints .u8 x385), .int .i64 x386, .int .u64 x387])), some (.ptr (.agg [.int .i64 ((0 : Int)), .int .i64 ((0 : Int)), .ints .i64 ([])])), some (.ptr (.agg [.int .i64 v79.1.1, .int .i64 v79.1.2.1, .ints .i64 v79.1.2.2])), some (.rows 1 (List.map (T.ints .i64) x225)), some (.ints .i64 x388)]) (n := 5) rfl rfl rfl rfl) (seqQ_n (?_))))
        obtain ⟨v415, hv415, h⟩ := bs h
        refine wp_reg (nx' := 85) rfl (ev_den (.ref 3 _ _ _ _) rfl rfl (ev_den (.ref 4 _ _ _ _) rfl rfl (ev_wr rfl (w_bsl [(.ref 4 _ _ _ _)] rfl rfl (absW_cons (absA_ref (abs_ref rfl sub_i)) rfl (absW_nil))) (ev_wr rfl (w_app_r (xs := x225) (ys := (([x388] : List (List Int)))) (e := (T.ints .i64)) (xv := (.ref 3 _ _ _ _)) (yv := (.ref 37 _ _ _ _)) 3 rfl rfl rfl (abs_ref rfl (sub_r (xs := ([x388] : List (List Int))))) rfl (abs_ref rfl sub_r) hv415 rfl) (ev_den (.ref 3 _ _ _ _) rfl rfl (ev_nil)))))) (blkQ_n (gcQ_n (gc_to [1, 2, 3] (e := [(0, .ptr 0 [] (some 0)), (2, .ptr 1 [] (some 0)), (4, .ptr 2 [] (some 0)), (5, .ref 3 [] 1 0 (List.length v415)), (6, .vw [] (.int .i64 v80.1)), (7, .vw [] (.int .i64 x226))]) (ts := [some (.ptr (.agg [.sh (.ints .u8 x385), .int .i64 x386, .int .u64 x387])), some (.ptr (.agg [.int .i64 ((0 : Int)), .int .i64 ((0 : Int)), .ints .i64 ([])])), some (.ptr (.agg [.int .i64 v79.1.1, .int .i64 v79.1.2.1, .ints .i64 v79.1.2.2])), some (.rows 1 (List.map (T.ints .i64) v415))]) (n := 4) rfl rfl rfl rfl) (gcQ_n (gc_to [1, 2, 3] (e := [(0, .ptr 0 [] (some 0)), (2, .ptr 1 [] (some 0)), (4, .ptr 2 [] (some 0)), (5, .ref 3 [] 1 0 (List.length v415)), (6, .vw [] (.int .i64 v80.1)), (7, .vw [] (.int .i64 x226))]) (ts := [some (.ptr (.agg [.sh (.ints .u8 x385), .int .i64 x386, .int .u64 x387])), some (.ptr (.agg [.int .i64 ((0 : Int)), .int .i64 ((0 : Int)), .ints .i64 ([])])), some (.ptr (.agg [.int .i64 v79.1.1, .int .i64 v79.1.2.1, .ints .i64 v79.1.2.2])), some (.rows 1 (List.map (T.ints .i64) v415))]) (n := 4) rfl rfl rfl rfl) (seqQ_n (?_)))))
        cases h
        exact wp_reg (nx' := 52) rfl (ev_den (.vw _ _) rfl rfl (ev_den (.vw _ _) rfl rfl (ev_den (.vw _ _) rfl rfl (ev_nil)))) (gcQ_n (gc_to [1, 2, 3] (e := [(0, .ptr 0 [] (some 0)), (2, .ptr 1 [] (some 0)), (4, .ptr 2 [] (some 0)), (5, .ref 3 [] 1 0 (List.length v415)), (6, .vw [] (.int .i64 v80.1)), (7, .vw [] (.int .i64 ((w64 (x226 - (1 : Int))))))]) (ts := [some (.ptr (.agg [.sh (.ints .u8 x385), .int .i64 x386, .int .u64 x387])), some (.ptr (.agg [.int .i64 ((0 : Int)), .int .i64 ((0 : Int)), .ints .i64 ([])])), some (.ptr (.agg [.int .i64 v79.1.1, .int .i64 v79.1.2.1, .ints .i64 v79.1.2.2])), some (.rows 1 (List.map (T.ints .i64) v415))]) (n := 4) rfl rfl rfl rfl) (loopQ_n rfl))
    · refine wp_cf rfl hc286 ?_
      cases h
      exact wp_exit (gcQ_e (seqQ_e (gcQ_e (loopQ_e (And.intro rfl (gc_to [1, 2, 3] (e := [(0, .ptr 0 [] (some 0)), (2, .ptr 1 [] (some 0)), (4, .ptr 2 [] (some 0)), (5, .ref 3 [] 1 0 (List.length x225))]) (ts := [some (.ptr (.agg [.sh (.ints .u8 x222), .int .i64 x223, .int .u64 x224])), some (.ptr (.agg [.int .i64 ((0 : Int)), .int .i64 ((0 : Int)), .ints .i64 ([])])), some (.ptr (.agg [.int .i64 v79.1.1, .int .i64 v79.1.2.1, .ints .i64 v79.1.2.2])), some (.rows 1 (List.map (T.ints .i64) x225))]) (n := 4) rfl rfl rfl rfl))))))
  · intro e st425 hg425
    obtain ⟨x254, x255, x256, x257⟩ := w425
    obtain ⟨rfl, hg425⟩ := hg425
    refine blkQ_h (gcQ_n hg425 (gcQ_n (gc_to [1, 2, 3] (e := [(0, .ptr 0 [] (some 0)), (2, .ptr 1 [] (some 0)), (4, .ptr 2 [] (some 0)), (5, .ref 3 [] 1 0 (List.length x257))]) (ts := [some (.ptr (.agg [.sh (.ints .u8 x254), .int .i64 x255, .int .u64 x256])), some (.ptr (.agg [.int .i64 ((0 : Int)), .int .i64 ((0 : Int)), .ints .i64 ([])])), some (.ptr (.agg [.int .i64 v79.1.1, .int .i64 v79.1.2.1, .ints .i64 v79.1.2.2])), some (.rows 1 (List.map (T.ints .i64) x257))]) (n := 4) rfl rfl rfl rfl) (seqQ_n (?_))))
    refine wp_seq ?_
    refine wp_join (spec_l1Cur_wished_j3 v79) (fun ((x435, x436, x437, x438) : (List Int) × Int × Int × (List (List Int))) => (⟨al .dead [(2, .ptr 1 [] (some 0)), (4, .ptr 2 [] (some 0)), (5, .ref 3 [] 1 0 (List.length x438))], hl [some (.ptr (.agg [.sh (.ints .u8 x435), .int .i64 x436, .int .u64 x437])), some (.ptr (.agg [.int .i64 ((0 : Int)), .int .i64 ((0 : Int)), .ints .i64 ([])])), some (.ptr (.agg [.int .i64 v79.1.1, .int .i64 v79.1.2.1, .ints .i64 v79.1.2.2])), some (.rows 1 (List.map (T.ints .i64) x438))], 4⟩ : St)) ?_ ?_
    · rintro ⟨x435, x436, x437, x438⟩ o h
      refine seqQ_n (?_)
      refine wp_seq ?_
      refine wp_reg (nx' := 68) rfl (ev_den (.agg [(.vw _ _), (.vw _ _), (.ref 2 [.f 2] _ _ _)]) rfl (d_ld_os rfl (rget_of rfl (get_nil)) rfl (cells_cons rfl (cells_cons rfl (cells_cons rfl (cells_nil))))) (ev_den (.ref 3 _ _ _ _) rfl rfl (ev_wr0 rfl (w_st_a rfl rfl rfl (stL_cons (st1_of rfl rfl rfl (get_f rfl (get_nil)) rfl (rput_p (put_f rfl (put_nil)))) rfl (stL_cons (st1_of rfl rfl rfl (get_f rfl (get_nil)) rfl (rput_p (put_f rfl (put_nil)))) rfl (stL_cons (st1_of (abs_refp (r := .ptr (.agg [.int .i64 v79.1.1, .int .i64 v79.1.2.1, .ints .i64 v79.1.2.2])) rfl (get_f rfl (get_nil)) sub_i (rput_p (put_f rfl (put_nil)))) rfl rfl (get_f rfl (get_nil)) rfl (rput_p (put_f rfl (put_nil)))) rfl (stL_nil))))) (ev_den (.ref 3 _ _ _ _) rfl rfl (ev_nil))))) (seqQ_n (?_))
      cases h
      exact wp_ret (qf_r ((outs_ok (vs := [(.agg [(.vw _ _), (.vw _ _), (.ref 1 [.f 2] _ _ _)]), (.ref 3 _ _ _ _)]) rfl (absW_cons (retT_agg (absW_cons rfl rfl (absW_cons rfl rfl (absW_cons (ret1_ref (abs_refp (r := .ptr (.agg [.int .i64 v79.1.1, .int .i64 v79.1.2.1, .ints .i64 v79.1.2.2])) rfl (get_f rfl (get_nil)) sub_i (rput_p (put_f rfl (put_nil))))) rfl (absW_nil))))) rfl (absW_cons (retT_ref (abs_ref rfl sub_r)) rfl (absW_nil))) rfl rfl)))
    · refine wp_seq ?_
      refine wp_reg (nx' := 52) rfl (ev_den (.ref 3 _ _ _ _) rfl rfl (ev_den (.vw _ _) rfl rfl (ev_den (.vw _ _) rfl rfl (ev_nil)))) (seqQ_n (?_))
      rcases its h with ⟨hc439, h⟩ | ⟨hc439, h⟩
      · refine wp_ct rfl hc439 ?_
        refine wp_seq ?_
        obtain ⟨v440, hv440, h⟩ := bs h
        refine wp_reg (nx' := 84) rfl (ev_den (.ptr 0 [] (some 0)) rfl rfl (ev_call1 [(.ptr 0 [] (some 0)), (.vw _ _)] rfl (call_ok (rs := [0]) (rd := []) rfl rfl rfl rfl (argL_cons rfl (argL_cons rfl (argL_nil))) rfl rfl (spec_l1Cur_pick_ok hv440) rfl rfl rfl rfl rfl) (ev_nil))) (seqQ_n (?_))
        refine wp_gc ?_
        refine wp_blk ?_
        refine wp_seq ?_
        refine wp_reg (nx' := 116) rfl (ev_den (.vw _ _) rfl rfl (ev_den (.vw _ _) rfl rfl (ev_nil))) (seqQ_n (?_))
        rcases its h with ⟨hc448, h⟩ | ⟨hc448, h⟩
        · refine wp_ct rfl hc448 ?_
          obtain ⟨v449, hv449, h⟩ := bs h
          obtain ⟨v450, hv450, h⟩ := bs h
          exact wp_reg (nx' := 244) rfl (ev_den (.ref 3 _ _ _ _) rfl rfl (ev_den (.ref 3 _ _ _ _) rfl rfl (ev_den (.ptr 3 [.e (Int.toNat ((0 : Int)))] none) rfl (d_idx_r (p := []) rfl rfl hv449) (ev_den (.ref 3 [.e (Int.toNat ((0 : Int)))] _ _ _) rfl (d_ld_p rfl (rget_of rfl (get_r (e := (T.ints .i64)) hv449 (get_nil))) rfl) (ev_den (.vw _ _) rfl rfl (ev_wr rfl (w_app_i (xv := (.ref 3 [.e (Int.toNat ((0 : Int)))] _ _ _)) 196 rfl rfl (abs_refp (r := .rows 1 (List.map (T.ints .i64) x257)) rfl (get_r (e := (T.ints .i64)) hv449 (get_nil)) sub_i (rput_r (put_hole (e := (T.ints .i64)) hv449))) hv450 rfl) (ev_den (.ptr 3 [.e (Int.toNat ((0 : Int)))] none) rfl (d_idx_r (p := []) rfl rfl hv449) (ev_wr0 rfl (w_st_p rfl (st1_of (abs_ref rfl sub_i) rfl rfl (get_hole (e := (T.ints .i64)) hv449) rfl (rput_r (put_fill (e := (T.ints .i64)) v450 hv449)))) (ev_relen (b := (List.length ((List.set x257 (Int.toNat ((0 : Int))) v450)))) 5 rfl List.length_set.symm (ev_nil)))))))))) (blkQ_n (gcQ_n (gc_to [1, 2, 3] (e := [(2, .ptr 1 [] (some 0)), (4, .ptr 2 [] (some 0)), (5, .ref 3 [] 1 0 (List.length ((List.set x257 (Int.toNat ((0 : Int))) v450))))]) (ts := [some (.ptr (.agg [.sh (.ints .u8 v440.2.1), .int .i64 v440.2.2.1, .int .u64 v440.2.2.2])), some (.ptr (.agg [.int .i64 ((0 : Int)), .int .i64 ((0 : Int)), .ints .i64 ([])])), some (.ptr (.agg [.int .i64 v79.1.1, .int .i64 v79.1.2.1, .ints .i64 v79.1.2.2])), some (.rows 1 (List.map (T.ints .i64) ((List.set x257 (Int.toNat ((0 : Int))) v450))))]) (n := 4) rfl rfl rfl rfl) (joinQ_n (v440.2.1, v440.2.2.1, v440.2.2.2, (List.set x257 (Int.toNat ((0 : Int))) v450)) h (gc_to [1, 2, 3] rfl rfl rfl rfl))))
        · refine wp_cf rfl hc448 ?_
          refine wp_seq ?_
          refine wp_reg (nx' := 148) rfl (ev_den (.vw _ _) rfl rfl (ev_den (.vw _ _) rfl rfl (ev_nil))) (seqQ_n (?_))
          rcases its h with ⟨hc455, h⟩ | ⟨hc455, h⟩
          · refine wp_ct rfl hc455 ?_
            obtain ⟨v456, hv456, h⟩ := bs h
            obtain ⟨v457, hv457, h⟩ := bs h
            obtain ⟨v458, hv458, h⟩ := bs h
            exact wp_regA rfl (ar_cons (nx' := 276) rfl (rl_cons rfl (ev_den (.ref 3 _ _ _ _) rfl rfl (ev_nil)) (rl_cons rfl (ev_den (.ptr 3 [.e (Int.toNat ((0 : Int)))] none) rfl (d_idx_r (p := []) rfl rfl hv456) (ev_nil)) (rl_cons rfl (ev_den (.ref 3 [.e (Int.toNat ((0 : Int)))] _ _ _) rfl (d_ld_p rfl (rget_of rfl (get_r (e := (T.ints .i64)) hv456 (get_nil))) rfl) (ev_nil)) (rl_cons rfl (ev_den (.ptr 0 [] (some 0)) rfl rfl (ev_nil)) (rl_cons rfl (ev_den (.vw _ _) rfl rfl (ev_nil)) (rl_cons rfl (ev_call1 [(.ptr 0 [] (some 0)), (.vw _ _)] rfl (call_ok (rs := [0]) (rd := []) rfl rfl rfl rfl (argL_cons rfl (argL_cons rfl (argL_nil))) rfl rfl (spec_l1Cur_among_ok hv457) rfl rfl rfl rfl rfl) (ev_nil)) (rl_cons rfl (ev_den (.ptr 3 [.e (Int.toNat ((0 : Int))), .e (Int.toNat ((0 : Int)))] none) rfl (d_idx_r (p := [.e (Int.toNat ((0 : Int)))]) rfl rfl hv458) (ev_nil)) (rl_cons rfl (ev_wr0 rfl (w_st_p rfl (st1_of rfl rfl rfl (get_r (e := (T.ints .i64)) hv456 (get_i hv458)) rfl (rput_r (put_r (e := (T.ints .i64)) ((List.set v456 (Int.toNat ((0 : Int))) v457.1)) hv456 (put_i hv458))))) (ev_relen (b := (List.length ((List.set x257 (Int.toNat ((0 : Int))) ((List.set v456 (Int.toNat ((0 : Int))) v457.1)))))) 5 rfl List.length_set.symm (ev_relen (b := (List.length ((List.set x257 (Int.toNat ((0 : Int))) ((List.set v456 (Int.toNat ((0 : Int))) v457.1)))))) 52 rfl List.length_set.symm (ev_nil)))) (rl_nil))))))))) (gc_to [1, 2, 3] (e := [(2, .ptr 1 [] (some 0)), (4, .ptr 2 [] (some 0)), (5, .ref 3 [] 1 0 (List.length ((List.set x257 (Int.toNat ((0 : Int))) ((List.set v456 (Int.toNat ((0 : Int))) v457.1))))))]) (ts := [some (.ptr (.agg [.sh (.ints .u8 v457.2.1), .int .i64 v457.2.2.1, .int .u64 v457.2.2.2])), some (.ptr (.agg [.int .i64 ((0 : Int)), .int .i64 ((0 : Int)), .ints .i64 ([])])), some (.ptr (.agg [.int .i64 v79.1.1, .int .i64 v79.1.2.1, .ints .i64 v79.1.2.2])), some (.rows 1 (List.map (T.ints .i64) ((List.set x257 (Int.toNat ((0 : Int))) ((List.set v456 (Int.toNat ((0 : Int))) v457.1))))))]) (n := 4) rfl rfl rfl rfl) (ar_cons (nx' := 276) rfl (rl_cons rfl (ev_den (.ref 3 _ _ _ _) rfl rfl (ev_nil)) (rl_cons rfl (ev_den (.ptr 3 [.e (Int.toNat ((0 : Int)))] none) rfl (d_idx_r (p := []) rfl rfl hv456) (ev_nil)) (rl_cons rfl (ev_den (.ptr 0 [] (some 0)) rfl rfl (ev_nil)) (rl_cons rfl (ev_den (.vw _ _) rfl rfl (ev_nil)) (rl_cons rfl (ev_call1 [(.ptr 0 [] (some 0)), (.vw _ _)] rfl (call_ok (rs := [0]) (rd := []) rfl rfl rfl rfl (argL_cons rfl (argL_cons rfl (argL_nil))) rfl rfl (spec_l1Cur_among_ok hv457) rfl rfl rfl rfl rfl) (ev_nil)) (rl_cons rfl (ev_den (.ref 3 [.e (Int.toNat ((0 : Int)))] _ _ _) rfl (d_ld_p rfl (rget_of rfl (get_r (e := (T.ints .i64)) hv456 (get_nil))) rfl) (ev_nil)) (rl_cons rfl (ev_den (.ptr 3 [.e (Int.toNat ((0 : Int))), .e (Int.toNat ((0 : Int)))] none) rfl (d_idx_r (p := [.e (Int.toNat ((0 : Int)))]) rfl rfl hv458) (ev_nil)) (rl_cons rfl (ev_wr0 rfl (w_st_p rfl (st1_of rfl rfl rfl (get_r (e := (T.ints .i64)) hv456 (get_i hv458)) rfl (rput_r (put_r (e := (T.ints .i64)) ((List.set v456 (Int.toNat ((0 : Int))) v457.1)) hv456 (put_i hv458))))) (ev_relen (b := (List.length ((List.set x257 (Int.toNat ((0 : Int))) ((List.set v456 (Int.toNat ((0 : Int))) v457.1)))))) 5 rfl List.length_set.symm (ev_relen (b := (List.length ((List.set x257 (Int.toNat ((0 : Int))) ((List.set v456 (Int.toNat ((0 : Int))) v457.1)))))) 52 rfl List.length_set.symm (ev_nil)))) (rl_nil))))))))) (gc_to [1, 2, 3] (e := [(2, .ptr 1 [] (some 0)), (4, .ptr 2 [] (some 0)), (5, .ref 3 [] 1 0 (List.length ((List.set x257 (Int.toNat ((0 : Int))) ((List.set v456 (Int.toNat ((0 : Int))) v457.1))))))]) (ts := [some (.ptr (.agg [.sh (.ints .u8 v457.2.1), .int .i64 v457.2.2.1, .int .u64 v457.2.2.2])), some (.ptr (.agg [.int .i64 ((0 : Int)), .int .i64 ((0 : Int)), .ints .i64 ([])])), some (.ptr (.agg [.int .i64 v79.1.1, .int .i64 v79.1.2.1, .ints .i64 v79.1.2.2])), some (.rows 1 (List.map (T.ints .i64) ((List.set x257 (Int.toNat ((0 : Int))) ((List.set v456 (Int.toNat ((0 : Int))) v457.1))))))]) (n := 4) rfl rfl rfl rfl) (ar_cons (nx' := 276) rfl (rl_cons rfl (ev_den (.ref 3 _ _ _ _) rfl rfl (ev_nil)) (rl_cons rfl (ev_den (.ptr 0 [] (some 0)) rfl rfl (ev_nil)) (rl_cons rfl (ev_den (.vw _ _) rfl rfl (ev_nil)) (rl_cons rfl (ev_call1 [(.ptr 0 [] (some 0)), (.vw _ _)] rfl (call_ok (rs := [0]) (rd := []) rfl rfl rfl rfl (argL_cons rfl (argL_cons rfl (argL_nil))) rfl rfl (spec_l1Cur_among_ok hv457) rfl rfl rfl rfl rfl) (ev_nil)) (rl_cons rfl (ev_den (.ptr 3 [.e (Int.toNat ((0 : Int)))] none) rfl (d_idx_r (p := []) rfl rfl hv456) (ev_nil)) (rl_cons rfl (ev_den (.ref 3 [.e (Int.toNat ((0 : Int)))] _ _ _) rfl (d_ld_p rfl (rget_of rfl (get_r (e := (T.ints .i64)) hv456 (get_nil))) rfl) (ev_nil)) (rl_cons rfl (ev_den (.ptr 3 [.e (Int.toNat ((0 : Int))), .e (Int.toNat ((0 : Int)))] none) rfl (d_idx_r (p := [.e (Int.toNat ((0 : Int)))]) rfl rfl hv458) (ev_nil)) (rl_cons rfl (ev_wr0 rfl (w_st_p rfl (st1_of rfl rfl rfl (get_r (e := (T.ints .i64)) hv456 (get_i hv458)) rfl (rput_r (put_r (e := (T.ints .i64)) ((List.set v456 (Int.toNat ((0 : Int))) v457.1)) hv456 (put_i hv458))))) (ev_relen (b := (List.length ((List.set x257 (Int.toNat ((0 : Int))) ((List.set v456 (Int.toNat ((0 : Int))) v457.1)))))) 5 rfl List.length_set.symm (ev_relen (b := (List.length ((List.set x257 (Int.toNat ((0 : Int))) ((List.set v456 (Int.toNat ((0 : Int))) v457.1)))))) 52 rfl List.length_set.symm (ev_nil)))) (rl_nil))))))))) (gc_to [1, 2, 3] (e := [(2, .ptr 1 [] (some 0)), (4, .ptr 2 [] (some 0)), (5, .ref 3 [] 1 0 (List.length ((List.set x257 (Int.toNat ((0 : Int))) ((List.set v456 (Int.toNat ((0 : Int))) v457.1))))))]) (ts := [some (.ptr (.agg [.sh (.ints .u8 v457.2.1), .int .i64 v457.2.2.1, .int .u64 v457.2.2.2])), some (.ptr (.agg [.int .i64 ((0 : Int)), .int .i64 ((0 : Int)), .ints .i64 ([])])), some (.ptr (.agg [.int .i64 v79.1.1, .int .i64 v79.1.2.1, .ints .i64 v79.1.2.2])), some (.rows 1 (List.map (T.ints .i64) ((List.set x257 (Int.toNat ((0 : Int))) ((List.set v456 (Int.toNat ((0 : Int))) v457.1))))))]) (n := 4) rfl rfl rfl rfl) (ar_nil)))) (blkQ_n (gcQ_n (gc_to [1, 2, 3] (e := [(2, .ptr 1 [] (some 0)), (4, .ptr 2 [] (some 0)), (5, .ref 3 [] 1 0 (List.length ((List.set x257 (Int.toNat ((0 : Int))) ((List.set v456 (Int.toNat ((0 : Int))) v457.1))))))]) (ts := [some (.ptr (.agg [.sh (.ints .u8 v457.2.1), .int .i64 v457.2.2.1, .int .u64 v457.2.2.2])), some (.ptr (.agg [.int .i64 ((0 : Int)), .int .i64 ((0 : Int)), .ints .i64 ([])])), some (.ptr (.agg [.int .i64 v79.1.1, .int .i64 v79.1.2.1, .ints .i64 v79.1.2.2])), some (.rows 1 (List.map (T.ints .i64) ((List.set x257 (Int.toNat ((0 : Int))) ((List.set v456 (Int.toNat ((0 : Int))) v457.1))))))]) (n := 4) rfl rfl rfl rfl) (joinQ_n (v457.2.1, v457.2.2.1, v457.2.2.2, (List.set x257 (Int.toNat ((0 : Int))) ((List.set v456 (Int.toNat ((0 : Int))) v457.1)))) h (gc_to [1, 2, 3] rfl rfl rfl rfl))))
          · refine wp_cf rfl hc455 ?_
            exact wp_skip (blkQ_n (gcQ_n (gc_to [1, 2, 3] (e := [(2, .ptr 1 [] (some 0)), (4, .ptr 2 [] (some 0)), (5, .ref 3 [] 1 0 (List.length x257))]) (ts := [some (.ptr (.agg [.sh (.ints .u8 v440.2.1), .int .i64 v440.2.2.1, .int .u64 v440.2.2.2])), some (.ptr (.agg [.int .i64 ((0 : Int)), .int .i64 ((0 : Int)), .ints .i64 ([])])), some (.ptr (.agg [.int .i64 v79.1.1, .int .i64 v79.1.2.1, .ints .i64 v79.1.2.2])), some (.rows 1 (List.map (T.ints .i64) x257))]) (n := 4) rfl rfl rfl rfl) (joinQ_n (v440.2.1, v440.2.2.1, v440.2.2.2, x257) h (gc_to [1, 2, 3] rfl rfl rfl rfl))))
      · refine wp_cf rfl hc439 ?_
        exact wp_skip (joinQ_n (x254, x255, x256, x257) h (gc_to [1, 2, 3] rfl rfl rfl rfl))
/-- loop.example/g01176/spec.DrawTimedVisits -/
noncomputable def spec_DrawTimedVisits (p0 : List Int) : Option (((Int × Int × (List Int)) × (List (List Int)))) :=
(spec_l1Cur_wished ((p0, (0 : Int), (0 : Int)))).bind fun v2 =>
some v2.1
theorem spec_DrawTimedVisits_ok {p0 : List Int} {o : ((Int × Int × (List Int)) × (List (List Int)))} (h : spec_DrawTimedVisits p0 = some o) : RN 47 [.ints .u8 p0] [] = some (.tup [.agg [.int .i64 o.1.1, .int .i64 o.1.2.1, .ints .i64 o.1.2.2], .rows 1 (List.map (T.ints .i64) o.2)], []) := by
  refine fn_run (o := o) (nr := 0) (F := k47) (st := ⟨entry 0 [.vw [] (.ints .u8 p0)], fun n => ([] : List T)[n]?, 0⟩) (fun (o : ((Int × Int × (List Int)) × (List (List Int)))) => (.tup [.agg [.int .i64 o.1.1, .int .i64 o.1.2.1, .ints .i64 o.1.2.2], .rows 1 (List.map (T.ints .i64) o.2)], [])) rfl fns_47 rfl rfl ?_
  refine wp_seq ?_
  refine wp_reg (nx' := 32) rfl (ev_new (.ptr 0 [] (some 0)) (.ptr (.agg [.int .i64 ((0 : Int)), .int .i64 ((0 : Int)), .ints .i64 ([])])) rfl rfl (ev_new (.ref 16 [] 1 0 0) (.rows 1 []) rfl rfl (ev_nil))) (seqQ_n (?_))
  refine wp_seq ?_
  refine wp_reg (nx' := 96) rfl (ev_den (.vw _ _) rfl rfl (ev_den (.agg [(.vw _ _), (.vw _ _), (.vw _ _)]) rfl rfl (ev_wr rfl (w_box (sv := (.agg [(.vw _ _), (.vw _ _), (.vw _ _)])) rfl rfl (absW_cons rfl rfl (absW_cons rfl rfl (absW_cons rfl rfl (absW_nil))))) (ev_den (.ptr 64 [] (some 0)) rfl rfl (ev_nil))))) (seqQ_n (?_))
  refine wp_seq ?_
  obtain ⟨v2, hv2, h⟩ := bs h
  refine wp_reg (nx' := 192) rfl (ev_den (.ptr 64 [] (some 0)) rfl rfl (ev_call1 [(.ptr 64 [] (some 0))] rfl (call_ok (rs := [64]) (rd := []) rfl rfl rfl rfl (argL_cons rfl (argL_nil)) rfl rfl (spec_l1Cur_wished_ok hv2) rfl rfl rfl (bindR_t (bindL_cons (bindR_a (bindL_cons rfl (bindL_cons rfl (bindL_cons rfl (bindL_nil))))) (bindL_cons bindR_r (bindL_nil)))) rfl) (ev_den (.agg [(.vw _ _), (.vw _ _), (.ref 112 _ _ _ _)]) rfl rfl (ev_den (.ref 113 _ _ _ _) rfl rfl (ev_wr0 rfl (w_st_a rfl rfl rfl (stL_cons (st1_of rfl rfl rfl (get_f rfl (get_nil)) rfl (rput_p (put_f rfl (put_nil)))) rfl (stL_cons (st1_of rfl rfl rfl (get_f rfl (get_nil)) rfl (rput_p (put_f rfl (put_nil)))) rfl (stL_cons (st1_of (abs_ref rfl sub_i) rfl rfl (get_f rfl (get_nil)) rfl (rput_p (put_f rfl (put_nil)))) rfl (stL_nil))))) (ev_den (.ref 113 _ _ _ _) rfl rfl (ev_nil))))))) (seqQ_n (?_))
  cases h
  exact wp_ret (qf_r ((outs_ok (vs := [(.agg [(.vw _ _), (.vw _ _), (.ref 0 [.f 2] _ _ _)]), (.ref 113 _ _ _ _)]) rfl (absW_cons (retT_agg (absW_cons rfl rfl (absW_cons rfl rfl (absW_cons (ret1_ref (abs_refp (r := .ptr (.agg [.int .i64 v2.1.1.1, .int .i64 v2.1.1.2.1, .ints .i64 v2.1.1.2.2])) rfl (get_f rfl (get_nil)) sub_i (rput_p (put_f rfl (put_nil))))) rfl (absW_nil))))) rfl (absW_cons (retT_ref (abs_ref rfl sub_r)) rfl (absW_nil))) rfl rfl)))
/-- loop.example/g01176/impl.within -/
noncomputable def impl_within (p0 : Int) (p1 : Int) (p2 : Int) : Option Bool :=
if (decide (p0 ≥ p1)) = true then
some (decide (p0 ≤ p2))
else
some false
theorem impl_within_ok {p0 : Int} {p1 : Int} {p2 : Int} {o : Bool} (h : impl_within p0 p1 p2 = some o) : RN 74 [.int .i64 p0, .int .i64 p1, .int .i64 p2] [] = some (.bool o, []) := by
  refine fn_run (o := o) (nr := 0) (F := k74) (st := ⟨entry 0 [.vw [] (.int .i64 p0), .vw [] (.int .i64 p1), .vw [] (.int .i64 p2)], fun n => ([] : List T)[n]?, 0⟩) (fun (o : Bool) => (.bool o, [])) rfl fns_74 rfl rfl ?_
  refine wp_seq ?_
  refine wp_reg (nx' := 16) rfl (ev_den (.vw _ _) rfl rfl (ev_nil)) (seqQ_n (?_))
  refine wp_seq ?_
  refine wp_gc ?_
  rcases its h with ⟨hc3, h⟩ | ⟨hc3, h⟩
  · refine wp_reg (nx' := 160) rfl (ev_den (.vw _ _) rfl rfl (ev_den (.vw _ _) rfl rfl (ev_den (.vw _ _) rfl rfl (ev_den (.vw _ _) rfl rfl (ev_on rfl hc3 (ev_den (.vw _ _) rfl rfl (ev_on rfl hc3 (ev_den (.vw _ _) rfl rfl (ev_on rfl hc3 (ev_den (.vw _ _) rfl rfl (ev_den (.vw _ _) rfl (d_pick_t rfl hc3 rfl) (ev_den (.vw _ _) rfl rfl (ev_nil))))))))))))) (gcQ_n (gc_to [] (e := [(6, .vw [] (.bool ((decide (p0 ≤ p2)))))]) (ts := []) (n := 0) rfl rfl rfl rfl) (seqQ_n (?_)))
    cases h
    exact wp_ret (qf_r ((outs_ok (vs := [(.vw _ _)]) rfl (absW_cons rfl rfl (absW_nil)) rfl rfl)))
  · refine wp_reg (nx' := 160) rfl (ev_den (.vw _ _) rfl rfl (ev_den (.vw _ _) rfl rfl (ev_den (.vw _ _) rfl rfl (ev_den (.vw _ _) rfl rfl (ev_off rfl hc3 (ev_off rfl hc3 (ev_off rfl hc3 (ev_den (.vw _ _) rfl (d_pick_f rfl hc3 rfl) (ev_den (.vw _ _) rfl rfl (ev_nil)))))))))) (gcQ_n (gc_to [] (e := [(6, .vw [] (.bool false))]) (ts := []) (n := 0) rfl rfl rfl rfl) (seqQ_n (?_)))
    cases h
    exact wp_ret (qf_r ((outs_ok (vs := [(.vw _ _)]) rfl (absW_cons rfl rfl (absW_nil)) rfl rfl)))
/-- loop.example/g01176/impl.allWithin$1 -/
noncomputable def impl_allWithin_fn1 (p0 : Int) (c0 : Int) (c1 : Int) : Option (Bool × Int × Int) :=
(impl_within p0 c0 c1).bind fun v2 =>
some ((!v2), c0, c1)
theorem impl_allWithin_fn1_ok {p0 : Int} {c0 : Int} {c1 : Int} {o : Bool × Int × Int} (h : impl_allWithin_fn1 p0 c0 c1 = some o) : RN 115 [.int .i64 p0, .ref 0, .ref 1] [.ptr (.agg [.int .i64 c0]), .ptr (.agg [.int .i64 c1])] = some (.bool o.1, [.ptr (.agg [.int .i64 o.2.1]), .ptr (.agg [.int .i64 o.2.2])]) := by
  refine fn_run (o := o) (nr := 2) (F := k115) (st := ⟨entry 0 [.vw [] (.int .i64 p0), .ptr 0 [] (some 0), .ptr 1 [] (some 0)], fun n => ([.ptr (.agg [.int .i64 c0]), .ptr (.agg [.int .i64 c1])] : List T)[n]?, 2⟩) (fun (o : Bool × Int × Int) => (.bool o.1, [.ptr (.agg [.int .i64 o.2.1]), .ptr (.agg [.int .i64 o.2.2])])) rfl fns_115 rfl rfl ?_
  refine wp_seq ?_
  refine wp_reg (nx' := 18) rfl (ev_den (.vw _ _) rfl rfl (ev_nil)) (seqQ_n (?_))
  refine wp_seq ?_
  obtain ⟨v2, hv2, h⟩ := bs h
  refine wp_reg (nx' := 114) rfl (ev_den (.vw _ _) rfl rfl (ev_den (.vw _ _) rfl (d_ld_o rfl (rget_of rfl (get_nil)) rfl rfl) (ev_den (.vw _ _) rfl (d_ld_o rfl (rget_of rfl (get_nil)) rfl rfl) (ev_call0 [(.vw _ _), (.vw _ _), (.vw _ _)] rfl (call_ok (rs := []) (rd := []) rfl rfl rfl rfl (argL_cons rfl (argL_cons rfl (argL_cons rfl (argL_nil)))) rfl rfl (impl_within_ok hv2) rfl rfl rfl rfl rfl) (ev_den (.vw _ _) rfl rfl (ev_den (.vw _ _) rfl rfl (ev_nil))))))) (seqQ_n (?_))
  cases h
  exact wp_ret (qf_r ((outs_ok (vs := [(.vw _ _)]) rfl (absW_cons rfl rfl (absW_nil)) rfl rfl)))
noncomputable def slices_IndexFunc_s1 (p0 : List Int) : (Int × Int × Int) → Option ((Int × Int × Int) ⊕ ((Int × Int) ⊕ (Int × Int × Int))) := fun (x53, x54, x55) =>
if (decide (x55 < (List.length p0 : Int))) = true then
(at? p0 x55).bind fun v80 =>
(impl_allWithin_fn1 v80 x53 x54).bind fun v81 =>
if v81.1 = true then
some (.inr (.inr (x55, v81.2.1, v81.2.2)))
else
some (.inl (v81.2.1, v81.2.2, (w64 (x55 + (1 : Int)))))
else
some (.inr (.inl (x53, x54)))
noncomputable def slices_IndexFunc_l1 (p0 : List Int) : (Int × Int × Int) → Option ((Int × Int) ⊕ (Int × Int × Int)) := iter (slices_IndexFunc_s1 p0)
/-- slices.IndexFunc[[]int,int] -/
noncomputable def slices_IndexFunc (p0 : List Int) (c0 : Int) (c1 : Int) : Option (Int × Int × Int) :=
(slices_IndexFunc_l1 p0 (c0, c1, (0 : Int))).bind fun w => match w with
| .inl (x63, x64) =>
some ((-1 : Int), x63, x64)
| .inr r89 =>
some r89
theorem slices_IndexFunc_ok {p0 : List Int} {c0 : Int} {c1 : Int} {o : Int × Int × Int} (h : slices_IndexFunc p0 c0 c1 = some o) : RN 118 [.ints .i64 p0, .fn 115 [.ref 0, .ref 1]] [.ptr (.agg [.int .i64 c0]), .ptr (.agg [.int .i64 c1])] = some (.int .i64 o.1, [.ptr (.agg [.int .i64 o.2.1]), .ptr (.agg [.int .i64 o.2.2])]) := by
  refine fn_run (o := o) (nr := 2) (F := k118) (st := ⟨entry 0 [.vw [] (.ints .i64 p0), .fn 115 [.ptr 0 [] (some 0), .ptr 1 [] (some 0)]], fun n => ([.ptr (.agg [.int .i64 c0]), .ptr (.agg [.int .i64 c1])] : List T)[n]?, 2⟩) (fun (o : Int × Int × Int) => (.int .i64 o.1, [.ptr (.agg [.int .i64 o.2.1]), .ptr (.agg [.int .i64 o.2.2])])) rfl fns_118 rfl rfl ?_
  refine wp_seq ?_
  refine wp_reg (nx' := 18) rfl (ev_den (.vw _ _) rfl rfl (ev_nil)) (seqQ_n (?_))
  refine wp_seq ?_
  refine wp_gc ?_
  refine wp_seq ?_
  refine wp_gc ?_
  refine wp_reg (nx' := 66) rfl (ev_den (.vw _ _) rfl rfl (ev_den (.vw _ _) rfl rfl (ev_den (.vw _ _) rfl rfl (ev_nil)))) (gcQ_n (gc_to [] (e := [(0, .vw [] (.ints .i64 p0)), (1, .fn 115 [.ptr 0 [] (some 0), .ptr 1 [] (some 0)]), (7, .vw [] (.int .i64 ((List.length p0 : Int)))), (8, .vw [] (.int .i64 ((0 : Int))))]) (ts := [some (.ptr (.agg [.int .i64 c0])), some (.ptr (.agg [.int .i64 c1]))]) (n := 2) rfl rfl rfl rfl) (seqQ_n (?_)))
  refine wp_gc ?_
  refine wp_blk ?_
  obtain ⟨w88, hw88, h⟩ := bs h
  refine wp_mono (wp_loop (fun ((x53, x54, x55) : Int × Int × Int) => (⟨al .dead [(0, .vw [] (.ints .i64 p0)), (1, .fn 115 [.ptr 0 [] (some 0), .ptr 1 [] (some 0)]), (7, .vw [] (.int .i64 ((List.length p0 : Int)))), (8, .vw [] (.int .i64 x55))], hl [some (.ptr (.agg [.int .i64 x53])), some (.ptr (.agg [.int .i64 x54]))], 2⟩ : St)) (fun (v : (Int × Int) ⊕ (Int × Int × Int)) e st => match v with | .inl (x63, x64) => e = .exit 0 ∧ gc 2 [] st = ⟨al .dead [], hl [some (.ptr (.agg [.int .i64 x63])), some (.ptr (.agg [.int .i64 x64]))], 2⟩ | .inr rr => e = .ret ∧ outs 2 k118 st = some (.int .i64 rr.1, [.ptr (.agg [.int .i64 rr.2.1]), .ptr (.agg [.int .i64 rr.2.2])])) hw88 ?_) ?_
  · rintro ⟨x53, x54, x55⟩ o h
    refine wp_gc ?_
    refine wp_seq ?_
    refine wp_reg (nx' := 18) rfl (ev_den (.vw _ _) rfl rfl (ev_nil)) (seqQ_n (?_))
    refine wp_seq ?_
    refine wp_gc ?_
    rcases its h with ⟨hc73, h⟩ | ⟨hc73, h⟩
    · refine wp_ct rfl hc73 ?_
      refine wp_skip (gcQ_n (gc_to [] (e := [(0, .vw [] (.ints .i64 p0)), (1, .fn 115 [.ptr 0 [] (some 0), .ptr 1 [] (some 0)]), (7, .vw [] (.int .i64 ((List.length p0 : Int)))), (8, .vw [] (.int .i64 x55))]) (ts := [some (.ptr (.agg [.int .i64 x53])), some (.ptr (.agg [.int .i64 x54]))]) (n := 2) rfl rfl rfl rfl) (seqQ_n (?_)))
      refine wp_seq ?_
      refine wp_gc ?_
      refine wp_gc ?_
      refine wp_blk ?_
      refine wp_seq ?_
      refine wp_reg (nx' := 34) rfl (ev_den (.vw _ _) rfl rfl (ev_den (.vw _ _) rfl rfl (ev_nil))) (seqQ_n (?_))
      refine wp_seq ?_
      obtain ⟨v80, hv80, h⟩ := bs h
      obtain ⟨v81, hv81, h⟩ := bs h
      refine wp_reg (nx' := 130) rfl (ev_den (.fn 115 [(.ptr 0 [] (some 0)), (.ptr 1 [] (some 0))]) rfl rfl (ev_den (.vw _ _) rfl rfl (ev_den (.vw _ _) rfl rfl (ev_den (.pv _ _) rfl (d_idx_vi rfl rfl hv80) (ev_den (.vw _ _) rfl rfl (ev_callv [(.vw _ _), (.ptr 0 [] (some 0)), (.ptr 1 [] (some 0))] rfl rfl (call_ok (rs := [0, 1]) (rd := []) rfl rfl rfl rfl (argL_cons rfl (argL_cons rfl (argL_cons rfl (argL_nil)))) rfl rfl (impl_allWithin_fn1_ok hv81) rfl rfl rfl rfl rfl) (ev_nil))))))) (seqQ_n (?_))
      rcases its h with ⟨hc82, h⟩ | ⟨hc82, h⟩
      · refine wp_ct rfl hc82 ?_
        refine wp_seq ?_
        refine wp_reg (nx' := 162) rfl (ev_den (.vw _ _) rfl rfl (ev_den (.vw _ _) rfl rfl (ev_nil))) (seqQ_n (?_))
        cases h
        exact wp_ret (blkQ_r (gcQ_r (gcQ_r (seqQ_r (gcQ_r (loopQ_r (And.intro rfl (outs_ok (vs := [(.vw _ _)]) rfl (absW_cons rfl rfl (absW_nil)) rfl rfl))))))))
      · refine wp_cf rfl hc82 ?_
        refine wp_skip (blkQ_n (gcQ_n (gc_to [] (e := [(0, .vw [] (.ints .i64 p0)), (1, .fn 115 [.ptr 0 [] (some 0), .ptr 1 [] (some 0)]), (7, .vw [] (.int .i64 ((List.length p0 : Int)))), (8, .vw [] (.int .i64 x55))]) (ts := [some (.ptr (.agg [.int .i64 v81.2.1])), some (.ptr (.agg [.int .i64 v81.2.2]))]) (n := 2) rfl rfl rfl rfl) (gcQ_n (gc_to [] (e := [(0, .vw [] (.ints .i64 p0)), (1, .fn 115 [.ptr 0 [] (some 0), .ptr 1 [] (some 0)]), (7, .vw [] (.int .i64 ((List.length p0 : Int)))), (8, .vw [] (.int .i64 x55))]) (ts := [some (.ptr (.agg [.int .i64 v81.2.1])), some (.ptr (.agg [.int .i64 v81.2.2]))]) (n := 2) rfl rfl rfl rfl) (seqQ_n (?_)))))
        cases h
        exact wp_reg (nx' := 34) rfl (ev_den (.vw _ _) rfl rfl (ev_den (.vw _ _) rfl rfl (ev_nil))) (gcQ_n (gc_to [] (e := [(0, .vw [] (.ints .i64 p0)), (1, .fn 115 [.ptr 0 [] (some 0), .ptr 1 [] (some 0)]), (7, .vw [] (.int .i64 ((List.length p0 : Int)))), (8, .vw [] (.int .i64 ((w64 (x55 + (1 : Int))))))]) (ts := [some (.ptr (.agg [.int .i64 v81.2.1])), some (.ptr (.agg [.int .i64 v81.2.2]))]) (n := 2) rfl rfl rfl rfl) (loopQ_n rfl))
    · refine wp_cf rfl hc73 ?_
      cases h
      exact wp_exit (gcQ_e (seqQ_e (gcQ_e (loopQ_e (And.intro rfl (gc_to [] (e := []) (ts := [some (.ptr (.agg [.int .i64 x53])), some (.ptr (.agg [.int .i64 x54]))]) (n := 2) rfl rfl rfl rfl))))))
  · intro e st88 hg88
    rcases w88 with ⟨x63, x64⟩ | r89
    · obtain ⟨rfl, hg88⟩ := hg88
      refine blkQ_h (gcQ_n hg88 (gcQ_n (gc_to [] (e := []) (ts := [some (.ptr (.agg [.int .i64 x63])), some (.ptr (.agg [.int .i64 x64]))]) (n := 2) rfl rfl rfl rfl) (seqQ_n (?_))))
      refine wp_seq ?_
      refine wp_reg (nx' := 18) rfl (ev_den (.vw _ _) rfl rfl (ev_nil)) (seqQ_n (?_))
      cases h
      exact wp_ret (qf_r ((outs_ok (vs := [(.vw _ _)]) rfl (absW_cons rfl rfl (absW_nil)) rfl rfl)))
    · obtain ⟨rfl, hg88⟩ := hg88
      cases h
      exact blkQ_r (gcQ_r (gcQ_r (seqQ_r (qf_r (hg88)))))
/-- slices.ContainsFunc[[]int,int] -/
noncomputable def slices_ContainsFunc (p0 : List Int) (c0 : Int) (c1 : Int) : Option (Bool × Int × Int) :=
(slices_IndexFunc p0 c0 c1).bind fun v2 =>
some ((decide (v2.1 ≥ (0 : Int))), v2.2.1, v2.2.2)
theorem slices_ContainsFunc_ok {p0 : List Int} {c0 : Int} {c1 : Int} {o : Bool × Int × Int} (h : slices_ContainsFunc p0 c0 c1 = some o) : RN 114 [.ints .i64 p0, .fn 115 [.ref 0, .ref 1]] [.ptr (.agg [.int .i64 c0]), .ptr (.agg [.int .i64 c1])] = some (.bool o.1, [.ptr (.agg [.int .i64 o.2.1]), .ptr (.agg [.int .i64 o.2.2])]) := by
  refine fn_run (o := o) (nr := 2) (F := k114) (st := ⟨entry 0 [.vw [] (.ints .i64 p0), .fn 115 [.ptr 0 [] (some 0), .ptr 1 [] (some 0)]], fun n => ([.ptr (.agg [.int .i64 c0]), .ptr (.agg [.int .i64 c1])] : List T)[n]?, 2⟩) (fun (o : Bool × Int × Int) => (.bool o.1, [.ptr (.agg [.int .i64 o.2.1]), .ptr (.agg [.int .i64 o.2.2])])) rfl fns_114 rfl rfl ?_
  refine wp_seq ?_
  refine wp_reg (nx' := 18) rfl (ev_den (.vw _ _) rfl rfl (ev_nil)) (seqQ_n (?_))
  refine wp_seq ?_
  obtain ⟨v2, hv2, h⟩ := bs h
  refine wp_reg (nx' := 98) rfl (ev_den (.vw _ _) rfl rfl (ev_den (.fn 115 [(.ptr 0 [] (some 0)), (.ptr 1 [] (some 0))]) rfl rfl (ev_call1 [(.vw _ _), (.fn 115 [(.ptr 0 [] (some 0)), (.ptr 1 [] (some 0))])] rfl (call_ok (rs := [0, 1]) (rd := []) rfl rfl rfl rfl (argL_cons rfl (argL_cons (argT_f (argL_cons rfl (argL_cons rfl (argL_nil)))) (argL_nil))) rfl rfl (slices_IndexFunc_ok hv2) rfl rfl rfl rfl rfl) (ev_den (.vw _ _) rfl rfl (ev_den (.vw _ _) rfl rfl (ev_nil)))))) (seqQ_n (?_))
  cases h
  exact wp_ret (qf_r ((outs_ok (vs := [(.vw _ _)]) rfl (absW_cons rfl rfl (absW_nil)) rfl rfl)))
/-- loop.example/g01176/impl.allWithin -/
noncomputable def impl_allWithin (p0 : List Int) (p1 : Int) (p2 : Int) : Option Bool :=
(slices_ContainsFunc p0 p1 p2).bind fun v2 =>
some (!v2.1)
theorem impl_allWithin_ok {p0 : List Int} {p1 : Int} {p2 : Int} {o : Bool} (h : impl_allWithin p0 p1 p2 = some o) : RN 89 [.ints .i64 p0, .int .i64 p1, .int .i64 p2] [] = some (.bool o, []) := by
  refine fn_run (o := o) (nr := 0) (F := k89) (st := ⟨entry 0 [.vw [] (.ints .i64 p0), .vw [] (.int .i64 p1), .vw [] (.int .i64 p2)], fun n => ([] : List T)[n]?, 0⟩) (fun (o : Bool) => (.bool o, [])) rfl fns_89 rfl rfl ?_
  refine wp_seq ?_
  refine wp_reg (nx' := 48) rfl (ev_wr rfl (w_box (sv := (.vw _ _)) rfl rfl (absW_cons rfl rfl (absW_nil))) (ev_wr rfl (w_box (sv := (.vw _ _)) rfl rfl (absW_cons rfl rfl (absW_nil))) (ev_den (.vw _ _) rfl rfl (ev_nil)))) (seqQ_n (?_))
  refine wp_seq ?_
  obtain ⟨v2, hv2, h⟩ := bs h
  refine wp_reg (nx' := 128) rfl (ev_den (.vw _ _) rfl rfl (ev_den (.fn 115 [(.ptr 0 [] (some 0)), (.ptr 16 [] (some 0))]) rfl rfl (ev_call1 [(.vw _ _), (.fn 115 [(.ptr 0 [] (some 0)), (.ptr 16 [] (some 0))])] rfl (call_ok (rs := [0, 16]) (rd := []) rfl rfl rfl rfl (argL_cons rfl (argL_cons (argT_f (argL_cons rfl (argL_cons rfl (argL_nil)))) (argL_nil))) rfl rfl (slices_ContainsFunc_ok hv2) rfl rfl rfl rfl rfl) (ev_den (.vw _ _) rfl rfl (ev_den (.vw _ _) rfl rfl (ev_nil)))))) (seqQ_n (?_))
  cases h
  exact wp_ret (qf_r ((outs_ok (vs := [(.vw _ _)]) rfl (absW_cons rfl rfl (absW_nil)) rfl rfl)))
noncomputable def impl_sumOf_s1 (p0 : List Int) : (Int × Int) → Option ((Int × Int) ⊕ Int) := fun (x30, x31) =>
if (decide (x31 < (List.length p0 : Int))) = true then
(at? p0 x31).bind fun v45 =>
some (.inl ((w64 (x30 + v45)), (w64 (x31 + (1 : Int)))))
else
some (.inr x30)
noncomputable def impl_sumOf_l1 (p0 : List Int) : (Int × Int) → Option Int := iter (impl_sumOf_s1 p0)
/-- loop.example/g01176/impl.sumOf -/
noncomputable def impl_sumOf (p0 : List Int) : Option Int :=
(impl_sumOf_l1 p0 ((0 : Int), (0 : Int))).bind fun x36 =>
some x36
theorem impl_sumOf_ok {p0 : List Int} {o : Int} (h : impl_sumOf p0 = some o) : RN 108 [.ints .i64 p0] [] = some (.int .i64 o, []) := by
  refine fn_run (o := o) (nr := 0) (F := k108) (st := ⟨entry 0 [.vw [] (.ints .i64 p0)], fun n => ([] : List T)[n]?, 0⟩) (fun (o : Int) => (.int .i64 o, [])) rfl fns_108 rfl rfl ?_
  refine wp_seq ?_
  refine wp_reg (nx' := 16) rfl (ev_den (.vw _ _) rfl rfl (ev_nil)) (seqQ_n (?_))
  refine wp_seq ?_
  refine wp_reg (nx' := 32) rfl (ev_den (.vw _ _) rfl rfl (ev_nil)) (seqQ_n (?_))
  refine wp_seq ?_
  refine wp_gc ?_
  refine wp_seq ?_
  refine wp_gc ?_
  refine wp_reg (nx' := 80) rfl (ev_den (.vw _ _) rfl rfl (ev_den (.vw _ _) rfl rfl (ev_den (.vw _ _) rfl rfl (ev_nil)))) (gcQ_n (gc_to [] (e := [(3, .vw [] (.int .i64 ((0 : Int)))), (6, .vw [] (.ints .i64 p0)), (7, .vw [] (.int .i64 ((List.length p0 : Int)))), (8, .vw [] (.int .i64 ((0 : Int))))]) (ts := []) (n := 0) rfl rfl rfl rfl) (seqQ_n (?_)))
  refine wp_gc ?_
  refine wp_blk ?_
  obtain ⟨x36, hw49, h⟩ := bs h
  refine wp_mono (wp_loop (fun ((x30, x31) : Int × Int) => (⟨al .dead [(3, .vw [] (.int .i64 x30)), (6, .vw [] (.ints .i64 p0)), (7, .vw [] (.int .i64 ((List.length p0 : Int)))), (8, .vw [] (.int .i64 x31))], hl [], 0⟩ : St)) (fun (x36 : Int) e st => e = .exit 0 ∧ gc 0 [3] st = ⟨al .dead [(3, .vw [] (.int .i64 x36))], hl [], 0⟩) hw49 ?_) ?_
  · rintro ⟨x30, x31⟩ o h
    refine wp_gc ?_
    refine wp_seq ?_
    refine wp_reg (nx' := 16) rfl (ev_den (.vw _ _) rfl rfl (ev_nil)) (seqQ_n (?_))
    refine wp_seq ?_
    refine wp_gc ?_
    rcases its h with ⟨hc42, h⟩ | ⟨hc42, h⟩
    · refine wp_ct rfl hc42 ?_
      refine wp_skip (gcQ_n (gc_to [] (e := [(3, .vw [] (.int .i64 x30)), (6, .vw [] (.ints .i64 p0)), (7, .vw [] (.int .i64 ((List.length p0 : Int)))), (8, .vw [] (.int .i64 x31))]) (ts := []) (n := 0) rfl rfl rfl rfl) (seqQ_n (?_)))
      refine wp_seq ?_
      refine wp_gc ?_
      refine wp_gc ?_
      refine wp_blk ?_
      refine wp_seq ?_
      obtain ⟨v45, hv45, h⟩ := bs h
      refine wp_reg (nx' := 48) rfl (ev_den (.pv _ _) rfl (d_idx_vi rfl rfl hv45) (ev_den (.vw _ _) rfl rfl (ev_den (.vw _ _) rfl rfl (ev_nil)))) (seqQ_n (?_))
      refine wp_reg (nx' := 112) rfl (ev_den (.vw _ _) rfl rfl (ev_den (.vw _ _) rfl rfl (ev_den (.vw _ _) rfl rfl (ev_den (.vw _ _) rfl rfl (ev_nil))))) (blkQ_n (gcQ_n (gc_to [] (e := [(3, .vw [] (.int .i64 ((w64 (x30 + v45))))), (6, .vw [] (.ints .i64 p0)), (7, .vw [] (.int .i64 ((List.length p0 : Int)))), (8, .vw [] (.int .i64 x31))]) (ts := []) (n := 0) rfl rfl rfl rfl) (gcQ_n (gc_to [] (e := [(3, .vw [] (.int .i64 ((w64 (x30 + v45))))), (6, .vw [] (.ints .i64 p0)), (7, .vw [] (.int .i64 ((List.length p0 : Int)))), (8, .vw [] (.int .i64 x31))]) (ts := []) (n := 0) rfl rfl rfl rfl) (seqQ_n (?_)))))
      cases h
      exact wp_reg (nx' := 32) rfl (ev_den (.vw _ _) rfl rfl (ev_den (.vw _ _) rfl rfl (ev_nil))) (gcQ_n (gc_to [] (e := [(3, .vw [] (.int .i64 ((w64 (x30 + v45))))), (6, .vw [] (.ints .i64 p0)), (7, .vw [] (.int .i64 ((List.length p0 : Int)))), (8, .vw [] (.int .i64 ((w64 (x31 + (1 : Int))))))]) (ts := []) (n := 0) rfl rfl rfl rfl) (loopQ_n rfl))
    · refine wp_cf rfl hc42 ?_
      cases h
      exact wp_exit (gcQ_e (seqQ_e (gcQ_e (loopQ_e (And.intro rfl (gc_to [] (e := [(3, .vw [] (.int .i64 x30))]) (ts := []) (n := 0) rfl rfl rfl rfl))))))
  · intro e st49 hg49
    obtain ⟨rfl, hg49⟩ := hg49
    refine blkQ_h (gcQ_n hg49 (gcQ_n (gc_to [] (e := [(3, .vw [] (.int .i64 x36))]) (ts := []) (n := 0) rfl rfl rfl rfl) (seqQ_n (?_))))
    refine wp_seq ?_
    refine wp_reg (nx' := 32) rfl (ev_den (.vw _ _) rfl rfl (ev_den (.vw _ _) rfl rfl (ev_nil))) (seqQ_n (?_))
    cases h
    exact wp_ret (qf_r ((outs_ok (vs := [(.vw _ _)]) rfl (absW_cons rfl rfl (absW_nil)) rfl rfl)))
/-- (loop.example/g01176/impl.TimedRing).busy -/
noncomputable def impl_TimedRing_busy (p0 : Int × Int × (List Int)) : Option Int :=
(impl_sumOf p0.2.2).bind fun v2 =>
some (w64 (v2 + (w64 (p0.2.1 * (List.length p0.2.2 : Int)))))
theorem impl_TimedRing_busy_ok {p0 : Int × Int × (List Int)} {o : Int} (h : impl_TimedRing_busy p0 = some o) : RN 76 [.agg [.int .i64 p0.1, .int .i64 p0.2.1, .ints .i64 p0.2.2]] [] = some (.int .i64 o, []) := by
  refine fn_run (o := o) (nr := 0) (F := k76) (st := ⟨entry 0 [.agg [.vw [] (.int .i64 p0.1), .vw [] (.int .i64 p0.2.1), .vw [] (.ints .i64 p0.2.2)]], fun n => ([] : List T)[n]?, 0⟩) (fun (o : Int) => (.int .i64 o, [])) rfl fns_76 rfl rfl ?_
  refine wp_seq ?_
  refine wp_reg (nx' := 32) rfl (ev_wr rfl (w_box (sv := (.agg [(.vw _ _), (.vw _ _), (.vw _ _)])) rfl rfl (absW_cons rfl rfl (absW_cons rfl rfl (absW_cons rfl rfl (absW_nil))))) (ev_den (.vw _ _) rfl rfl (ev_nil))) (seqQ_n (?_))
  refine wp_seq ?_
  obtain ⟨v2, hv2, h⟩ := bs h
  refine wp_reg (nx' := 208) rfl (ev_den (.ptr 0 [] (some 2)) rfl rfl (ev_den (.vw _ _) rfl (d_ld_o rfl (rget_of rfl (get_nil)) rfl rfl) (ev_call0 [(.vw _ _)] rfl (call_ok (rs := []) (rd := []) rfl rfl rfl rfl (argL_cons rfl (argL_nil)) rfl rfl (impl_sumOf_ok hv2) rfl rfl rfl rfl rfl) (ev_den (.ptr 0 [] (some 1)) rfl rfl (ev_den (.vw _ _) rfl (d_ld_o rfl (rget_of rfl (get_nil)) rfl rfl) (ev_den (.ptr 0 [] (some 2)) rfl rfl (ev_den (.vw _ _) rfl (d_ld_o rfl (rget_of rfl (get_nil)) rfl rfl) (ev_den (.vw _ _) rfl rfl (ev_den (.vw _ _) rfl rfl (ev_den (.vw _ _) rfl rfl (ev_den (.vw _ _) rfl rfl (ev_nil)))))))))))) (seqQ_n (?_))
  cases h
  exact wp_ret (qf_r ((outs_ok (vs := [(.vw _ _)]) rfl (absW_cons rfl rfl (absW_nil)) rfl rfl)))
end Go.Proofs.Ytoeddkfbhjmbmaa.Ev.Q2
