/- What functions of the program come to, as plain functions; no condition. -/
import Derived.Test.YtdblfocadcgmaaaW70
set_option linter.unusedVariables false
set_option linter.unusedSimpArgs false
set_option maxRecDepth 100000
set_option maxHeartbeats 4000000
set_option linter.unusedVariables false
namespace Go.Proofs.Ytdblfocadcgmaaa.Ev.W7
open Go
noncomputable def spec_DrawLongestWait (p0 : List Int) : Option (((Int × Int × Int) × (List (Int × Int × Int)))) :=
(spec_DrawAreCalls p0).bind fun v2 =>
some v2
theorem spec_DrawLongestWait_ok {p0 : List Int} {o : ((Int × Int × Int) × (List (Int × Int × Int)))} (h : spec_DrawLongestWait p0 = some o) : RN 6 [.ints .u8 p0] [] = some (.tup [.agg [.int .i64 o.1.1, .int .i64 o.1.2.1, .int .i64 o.1.2.2], .rows 3 (List.map e0 o.2)], []) := by
 refine fn_run (o := o) (nr := 0) (F := k6) (st := ⟨entry 0 [.vw [] (.ints .u8 p0)], fun n => ([] : List T)[n]?, 0⟩) (fun (o : ((Int × Int × Int) × (List (Int × Int × Int)))) => (.tup [.agg [.int .i64 o.1.1, .int .i64 o.1.2.1, .int .i64 o.1.2.2], .rows 3 (List.map e0 o.2)], [])) z fns_6 z z z ?_
 refine wp_seq ?_
 refine wp_reg (nx' := 32) z (ev_new (.ptr 0 [] (some 0)) (.ptr (.agg [.int .i64 ((0 : Int)), .int .i64 ((0 : Int)), .int .i64 ((0 : Int))])) z z (ev_new (.ref 16 [] 3 0 0) (.rows 3 []) z z (ev_nil))) (seqQ_n (?_))
 refine wp_seq ?_
 obtain ⟨v2, hv2, h⟩ := bs h
 refine wp_reg (nx' := 128) z (ev_v z z (ev_call0 [(.vw _ _)] z (call_okf (vs' := [(.vw _ _)]) z (call_ok (rs := []) (rd := []) z z z z (argL_cons z (argL_nil)) z z (spec_DrawAreCalls_ok hv2) z z z (bindR_t (bindL_cons (bindR_a (bindL_cons z (bindL_cons z (bindL_cons z (bindL_nil))))) (bindL_cons bindR_r (bindL_nil)))) z)) (ev_den (.agg [(.vw _ _), (.vw _ _), (.vw _ _)]) z z (ev_den (.ref 48 _ _ _ _) z z (ev_wr0 z (w_st_a z z z (stL_cons (st1_of z z z (get_f z (get_nil)) z (rput_p (put_f z (put_nil)))) z (stL_cons (st1_of z z z (get_f z (get_nil)) z (rput_p (put_f z (put_nil)))) z (stL_cons (st1_of z z z (get_f z (get_nil)) z (rput_p (put_f z (put_nil)))) z (stL_nil))))) (ev_den (.ref 48 _ _ _ _) z z (ev_nil))))))) (seqQ_n (?_))
 replace h := Option.some.inj h
 subst h
 exact wp_ret (qf_r ((outs_ok (vs := [(.agg [(.vw _ _), (.vw _ _), (.vw _ _)]), (.ref 48 _ _ _ _)]) z (absW_cons (retT_agg (absW_cons z z (absW_cons z z (absW_cons z z (absW_nil))))) z (absW_cons (retT_ref (abs_ref z sub_r)) z (absW_nil))) z z)))
noncomputable def impl_within (p0 : Int) (p1 : Int) (p2 : Int) : Option Bool :=
if (decide (p0 ≥ p1)) = true then
some (decide (p0 ≤ p2))
else
some false
theorem impl_within_ok {p0 : Int} {p1 : Int} {p2 : Int} {o : Bool} (h : impl_within p0 p1 p2 = some o) : RN 54 [.int .i64 p0, .int .i64 p1, .int .i64 p2] [] = some (.bool o, []) := by
 refine fn_run (o := o) (nr := 0) (F := k54) (st := ⟨entry 0 [.vw [] (.int .i64 p0), .vw [] (.int .i64 p1), .vw [] (.int .i64 p2)], fun n => ([] : List T)[n]?, 0⟩) (fun (o : Bool) => (.bool o, [])) z fns_54 z z z ?_
 refine wp_seq ?_
 refine wp_reg (nx' := 16) z (ev_v z z (ev_nil)) (seqQ_n (?_))
 refine wp_seq ?_
 refine wp_gc ?_
 rcases its h with ⟨hc3, h⟩ | ⟨hc3, h⟩
 ·refine wp_reg (nx' := 160) z (ev_v z z (ev_v z z (ev_v z z (ev_v z z (ev_on z hc3 (ev_v z z (ev_on z hc3 (ev_v z z (ev_on z hc3 (ev_v z z (ev_v z (d_pick_t z hc3 z) (ev_v z z (ev_nil))))))))))))) (gcQ_n (gc_to [] (e := [(6, .vw [] (.bool ((decide (p0 ≤ p2)))))]) (ts := []) (n := 0) z z z z) (seqQ_n (?_)))
  replace h := Option.some.inj h
  subst h
  exact wp_ret (qf_r ((outs_ok (vs := [(.vw _ _)]) z (absW_cons z z (absW_nil)) z z)))
 ·refine wp_reg (nx' := 160) z (ev_v z z (ev_v z z (ev_v z z (ev_v z z (ev_off z hc3 (ev_off z hc3 (ev_off z hc3 (ev_v z (d_pick_f z hc3 z) (ev_v z z (ev_nil)))))))))) (gcQ_n (gc_to [] (e := [(6, .vw [] (.bool false))]) (ts := []) (n := 0) z z z z) (seqQ_n (?_)))
  replace h := Option.some.inj h
  subst h
  exact wp_ret (qf_r ((outs_ok (vs := [(.vw _ _)]) z (absW_cons z z (absW_nil)) z z)))
noncomputable def impl_isRingSize (p0 : Int) : Option Bool :=
(impl_within p0 ((2 : Int)) ((12 : Int))).bind fun v2 =>
some v2
theorem impl_isRingSize_ok {p0 : Int} {o : Bool} (h : impl_isRingSize p0 = some o) : RN 71 [.int .i64 p0] [] = some (.bool o, []) := by
 refine fn_run (o := o) (nr := 0) (F := k71) (st := ⟨entry 0 [.vw [] (.int .i64 p0)], fun n => ([] : List T)[n]?, 0⟩) (fun (o : Bool) => (.bool o, [])) z fns_71 z z z ?_
 refine wp_seq ?_
 refine wp_reg (nx' := 16) z (ev_v z z (ev_nil)) (seqQ_n (?_))
 refine wp_seq ?_
 obtain ⟨v2, hv2, h⟩ := bs h
 refine wp_reg (nx' := 64) z (ev_v z z (ev_call0 [(.vw _ _), (.vw _ _), (.vw _ _)] z (call_okf (vs' := [(.vw _ _), (.vw _ _), (.vw _ _)]) z (call_ok (rs := []) (rd := []) z z z z (argL_cons z (argL_cons z (argL_cons z (argL_nil)))) z z (impl_within_ok hv2) z z z z z)) (ev_v z z (ev_nil)))) (seqQ_n (?_))
 replace h := Option.some.inj h
 subst h
 exact wp_ret (qf_r ((outs_ok (vs := [(.vw _ _)]) z (absW_cons z z (absW_nil)) z z)))
noncomputable def impl_IsTokenRing (p0 : Int × Int × Int) : Option Bool :=
(impl_isRingSize p0.1).bind fun v11 =>
if v11 = true then
(impl_within p0.2.1 ((1 : Int)) ((10 : Int))).bind fun v13 =>
if v13 = true then
(impl_within p0.2.2 ((1 : Int)) ((10 : Int))).bind fun v15 =>
some v15
else
some false
else
some false
theorem impl_IsTokenRing_ok {p0 : Int × Int × Int} {o : Bool} (h : impl_IsTokenRing p0 = some o) : RN 41 [.agg [.int .i64 p0.1, .int .i64 p0.2.1, .int .i64 p0.2.2]] [] = some (.bool o, []) := by
 refine fn_run (o := o) (nr := 0) (F := k41) (st := ⟨entry 0 [.agg [.vw [] (.int .i64 p0.1), .vw [] (.int .i64 p0.2.1), .vw [] (.int .i64 p0.2.2)]], fun n => ([] : List T)[n]?, 0⟩) (fun (o : Bool) => (.bool o, [])) z fns_41 z z z ?_
 refine wp_seq ?_
 refine wp_reg (nx' := 32) z (ev_wr z (w_box (sv := (.agg [(.vw _ _), (.vw _ _), (.vw _ _)])) z z (absW_cons z z (absW_cons z z (absW_cons z z (absW_nil))))) (ev_v z z (ev_nil))) (seqQ_n (?_))
 refine wp_seq ?_
 refine wp_gc ?_
 obtain ⟨v11, hv11, h⟩ := bs h
 rcases its h with ⟨hc12, h⟩ | ⟨hc12, h⟩
 ·obtain ⟨v13, hv13, h⟩ := bs h
  rcases its h with ⟨hc14, h⟩ | ⟨hc14, h⟩
  ·obtain ⟨v15, hv15, h⟩ := bs h
   refine wp_reg (nx' := 256) z (ev_den (.ptr 0 [] (some 0)) z z (ev_v z (d_ld_o z (rget_of z (get_nil)) z z) (ev_call0 [(.vw _ _)] z (call_okf (vs' := [(.vw _ _)]) z (call_ok (rs := []) (rd := []) z z z z (argL_cons z (argL_nil)) z z (impl_isRingSize_ok hv11) z z z z z)) (ev_v z z (ev_on z hc12 (ev_den (.ptr 0 [] (some 1)) z z (ev_on z hc12 (ev_v z (d_ld_o z (rget_of z (get_nil)) z z) (ev_on z hc12 (ev_call0 [(.vw _ _), (.vw _ _), (.vw _ _)] z (call_okf (vs' := [(.vw _ _), (.vw _ _), (.vw _ _)]) z (call_ok (rs := []) (rd := []) z z z z (argL_cons z (argL_cons z (argL_cons z (argL_nil)))) z z (impl_within_ok hv13) z z z z z)) (ev_v z (d_pick_t z hc12 z) (ev_v z z (ev_on z hc14 (ev_den (.ptr 0 [] (some 2)) z z (ev_on z hc14 (ev_v z (d_ld_o z (rget_of z (get_nil)) z z) (ev_on z hc14 (ev_call0 [(.vw _ _), (.vw _ _), (.vw _ _)] z (call_okf (vs' := [(.vw _ _), (.vw _ _), (.vw _ _)]) z (call_ok (rs := []) (rd := []) z z z z (argL_cons z (argL_cons z (argL_cons z (argL_nil)))) z z (impl_within_ok hv15) z z z z z)) (ev_v z (d_pick_t z hc14 z) (ev_v z z (ev_nil))))))))))))))))))))) (gcQ_n (gc_to [] (e := [(2, .vw [] (.bool v15))]) (ts := []) (n := 0) z z z z) (seqQ_n (?_)))
   replace h := Option.some.inj h
   subst h
   exact wp_ret (qf_r ((outs_ok (vs := [(.vw _ _)]) z (absW_cons z z (absW_nil)) z z)))
  ·refine wp_reg (nx' := 256) z (ev_den (.ptr 0 [] (some 0)) z z (ev_v z (d_ld_o z (rget_of z (get_nil)) z z) (ev_call0 [(.vw _ _)] z (call_okf (vs' := [(.vw _ _)]) z (call_ok (rs := []) (rd := []) z z z z (argL_cons z (argL_nil)) z z (impl_isRingSize_ok hv11) z z z z z)) (ev_v z z (ev_on z hc12 (ev_den (.ptr 0 [] (some 1)) z z (ev_on z hc12 (ev_v z (d_ld_o z (rget_of z (get_nil)) z z) (ev_on z hc12 (ev_call0 [(.vw _ _), (.vw _ _), (.vw _ _)] z (call_okf (vs' := [(.vw _ _), (.vw _ _), (.vw _ _)]) z (call_ok (rs := []) (rd := []) z z z z (argL_cons z (argL_cons z (argL_cons z (argL_nil)))) z z (impl_within_ok hv13) z z z z z)) (ev_v z (d_pick_t z hc12 z) (ev_v z z (ev_off z hc14 (ev_off z hc14 (ev_off z hc14 (ev_v z (d_pick_f z hc14 z) (ev_v z z (ev_nil)))))))))))))))))) (gcQ_n (gc_to [] (e := [(2, .vw [] (.bool false))]) (ts := []) (n := 0) z z z z) (seqQ_n (?_)))
   replace h := Option.some.inj h
   subst h
   exact wp_ret (qf_r ((outs_ok (vs := [(.vw _ _)]) z (absW_cons z z (absW_nil)) z z)))
 ·refine wp_reg (nx' := 256) z (ev_den (.ptr 0 [] (some 0)) z z (ev_v z (d_ld_o z (rget_of z (get_nil)) z z) (ev_call0 [(.vw _ _)] z (call_okf (vs' := [(.vw _ _)]) z (call_ok (rs := []) (rd := []) z z z z (argL_cons z (argL_nil)) z z (impl_isRingSize_ok hv11) z z z z z)) (ev_v z z (ev_off z hc12 (ev_off z hc12 (ev_off z hc12 (ev_v z (d_pick_f z hc12 z) (ev_v z z (ev_off z z (ev_off z z (ev_off z z (ev_v z (d_pick_f z z z) (ev_v z z (ev_nil))))))))))))))) (gcQ_n (gc_to [] (e := [(2, .vw [] (.bool false))]) (ts := []) (n := 0) z z z z) (seqQ_n (?_)))
  replace h := Option.some.inj h
  subst h
  exact wp_ret (qf_r ((outs_ok (vs := [(.vw _ _)]) z (absW_cons z z (absW_nil)) z z)))
noncomputable def impl_isTick (p0 : Int) : Option Bool :=
(impl_within p0 ((0 : Int)) ((1000 : Int))).bind fun v2 =>
some v2
theorem impl_isTick_ok {p0 : Int} {o : Bool} (h : impl_isTick p0 = some o) : RN 56 [.int .i64 p0] [] = some (.bool o, []) := by
 refine fn_run (o := o) (nr := 0) (F := k56) (st := ⟨entry 0 [.vw [] (.int .i64 p0)], fun n => ([] : List T)[n]?, 0⟩) (fun (o : Bool) => (.bool o, [])) z fns_56 z z z ?_
 refine wp_seq ?_
 refine wp_reg (nx' := 16) z (ev_v z z (ev_nil)) (seqQ_n (?_))
 refine wp_seq ?_
 obtain ⟨v2, hv2, h⟩ := bs h
 refine wp_reg (nx' := 64) z (ev_v z z (ev_call0 [(.vw _ _), (.vw _ _), (.vw _ _)] z (call_okf (vs' := [(.vw _ _), (.vw _ _), (.vw _ _)]) z (call_ok (rs := []) (rd := []) z z z z (argL_cons z (argL_cons z (argL_cons z (argL_nil)))) z z (impl_within_ok hv2) z z z z z)) (ev_v z z (ev_nil)))) (seqQ_n (?_))
 replace h := Option.some.inj h
 subst h
 exact wp_ret (qf_r ((outs_ok (vs := [(.vw _ _)]) z (absW_cons z z (absW_nil)) z z)))
noncomputable def impl_allWithin_fn1 (p0 : Int) (c0 : Int) (c1 : Int) : Option (Bool × Int × Int) :=
(impl_within p0 c0 c1).bind fun v2 =>
some ((!v2), c0, c1)
theorem impl_allWithin_fn1_ok {p0 : Int} {c0 : Int} {c1 : Int} {o : Bool × Int × Int} (h : impl_allWithin_fn1 p0 c0 c1 = some o) : RN 89 [.int .i64 p0, .ref 0, .ref 1] [.ptr (.agg [.int .i64 c0]), .ptr (.agg [.int .i64 c1])] = some (.bool o.1, [.ptr (.agg [.int .i64 o.2.1]), .ptr (.agg [.int .i64 o.2.2])]) := by
 refine fn_run (o := o) (nr := 2) (F := k89) (st := ⟨entry 0 [.vw [] (.int .i64 p0), .ptr 0 [] (some 0), .ptr 1 [] (some 0)], fun n => ([.ptr (.agg [.int .i64 c0]), .ptr (.agg [.int .i64 c1])] : List T)[n]?, 2⟩) (fun (o : Bool × Int × Int) => (.bool o.1, [.ptr (.agg [.int .i64 o.2.1]), .ptr (.agg [.int .i64 o.2.2])])) z fns_89 z z z ?_
 refine wp_seq ?_
 refine wp_reg (nx' := 18) z (ev_v z z (ev_nil)) (seqQ_n (?_))
 refine wp_seq ?_
 obtain ⟨v2, hv2, h⟩ := bs h
 refine wp_reg (nx' := 114) z (ev_v z z (ev_v z (d_ld_o z (rget_of z (get_nil)) z z) (ev_v z (d_ld_o z (rget_of z (get_nil)) z z) (ev_call0 [(.vw _ _), (.vw _ _), (.vw _ _)] z (call_okf (vs' := [(.vw _ _), (.vw _ _), (.vw _ _)]) z (call_ok (rs := []) (rd := []) z z z z (argL_cons z (argL_cons z (argL_cons z (argL_nil)))) z z (impl_within_ok hv2) z z z z z)) (ev_v z z (ev_v z z (ev_nil))))))) (seqQ_n (?_))
 replace h := Option.some.inj h
 subst h
 exact wp_ret (qf_r ((outs_ok (vs := [(.vw _ _)]) z (absW_cons z z (absW_nil)) z z)))
noncomputable def slices_IndexFunc_s1 (p0 : List Int) : (Int × Int × Int) → Option ((Int × Int × Int) ⊕ ((Int × Int) ⊕ (Int × Int × Int))) := fun (x53, x54, x55) =>
if (decide (x55 < (List.length p0 : Int))) = true then
(at? p0 x55).bind fun v80 =>
(impl_allWithin_fn1 v80 x53 x54).bind fun v81 =>
if v81.1 = true then
some (.inr (.inr (x55, v81.2.1, v81.2.2)))
else
some (.inl (v81.2.1, v81.2.2, (w64 (x55 + (1 : Int)))))
else
some (.inr (.inl (x53, x54)))
noncomputable def slices_IndexFunc_l1 (p0 : List Int) : (Int × Int × Int) → Option ((Int × Int) ⊕ (Int × Int × Int)) := iter (slices_IndexFunc_s1 p0)
noncomputable def slices_IndexFunc (p0 : List Int) (c0 : Int) (c1 : Int) : Option (Int × Int × Int) :=
(slices_IndexFunc_l1 p0 (c0, c1, (0 : Int))).bind fun w => match w with
| .inl (x63, x64) =>
some ((-1 : Int), x63, x64)
| .inr r89 =>
some r89
theorem slices_IndexFunc_ok {p0 : List Int} {c0 : Int} {c1 : Int} {o : Int × Int × Int} (h : slices_IndexFunc p0 c0 c1 = some o) : RN 92 [.ints .i64 p0, .fn 89 [.ref 0, .ref 1]] [.ptr (.agg [.int .i64 c0]), .ptr (.agg [.int .i64 c1])] = some (.int .i64 o.1, [.ptr (.agg [.int .i64 o.2.1]), .ptr (.agg [.int .i64 o.2.2])]) := by
 refine fn_run (o := o) (nr := 2) (F := k92) (st := ⟨entry 0 [.vw [] (.ints .i64 p0), .fn 89 [.ptr 0 [] (some 0), .ptr 1 [] (some 0)]], fun n => ([.ptr (.agg [.int .i64 c0]), .ptr (.agg [.int .i64 c1])] : List T)[n]?, 2⟩) (fun (o : Int × Int × Int) => (.int .i64 o.1, [.ptr (.agg [.int .i64 o.2.1]), .ptr (.agg [.int .i64 o.2.2])])) z fns_92 z z z ?_
 refine wp_seq ?_
 refine wp_reg (nx' := 18) z (ev_v z z (ev_nil)) (seqQ_n (?_))
 refine wp_seq ?_
 refine wp_gc ?_
 refine wp_seq ?_
 refine wp_gc ?_
 refine wp_reg (nx' := 66) z (ev_v z z (ev_v z z (ev_v z z (ev_nil)))) (gcQ_n (gc_to [] (e := [(0, .vw [] (.ints .i64 p0)), (1, .fn 89 [.ptr 0 [] (some 0), .ptr 1 [] (some 0)]), (7, .vw [] (.int .i64 ((List.length p0 : Int)))), (8, .vw [] (.int .i64 ((0 : Int))))]) (ts := [some (.ptr (.agg [.int .i64 c0])), some (.ptr (.agg [.int .i64 c1]))]) (n := 2) z z z z) (seqQ_n (?_)))
 refine wp_gc ?_
 refine wp_blk ?_
 obtain ⟨w88, hw88, h⟩ := bs h
 refine wp_mono (wp_loop (fun ((x53, x54, x55) : Int × Int × Int) => (⟨al .dead [(0, .vw [] (.ints .i64 p0)), (1, .fn 89 [.ptr 0 [] (some 0), .ptr 1 [] (some 0)]), (7, .vw [] (.int .i64 ((List.length p0 : Int)))), (8, .vw [] (.int .i64 x55))], hl [some (.ptr (.agg [.int .i64 x53])), some (.ptr (.agg [.int .i64 x54]))], 2⟩ : St)) (fun (v : (Int × Int) ⊕ (Int × Int × Int)) e st => match v with | .inl (x63, x64) => e = .exit 0 ∧ gc 2 [] st = ⟨al .dead [], hl [some (.ptr (.agg [.int .i64 x63])), some (.ptr (.agg [.int .i64 x64]))], 2⟩ | .inr rr => e = .ret ∧ outs 2 k92 st = some (.int .i64 rr.1, [.ptr (.agg [.int .i64 rr.2.1]), .ptr (.agg [.int .i64 rr.2.2])])) hw88 ?_) ?_
 ·rintro ⟨x53, x54, x55⟩ o h
  refine wp_gc ?_
  refine wp_seq ?_
  refine wp_reg (nx' := 18) z (ev_v z z (ev_nil)) (seqQ_n (?_))
  refine wp_seq ?_
  refine wp_gc ?_
  rcases its h with ⟨hc73, h⟩ | ⟨hc73, h⟩
  ·refine wp_ct z hc73 ?_
   refine wp_skip (gcQ_n (gc_to [] (e := [(0, .vw [] (.ints .i64 p0)), (1, .fn 89 [.ptr 0 [] (some 0), .ptr 1 [] (some 0)]), (7, .vw [] (.int .i64 ((List.length p0 : Int)))), (8, .vw [] (.int .i64 x55))]) (ts := [some (.ptr (.agg [.int .i64 x53])), some (.ptr (.agg [.int .i64 x54]))]) (n := 2) z z z z) (seqQ_n (?_)))
   refine wp_seq ?_
   refine wp_gc ?_
   refine wp_gc ?_
   refine wp_blk ?_
   refine wp_seq ?_
   refine wp_reg (nx' := 34) z (ev_v z z (ev_v z z (ev_nil))) (seqQ_n (?_))
   refine wp_seq ?_
   obtain ⟨v80, hv80, h⟩ := bs h
   obtain ⟨v81, hv81, h⟩ := bs h
   refine wp_reg (nx' := 130) z (ev_den (.fn 89 [(.ptr 0 [] (some 0)), (.ptr 1 [] (some 0))]) z z (ev_v z z (ev_v z z (ev_den (.pv _ _) z (d_idx_vi z z hv80) (ev_v z z (ev_callv [(.vw _ _), (.ptr 0 [] (some 0)), (.ptr 1 [] (some 0))] z z (call_okt (call_ok (rs := [0, 1]) (rd := []) z z z z (argL_cons z (argL_cons z (argL_cons z (argL_nil)))) z z (impl_allWithin_fn1_ok hv81) z z z z z)) (ev_nil))))))) (seqQ_n (?_))
   rcases its h with ⟨hc82, h⟩ | ⟨hc82, h⟩
   ·refine wp_ct z hc82 ?_
    refine wp_seq ?_
    refine wp_reg (nx' := 162) z (ev_v z z (ev_v z z (ev_nil))) (seqQ_n (?_))
    replace h := Option.some.inj h
    subst h
    exact wp_ret (blkQ_r (gcQ_r (gcQ_r (seqQ_r (gcQ_r (loopQ_r (And.intro z (outs_ok (vs := [(.vw _ _)]) z (absW_cons z z (absW_nil)) z z))))))))
   ·refine wp_cf z hc82 ?_
    refine wp_skip (blkQ_n (gcQ_n (gc_to [] (e := [(0, .vw [] (.ints .i64 p0)), (1, .fn 89 [.ptr 0 [] (some 0), .ptr 1 [] (some 0)]), (7, .vw [] (.int .i64 ((List.length p0 : Int)))), (8, .vw [] (.int .i64 x55))]) (ts := [some (.ptr (.agg [.int .i64 v81.2.1])), some (.ptr (.agg [.int .i64 v81.2.2]))]) (n := 2) z z z z) (gcQ_n (gc_to [] (e := [(0, .vw [] (.ints .i64 p0)), (1, .fn 89 [.ptr 0 [] (some 0), .ptr 1 [] (some 0)]), (7, .vw [] (.int .i64 ((List.length p0 : Int)))), (8, .vw [] (.int .i64 x55))]) (ts := [some (.ptr (.agg [.int .i64 v81.2.1])), some (.ptr (.agg [.int .i64 v81.2.2]))]) (n := 2) z z z z) (seqQ_n (?_)))))
    replace h := Option.some.inj h
    subst h
    exact wp_reg (nx' := 34) z (ev_v z z (ev_v z z (ev_nil))) (gcQ_n (gc_to [] (e := [(0, .vw [] (.ints .i64 p0)), (1, .fn 89 [.ptr 0 [] (some 0), .ptr 1 [] (some 0)]), (7, .vw [] (.int .i64 ((List.length p0 : Int)))), (8, .vw [] (.int .i64 ((w64 (x55 + (1 : Int))))))]) (ts := [some (.ptr (.agg [.int .i64 v81.2.1])), some (.ptr (.agg [.int .i64 v81.2.2]))]) (n := 2) z z z z) (loopQ_n z))
  ·refine wp_cf z hc73 ?_
   replace h := Option.some.inj h
   subst h
   exact wp_exit (gcQ_e (seqQ_e (gcQ_e (loopQ_e (And.intro z (gc_to [] (e := []) (ts := [some (.ptr (.agg [.int .i64 x53])), some (.ptr (.agg [.int .i64 x54]))]) (n := 2) z z z z))))))
 ·intro e st88 hg88
  rcases w88 with ⟨x63, x64⟩ | r89
  ·obtain ⟨rfl, hg88⟩ := hg88
   refine blkQ_h (gcQ_n hg88 (gcQ_n (gc_to [] (e := []) (ts := [some (.ptr (.agg [.int .i64 x63])), some (.ptr (.agg [.int .i64 x64]))]) (n := 2) z z z z) (seqQ_n (?_))))
   refine wp_seq ?_
   refine wp_reg (nx' := 18) z (ev_v z z (ev_nil)) (seqQ_n (?_))
   replace h := Option.some.inj h
   subst h
   exact wp_ret (qf_r ((outs_ok (vs := [(.vw _ _)]) z (absW_cons z z (absW_nil)) z z)))
  ·obtain ⟨rfl, hg88⟩ := hg88
   replace h := Option.some.inj h
   subst h
   exact blkQ_r (gcQ_r (gcQ_r (seqQ_r (qf_r (hg88)))))
noncomputable def slices_ContainsFunc (p0 : List Int) (c0 : Int) (c1 : Int) : Option (Bool × Int × Int) :=
(slices_IndexFunc p0 c0 c1).bind fun v2 =>
some ((decide (v2.1 ≥ (0 : Int))), v2.2.1, v2.2.2)
theorem slices_ContainsFunc_ok {p0 : List Int} {c0 : Int} {c1 : Int} {o : Bool × Int × Int} (h : slices_ContainsFunc p0 c0 c1 = some o) : RN 88 [.ints .i64 p0, .fn 89 [.ref 0, .ref 1]] [.ptr (.agg [.int .i64 c0]), .ptr (.agg [.int .i64 c1])] = some (.bool o.1, [.ptr (.agg [.int .i64 o.2.1]), .ptr (.agg [.int .i64 o.2.2])]) := by
 refine fn_run (o := o) (nr := 2) (F := k88) (st := ⟨entry 0 [.vw [] (.ints .i64 p0), .fn 89 [.ptr 0 [] (some 0), .ptr 1 [] (some 0)]], fun n => ([.ptr (.agg [.int .i64 c0]), .ptr (.agg [.int .i64 c1])] : List T)[n]?, 2⟩) (fun (o : Bool × Int × Int) => (.bool o.1, [.ptr (.agg [.int .i64 o.2.1]), .ptr (.agg [.int .i64 o.2.2])])) z fns_88 z z z ?_
 refine wp_seq ?_
 refine wp_reg (nx' := 18) z (ev_v z z (ev_nil)) (seqQ_n (?_))
 refine wp_seq ?_
 obtain ⟨v2, hv2, h⟩ := bs h
 refine wp_reg (nx' := 98) z (ev_v z z (ev_den (.fn 89 [(.ptr 0 [] (some 0)), (.ptr 1 [] (some 0))]) z z (ev_call1 [(.vw _ _), (.fn 89 [(.ptr 0 [] (some 0)), (.ptr 1 [] (some 0))])] z (call_okt (call_ok (rs := [0, 1]) (rd := []) z z z z (argL_cons z (argL_cons (argT_f (argL_cons z (argL_cons z (argL_nil)))) (argL_nil))) z z (slices_IndexFunc_ok hv2) z z z z z)) (ev_v z z (ev_v z z (ev_nil)))))) (seqQ_n (?_))
 replace h := Option.some.inj h
 subst h
 exact wp_ret (qf_r ((outs_ok (vs := [(.vw _ _)]) z (absW_cons z z (absW_nil)) z z)))
noncomputable def impl_allWithin (p0 : List Int) (p1 : Int) (p2 : Int) : Option Bool :=
(slices_ContainsFunc p0 p1 p2).bind fun v2 =>
some (!v2.1)
theorem impl_allWithin_ok {p0 : List Int} {p1 : Int} {p2 : Int} {o : Bool} (h : impl_allWithin p0 p1 p2 = some o) : RN 80 [.ints .i64 p0, .int .i64 p1, .int .i64 p2] [] = some (.bool o, []) := by
 refine fn_run (o := o) (nr := 0) (F := k80) (st := ⟨entry 0 [.vw [] (.ints .i64 p0), .vw [] (.int .i64 p1), .vw [] (.int .i64 p2)], fun n => ([] : List T)[n]?, 0⟩) (fun (o : Bool) => (.bool o, [])) z fns_80 z z z ?_
 refine wp_seq ?_
 refine wp_reg (nx' := 48) z (ev_wr z (w_box (sv := (.vw _ _)) z z (absW_cons z z (absW_nil))) (ev_wr z (w_box (sv := (.vw _ _)) z z (absW_cons z z (absW_nil))) (ev_v z z (ev_nil)))) (seqQ_n (?_))
 refine wp_seq ?_
 obtain ⟨v2, hv2, h⟩ := bs h
 refine wp_reg (nx' := 128) z (ev_v z z (ev_den (.fn 89 [(.ptr 0 [] (some 0)), (.ptr 16 [] (some 0))]) z z (ev_call1 [(.vw _ _), (.fn 89 [(.ptr 0 [] (some 0)), (.ptr 16 [] (some 0))])] z (call_okt (call_ok (rs := [0, 16]) (rd := []) z z z z (argL_cons z (argL_cons (argT_f (argL_cons z (argL_cons z (argL_nil)))) (argL_nil))) z z (slices_ContainsFunc_ok hv2) z z z z z)) (ev_v z z (ev_v z z (ev_nil)))))) (seqQ_n (?_))
 replace h := Option.some.inj h
 subst h
 exact wp_ret (qf_r ((outs_ok (vs := [(.vw _ _)]) z (absW_cons z z (absW_nil)) z z)))
noncomputable def impl_areCalls_j2 (x77 : Int) : Bool → Option (Int ⊕ (Unit ⊕ Bool)) := fun x127 =>
if x127 = true then
some (.inr (.inr false))
else
some (.inl ((w64 (x77 + (1 : Int)))))
noncomputable def impl_areCalls_s1 (p0 : Int) (p1 : List (Int × Int × Int)) : Int → Option (Int ⊕ (Unit ⊕ Bool)) := fun x77 =>
if (decide (x77 < (List.length p1 : Int))) = true then
(at? p1 x77).bind fun v120 =>
(impl_isTick v120.1).bind fun v130 =>
if (!v130) = true then
impl_areCalls_j2 x77 true
else
(impl_allWithin (([v120.2.1, v120.2.2] : List Int)) ((0 : Int)) ((w64 (p0 - (1 : Int))))).bind fun v133 =>
if (!v133) = true then
impl_areCalls_j2 x77 true
else
if (decide (x77 > (0 : Int))) = true then
(at? p1 ((w64 (x77 - (1 : Int))))).bind fun v137 =>
impl_areCalls_j2 x77 (decide (v137.1 > v120.1))
else
impl_areCalls_j2 x77 false
else
some (.inr (.inl ()))
noncomputable def impl_areCalls_l1 (p0 : Int) (p1 : List (Int × Int × Int)) : Int → Option (Unit ⊕ Bool) := iter (impl_areCalls_s1 p0 p1)
noncomputable def impl_areCalls (p0 : Int) (p1 : List (Int × Int × Int)) : Option Bool :=
(impl_areCalls_l1 p0 p1 (0 : Int)).bind fun w => match w with
| .inl _ =>
some (decide ((List.length p1 : Int) ≤ (20 : Int)))
| .inr r141 =>
some r141
theorem impl_areCalls_ok {p0 : Int} {p1 : List (Int × Int × Int)} {o : Bool} (h : impl_areCalls p0 p1 = some o) : RN 70 [.int .i64 p0, .rows 3 (List.map e0 p1)] [] = some (.bool o, []) := by
 refine fn_run (o := o) (nr := 0) (F := k70) (st := ⟨entry 0 [.vw [] (.int .i64 p0), .vw [] (.rows 3 (List.map e0 p1))], fun n => ([] : List T)[n]?, 0⟩) (fun (o : Bool) => (.bool o, [])) z fns_70 z z z ?_
 refine wp_seq ?_
 refine wp_reg (nx' := 16) z (ev_v z z (ev_nil)) (seqQ_n (?_))
 refine wp_seq ?_
 refine wp_gc ?_
 refine wp_seq ?_
 refine wp_gc ?_
 refine wp_reg (nx' := 64) z (ev_v z z (ev_v z (d_len_vr (e := e0) z) (ev_v z z (ev_nil)))) (gcQ_n (gc_to [] (e := [(0, .vw [] (.int .i64 p0)), (1, .vw [] (.rows 3 (List.map e0 p1))), (7, .vw [] (.rows 3 (List.map e0 p1))), (8, .vw [] (.int .i64 ((List.length p1 : Int)))), (9, .vw [] (.int .i64 ((0 : Int))))]) (ts := []) (n := 0) z z z z) (seqQ_n (?_)))
 refine wp_gc ?_
 refine wp_blk ?_
 obtain ⟨w140, hw140, h⟩ := bs h
 refine wp_mono (wp_loop (fun (x77 : Int) => (⟨al .dead [(0, .vw [] (.int .i64 p0)), (1, .vw [] (.rows 3 (List.map e0 p1))), (7, .vw [] (.rows 3 (List.map e0 p1))), (8, .vw [] (.int .i64 ((List.length p1 : Int)))), (9, .vw [] (.int .i64 x77))], hl [], 0⟩ : St)) (fun (v : Unit ⊕ Bool) e st => match v with | .inl _ => e = .exit 0 ∧ gc 0 [1] st = ⟨al .dead [(1, .vw [] (.rows 3 (List.map e0 p1)))], hl [], 0⟩ | .inr rr => e = .ret ∧ outs 0 k70 st = some (.bool rr, [])) hw140 ?_) ?_
 ·rintro x77 o h
  refine wp_gc ?_
  refine wp_seq ?_
  refine wp_reg (nx' := 16) z (ev_v z z (ev_nil)) (seqQ_n (?_))
  refine wp_seq ?_
  refine wp_gc ?_
  rcases its h with ⟨hc101, h⟩ | ⟨hc101, h⟩
  ·refine wp_ct z hc101 ?_
   refine wp_skip (gcQ_n (gc_to [] (e := [(0, .vw [] (.int .i64 p0)), (1, .vw [] (.rows 3 (List.map e0 p1))), (7, .vw [] (.rows 3 (List.map e0 p1))), (8, .vw [] (.int .i64 ((List.length p1 : Int)))), (9, .vw [] (.int .i64 x77))]) (ts := []) (n := 0) z z z z) (seqQ_n (?_)))
   refine wp_seq ?_
   refine wp_gc ?_
   refine wp_gc ?_
   refine wp_blk ?_
   refine wp_seq ?_
   obtain ⟨v120, hv120, h⟩ := bs h
   refine wp_reg (nx' := 96) z (ev_v z z (ev_den (.pv _ _) z (d_idx_vr e0 z z hv120) (ev_den (.agg [(.vw _ _), (.vw _ _), (.vw _ _)]) z z (ev_new (.ptr 48 [] (some 0)) (.ptr (.agg [.int .i64 ((0 : Int)), .int .i64 ((0 : Int)), .int .i64 ((0 : Int))])) z z (ev_v z z (ev_wr0 z (w_st_a z z z (stL_cons (st1_of z z z (get_f z (get_nil)) z (rput_p (put_f z (put_nil)))) z (stL_cons (st1_of z z z (get_f z (get_nil)) z (rput_p (put_f z (put_nil)))) z (stL_cons (st1_of z z z (get_f z (get_nil)) z (rput_p (put_f z (put_nil)))) z (stL_nil))))) (ev_nil))))))) (seqQ_n (?_))
   refine wp_seq ?_
   refine wp_join (impl_areCalls_j2 x77) (fun (x127 : Bool) => (⟨al .dead [(0, .vw [] (.int .i64 p0)), (1, .vw [] (.rows 3 (List.map e0 p1))), (7, .vw [] (.rows 3 (List.map e0 p1))), (8, .vw [] (.int .i64 ((List.length p1 : Int)))), (9, .vw [] (.int .i64 x77)), (43, .vw [] (.bool x127))], hl [], 0⟩ : St)) ?_ ?_
   ·rintro x127 o h
    unfold impl_areCalls_j2 at h
    refine seqQ_n (?_)
    rcases its h with ⟨hc128, h⟩ | ⟨hc128, h⟩
    ·refine wp_ct z hc128 ?_
     refine wp_seq ?_
     refine wp_reg (nx' := 16) z (ev_v z z (ev_nil)) (seqQ_n (?_))
     replace h := Option.some.inj h
     subst h
     exact wp_ret (blkQ_r (gcQ_r (gcQ_r (seqQ_r (gcQ_r (loopQ_r (And.intro z (outs_ok (vs := [(.vw _ _)]) z (absW_cons z z (absW_nil)) z z))))))))
    ·refine wp_cf z hc128 ?_
     refine wp_skip (blkQ_n (gcQ_n (gc_to [] (e := [(0, .vw [] (.int .i64 p0)), (1, .vw [] (.rows 3 (List.map e0 p1))), (7, .vw [] (.rows 3 (List.map e0 p1))), (8, .vw [] (.int .i64 ((List.length p1 : Int)))), (9, .vw [] (.int .i64 x77))]) (ts := []) (n := 0) z z z z) (gcQ_n (gc_to [] (e := [(0, .vw [] (.int .i64 p0)), (1, .vw [] (.rows 3 (List.map e0 p1))), (7, .vw [] (.rows 3 (List.map e0 p1))), (8, .vw [] (.int .i64 ((List.length p1 : Int)))), (9, .vw [] (.int .i64 x77))]) (ts := []) (n := 0) z z z z) (seqQ_n (?_)))))
     replace h := Option.some.inj h
     subst h
     exact wp_reg (nx' := 32) z (ev_v z z (ev_v z z (ev_nil))) (gcQ_n (gc_to [] (e := [(0, .vw [] (.int .i64 p0)), (1, .vw [] (.rows 3 (List.map e0 p1))), (7, .vw [] (.rows 3 (List.map e0 p1))), (8, .vw [] (.int .i64 ((List.length p1 : Int)))), (9, .vw [] (.int .i64 ((w64 (x77 + (1 : Int))))))]) (ts := []) (n := 0) z z z z) (loopQ_n z))
   ·obtain ⟨v130, hv130, h⟩ := bs h
    rcases its h with ⟨hc131, h⟩ | ⟨hc131, h⟩
    ·exact wp_reg (nx' := 576) z (ev_den (.ptr 48 [] (some 0)) z z (ev_v z (d_ld_o z (rget_of z (get_nil)) z z) (ev_call0 [(.vw _ _)] z (call_okf (vs' := [(.vw _ _)]) z (call_ok (rs := []) (rd := []) z z z z (argL_cons z (argL_nil)) z z (impl_isTick_ok hv130) z z z z z)) (ev_v z z (ev_v z z (ev_off z hc131 (ev_off z hc131 (ev_off z hc131 (ev_off z hc131 (ev_off z hc131 (ev_off z hc131 (ev_off z hc131 (ev_off z hc131 (ev_off z hc131 (ev_v z (d_pick_t z hc131 z) (ev_v z z (ev_off z z (ev_off z z (ev_off z z (ev_un z (ev_un z (ev_un z (ev_un z (ev_un z (ev_un z (ev_un z (ev_un z (ev_un z (ev_off z z (ev_v z (d_pick_t z z z) (ev_nil))))))))))))))))))))))))))))))) (joinQ_n true h (gc_to [] z z z z))
    ·obtain ⟨v133, hv133, h⟩ := bs h
     rcases its h with ⟨hc134, h⟩ | ⟨hc134, h⟩
     ·exact wp_reg (nx' := 576) z (ev_den (.ptr 48 [] (some 0)) z z (ev_v z (d_ld_o z (rget_of z (get_nil)) z z) (ev_call0 [(.vw _ _)] z (call_okf (vs' := [(.vw _ _)]) z (call_ok (rs := []) (rd := []) z z z z (argL_cons z (argL_nil)) z z (impl_isTick_ok hv130) z z z z z)) (ev_v z z (ev_v z z (ev_on z hc131 (ev_den (.ptr 48 [] (some 1)) z z (ev_on z hc131 (ev_v z (d_ld_o z (rget_of z (get_nil)) z z) (ev_on z hc131 (ev_den (.ptr 48 [] (some 2)) z z (ev_on z hc131 (ev_v z (d_ld_o z (rget_of z (get_nil)) z z) (ev_on z hc131 (ev_v z z (ev_on z hc131 (ev_v z z (ev_on z hc131 (ev_v z z (ev_on z hc131 (ev_call0 [(.vw _ _), (.vw _ _), (.vw _ _)] z (call_okf (vs' := [(.vw _ _), (.vw _ _), (.vw _ _)]) z (call_ok (rs := []) (rd := []) z z z z (argL_cons z (argL_cons z (argL_cons z (argL_nil)))) z z (impl_allWithin_ok hv133) z z z z z)) (ev_on z hc131 (ev_v z z (ev_v z (d_pick_f z hc131 z) (ev_v z z (ev_off z hc134 (ev_off z hc134 (ev_off z hc134 (ev_un z (ev_un z (ev_un z (ev_un z (ev_un z (ev_un z (ev_un z (ev_un z (ev_un z (ev_off z hc134 (ev_v z (d_pick_t z hc134 z) (ev_nil)))))))))))))))))))))))))))))))))))))))) (joinQ_n true h (gc_to [] z z z z))
     ·rcases its h with ⟨hc136, h⟩ | ⟨hc136, h⟩
      ·obtain ⟨v137, hv137, h⟩ := bs h
       exact wp_reg (nx' := 576) z (ev_den (.ptr 48 [] (some 0)) z z (ev_v z (d_ld_o z (rget_of z (get_nil)) z z) (ev_call0 [(.vw _ _)] z (call_okf (vs' := [(.vw _ _)]) z (call_ok (rs := []) (rd := []) z z z z (argL_cons z (argL_nil)) z z (impl_isTick_ok hv130) z z z z z)) (ev_v z z (ev_v z z (ev_on z hc131 (ev_den (.ptr 48 [] (some 1)) z z (ev_on z hc131 (ev_v z (d_ld_o z (rget_of z (get_nil)) z z) (ev_on z hc131 (ev_den (.ptr 48 [] (some 2)) z z (ev_on z hc131 (ev_v z (d_ld_o z (rget_of z (get_nil)) z z) (ev_on z hc131 (ev_v z z (ev_on z hc131 (ev_v z z (ev_on z hc131 (ev_v z z (ev_on z hc131 (ev_call0 [(.vw _ _), (.vw _ _), (.vw _ _)] z (call_okf (vs' := [(.vw _ _), (.vw _ _), (.vw _ _)]) z (call_ok (rs := []) (rd := []) z z z z (argL_cons z (argL_cons z (argL_cons z (argL_nil)))) z z (impl_allWithin_ok hv133) z z z z z)) (ev_on z hc131 (ev_v z z (ev_v z (d_pick_f z hc131 z) (ev_v z z (ev_on z hc134 (ev_v z z (ev_on z hc134 (ev_v z z (ev_on z hc134 (ev_v z z (ev_on z hc136 (ev_v z z (ev_on z hc136 (ev_v z z (ev_on z hc136 (ev_v z z (ev_on z hc136 (ev_den (.pv _ _) z (d_idx_vr e0 z z hv137) (ev_on z hc136 (ev_den (.pv _ _) z z (ev_on z hc136 (ev_v z z (ev_on z hc136 (ev_den (.ptr 48 [] (some 0)) z z (ev_on z hc136 (ev_v z (d_ld_o z (rget_of z (get_nil)) z z) (ev_on z hc136 (ev_v z z (ev_on z hc134 (ev_v z (d_pick_t z hc136 z) (ev_v z (d_pick_f z hc134 z) (ev_nil))))))))))))))))))))))))))))))))))))))))))))))))))))) (joinQ_n (decide (v137.1 > v120.1)) h (gc_to [] z z z z))
      ·exact wp_reg (nx' := 576) z (ev_den (.ptr 48 [] (some 0)) z z (ev_v z (d_ld_o z (rget_of z (get_nil)) z z) (ev_call0 [(.vw _ _)] z (call_okf (vs' := [(.vw _ _)]) z (call_ok (rs := []) (rd := []) z z z z (argL_cons z (argL_nil)) z z (impl_isTick_ok hv130) z z z z z)) (ev_v z z (ev_v z z (ev_on z hc131 (ev_den (.ptr 48 [] (some 1)) z z (ev_on z hc131 (ev_v z (d_ld_o z (rget_of z (get_nil)) z z) (ev_on z hc131 (ev_den (.ptr 48 [] (some 2)) z z (ev_on z hc131 (ev_v z (d_ld_o z (rget_of z (get_nil)) z z) (ev_on z hc131 (ev_v z z (ev_on z hc131 (ev_v z z (ev_on z hc131 (ev_v z z (ev_on z hc131 (ev_call0 [(.vw _ _), (.vw _ _), (.vw _ _)] z (call_okf (vs' := [(.vw _ _), (.vw _ _), (.vw _ _)]) z (call_ok (rs := []) (rd := []) z z z z (argL_cons z (argL_cons z (argL_cons z (argL_nil)))) z z (impl_allWithin_ok hv133) z z z z z)) (ev_on z hc131 (ev_v z z (ev_v z (d_pick_f z hc131 z) (ev_v z z (ev_on z hc134 (ev_v z z (ev_on z hc134 (ev_v z z (ev_on z hc134 (ev_v z z (ev_off z hc136 (ev_off z hc136 (ev_off z hc136 (ev_off z hc136 (ev_off z hc136 (ev_off z hc136 (ev_off z hc136 (ev_off z hc136 (ev_off z hc136 (ev_on z hc134 (ev_v z (d_pick_f z hc136 z) (ev_v z (d_pick_f z hc134 z) (ev_nil)))))))))))))))))))))))))))))))))))))))))))) (joinQ_n false h (gc_to [] z z z z))
  ·refine wp_cf z hc101 ?_
   replace h := Option.some.inj h
   subst h
   exact wp_exit (gcQ_e (seqQ_e (gcQ_e (loopQ_e (And.intro z (gc_to [] (e := [(1, .vw [] (.rows 3 (List.map e0 p1)))]) (ts := []) (n := 0) z z z z))))))
 ·intro e st140 hg140
  rcases w140 with _ | r141
  ·obtain ⟨rfl, hg140⟩ := hg140
   refine blkQ_h (gcQ_n hg140 (gcQ_n (gc_to [] (e := [(1, .vw [] (.rows 3 (List.map e0 p1)))]) (ts := []) (n := 0) z z z z) (seqQ_n (?_))))
   refine wp_seq ?_
   refine wp_reg (nx' := 64) z (ev_v z z (ev_v z (d_len_vr (e := e0) z) (ev_v z z (ev_v z z (ev_nil))))) (seqQ_n (?_))
   replace h := Option.some.inj h
   subst h
   exact wp_ret (qf_r ((outs_ok (vs := [(.vw _ _)]) z (absW_cons z z (absW_nil)) z z)))
  ·obtain ⟨rfl, hg140⟩ := hg140
   replace h := Option.some.inj h
   subst h
   exact blkQ_r (gcQ_r (gcQ_r (seqQ_r (qf_r (hg140)))))
noncomputable def impl_isCalled (p0 : Int × Int × Int) (p1 : List (Int × Int × Int)) : Option Bool :=
(impl_IsTokenRing p0).bind fun v7 =>
if v7 = true then
(impl_areCalls p0.1 p1).bind fun v9 =>
some v9
else
some false
theorem impl_isCalled_ok {p0 : Int × Int × Int} {p1 : List (Int × Int × Int)} {o : Bool} (h : impl_isCalled p0 p1 = some o) : RN 52 [.agg [.int .i64 p0.1, .int .i64 p0.2.1, .int .i64 p0.2.2], .rows 3 (List.map e0 p1)] [] = some (.bool o, []) := by
 refine fn_run (o := o) (nr := 0) (F := k52) (st := ⟨entry 0 [.agg [.vw [] (.int .i64 p0.1), .vw [] (.int .i64 p0.2.1), .vw [] (.int .i64 p0.2.2)], .vw [] (.rows 3 (List.map e0 p1))], fun n => ([] : List T)[n]?, 0⟩) (fun (o : Bool) => (.bool o, [])) z fns_52 z z z ?_
 refine wp_seq ?_
 refine wp_reg (nx' := 32) z (ev_wr z (w_box (sv := (.agg [(.vw _ _), (.vw _ _), (.vw _ _)])) z z (absW_cons z z (absW_cons z z (absW_cons z z (absW_nil))))) (ev_v z z (ev_nil))) (seqQ_n (?_))
 refine wp_seq ?_
 refine wp_gc ?_
 obtain ⟨v7, hv7, h⟩ := bs h
 rcases its h with ⟨hc8, h⟩ | ⟨hc8, h⟩
 ·obtain ⟨v9, hv9, h⟩ := bs h
  refine wp_reg (nx' := 176) z (ev_den (.agg [(.vw _ _), (.vw _ _), (.vw _ _)]) z (d_ld_os z (rget_of z (get_nil)) z (cells_cons z (cells_cons z (cells_cons z (cells_nil))))) (ev_call0 [(.agg [(.vw _ _), (.vw _ _), (.vw _ _)])] z (call_okf (vs' := [(.agg [(.vw _ _), (.vw _ _), (.vw _ _)])]) z (call_ok (rs := []) (rd := []) z z z z (argL_cons (argT_a (argL_cons z (argL_cons z (argL_cons z (argL_nil))))) (argL_nil)) z z (impl_IsTokenRing_ok hv7) z z z z z)) (ev_v z z (ev_on z hc8 (ev_den (.ptr 0 [] (some 0)) z z (ev_on z hc8 (ev_v z (d_ld_o z (rget_of z (get_nil)) z z) (ev_on z hc8 (ev_v z z (ev_on z hc8 (ev_call0 [(.vw _ _), (.vw _ _)] z (call_okf (vs' := [(.vw _ _), (.vw _ _)]) z (call_ok (rs := []) (rd := []) z z z z (argL_cons z (argL_cons z (argL_nil))) z z (impl_areCalls_ok hv9) z z z z z)) (ev_v z (d_pick_t z hc8 z) (ev_v z z (ev_nil)))))))))))))) (gcQ_n (gc_to [] (e := [(4, .vw [] (.bool v9))]) (ts := []) (n := 0) z z z z) (seqQ_n (?_)))
  replace h := Option.some.inj h
  subst h
  exact wp_ret (qf_r ((outs_ok (vs := [(.vw _ _)]) z (absW_cons z z (absW_nil)) z z)))
 ·refine wp_reg (nx' := 176) z (ev_den (.agg [(.vw _ _), (.vw _ _), (.vw _ _)]) z (d_ld_os z (rget_of z (get_nil)) z (cells_cons z (cells_cons z (cells_cons z (cells_nil))))) (ev_call0 [(.agg [(.vw _ _), (.vw _ _), (.vw _ _)])] z (call_okf (vs' := [(.agg [(.vw _ _), (.vw _ _), (.vw _ _)])]) z (call_ok (rs := []) (rd := []) z z z z (argL_cons (argT_a (argL_cons z (argL_cons z (argL_cons z (argL_nil))))) (argL_nil)) z z (impl_IsTokenRing_ok hv7) z z z z z)) (ev_v z z (ev_off z hc8 (ev_off z hc8 (ev_off z hc8 (ev_off z hc8 (ev_v z (d_pick_f z hc8 z) (ev_v z z (ev_nil)))))))))) (gcQ_n (gc_to [] (e := [(4, .vw [] (.bool false))]) (ts := []) (n := 0) z z z z) (seqQ_n (?_)))
  replace h := Option.some.inj h
  subst h
  exact wp_ret (qf_r ((outs_ok (vs := [(.vw _ _)]) z (absW_cons z z (absW_nil)) z z)))
noncomputable def bits_Mul64 (p0 : Int) (p1 : Int) : Option ((Int × Int)) :=
(some ((IntKind.wrap .u64 ((andK .u64 p0 (4294967295 : Int)) * (andK .u64 p1 (4294967295 : Int)))))).bind fun v5 =>
(some ((IntKind.wrap .u64 ((IntKind.wrap .u64 ((Int.fdiv p0 ((2 : Int) ^ 32)) * (andK .u64 p1 (4294967295 : Int)))) + (Int.fdiv v5 ((2 : Int) ^ 32)))))).bind fun v6 =>
(some ((IntKind.wrap .u64 ((andK .u64 v6 (4294967295 : Int)) + (IntKind.wrap .u64 ((andK .u64 p0 (4294967295 : Int)) * (Int.fdiv p1 ((2 : Int) ^ 32)))))))).bind fun v7 =>
(some ((IntKind.wrap .u64 ((IntKind.wrap .u64 ((Int.fdiv p0 ((2 : Int) ^ 32)) * (Int.fdiv p1 ((2 : Int) ^ 32)))) + (Int.fdiv v6 ((2 : Int) ^ 32)))))).bind fun v8 =>
some ((IntKind.wrap .u64 (v8 + (Int.fdiv v7 ((2 : Int) ^ 32)))), (IntKind.wrap .u64 (p0 * p1)))
theorem bits_Mul64_ok {p0 : Int} {p1 : Int} {o : (Int × Int)} (h : bits_Mul64 p0 p1 = some o) : RN 87 [.int .u64 p0, .int .u64 p1] [] = some (.tup [.int .u64 o.1, .int .u64 o.2], []) := by
 refine fn_run (o := o) (nr := 0) (F := k87) (st := ⟨entry 0 [.vw [] (.int .u64 p0), .vw [] (.int .u64 p1)], fun n => ([] : List T)[n]?, 0⟩) (fun (o : (Int × Int)) => (.tup [.int .u64 o.1, .int .u64 o.2], [])) z fns_87 z z z ?_
 refine wp_seq ?_
 refine wp_reg (nx' := 32) z (ev_v z z (ev_v z z (ev_nil))) (seqQ_n (?_))
 refine wp_seq ?_
 refine wp_reg (nx' := 80) z (ev_v z z (ev_v z z (ev_v z z (ev_nil)))) (seqQ_n (?_))
 refine wp_seq ?_
 refine wp_reg (nx' := 128) z (ev_v z z (ev_v z (d_shr (u := ()) z z z) (ev_v z z (ev_nil)))) (seqQ_n (?_))
 refine wp_seq ?_
 refine wp_reg (nx' := 176) z (ev_v z z (ev_v z z (ev_v z z (ev_nil)))) (seqQ_n (?_))
 refine wp_seq ?_
 refine wp_reg (nx' := 224) z (ev_v z z (ev_v z (d_shr (u := ()) z z z) (ev_v z z (ev_nil)))) (seqQ_n (?_))
 refine wp_seq ?_
 obtain ⟨v5, hv5, h⟩ := bs h
 refine wp_reg (nx' := 288) z (ev_v z z (ev_v z z (ev_den (.vw [] (.int .u64 v5)) z (d_as_i z (Option.some.inj hv5)) (ev_v z z (ev_nil))))) (seqQ_n (?_))
 refine wp_seq ?_
 obtain ⟨v6, hv6, h⟩ := bs h
 refine wp_reg (nx' := 400) z (ev_v z z (ev_v z z (ev_v z z (ev_v z z (ev_v z (d_shr (u := ()) z z z) (ev_den (.vw [] (.int .u64 v6)) z (d_as_i z (Option.some.inj hv6)) (ev_v z z (ev_nil)))))))) (seqQ_n (?_))
 refine wp_seq ?_
 refine wp_reg (nx' := 448) z (ev_v z z (ev_v z z (ev_v z z (ev_nil)))) (seqQ_n (?_))
 refine wp_seq ?_
 refine wp_reg (nx' := 496) z (ev_v z z (ev_v z (d_shr (u := ()) z z z) (ev_v z z (ev_nil)))) (seqQ_n (?_))
 refine wp_seq ?_
 obtain ⟨v7, hv7, h⟩ := bs h
 refine wp_reg (nx' := 592) z (ev_v z z (ev_v z z (ev_v z z (ev_v z z (ev_den (.vw [] (.int .u64 v7)) z (d_as_i z (Option.some.inj hv7)) (ev_v z z (ev_nil))))))) (seqQ_n (?_))
 refine wp_seq ?_
 obtain ⟨v8, hv8, h⟩ := bs h
 refine wp_reg (nx' := 736) z (ev_v z z (ev_v z z (ev_v z z (ev_v z z (ev_den (.vw [] (.int .u64 v8)) z (d_as_i z (Option.some.inj hv8)) (ev_v z z (ev_v z (d_shr (u := ()) z z z) (ev_v z z (ev_v z z (ev_nil)))))))))) (seqQ_n (?_))
 refine wp_seq ?_
 refine wp_reg (nx' := 800) z (ev_v z z (ev_v z z (ev_v z z (ev_v z z (ev_nil))))) (seqQ_n (?_))
 replace h := Option.some.inj h
 subst h
 exact wp_ret (qf_r ((outs_ok (vs := [(.vw _ _), (.vw _ _)]) z (absW_cons z z (absW_cons z z (absW_nil))) z z)))
noncomputable def bits_Mul (p0 : Int) (p1 : Int) : Option ((Int × Int)) :=
(bits_Mul64 p0 p1).bind fun v2 =>
some v2
theorem bits_Mul_ok {p0 : Int} {p1 : Int} {o : (Int × Int)} (h : bits_Mul p0 p1 = some o) : RN 76 [.int .u64 p0, .int .u64 p1] [] = some (.tup [.int .u64 o.1, .int .u64 o.2], []) := by
 refine fn_run (o := o) (nr := 0) (F := k76) (st := ⟨entry 0 [.vw [] (.int .u64 p0), .vw [] (.int .u64 p1)], fun n => ([] : List T)[n]?, 0⟩) (fun (o : (Int × Int)) => (.tup [.int .u64 o.1, .int .u64 o.2], [])) z fns_76 z z z ?_
 refine wp_seq ?_
 refine wp_reg (nx' := 32) z (ev_v z z (ev_v z z (ev_nil))) (seqQ_n (?_))
 refine wp_seq ?_
 refine wp_gc ?_
 refine wp_cf z z ?_
 refine wp_skip (gcQ_n (gc_to [] (e := [(0, .vw [] (.int .u64 p0)), (1, .vw [] (.int .u64 p1))]) (ts := []) (n := 0) z z z z) (seqQ_n (?_)))
 refine wp_seq ?_
 obtain ⟨v2, hv2, h⟩ := bs h
 refine wp_reg (nx' := 128) z (ev_v z z (ev_v z z (ev_call0 [(.vw _ _), (.vw _ _)] z (call_okf (vs' := [(.vw _ _), (.vw _ _)]) z (call_ok (rs := []) (rd := []) z z z z (argL_cons z (argL_cons z (argL_nil))) z z (bits_Mul64_ok hv2) z z z (bindR_t (bindL_cons z (bindL_cons z (bindL_nil)))) z)) (ev_den (.tup [(.vw _ _), (.vw _ _)]) z z (ev_v z z (ev_v z z (ev_v z z (ev_v z z (ev_nil))))))))) (seqQ_n (?_))
 refine wp_seq ?_
 refine wp_reg (nx' := 192) z (ev_v z z (ev_v z z (ev_v z z (ev_v z z (ev_nil))))) (seqQ_n (?_))
 replace h := Option.some.inj h
 subst h
 exact wp_ret (qf_r ((outs_ok (vs := [(.vw _ _), (.vw _ _)]) z (absW_cons z z (absW_cons z z (absW_nil))) z z)))
noncomputable def slices_Repeat_s2 : ((List Int) × Int) → Option (((List Int) × Int) ⊕ ((List Int))) := fun (x64, x65) =>
if (decide (x65 < (List.length x64 : Int))) = true then
(sub? x64 x65 ((List.length x64 : Int))).bind fun v84 =>
(sub? x64 ((0 : Int)) x65).bind fun v85 =>
(some ((w64 (x65 + ((min (List.length v85) (Int.toNat ((List.length x64 : Int)) - Int.toNat x65) : Nat) : Int))))).bind fun v86 =>
some (.inl ((spl x64 (Int.toNat x65) (List.take (Int.toNat ((List.length x64 : Int)) - Int.toNat x65) v85)), v86))
else
some (.inr x64)
noncomputable def slices_Repeat_l2 : ((List Int) × Int) → Option ((List Int)) := iter (slices_Repeat_s2)
noncomputable def slices_Repeat_j1 (p0 : List Int) (v23 : (Int × Int)) : Bool → Option ((List Int)) := fun x28 =>
if x28 = true then
none
else
(mk? ((w64 (v23.2))) ((w64 (v23.2)))).bind fun u30 =>
(slices_Repeat_l2 ((spl ((List.replicate (Int.toNat ((w64 (v23.2)))) (0 : Int))) 0 (List.take (List.length ((List.replicate (Int.toNat ((w64 (v23.2)))) (0 : Int)))) p0)), ((min (List.length p0) (List.length ((List.replicate (Int.toNat ((w64 (v23.2)))) (0 : Int)))) : Nat) : Int))).bind fun x72 =>
some x72
noncomputable def slices_Repeat (p0 : List Int) (p1 : Int) : Option ((List Int)) :=
if (decide (p1 < (0 : Int))) = true then
none
else
(bits_Mul ((IntKind.wrap .u64 ((List.length p0 : Int)))) ((IntKind.wrap .u64 (p1)))).bind fun v23 =>
if (decide (v23.1 > (0 : Int))) = true then
slices_Repeat_j1 p0 v23 true
else
slices_Repeat_j1 p0 v23 (decide (v23.2 > (9223372036854775807 : Int)))
theorem slices_Repeat_ok {p0 : List Int} {p1 : Int} {o : (List Int)} (h : slices_Repeat p0 p1 = some o) : RN 61 [.ints .i64 p0, .int .i64 p1] [] = some (.ints .i64 o, []) := by
 refine fn_run (o := o) (nr := 0) (F := k61) (st := ⟨entry 0 [.vw [] (.ints .i64 p0), .vw [] (.int .i64 p1)], fun n => ([] : List T)[n]?, 0⟩) (fun (o : (List Int)) => (.ints .i64 o, [])) z fns_61 z z z ?_
 refine wp_seq ?_
 refine wp_reg (nx' := 16) z (ev_new (.ref 0 [] 1 0 0) (.ints .i64 []) z z (ev_nil)) (seqQ_n (?_))
 refine wp_seq ?_
 refine wp_gc ?_
 refine wp_seq ?_
 refine wp_reg (nx' := 48) z (ev_v z z (ev_v z z (ev_nil))) (seqQ_n (?_))
 rcases its h with ⟨hc22, h⟩ | ⟨hc22, h⟩
 ·refine wp_ct z hc22 ?_
  cases h
 ·refine wp_cf z hc22 ?_
  refine wp_skip (gcQ_n (gc_to [] (e := [(0, .vw [] (.ints .i64 p0)), (1, .vw [] (.int .i64 p1))]) (ts := []) (n := 0) z z z z) (seqQ_n (?_)))
  refine wp_seq ?_
  obtain ⟨v23, hv23, h⟩ := bs h
  refine wp_reg (nx' := 176) z (ev_v z z (ev_v z z (ev_v z z (ev_v z z (ev_v z z (ev_call0 [(.vw _ _), (.vw _ _)] z (call_okf (vs' := [(.vw _ _), (.vw _ _)]) z (call_ok (rs := []) (rd := []) z z z z (argL_cons z (argL_cons z (argL_nil))) z z (bits_Mul_ok hv23) z z z (bindR_t (bindL_cons z (bindL_cons z (bindL_nil)))) z)) (ev_den (.tup [(.vw _ _), (.vw _ _)]) z z (ev_v z z (ev_v z z (ev_v z z (ev_v z z (ev_nil)))))))))))) (seqQ_n (?_))
  refine wp_seq ?_
  refine wp_gc ?_
  refine wp_seq ?_
  refine wp_join (slices_Repeat_j1 p0 v23) (fun (x28 : Bool) => (⟨al .dead [(0, .vw [] (.ints .i64 p0)), (6, .vw [] (.int .u64 v23.2)), (26, .vw [] (.bool x28))], hl [], 0⟩ : St)) ?_ ?_
  ·rintro x28 o h
   unfold slices_Repeat_j1 at h
   refine seqQ_n (?_)
   rcases its h with ⟨hc29, h⟩ | ⟨hc29, h⟩
   ·refine wp_ct z hc29 ?_
    cases h
   ·refine wp_cf z hc29 ?_
    refine wp_skip (gcQ_n (gc_to [] (e := [(0, .vw [] (.ints .i64 p0)), (6, .vw [] (.int .u64 v23.2))]) (ts := []) (n := 0) z z z z) (seqQ_n (?_)))
    refine wp_seq ?_
    obtain ⟨u30, hu30, h⟩ := bs h
    refine wp_reg (nx' := 64) z (ev_v z z (ev_v z z (ev_new (.ref 32 [] 1 0 (List.length ((List.replicate (Int.toNat ((w64 (v23.2)))) (0 : Int))))) (.ints .i64 ((List.replicate (Int.toNat ((w64 (v23.2)))) (0 : Int)))) z (d_mks_i z z hu30) (ev_den (.ref 32 _ _ _ _) z z (ev_nil))))) (seqQ_n (?_))
    refine wp_seq ?_
    refine wp_gc ?_
    refine wp_reg (nx' := 128) z (ev_den (.ref 32 _ _ _ _) z z (ev_v z z (ev_wr z (w_cpy z z z le_whole) (ev_relen (b := (List.length ((spl ((List.replicate (Int.toNat ((w64 (v23.2)))) (0 : Int))) 0 (List.take (List.length ((List.replicate (Int.toNat ((w64 (v23.2)))) (0 : Int)))) p0))))) 7 z (spl_len le_whole) (ev_relen (b := (List.length ((spl ((List.replicate (Int.toNat ((w64 (v23.2)))) (0 : Int))) 0 (List.take (List.length ((List.replicate (Int.toNat ((w64 (v23.2)))) (0 : Int)))) p0))))) 30 z (spl_len le_whole) (ev_relen (b := (List.length ((spl ((List.replicate (Int.toNat ((w64 (v23.2)))) (0 : Int))) 0 (List.take (List.length ((List.replicate (Int.toNat ((w64 (v23.2)))) (0 : Int)))) p0))))) 31 z (spl_len le_whole) (ev_v z z (ev_nil)))))))) (gcQ_n (gc_to [32] (e := [(7, .ref 0 [] 1 0 (List.length ((spl ((List.replicate (Int.toNat ((w64 (v23.2)))) (0 : Int))) 0 (List.take (List.length ((List.replicate (Int.toNat ((w64 (v23.2)))) (0 : Int)))) p0))))), (8, .vw [] (.int .i64 (((min (List.length p0) (List.length ((List.replicate (Int.toNat ((w64 (v23.2)))) (0 : Int)))) : Nat) : Int))))]) (ts := [some (.ints .i64 ((spl ((List.replicate (Int.toNat ((w64 (v23.2)))) (0 : Int))) 0 (List.take (List.length ((List.replicate (Int.toNat ((w64 (v23.2)))) (0 : Int)))) p0))))]) (n := 1) z z z z) (seqQ_n (?_)))
    refine wp_seq ?_
    refine wp_gc ?_
    refine wp_gc ?_
    refine wp_blk ?_
    obtain ⟨x72, hw90, h⟩ := bs h
    refine wp_mono (wp_loop (fun ((x64, x65) : (List Int) × Int) => (⟨al .dead [(7, .ref 0 [] 1 0 (List.length x64)), (8, .vw [] (.int .i64 x65))], hl [some (.ints .i64 x64)], 1⟩ : St)) (fun (x72 : (List Int)) e st => e = .exit 0 ∧ gc 0 [7] st = ⟨al .dead [(7, .ref 0 [] 1 0 (List.length x72))], hl [some (.ints .i64 x72)], 1⟩) hw90 ?_) ?_
    ·rintro ⟨x64, x65⟩ o h
     refine wp_gc ?_
     refine wp_seq ?_
     refine wp_gc ?_
     refine wp_seq ?_
     refine wp_reg (nx' := 65) z (ev_v z z (ev_den (.ref 0 _ _ _ _) z z (ev_v z z (ev_v z z (ev_nil))))) (seqQ_n (?_))
     rcases its h with ⟨hc80, h⟩ | ⟨hc80, h⟩
     ·refine wp_ct z hc80 ?_
      refine wp_skip (gcQ_n (gc_to [0] (e := [(7, .ref 0 [] 1 0 (List.length x64)), (8, .vw [] (.int .i64 x65))]) (ts := [some (.ints .i64 x64)]) (n := 1) z z z z) (seqQ_n (?_)))
      refine wp_gc ?_
      refine wp_blk ?_
      obtain ⟨v84, hv84, h⟩ := bs h
      obtain ⟨v85, hv85, h⟩ := bs h
      obtain ⟨v86, hv86, h⟩ := bs h
      replace h := Option.some.inj h
      subst h
      exact wp_reg (nx' := 161) z (ev_v z z (ev_den (.ref 0 _ _ _ _) z z (ev_v z z (ev_den (.ref 0 [] 1 (Int.toNat x65) (Int.toNat ((List.length x64 : Int)) - Int.toNat x65)) z (d_slc_r z hv84 (si_some z) (fun _ => si_none_len)) (ev_den (.ref 0 _ _ _ _) z z (ev_v z z (ev_den (.ref 0 [] 1 (Int.toNat ((0 : Int))) (Int.toNat x65 - Int.toNat ((0 : Int)))) z (d_slc_r z hv85 (fun _ => z) (si_some z)) (ev_wr z (w_cpy z (rs_ref (rget_of z (get_nil)) (sub_pi hv85)) z (le_part hv84)) (ev_relen (b := (List.length ((spl x64 (Int.toNat x65) (List.take (Int.toNat ((List.length x64 : Int)) - Int.toNat x65) v85))))) 7 z (spl_len (le_part hv84)) (ev_relen (b := (List.length ((spl x64 (Int.toNat x65) (List.take (Int.toNat ((List.length x64 : Int)) - Int.toNat x65) v85))))) 39 z (spl_len (le_part hv84)) (ev_relen (b := (List.length ((spl x64 (Int.toNat x65) (List.take (Int.toNat ((List.length x64 : Int)) - Int.toNat x65) v85))))) 42 z (spl_len (le_part hv84)) (ev_den (.vw [] (.int .i64 v86)) z (d_as_i z (Option.some.inj hv86)) (ev_v z z (ev_nil)))))))))))))) (blkQ_n (gcQ_n (gc_to [0] (e := [(7, .ref 0 [] 1 0 (List.length ((spl x64 (Int.toNat x65) (List.take (Int.toNat ((List.length x64 : Int)) - Int.toNat x65) v85))))), (8, .vw [] (.int .i64 v86))]) (ts := [some (.ints .i64 ((spl x64 (Int.toNat x65) (List.take (Int.toNat ((List.length x64 : Int)) - Int.toNat x65) v85))))]) (n := 1) z z z z) (gcQ_n (gc_to [0] (e := [(7, .ref 0 [] 1 0 (List.length ((spl x64 (Int.toNat x65) (List.take (Int.toNat ((List.length x64 : Int)) - Int.toNat x65) v85))))), (8, .vw [] (.int .i64 v86))]) (ts := [some (.ints .i64 ((spl x64 (Int.toNat x65) (List.take (Int.toNat ((List.length x64 : Int)) - Int.toNat x65) v85))))]) (n := 1) z z z z) (loopQ_n z))))
     ·refine wp_cf z hc80 ?_
      replace h := Option.some.inj h
      subst h
      exact wp_exit (gcQ_e (seqQ_e (gcQ_e (loopQ_e (And.intro z (gc_to [0] (e := [(7, .ref 0 [] 1 0 (List.length x64))]) (ts := [some (.ints .i64 x64)]) (n := 1) z z z z))))))
    ·intro e st90 hg90
     obtain ⟨rfl, hg90⟩ := hg90
     refine blkQ_h (gcQ_n hg90 (gcQ_n (gc_to [0] (e := [(7, .ref 0 [] 1 0 (List.length x72))]) (ts := [some (.ints .i64 x72)]) (n := 1) z z z z) (seqQ_n (?_))))
     refine wp_seq ?_
     refine wp_reg (nx' := 33) z (ev_den (.ref 0 _ _ _ _) z z (ev_den (.ref 0 _ _ _ _) z z (ev_nil))) (seqQ_n (?_))
     replace h := Option.some.inj h
     subst h
     exact wp_ret (qf_r ((outs_ok (vs := [(.ref 0 _ _ _ _)]) z (absW_cons (retT_ref (abs_ref z sub_i)) z (absW_nil)) z z)))
  ·rcases its h with ⟨hc91, h⟩ | ⟨hc91, h⟩
   ·exact wp_reg (nx' := 272) z (ev_v z z (ev_v z z (ev_v z z (ev_off z hc91 (ev_off z hc91 (ev_v z (d_pick_t z hc91 z) (ev_nil))))))) (joinQ_n true h (gc_to [] z z z z))
   ·exact wp_reg (nx' := 272) z (ev_v z z (ev_v z z (ev_v z z (ev_on z hc91 (ev_v z z (ev_on z hc91 (ev_v z z (ev_v z (d_pick_f z hc91 z) (ev_nil))))))))) (joinQ_n (decide (v23.2 > (9223372036854775807 : Int))) h (gc_to [] z z z z))
noncomputable def impl_newWalker (p0 : Int × Int × Int) (p1 : List (Int × Int × Int)) : Option ((Int × Int × Int × (List (Int × Int × Int)) × Int × Int × (List Int))) :=
(slices_Repeat (([(-1 : Int)] : List Int)) ((List.length p1 : Int))).bind fun v2 =>
some (p0.1, p0.2.1, p0.2.2, p1, (0 : Int), (0 : Int), v2)
theorem impl_newWalker_ok {p0 : Int × Int × Int} {p1 : List (Int × Int × Int)} {o : (Int × Int × Int × (List (Int × Int × Int)) × Int × Int × (List Int))} (h : impl_newWalker p0 p1 = some o) : RN 62 [.agg [.int .i64 p0.1, .int .i64 p0.2.1, .int .i64 p0.2.2], .rows 3 (List.map e0 p1)] [] = some (.ptr (.agg [.int .i64 o.1, .int .i64 o.2.1, .int .i64 o.2.2.1, .sh (.rows 3 (List.map e0 o.2.2.2.1)), .int .i64 o.2.2.2.2.1, .int .i64 o.2.2.2.2.2.1, .ints .i64 o.2.2.2.2.2.2]), []) := by
 refine fn_run (o := o) (nr := 0) (F := k62) (st := ⟨entry 0 [.agg [.vw [] (.int .i64 p0.1), .vw [] (.int .i64 p0.2.1), .vw [] (.int .i64 p0.2.2)], .vw [] (.rows 3 (List.map e0 p1))], fun n => ([] : List T)[n]?, 0⟩) (fun (o : (Int × Int × Int × (List (Int × Int × Int)) × Int × Int × (List Int))) => (.ptr (.agg [.int .i64 o.1, .int .i64 o.2.1, .int .i64 o.2.2.1, .sh (.rows 3 (List.map e0 o.2.2.2.1)), .int .i64 o.2.2.2.2.1, .int .i64 o.2.2.2.2.2.1, .ints .i64 o.2.2.2.2.2.2]), [])) z fns_62 z z z ?_
 refine wp_seq ?_
 refine wp_reg (nx' := 32) z (ev_wr z (w_box (sv := (.agg [(.vw _ _), (.vw _ _), (.vw _ _)])) z z (absW_cons z z (absW_cons z z (absW_cons z z (absW_nil))))) (ev_den (.nilS _) z z (ev_nil))) (seqQ_n (?_))
 refine wp_seq ?_
 obtain ⟨v2, hv2, h⟩ := bs h
 refine wp_reg (nx' := 176) z (ev_den (.agg [(.vw _ _), (.vw _ _), (.vw _ _)]) z (d_ld_os z (rget_of z (get_nil)) z (cells_cons z (cells_cons z (cells_cons z (cells_nil))))) (ev_v z z (ev_v z z (ev_v z z (ev_v z (d_len_vr (e := e0) z) (ev_call0 [(.vw _ _), (.vw _ _)] z (call_okf (vs' := [(.vw _ _), (.vw _ _)]) z (call_ok (rs := []) (rd := []) z z z z (argL_cons z (argL_cons z (argL_nil))) z z (slices_Repeat_ok hv2) z z z z z)) (ev_den (.agg [(.vw _ _), (.vw _ _), (.vw _ _), (.vw _ _), (.vw _ _), (.vw _ _), (.ref 112 _ _ _ _)]) z z (ev_wr z (w_box (sv := (.agg [(.vw _ _), (.vw _ _), (.vw _ _), (.vw _ _), (.vw _ _), (.vw _ _), (.ref 112 _ _ _ _)])) z z (absW_cons z z (absW_cons z z (absW_cons z z (absW_cons z z (absW_cons z z (absW_cons z z (absW_cons (abs_ref z sub_i) z (absW_nil))))))))) (ev_den (.ptr 144 [] (some 0)) z z (ev_nil)))))))))) (seqQ_n (?_))
 replace h := Option.some.inj h
 subst h
 exact wp_ret (qf_r ((outs_ok (vs := [(.ptr 144 [] (some 0))]) z (absW_cons z z (absW_nil)) z z)))
end Go.Proofs.Ytdblfocadcgmaaa.Ev.W7
