/- What functions of the program come to, as plain functions; no condition. -/
import Derived.Test.YtdblfocadcgmaaaW77
set_option linter.unusedVariables false
set_option linter.unusedSimpArgs false
set_option maxRecDepth 100000
set_option maxHeartbeats 4000000
set_option linter.unusedVariables false
namespace Go.Proofs.Ytdblfocadcgmaaa.Ev.W7
open Go
noncomputable def laws_FnWaitsBounded_j4 (p1 : List Int) : Unit → Option (Bool) := fun _ =>
(spec_DrawTokenAt p1).bind fun v319 =>
(impl_TokenAt v319.1 v319.2.1 v319.2.2).bind fun v320 =>
(spec_TokenAt v319.1 v319.2.1 v319.2.2).bind fun v321 =>
(spec_DrawBacklogAt p1).bind fun v322 =>
(impl_BacklogAt v322.1 v322.2.1 v322.2.2).bind fun v323 =>
(spec_BacklogAt v322.1 v322.2.1 v322.2.2).bind fun v324 =>
(spec_DrawWaitBound p1).bind fun v325 =>
(impl_WaitBound v325.1 v325.2).bind fun v326 =>
(spec_WaitBound v325.1 v325.2).bind fun v327 =>
(spec_DrawLongestRound p1).bind fun v328 =>
(impl_LongestRound v328).bind fun v329 =>
(spec_LongestRound v328).bind fun v330 =>
(impl_IdleRound v328).bind fun v331 =>
(spec_IdleRound v328).bind fun v332 =>
if (v320.2 == v321.2) = true then
if (v320.1 == v321.1) = true then
if (v323.2 == v324.2) = true then
(laws_zSame v323.1 v324.1).bind fun v347 =>
if v347 = true then
if (v326.2 == v327.2) = true then
if (v326.1 == v327.1) = true then
if (v329.2 == v330.2) = true then
if (v329.1 == v330.1) = true then
if (v331.2 == v332.2) = true then
if (v331.1 == v332.1) = true then
some (decide (v331.1 ≤ v329.1))
else
some false
else
some false
else
some false
else
some false
else
some false
else
some false
else
some false
else
some false
else
some false
else
some false
noncomputable def laws_FnWaitsBounded_s7 (v358 : ((List (List Int)) × Bool)) (v359 : ((List Int) × Bool)) : Int → Option (Int ⊕ (Unit ⊕ Bool)) := fun x383 =>
if (decide (x383 < (List.length v358.1 : Int))) = true then
(at? v358.1 x383).bind fun v406 =>
(at? v406 ((2 : Int))).bind fun v407 =>
(at? v359.1 x383).bind fun v408 =>
if (v407 != v408) = true then
some (.inr (.inr false))
else
some (.inl ((w64 (x383 + (1 : Int)))))
else
some (.inr (.inl ()))
noncomputable def laws_FnWaitsBounded_l7 (v358 : ((List (List Int)) × Bool)) (v359 : ((List Int) × Bool)) : Int → Option (Unit ⊕ Bool) := iter (laws_FnWaitsBounded_s7 v358 v359)
noncomputable def laws_FnWaitsBounded_j6 (p1 : List Int) (v358 : ((List (List Int)) × Bool)) (v359 : ((List Int) × Bool)) : Bool → Option (Bool) := fun x364 =>
if x364 = true then
some false
else
(laws_FnWaitsBounded_l7 v358 v359 (0 : Int)).bind fun w => match w with
| .inl _ =>
laws_FnWaitsBounded_j4 p1 ()
| .inr r412 =>
some r412
noncomputable def laws_FnWaitsBounded_j5 (p1 : List Int) (v279 : ((Int × Int × Int) × Int)) (v280 : ((List (Int × Int × Int)) × Bool)) : Bool → Option (Bool) := fun x356 =>
if x356 = true then
(impl_VisitsOf v279.1 v280.1 v279.1.1).bind fun v358 =>
(impl_FullShares v279.1 ((1 : Int))).bind fun v359 =>
if (!v358.2) = true then
laws_FnWaitsBounded_j6 p1 v358 v359 true
else
laws_FnWaitsBounded_j6 p1 v358 v359 (!v359.2)
else
laws_FnWaitsBounded_j4 p1 ()
noncomputable def laws_FnWaitsBounded_j3 (p1 : List Int) (v279 : ((Int × Int × Int) × Int)) (v280 : ((List (Int × Int × Int)) × Bool)) : Bool → Option (Bool) := fun x297 =>
if x297 = true then
some false
else
if v280.2 = true then
laws_FnWaitsBounded_j5 p1 v279 v280 (decide (v279.2 ≥ v279.1.2.1))
else
laws_FnWaitsBounded_j5 p1 v279 v280 false
noncomputable def laws_FnWaitsBounded_j2 (p1 : List Int) : Unit → Option (Bool) := fun _ =>
(spec_DrawFullCalls p1).bind fun v279 =>
(impl_FullCalls v279.1 v279.2).bind fun v280 =>
(spec_FullCalls v279.1 v279.2).bind fun v281 =>
(spec_DrawFullShares p1).bind fun v282 =>
(impl_FullShares v282.1 v282.2).bind fun v283 =>
(spec_FullShares v282.1 v282.2).bind fun v284 =>
if (!(v280.2 == v281.2)) = true then
laws_FnWaitsBounded_j3 p1 v279 v280 true
else
(laws_zCalls v280.1 v281.1).bind fun v421 =>
if (!v421) = true then
laws_FnWaitsBounded_j3 p1 v279 v280 true
else
if (!(v283.2 == v284.2)) = true then
laws_FnWaitsBounded_j3 p1 v279 v280 true
else
(laws_zSame v283.1 v284.1).bind fun v426 =>
laws_FnWaitsBounded_j3 p1 v279 v280 (!v426)
noncomputable def laws_FnWaitsBounded_j9 (x590 : Int) : Int → Option ((Int × Int) ⊕ (Int ⊕ Bool)) := fun x686 =>
some (.inl (x686, (w64 (x590 + (1 : Int)))))
noncomputable def laws_FnWaitsBounded_j11 (x764 : Int) : Int → Option ((Int × Int) ⊕ Int) := fun x791 =>
some (.inl (x791, (w64 (x764 + (1 : Int)))))
noncomputable def laws_FnWaitsBounded_j12 (x763 : Int) (x764 : Int) : Bool → Option ((Int × Int) ⊕ Int) := fun x802 =>
if x802 = true then
laws_FnWaitsBounded_j11 x764 (w64 (x763 + (1 : Int)))
else
laws_FnWaitsBounded_j11 x764 x763
noncomputable def laws_FnWaitsBounded_s10 (v169 : ((Int × Int × Int) × (List (Int × Int × Int)))) (v429 : ((List Int) × Bool)) (x590 : Int) (v717 : Int × Int × Int) : (Int × Int) → Option ((Int × Int) ⊕ Int) := fun (x763, x764) =>
if (decide (x764 < x590)) = true then
(at? v169.2 x764).bind fun v806 =>
if (v806.2.1 == v717.2.1) = true then
(at? v429.1 x764).bind fun v808 =>
laws_FnWaitsBounded_j12 x763 x764 (decide (v808 ≥ v717.1))
else
laws_FnWaitsBounded_j12 x763 x764 false
else
some (.inr x763)
noncomputable def laws_FnWaitsBounded_l10 (v169 : ((Int × Int × Int) × (List (Int × Int × Int)))) (v429 : ((List Int) × Bool)) (x590 : Int) (v717 : Int × Int × Int) : (Int × Int) → Option Int := iter (laws_FnWaitsBounded_s10 v169 v429 x590 v717)
noncomputable def laws_FnWaitsBounded_j13 (v429 : ((List Int) × Bool)) (x589 : Int) (x590 : Int) (v717 : Int × Int × Int) : Bool → Option ((Int × Int) ⊕ (Int ⊕ Bool)) := fun x822 =>
if x822 = true then
some (.inr (.inr false))
else
(at? v429.1 x590).bind fun v824 =>
if (decide ((w64 (v824 - v717.1)) > x589)) = true then
laws_FnWaitsBounded_j9 x590 (w64 (v824 - v717.1))
else
laws_FnWaitsBounded_j9 x590 x589
noncomputable def laws_FnWaitsBounded_s8 (v169 : ((Int × Int × Int) × (List (Int × Int × Int)))) (v172 : (Int × Bool)) (v429 : ((List Int) × Bool)) : (Int × Int) → Option ((Int × Int) ⊕ (Int ⊕ Bool)) := fun (x589, x590) =>
if (decide (x590 < (List.length v169.2 : Int))) = true then
(at? v169.2 x590).bind fun v717 =>
(laws_FnWaitsBounded_l10 v169 v429 x590 v717 ((0 : Int), (0 : Int))).bind fun x774 =>
(impl_WaitBound v169.1 x774).bind fun v813 =>
if (!v813.2) = true then
laws_FnWaitsBounded_j13 v429 x589 x590 v717 true
else
(at? v429.1 x590).bind fun v830 =>
if (decide ((w64 (v830 - v717.1)) > v813.1)) = true then
laws_FnWaitsBounded_j13 v429 x589 x590 v717 true
else
laws_FnWaitsBounded_j13 v429 x589 x590 v717 (decide (v830 ≥ v172.1))
else
some (.inr (.inl x589))
noncomputable def laws_FnWaitsBounded_l8 (v169 : ((Int × Int × Int) × (List (Int × Int × Int)))) (v172 : (Int × Bool)) (v429 : ((List Int) × Bool)) : (Int × Int) → Option (Int ⊕ Bool) := iter (laws_FnWaitsBounded_s8 v169 v172 v429)
noncomputable def laws_FnWaitsBounded_j15 (x886 : Int) : Int → Option ((Int × Int) ⊕ Int) := fun x913 =>
some (.inl (x913, (w64 (x886 + (1 : Int)))))
noncomputable def laws_FnWaitsBounded_j16 (x885 : Int) (x886 : Int) : Bool → Option ((Int × Int) ⊕ Int) := fun x924 =>
if x924 = true then
laws_FnWaitsBounded_j15 x886 (w64 (x885 + (1 : Int)))
else
laws_FnWaitsBounded_j15 x886 x885
noncomputable def laws_FnWaitsBounded_s14 (v169 : ((Int × Int × Int) × (List (Int × Int × Int)))) (v429 : ((List Int) × Bool)) (v838 : Int) : (Int × Int) → Option ((Int × Int) ⊕ Int) := fun (x885, x886) =>
if (decide (x886 < (List.length v169.2 : Int))) = true then
(at? v169.2 x886).bind fun v921 =>
if (decide (v921.1 ≤ (Int.tmod v838 (60 : Int)))) = true then
(at? v429.1 x886).bind fun v929 =>
laws_FnWaitsBounded_j16 x885 x886 (decide (v929 > (Int.tmod v838 (60 : Int))))
else
laws_FnWaitsBounded_j16 x885 x886 false
else
some (.inr x885)
noncomputable def laws_FnWaitsBounded_l14 (v169 : ((Int × Int × Int) × (List (Int × Int × Int)))) (v429 : ((List Int) × Bool)) (v838 : Int) : (Int × Int) → Option Int := iter (laws_FnWaitsBounded_s14 v169 v429 v838)
noncomputable def laws_FnWaitsBounded_j17 (p1 : List Int) : Bool → Option (Bool) := fun x936 =>
if x936 = true then
some false
else
laws_FnWaitsBounded_j2 p1 ()
noncomputable def laws_FnWaitsBounded_j1 (p0 : List Int) (p1 : List Int) (v169 : ((Int × Int × Int) × (List (Int × Int × Int)))) (v170 : (Int × Bool)) (v172 : (Int × Bool)) : Bool → Option (Bool) := fun x184 =>
if x184 = true then
some false
else
if v170.2 = true then
(impl_SentAt v169.1 v169.2).bind fun v429 =>
if (!v429.2) = true then
some false
else
(laws_FnWaitsBounded_l8 v169 v172 v429 ((0 : Int), (0 : Int))).bind fun w => match w with
| .inl x623 =>
if (x623 != v170.1) = true then
some false
else
(some ((w64 ((w64 ((3 : Int) * (List.length p0 : Int))) + (w64 ((7 : Int) * (List.length p1 : Int))))))).bind fun v838 =>
(impl_BacklogAt v169.1 v169.2 ((Int.tmod v838 (60 : Int)))).bind fun v839 =>
(laws_FnWaitsBounded_l14 v169 v429 v838 ((0 : Int), (0 : Int))).bind fun x896 =>
if (!v839.2) = true then
laws_FnWaitsBounded_j17 p1 true
else
(laws_zSum v839.1).bind fun v940 =>
laws_FnWaitsBounded_j17 p1 (v940 != x896)
| .inr r942 =>
some r942
else
laws_FnWaitsBounded_j2 p1 ()
noncomputable def laws_FnWaitsBounded (p0 : List Int) (p1 : List Int) : Option Bool :=
(laws_big p0 p1).bind fun v167 =>
if v167 = true then
some true
else
(spec_DrawLongestWait p0).bind fun v169 =>
(impl_LongestWait v169.1 v169.2).bind fun v170 =>
(spec_LongestWait v169.1 v169.2).bind fun v171 =>
(impl_RestAt v169.1 v169.2).bind fun v172 =>
(spec_RestAt v169.1 v169.2).bind fun v173 =>
if (!(v170.2 == v171.2)) = true then
laws_FnWaitsBounded_j1 p0 p1 v169 v170 v172 true
else
if (v170.1 != v171.1) = true then
laws_FnWaitsBounded_j1 p0 p1 v169 v170 v172 true
else
if (!(v172.2 == v173.2)) = true then
laws_FnWaitsBounded_j1 p0 p1 v169 v170 v172 true
else
if (v172.1 != v173.1) = true then
laws_FnWaitsBounded_j1 p0 p1 v169 v170 v172 true
else
laws_FnWaitsBounded_j1 p0 p1 v169 v170 v172 (!(v172.2 == v170.2))
theorem laws_FnWaitsBounded_ok {p0 : List Int} {p1 : List Int} {o : Bool} (h : laws_FnWaitsBounded p0 p1 = some o) : RN 3 [.ints .u8 p0, .ints .u8 p1] [] = some (.bool o, []) := by
 refine fn_run (o := o) (nr := 0) (F := k3) (st := ⟨entry 0 [.vw [] (.ints .u8 p0), .vw [] (.ints .u8 p1)], fun n => ([] : List T)[n]?, 0⟩) (fun (o : Bool) => (.bool o, [])) z fns_3 z z z ?_
 refine wp_seq ?_
 refine wp_reg (nx' := 16) z (ev_v z z (ev_nil)) (seqQ_n (?_))
 refine wp_seq ?_
 refine wp_gc ?_
 refine wp_seq ?_
 obtain ⟨v167, hv167, h⟩ := bs h
 refine wp_reg (nx' := 64) z (ev_v z z (ev_v z z (ev_call0 [(.vw _ _), (.vw _ _)] z (call_okf (vs' := [(.vw _ _), (.vw _ _)]) z (call_ok (rs := []) (rd := []) z z z z (argL_cons z (argL_cons z (argL_nil))) z z (laws_big_ok hv167) z z z z z)) (ev_nil)))) (seqQ_n (?_))
 rcases its h with ⟨hc168, h⟩ | ⟨hc168, h⟩
 ·refine wp_ct z hc168 ?_
  refine wp_seq ?_
  refine wp_reg (nx' := 80) z (ev_v z z (ev_nil)) (seqQ_n (?_))
  replace h := Option.some.inj h
  subst h
  exact wp_ret (gcQ_r (seqQ_r (qf_r ((outs_ok (vs := [(.vw _ _)]) z (absW_cons z z (absW_nil)) z z)))))
 ·refine wp_cf z hc168 ?_
  refine wp_skip (gcQ_n (gc_to [] (e := [(0, .vw [] (.ints .u8 p0)), (1, .vw [] (.ints .u8 p1))]) (ts := []) (n := 0) z z z z) (seqQ_n (?_)))
  refine wp_seq ?_
  obtain ⟨v169, hv169, h⟩ := bs h
  refine wp_reg (nx' := 128) z (ev_v z z (ev_call0 [(.vw _ _)] z (call_okf (vs' := [(.vw _ _)]) z (call_ok (rs := []) (rd := []) z z z z (argL_cons z (argL_nil)) z z (spec_DrawLongestWait_ok hv169) z z z (bindR_t (bindL_cons (bindR_a (bindL_cons z (bindL_cons z (bindL_cons z (bindL_nil))))) (bindL_cons bindR_r (bindL_nil)))) z)) (ev_den (.tup [(.agg [(.vw _ _), (.vw _ _), (.vw _ _)]), (.ref 16 _ _ _ _)]) z z (ev_den (.agg [(.vw _ _), (.vw _ _), (.vw _ _)]) z z (ev_den (.ref 16 _ _ _ _) z z (ev_new (.ptr 80 [] (some 0)) (.ptr (.agg [.int .i64 ((0 : Int)), .int .i64 ((0 : Int)), .int .i64 ((0 : Int))])) z z (ev_wr0 z (w_st_a z z z (stL_cons (st1_of z z z (get_f z (get_nil)) z (rput_p (put_f z (put_nil)))) z (stL_cons (st1_of z z z (get_f z (get_nil)) z (rput_p (put_f z (put_nil)))) z (stL_cons (st1_of z z z (get_f z (get_nil)) z (rput_p (put_f z (put_nil)))) z (stL_nil))))) (ev_den (.ref 16 _ _ _ _) z z (ev_nil))))))))) (seqQ_n (?_))
  refine wp_seq ?_
  obtain ⟨v170, hv170, h⟩ := bs h
  refine wp_reg (nx' := 256) z (ev_den (.agg [(.vw _ _), (.vw _ _), (.vw _ _)]) z (d_ld_os z (rget_of z (get_nil)) z (cells_cons z (cells_cons z (cells_cons z (cells_nil))))) (ev_den (.ref 16 _ _ _ _) z z (ev_call0 [(.agg [(.vw _ _), (.vw _ _), (.vw _ _)]), (.ref 16 _ _ _ _)] z (call_okf (vs' := [(.agg [(.vw _ _), (.vw _ _), (.vw _ _)]), (.ref 16 _ _ _ _)]) z (call_ok (rs := []) (rd := [16]) z z z z (argL_cons (argT_a (argL_cons z (argL_cons z (argL_cons z (argL_nil))))) (argL_cons (argT_r (rget_of z (get_nil)) sub_r) (argL_nil))) z z (impl_LongestWait_ok hv170) z z z (bindR_t (bindL_cons z (bindL_cons z (bindL_nil)))) z)) (ev_den (.tup [(.vw _ _), (.vw _ _)]) z z (ev_v z z (ev_v z z (ev_v z z (ev_v z z (ev_nil))))))))) (seqQ_n (?_))
  refine wp_seq ?_
  obtain ⟨v171, hv171, h⟩ := bs h
  refine wp_reg (nx' := 384) z (ev_den (.agg [(.vw _ _), (.vw _ _), (.vw _ _)]) z (d_ld_os z (rget_of z (get_nil)) z (cells_cons z (cells_cons z (cells_cons z (cells_nil))))) (ev_den (.ref 16 _ _ _ _) z z (ev_call0 [(.agg [(.vw _ _), (.vw _ _), (.vw _ _)]), (.ref 16 _ _ _ _)] z (call_okf (vs' := [(.agg [(.vw _ _), (.vw _ _), (.vw _ _)]), (.ref 16 _ _ _ _)]) z (call_ok (rs := []) (rd := [16]) z z z z (argL_cons (argT_a (argL_cons z (argL_cons z (argL_cons z (argL_nil))))) (argL_cons (argT_r (rget_of z (get_nil)) sub_r) (argL_nil))) z z (spec_LongestWait_ok hv171) z z z (bindR_t (bindL_cons z (bindL_cons z (bindL_nil)))) z)) (ev_den (.tup [(.vw _ _), (.vw _ _)]) z z (ev_v z z (ev_v z z (ev_v z z (ev_v z z (ev_nil))))))))) (seqQ_n (?_))
  refine wp_seq ?_
  obtain ⟨v172, hv172, h⟩ := bs h
  refine wp_reg (nx' := 512) z (ev_den (.agg [(.vw _ _), (.vw _ _), (.vw _ _)]) z (d_ld_os z (rget_of z (get_nil)) z (cells_cons z (cells_cons z (cells_cons z (cells_nil))))) (ev_den (.ref 16 _ _ _ _) z z (ev_call0 [(.agg [(.vw _ _), (.vw _ _), (.vw _ _)]), (.ref 16 _ _ _ _)] z (call_okf (vs' := [(.agg [(.vw _ _), (.vw _ _), (.vw _ _)]), (.ref 16 _ _ _ _)]) z (call_ok (rs := []) (rd := [16]) z z z z (argL_cons (argT_a (argL_cons z (argL_cons z (argL_cons z (argL_nil))))) (argL_cons (argT_r (rget_of z (get_nil)) sub_r) (argL_nil))) z z (impl_RestAt_ok hv172) z z z (bindR_t (bindL_cons z (bindL_cons z (bindL_nil)))) z)) (ev_den (.tup [(.vw _ _), (.vw _ _)]) z z (ev_v z z (ev_v z z (ev_v z z (ev_v z z (ev_nil))))))))) (seqQ_n (?_))
  refine wp_seq ?_
  obtain ⟨v173, hv173, h⟩ := bs h
  refine wp_reg (nx' := 640) z (ev_den (.agg [(.vw _ _), (.vw _ _), (.vw _ _)]) z (d_ld_os z (rget_of z (get_nil)) z (cells_cons z (cells_cons z (cells_cons z (cells_nil))))) (ev_den (.ref 16 _ _ _ _) z z (ev_call0 [(.agg [(.vw _ _), (.vw _ _), (.vw _ _)]), (.ref 16 _ _ _ _)] z (call_okf (vs' := [(.agg [(.vw _ _), (.vw _ _), (.vw _ _)]), (.ref 16 _ _ _ _)]) z (call_ok (rs := []) (rd := [16]) z z z z (argL_cons (argT_a (argL_cons z (argL_cons z (argL_cons z (argL_nil))))) (argL_cons (argT_r (rget_of z (get_nil)) sub_r) (argL_nil))) z z (spec_RestAt_ok hv173) z z z (bindR_t (bindL_cons z (bindL_cons z (bindL_nil)))) z)) (ev_den (.tup [(.vw _ _), (.vw _ _)]) z z (ev_v z z (ev_v z z (ev_v z z (ev_v z z (ev_nil))))))))) (seqQ_n (?_))
  refine wp_seq ?_
  refine wp_gc ?_
  refine wp_seq ?_
  refine wp_join (laws_FnWaitsBounded_j1 p0 p1 v169 v170 v172) (fun (x184 : Bool) => (⟨al .dead [(0, .vw [] (.ints .u8 p0)), (1, .vw [] (.ints .u8 p1)), (5, .ptr 0 [] (some 0)), (6, .ref 1 [] 3 0 (List.length v169.2)), (7, .vw [] (.int .i64 v170.1)), (8, .vw [] (.bool v170.2)), (11, .vw [] (.int .i64 v172.1)), (131, .vw [] (.bool x184))], hl [some (.ptr (.agg [.int .i64 v169.1.1, .int .i64 v169.1.2.1, .int .i64 v169.1.2.2])), some (.rows 3 (List.map e0 v169.2))], 2⟩ : St)) ?_ ?_
  ·rintro x184 o h
   unfold laws_FnWaitsBounded_j1 at h
   refine seqQ_n (?_)
   rcases its h with ⟨hc185, h⟩ | ⟨hc185, h⟩
   ·refine wp_ct z hc185 ?_
    refine wp_seq ?_
    refine wp_reg (nx' := 18) z (ev_v z z (ev_nil)) (seqQ_n (?_))
    replace h := Option.some.inj h
    subst h
    exact wp_ret (gcQ_r (seqQ_r (qf_r ((outs_ok (vs := [(.vw _ _)]) z (absW_cons z z (absW_nil)) z z)))))
   ·refine wp_cf z hc185 ?_
    refine wp_skip (gcQ_n (gc_to [0, 1] (e := [(0, .vw [] (.ints .u8 p0)), (1, .vw [] (.ints .u8 p1)), (5, .ptr 0 [] (some 0)), (6, .ref 1 [] 3 0 (List.length v169.2)), (7, .vw [] (.int .i64 v170.1)), (8, .vw [] (.bool v170.2)), (11, .vw [] (.int .i64 v172.1))]) (ts := [some (.ptr (.agg [.int .i64 v169.1.1, .int .i64 v169.1.2.1, .int .i64 v169.1.2.2])), some (.rows 3 (List.map e0 v169.2))]) (n := 2) z z z z) (seqQ_n (?_)))
    refine wp_seq ?_
    refine wp_join (laws_FnWaitsBounded_j2 p1) (fun (_ : Unit) => (⟨al .dead [(1, .vw [] (.ints .u8 p1))], hl [], 0⟩ : St)) ?_ ?_
    ·rintro _ o h
     unfold laws_FnWaitsBounded_j2 at h
     refine seqQ_n (?_)
     refine wp_seq ?_
     obtain ⟨v279, hv279, h⟩ := bs h
     refine wp_reg (nx' := 128) z (ev_v z z (ev_call0 [(.vw _ _)] z (call_okf (vs' := [(.vw _ _)]) z (call_ok (rs := []) (rd := []) z z z z (argL_cons z (argL_nil)) z z (spec_DrawFullCalls_ok hv279) z z z (bindR_t (bindL_cons (bindR_a (bindL_cons z (bindL_cons z (bindL_cons z (bindL_nil))))) (bindL_cons z (bindL_nil)))) z)) (ev_den (.tup [(.agg [(.vw _ _), (.vw _ _), (.vw _ _)]), (.vw _ _)]) z z (ev_den (.agg [(.vw _ _), (.vw _ _), (.vw _ _)]) z z (ev_v z z (ev_new (.ptr 80 [] (some 0)) (.ptr (.agg [.int .i64 ((0 : Int)), .int .i64 ((0 : Int)), .int .i64 ((0 : Int))])) z z (ev_wr0 z (w_st_a z z z (stL_cons (st1_of z z z (get_f z (get_nil)) z (rput_p (put_f z (put_nil)))) z (stL_cons (st1_of z z z (get_f z (get_nil)) z (rput_p (put_f z (put_nil)))) z (stL_cons (st1_of z z z (get_f z (get_nil)) z (rput_p (put_f z (put_nil)))) z (stL_nil))))) (ev_v z z (ev_nil))))))))) (seqQ_n (?_))
     refine wp_seq ?_
     obtain ⟨v280, hv280, h⟩ := bs h
     refine wp_reg (nx' := 256) z (ev_den (.agg [(.vw _ _), (.vw _ _), (.vw _ _)]) z (d_ld_os z (rget_of z (get_nil)) z (cells_cons z (cells_cons z (cells_cons z (cells_nil))))) (ev_v z z (ev_call0 [(.agg [(.vw _ _), (.vw _ _), (.vw _ _)]), (.vw _ _)] z (call_okf (vs' := [(.agg [(.vw _ _), (.vw _ _), (.vw _ _)]), (.vw _ _)]) z (call_ok (rs := []) (rd := []) z z z z (argL_cons (argT_a (argL_cons z (argL_cons z (argL_cons z (argL_nil))))) (argL_cons z (argL_nil))) z z (impl_FullCalls_ok hv280) z z z (bindR_t (bindL_cons bindR_r (bindL_cons z (bindL_nil)))) z)) (ev_den (.tup [(.ref 160 _ _ _ _), (.vw _ _)]) z z (ev_den (.ref 160 _ _ _ _) z z (ev_v z z (ev_den (.ref 160 _ _ _ _) z z (ev_v z z (ev_nil))))))))) (seqQ_n (?_))
     refine wp_seq ?_
     obtain ⟨v281, hv281, h⟩ := bs h
     refine wp_reg (nx' := 384) z (ev_den (.agg [(.vw _ _), (.vw _ _), (.vw _ _)]) z (d_ld_os z (rget_of z (get_nil)) z (cells_cons z (cells_cons z (cells_cons z (cells_nil))))) (ev_v z z (ev_call0 [(.agg [(.vw _ _), (.vw _ _), (.vw _ _)]), (.vw _ _)] z (call_okf (vs' := [(.agg [(.vw _ _), (.vw _ _), (.vw _ _)]), (.vw _ _)]) z (call_ok (rs := []) (rd := []) z z z z (argL_cons (argT_a (argL_cons z (argL_cons z (argL_cons z (argL_nil))))) (argL_cons z (argL_nil))) z z (spec_FullCalls_ok hv281) z z z (bindR_t (bindL_cons bindR_r (bindL_cons z (bindL_nil)))) z)) (ev_den (.tup [(.ref 288 _ _ _ _), (.vw _ _)]) z z (ev_den (.ref 288 _ _ _ _) z z (ev_v z z (ev_den (.ref 288 _ _ _ _) z z (ev_v z z (ev_nil))))))))) (seqQ_n (?_))
     refine wp_seq ?_
     obtain ⟨v282, hv282, h⟩ := bs h
     refine wp_reg (nx' := 512) z (ev_v z z (ev_call0 [(.vw _ _)] z (call_okf (vs' := [(.vw _ _)]) z (call_ok (rs := []) (rd := []) z z z z (argL_cons z (argL_nil)) z z (spec_DrawFullShares_ok hv282) z z z (bindR_t (bindL_cons (bindR_a (bindL_cons z (bindL_cons z (bindL_cons z (bindL_nil))))) (bindL_cons z (bindL_nil)))) z)) (ev_den (.tup [(.agg [(.vw _ _), (.vw _ _), (.vw _ _)]), (.vw _ _)]) z z (ev_den (.agg [(.vw _ _), (.vw _ _), (.vw _ _)]) z z (ev_v z z (ev_new (.ptr 464 [] (some 0)) (.ptr (.agg [.int .i64 ((0 : Int)), .int .i64 ((0 : Int)), .int .i64 ((0 : Int))])) z z (ev_wr0 z (w_st_a z z z (stL_cons (st1_of z z z (get_f z (get_nil)) z (rput_p (put_f z (put_nil)))) z (stL_cons (st1_of z z z (get_f z (get_nil)) z (rput_p (put_f z (put_nil)))) z (stL_cons (st1_of z z z (get_f z (get_nil)) z (rput_p (put_f z (put_nil)))) z (stL_nil))))) (ev_v z z (ev_nil))))))))) (seqQ_n (?_))
     refine wp_seq ?_
     obtain ⟨v283, hv283, h⟩ := bs h
     refine wp_reg (nx' := 640) z (ev_den (.agg [(.vw _ _), (.vw _ _), (.vw _ _)]) z (d_ld_os z (rget_of z (get_nil)) z (cells_cons z (cells_cons z (cells_cons z (cells_nil))))) (ev_v z z (ev_call0 [(.agg [(.vw _ _), (.vw _ _), (.vw _ _)]), (.vw _ _)] z (call_okf (vs' := [(.agg [(.vw _ _), (.vw _ _), (.vw _ _)]), (.vw _ _)]) z (call_ok (rs := []) (rd := []) z z z z (argL_cons (argT_a (argL_cons z (argL_cons z (argL_cons z (argL_nil))))) (argL_cons z (argL_nil))) z z (impl_FullShares_ok hv283) z z z (bindR_t (bindL_cons z (bindL_cons z (bindL_nil)))) z)) (ev_den (.tup [(.ref 544 _ _ _ _), (.vw _ _)]) z z (ev_den (.ref 544 _ _ _ _) z z (ev_v z z (ev_den (.ref 544 _ _ _ _) z z (ev_v z z (ev_nil))))))))) (seqQ_n (?_))
     refine wp_seq ?_
     obtain ⟨v284, hv284, h⟩ := bs h
     refine wp_reg (nx' := 768) z (ev_den (.agg [(.vw _ _), (.vw _ _), (.vw _ _)]) z (d_ld_os z (rget_of z (get_nil)) z (cells_cons z (cells_cons z (cells_cons z (cells_nil))))) (ev_v z z (ev_call0 [(.agg [(.vw _ _), (.vw _ _), (.vw _ _)]), (.vw _ _)] z (call_okf (vs' := [(.agg [(.vw _ _), (.vw _ _), (.vw _ _)]), (.vw _ _)]) z (call_ok (rs := []) (rd := []) z z z z (argL_cons (argT_a (argL_cons z (argL_cons z (argL_cons z (argL_nil))))) (argL_cons z (argL_nil))) z z (spec_FullShares_ok hv284) z z z (bindR_t (bindL_cons z (bindL_cons z (bindL_nil)))) z)) (ev_den (.tup [(.ref 672 _ _ _ _), (.vw _ _)]) z z (ev_den (.ref 672 _ _ _ _) z z (ev_v z z (ev_den (.ref 672 _ _ _ _) z z (ev_v z z (ev_nil))))))))) (seqQ_n (?_))
     refine wp_seq ?_
     refine wp_gc ?_
     refine wp_seq ?_
     refine wp_join (laws_FnWaitsBounded_j3 p1 v279 v280) (fun (x297 : Bool) => (⟨al .dead [(1, .vw [] (.ints .u8 p1)), (30, .ptr 0 [] (some 0)), (31, .vw [] (.int .i64 v279.2)), (32, .ref 1 [] 3 0 (List.length v280.1)), (33, .vw [] (.bool v280.2)), (317, .vw [] (.bool x297))], hl [some (.ptr (.agg [.int .i64 v279.1.1, .int .i64 v279.1.2.1, .int .i64 v279.1.2.2])), some (.rows 3 (List.map e0 v280.1))], 2⟩ : St)) ?_ ?_
     ·rintro x297 o h
      unfold laws_FnWaitsBounded_j3 at h
      refine seqQ_n (?_)
      rcases its h with ⟨hc298, h⟩ | ⟨hc298, h⟩
      ·refine wp_ct z hc298 ?_
       refine wp_seq ?_
       refine wp_reg (nx' := 18) z (ev_v z z (ev_nil)) (seqQ_n (?_))
       replace h := Option.some.inj h
       subst h
       exact wp_ret (gcQ_r (seqQ_r (qf_r ((outs_ok (vs := [(.vw _ _)]) z (absW_cons z z (absW_nil)) z z)))))
      ·refine wp_cf z hc298 ?_
       refine wp_skip (gcQ_n (gc_to [0, 1] (e := [(1, .vw [] (.ints .u8 p1)), (30, .ptr 0 [] (some 0)), (31, .vw [] (.int .i64 v279.2)), (32, .ref 1 [] 3 0 (List.length v280.1)), (33, .vw [] (.bool v280.2))]) (ts := [some (.ptr (.agg [.int .i64 v279.1.1, .int .i64 v279.1.2.1, .int .i64 v279.1.2.2])), some (.rows 3 (List.map e0 v280.1))]) (n := 2) z z z z) (seqQ_n (?_)))
       refine wp_seq ?_
       refine wp_join (laws_FnWaitsBounded_j4 p1) (fun (_ : Unit) => (⟨al .dead [(1, .vw [] (.ints .u8 p1))], hl [], 0⟩ : St)) ?_ ?_
       ·rintro _ o h
        unfold laws_FnWaitsBounded_j4 at h
        refine seqQ_n (?_)
        refine wp_seq ?_
        obtain ⟨v319, hv319, h⟩ := bs h
        refine wp_reg (nx' := 160) z (ev_v z z (ev_call0 [(.vw _ _)] z (call_okf (vs' := [(.vw _ _)]) z (call_ok (rs := []) (rd := []) z z z z (argL_cons z (argL_nil)) z z (spec_DrawTokenAt_ok hv319) z z z (bindR_t (bindL_cons (bindR_a (bindL_cons z (bindL_cons z (bindL_cons z (bindL_nil))))) (bindL_cons bindR_r (bindL_cons z (bindL_nil))))) z)) (ev_den (.tup [(.agg [(.vw _ _), (.vw _ _), (.vw _ _)]), (.ref 16 _ _ _ _), (.vw _ _)]) z z (ev_den (.agg [(.vw _ _), (.vw _ _), (.vw _ _)]) z z (ev_den (.ref 16 _ _ _ _) z z (ev_v z z (ev_new (.ptr 96 [] (some 0)) (.ptr (.agg [.int .i64 ((0 : Int)), .int .i64 ((0 : Int)), .int .i64 ((0 : Int))])) z z (ev_wr0 z (w_st_a z z z (stL_cons (st1_of z z z (get_f z (get_nil)) z (rput_p (put_f z (put_nil)))) z (stL_cons (st1_of z z z (get_f z (get_nil)) z (rput_p (put_f z (put_nil)))) z (stL_cons (st1_of z z z (get_f z (get_nil)) z (rput_p (put_f z (put_nil)))) z (stL_nil))))) (ev_den (.ref 16 _ _ _ _) z z (ev_v z z (ev_nil))))))))))) (seqQ_n (?_))
        refine wp_seq ?_
        obtain ⟨v320, hv320, h⟩ := bs h
        refine wp_reg (nx' := 304) z (ev_den (.agg [(.vw _ _), (.vw _ _), (.vw _ _)]) z (d_ld_os z (rget_of z (get_nil)) z (cells_cons z (cells_cons z (cells_cons z (cells_nil))))) (ev_den (.ref 16 _ _ _ _) z z (ev_v z z (ev_call0 [(.agg [(.vw _ _), (.vw _ _), (.vw _ _)]), (.ref 16 _ _ _ _), (.vw _ _)] z (call_okf (vs' := [(.agg [(.vw _ _), (.vw _ _), (.vw _ _)]), (.ref 16 _ _ _ _), (.vw _ _)]) z (call_ok (rs := []) (rd := [16]) z z z z (argL_cons (argT_a (argL_cons z (argL_cons z (argL_cons z (argL_nil))))) (argL_cons (argT_r (rget_of z (get_nil)) sub_r) (argL_cons z (argL_nil)))) z z (impl_TokenAt_ok hv320) z z z (bindR_t (bindL_cons z (bindL_cons z (bindL_nil)))) z)) (ev_den (.tup [(.vw _ _), (.vw _ _)]) z z (ev_v z z (ev_v z z (ev_v z z (ev_v z z (ev_nil)))))))))) (seqQ_n (?_))
        refine wp_seq ?_
        obtain ⟨v321, hv321, h⟩ := bs h
        refine wp_reg (nx' := 448) z (ev_den (.agg [(.vw _ _), (.vw _ _), (.vw _ _)]) z (d_ld_os z (rget_of z (get_nil)) z (cells_cons z (cells_cons z (cells_cons z (cells_nil))))) (ev_den (.ref 16 _ _ _ _) z z (ev_v z z (ev_call0 [(.agg [(.vw _ _), (.vw _ _), (.vw _ _)]), (.ref 16 _ _ _ _), (.vw _ _)] z (call_okf (vs' := [(.agg [(.vw _ _), (.vw _ _), (.vw _ _)]), (.ref 16 _ _ _ _), (.vw _ _)]) z (call_ok (rs := []) (rd := [16]) z z z z (argL_cons (argT_a (argL_cons z (argL_cons z (argL_cons z (argL_nil))))) (argL_cons (argT_r (rget_of z (get_nil)) sub_r) (argL_cons z (argL_nil)))) z z (spec_TokenAt_ok hv321) z z z (bindR_t (bindL_cons z (bindL_cons z (bindL_nil)))) z)) (ev_den (.tup [(.vw _ _), (.vw _ _)]) z z (ev_v z z (ev_v z z (ev_v z z (ev_v z z (ev_nil)))))))))) (seqQ_n (?_))
        refine wp_seq ?_
        obtain ⟨v322, hv322, h⟩ := bs h
        refine wp_reg (nx' := 608) z (ev_v z z (ev_call0 [(.vw _ _)] z (call_okf (vs' := [(.vw _ _)]) z (call_ok (rs := []) (rd := []) z z z z (argL_cons z (argL_nil)) z z (spec_DrawBacklogAt_ok hv322) z z z (bindR_t (bindL_cons (bindR_a (bindL_cons z (bindL_cons z (bindL_cons z (bindL_nil))))) (bindL_cons bindR_r (bindL_cons z (bindL_nil))))) z)) (ev_den (.tup [(.agg [(.vw _ _), (.vw _ _), (.vw _ _)]), (.ref 464 _ _ _ _), (.vw _ _)]) z z (ev_den (.agg [(.vw _ _), (.vw _ _), (.vw _ _)]) z z (ev_den (.ref 464 _ _ _ _) z z (ev_v z z (ev_new (.ptr 544 [] (some 0)) (.ptr (.agg [.int .i64 ((0 : Int)), .int .i64 ((0 : Int)), .int .i64 ((0 : Int))])) z z (ev_wr0 z (w_st_a z z z (stL_cons (st1_of z z z (get_f z (get_nil)) z (rput_p (put_f z (put_nil)))) z (stL_cons (st1_of z z z (get_f z (get_nil)) z (rput_p (put_f z (put_nil)))) z (stL_cons (st1_of z z z (get_f z (get_nil)) z (rput_p (put_f z (put_nil)))) z (stL_nil))))) (ev_den (.ref 464 _ _ _ _) z z (ev_v z z (ev_nil))))))))))) (seqQ_n (?_))
        refine wp_seq ?_
        obtain ⟨v323, hv323, h⟩ := bs h
        refine wp_reg (nx' := 752) z (ev_den (.agg [(.vw _ _), (.vw _ _), (.vw _ _)]) z (d_ld_os z (rget_of z (get_nil)) z (cells_cons z (cells_cons z (cells_cons z (cells_nil))))) (ev_den (.ref 464 _ _ _ _) z z (ev_v z z (ev_call0 [(.agg [(.vw _ _), (.vw _ _), (.vw _ _)]), (.ref 464 _ _ _ _), (.vw _ _)] z (call_okf (vs' := [(.agg [(.vw _ _), (.vw _ _), (.vw _ _)]), (.ref 464 _ _ _ _), (.vw _ _)]) z (call_ok (rs := []) (rd := [464]) z z z z (argL_cons (argT_a (argL_cons z (argL_cons z (argL_cons z (argL_nil))))) (argL_cons (argT_r (rget_of z (get_nil)) sub_r) (argL_cons z (argL_nil)))) z z (impl_BacklogAt_ok hv323) z z (by simp [T.open_, T.noSh, noShL, ns_ints, ns_bool, ns_str, ns_e0]) (bindR_t (bindL_cons z (bindL_cons z (bindL_nil)))) z)) (ev_den (.tup [(.ref 656 _ _ _ _), (.vw _ _)]) z z (ev_den (.ref 656 _ _ _ _) z z (ev_v z z (ev_den (.ref 656 _ _ _ _) z z (ev_v z z (ev_nil)))))))))) (seqQ_n (?_))
        refine wp_seq ?_
        obtain ⟨v324, hv324, h⟩ := bs h
        refine wp_reg (nx' := 896) z (ev_den (.agg [(.vw _ _), (.vw _ _), (.vw _ _)]) z (d_ld_os z (rget_of z (get_nil)) z (cells_cons z (cells_cons z (cells_cons z (cells_nil))))) (ev_den (.ref 464 _ _ _ _) z z (ev_v z z (ev_call0 [(.agg [(.vw _ _), (.vw _ _), (.vw _ _)]), (.ref 464 _ _ _ _), (.vw _ _)] z (call_okf (vs' := [(.agg [(.vw _ _), (.vw _ _), (.vw _ _)]), (.ref 464 _ _ _ _), (.vw _ _)]) z (call_ok (rs := []) (rd := [464]) z z z z (argL_cons (argT_a (argL_cons z (argL_cons z (argL_cons z (argL_nil))))) (argL_cons (argT_r (rget_of z (get_nil)) sub_r) (argL_cons z (argL_nil)))) z z (spec_BacklogAt_ok hv324) z z (by simp [T.open_, T.noSh, noShL, ns_ints, ns_bool, ns_str, ns_e0]) (bindR_t (bindL_cons z (bindL_cons z (bindL_nil)))) z)) (ev_den (.tup [(.ref 800 _ _ _ _), (.vw _ _)]) z z (ev_den (.ref 800 _ _ _ _) z z (ev_v z z (ev_den (.ref 800 _ _ _ _) z z (ev_v z z (ev_nil)))))))))) (seqQ_n (?_))
        refine wp_seq ?_
        obtain ⟨v325, hv325, h⟩ := bs h
        refine wp_reg (nx' := 1024) z (ev_v z z (ev_call0 [(.vw _ _)] z (call_okf (vs' := [(.vw _ _)]) z (call_ok (rs := []) (rd := []) z z z z (argL_cons z (argL_nil)) z z (spec_DrawWaitBound_ok hv325) z z z (bindR_t (bindL_cons (bindR_a (bindL_cons z (bindL_cons z (bindL_cons z (bindL_nil))))) (bindL_cons z (bindL_nil)))) z)) (ev_den (.tup [(.agg [(.vw _ _), (.vw _ _), (.vw _ _)]), (.vw _ _)]) z z (ev_den (.agg [(.vw _ _), (.vw _ _), (.vw _ _)]) z z (ev_v z z (ev_new (.ptr 976 [] (some 0)) (.ptr (.agg [.int .i64 ((0 : Int)), .int .i64 ((0 : Int)), .int .i64 ((0 : Int))])) z z (ev_wr0 z (w_st_a z z z (stL_cons (st1_of z z z (get_f z (get_nil)) z (rput_p (put_f z (put_nil)))) z (stL_cons (st1_of z z z (get_f z (get_nil)) z (rput_p (put_f z (put_nil)))) z (stL_cons (st1_of z z z (get_f z (get_nil)) z (rput_p (put_f z (put_nil)))) z (stL_nil))))) (ev_v z z (ev_nil))))))))) (seqQ_n (?_))
        refine wp_seq ?_
        obtain ⟨v326, hv326, h⟩ := bs h
        refine wp_reg (nx' := 1152) z (ev_den (.agg [(.vw _ _), (.vw _ _), (.vw _ _)]) z (d_ld_os z (rget_of z (get_nil)) z (cells_cons z (cells_cons z (cells_cons z (cells_nil))))) (ev_v z z (ev_call0 [(.agg [(.vw _ _), (.vw _ _), (.vw _ _)]), (.vw _ _)] z (call_okf (vs' := [(.agg [(.vw _ _), (.vw _ _), (.vw _ _)]), (.vw _ _)]) z (call_ok (rs := []) (rd := []) z z z z (argL_cons (argT_a (argL_cons z (argL_cons z (argL_cons z (argL_nil))))) (argL_cons z (argL_nil))) z z (impl_WaitBound_ok hv326) z z z (bindR_t (bindL_cons z (bindL_cons z (bindL_nil)))) z)) (ev_den (.tup [(.vw _ _), (.vw _ _)]) z z (ev_v z z (ev_v z z (ev_v z z (ev_v z z (ev_nil))))))))) (seqQ_n (?_))
        refine wp_seq ?_
        obtain ⟨v327, hv327, h⟩ := bs h
        refine wp_reg (nx' := 1280) z (ev_den (.agg [(.vw _ _), (.vw _ _), (.vw _ _)]) z (d_ld_os z (rget_of z (get_nil)) z (cells_cons z (cells_cons z (cells_cons z (cells_nil))))) (ev_v z z (ev_call0 [(.agg [(.vw _ _), (.vw _ _), (.vw _ _)]), (.vw _ _)] z (call_okf (vs' := [(.agg [(.vw _ _), (.vw _ _), (.vw _ _)]), (.vw _ _)]) z (call_ok (rs := []) (rd := []) z z z z (argL_cons (argT_a (argL_cons z (argL_cons z (argL_cons z (argL_nil))))) (argL_cons z (argL_nil))) z z (spec_WaitBound_ok hv327) z z z (bindR_t (bindL_cons z (bindL_cons z (bindL_nil)))) z)) (ev_den (.tup [(.vw _ _), (.vw _ _)]) z z (ev_v z z (ev_v z z (ev_v z z (ev_v z z (ev_nil))))))))) (seqQ_n (?_))
        refine wp_seq ?_
        obtain ⟨v328, hv328, h⟩ := bs h
        refine wp_reg (nx' := 1344) z (ev_v z z (ev_call0 [(.vw _ _)] z (call_okf (vs' := [(.vw _ _)]) z (call_ok (rs := []) (rd := []) z z z z (argL_cons z (argL_nil)) z z (spec_DrawLongestRound_ok hv328) z z z (bindR_a (bindL_cons z (bindL_cons z (bindL_cons z (bindL_nil))))) z)) (ev_new (.ptr 1312 [] (some 0)) (.ptr (.agg [.int .i64 ((0 : Int)), .int .i64 ((0 : Int)), .int .i64 ((0 : Int))])) z z (ev_wr0 z (w_st_a z z z (stL_cons (st1_of z z z (get_f z (get_nil)) z (rput_p (put_f z (put_nil)))) z (stL_cons (st1_of z z z (get_f z (get_nil)) z (rput_p (put_f z (put_nil)))) z (stL_cons (st1_of z z z (get_f z (get_nil)) z (rput_p (put_f z (put_nil)))) z (stL_nil))))) (ev_nil))))) (seqQ_n (?_))
        refine wp_seq ?_
        obtain ⟨v329, hv329, h⟩ := bs h
        refine wp_reg (nx' := 1456) z (ev_den (.agg [(.vw _ _), (.vw _ _), (.vw _ _)]) z (d_ld_os z (rget_of z (get_nil)) z (cells_cons z (cells_cons z (cells_cons z (cells_nil))))) (ev_call0 [(.agg [(.vw _ _), (.vw _ _), (.vw _ _)])] z (call_okf (vs' := [(.agg [(.vw _ _), (.vw _ _), (.vw _ _)])]) z (call_ok (rs := []) (rd := []) z z z z (argL_cons (argT_a (argL_cons z (argL_cons z (argL_cons z (argL_nil))))) (argL_nil)) z z (impl_LongestRound_ok hv329) z z z (bindR_t (bindL_cons z (bindL_cons z (bindL_nil)))) z)) (ev_den (.tup [(.vw _ _), (.vw _ _)]) z z (ev_v z z (ev_v z z (ev_v z z (ev_v z z (ev_nil)))))))) (seqQ_n (?_))
        refine wp_seq ?_
        obtain ⟨v330, hv330, h⟩ := bs h
        refine wp_reg (nx' := 1568) z (ev_den (.agg [(.vw _ _), (.vw _ _), (.vw _ _)]) z (d_ld_os z (rget_of z (get_nil)) z (cells_cons z (cells_cons z (cells_cons z (cells_nil))))) (ev_call0 [(.agg [(.vw _ _), (.vw _ _), (.vw _ _)])] z (call_okf (vs' := [(.agg [(.vw _ _), (.vw _ _), (.vw _ _)])]) z (call_ok (rs := []) (rd := []) z z z z (argL_cons (argT_a (argL_cons z (argL_cons z (argL_cons z (argL_nil))))) (argL_nil)) z z (spec_LongestRound_ok hv330) z z z (bindR_t (bindL_cons z (bindL_cons z (bindL_nil)))) z)) (ev_den (.tup [(.vw _ _), (.vw _ _)]) z z (ev_v z z (ev_v z z (ev_v z z (ev_v z z (ev_nil)))))))) (seqQ_n (?_))
        refine wp_seq ?_
        obtain ⟨v331, hv331, h⟩ := bs h
        refine wp_reg (nx' := 1680) z (ev_den (.agg [(.vw _ _), (.vw _ _), (.vw _ _)]) z (d_ld_os z (rget_of z (get_nil)) z (cells_cons z (cells_cons z (cells_cons z (cells_nil))))) (ev_call0 [(.agg [(.vw _ _), (.vw _ _), (.vw _ _)])] z (call_okf (vs' := [(.agg [(.vw _ _), (.vw _ _), (.vw _ _)])]) z (call_ok (rs := []) (rd := []) z z z z (argL_cons (argT_a (argL_cons z (argL_cons z (argL_cons z (argL_nil))))) (argL_nil)) z z (impl_IdleRound_ok hv331) z z z (bindR_t (bindL_cons z (bindL_cons z (bindL_nil)))) z)) (ev_den (.tup [(.vw _ _), (.vw _ _)]) z z (ev_v z z (ev_v z z (ev_v z z (ev_v z z (ev_nil)))))))) (seqQ_n (?_))
        refine wp_seq ?_
        obtain ⟨v332, hv332, h⟩ := bs h
        refine wp_reg (nx' := 1792) z (ev_den (.agg [(.vw _ _), (.vw _ _), (.vw _ _)]) z (d_ld_os z (rget_of z (get_nil)) z (cells_cons z (cells_cons z (cells_cons z (cells_nil))))) (ev_call0 [(.agg [(.vw _ _), (.vw _ _), (.vw _ _)])] z (call_okf (vs' := [(.agg [(.vw _ _), (.vw _ _), (.vw _ _)])]) z (call_ok (rs := []) (rd := []) z z z z (argL_cons (argT_a (argL_cons z (argL_cons z (argL_cons z (argL_nil))))) (argL_nil)) z z (spec_IdleRound_ok hv332) z z z (bindR_t (bindL_cons z (bindL_cons z (bindL_nil)))) z)) (ev_den (.tup [(.vw _ _), (.vw _ _)]) z z (ev_v z z (ev_v z z (ev_v z z (ev_v z z (ev_nil)))))))) (seqQ_n (?_))
        refine wp_seq ?_
        refine wp_gc ?_
        rcases its h with ⟨hc344, h⟩ | ⟨hc344, h⟩
        ·rcases its h with ⟨hc345, h⟩ | ⟨hc345, h⟩
         ·rcases its h with ⟨hc346, h⟩ | ⟨hc346, h⟩
          ·obtain ⟨v347, hv347, h⟩ := bs h
           rcases its h with ⟨hc348, h⟩ | ⟨hc348, h⟩
           ·rcases its h with ⟨hc349, h⟩ | ⟨hc349, h⟩
            ·rcases its h with ⟨hc350, h⟩ | ⟨hc350, h⟩
             ·rcases its h with ⟨hc351, h⟩ | ⟨hc351, h⟩
              ·rcases its h with ⟨hc352, h⟩ | ⟨hc352, h⟩
               ·rcases its h with ⟨hc353, h⟩ | ⟨hc353, h⟩
                ·rcases its h with ⟨hc354, h⟩ | ⟨hc354, h⟩
                 ·refine wp_reg (nx' := 2656) z (ev_v z z (ev_v z z (ev_v z z (ev_v z z (ev_on z hc344 (ev_v z z (ev_on z hc344 (ev_v z z (ev_on z hc344 (ev_v z z (ev_v z (d_pick_t z hc344 z) (ev_v z z (ev_on z hc345 (ev_v z z (ev_on z hc345 (ev_v z z (ev_on z hc345 (ev_v z z (ev_v z (d_pick_t z hc345 z) (ev_v z z (ev_on z hc346 (ev_den (.ref 656 _ _ _ _) z z (ev_on z hc346 (ev_den (.ref 800 _ _ _ _) z z (ev_on z hc346 (ev_call0 [(.ref 656 _ _ _ _), (.ref 800 _ _ _ _)] z (call_okf (vs' := [(.ref 656 _ _ _ _), (.ref 800 _ _ _ _)]) z (call_ok (rs := []) (rd := [656, 800]) z z z z (argL_cons (argT_r (rget_of z (get_nil)) sub_i) (argL_cons (argT_r (rget_of z (get_nil)) sub_i) (argL_nil))) z z (laws_zSame_ok hv347) z z z z z)) (ev_v z (d_pick_t z hc346 z) (ev_v z z (ev_on z hc348 (ev_v z z (ev_on z hc348 (ev_v z z (ev_on z hc348 (ev_v z z (ev_v z (d_pick_t z hc348 z) (ev_v z z (ev_on z hc349 (ev_v z z (ev_on z hc349 (ev_v z z (ev_on z hc349 (ev_v z z (ev_v z (d_pick_t z hc349 z) (ev_v z z (ev_on z hc350 (ev_v z z (ev_on z hc350 (ev_v z z (ev_on z hc350 (ev_v z z (ev_v z (d_pick_t z hc350 z) (ev_v z z (ev_on z hc351 (ev_v z z (ev_on z hc351 (ev_v z z (ev_on z hc351 (ev_v z z (ev_v z (d_pick_t z hc351 z) (ev_v z z (ev_on z hc352 (ev_v z z (ev_on z hc352 (ev_v z z (ev_on z hc352 (ev_v z z (ev_v z (d_pick_t z hc352 z) (ev_v z z (ev_on z hc353 (ev_v z z (ev_on z hc353 (ev_v z z (ev_on z hc353 (ev_v z z (ev_v z (d_pick_t z hc353 z) (ev_v z z (ev_on z hc354 (ev_v z z (ev_on z hc354 (ev_v z z (ev_on z hc354 (ev_v z z (ev_v z (d_pick_t z hc354 z) (ev_v z z (ev_nil))))))))))))))))))))))))))))))))))))))))))))))))))))))))))))))))))))))))))))))))))))) (gcQ_n (gc_to [] (e := [(4, .vw [] (.bool ((decide (v331.1 ≤ v329.1)))))]) (ts := []) (n := 0) z z z z) (seqQ_n (?_)))
                  replace h := Option.some.inj h
                  subst h
                  exact wp_ret (qf_r ((outs_ok (vs := [(.vw _ _)]) z (absW_cons z z (absW_nil)) z z)))
                 ·refine wp_reg (nx' := 2656) z (ev_v z z (ev_v z z (ev_v z z (ev_v z z (ev_on z hc344 (ev_v z z (ev_on z hc344 (ev_v z z (ev_on z hc344 (ev_v z z (ev_v z (d_pick_t z hc344 z) (ev_v z z (ev_on z hc345 (ev_v z z (ev_on z hc345 (ev_v z z (ev_on z hc345 (ev_v z z (ev_v z (d_pick_t z hc345 z) (ev_v z z (ev_on z hc346 (ev_den (.ref 656 _ _ _ _) z z (ev_on z hc346 (ev_den (.ref 800 _ _ _ _) z z (ev_on z hc346 (ev_call0 [(.ref 656 _ _ _ _), (.ref 800 _ _ _ _)] z (call_okf (vs' := [(.ref 656 _ _ _ _), (.ref 800 _ _ _ _)]) z (call_ok (rs := []) (rd := [656, 800]) z z z z (argL_cons (argT_r (rget_of z (get_nil)) sub_i) (argL_cons (argT_r (rget_of z (get_nil)) sub_i) (argL_nil))) z z (laws_zSame_ok hv347) z z z z z)) (ev_v z (d_pick_t z hc346 z) (ev_v z z (ev_on z hc348 (ev_v z z (ev_on z hc348 (ev_v z z (ev_on z hc348 (ev_v z z (ev_v z (d_pick_t z hc348 z) (ev_v z z (ev_on z hc349 (ev_v z z (ev_on z hc349 (ev_v z z (ev_on z hc349 (ev_v z z (ev_v z (d_pick_t z hc349 z) (ev_v z z (ev_on z hc350 (ev_v z z (ev_on z hc350 (ev_v z z (ev_on z hc350 (ev_v z z (ev_v z (d_pick_t z hc350 z) (ev_v z z (ev_on z hc351 (ev_v z z (ev_on z hc351 (ev_v z z (ev_on z hc351 (ev_v z z (ev_v z (d_pick_t z hc351 z) (ev_v z z (ev_on z hc352 (ev_v z z (ev_on z hc352 (ev_v z z (ev_on z hc352 (ev_v z z (ev_v z (d_pick_t z hc352 z) (ev_v z z (ev_on z hc353 (ev_v z z (ev_on z hc353 (ev_v z z (ev_on z hc353 (ev_v z z (ev_v z (d_pick_t z hc353 z) (ev_v z z (ev_off z hc354 (ev_off z hc354 (ev_off z hc354 (ev_v z (d_pick_f z hc354 z) (ev_v z z (ev_nil)))))))))))))))))))))))))))))))))))))))))))))))))))))))))))))))))))))))))))))))))) (gcQ_n (gc_to [] (e := [(4, .vw [] (.bool false))]) (ts := []) (n := 0) z z z z) (seqQ_n (?_)))
                  replace h := Option.some.inj h
                  subst h
                  exact wp_ret (qf_r ((outs_ok (vs := [(.vw _ _)]) z (absW_cons z z (absW_nil)) z z)))
                ·refine wp_reg (nx' := 2656) z (ev_v z z (ev_v z z (ev_v z z (ev_v z z (ev_on z hc344 (ev_v z z (ev_on z hc344 (ev_v z z (ev_on z hc344 (ev_v z z (ev_v z (d_pick_t z hc344 z) (ev_v z z (ev_on z hc345 (ev_v z z (ev_on z hc345 (ev_v z z (ev_on z hc345 (ev_v z z (ev_v z (d_pick_t z hc345 z) (ev_v z z (ev_on z hc346 (ev_den (.ref 656 _ _ _ _) z z (ev_on z hc346 (ev_den (.ref 800 _ _ _ _) z z (ev_on z hc346 (ev_call0 [(.ref 656 _ _ _ _), (.ref 800 _ _ _ _)] z (call_okf (vs' := [(.ref 656 _ _ _ _), (.ref 800 _ _ _ _)]) z (call_ok (rs := []) (rd := [656, 800]) z z z z (argL_cons (argT_r (rget_of z (get_nil)) sub_i) (argL_cons (argT_r (rget_of z (get_nil)) sub_i) (argL_nil))) z z (laws_zSame_ok hv347) z z z z z)) (ev_v z (d_pick_t z hc346 z) (ev_v z z (ev_on z hc348 (ev_v z z (ev_on z hc348 (ev_v z z (ev_on z hc348 (ev_v z z (ev_v z (d_pick_t z hc348 z) (ev_v z z (ev_on z hc349 (ev_v z z (ev_on z hc349 (ev_v z z (ev_on z hc349 (ev_v z z (ev_v z (d_pick_t z hc349 z) (ev_v z z (ev_on z hc350 (ev_v z z (ev_on z hc350 (ev_v z z (ev_on z hc350 (ev_v z z (ev_v z (d_pick_t z hc350 z) (ev_v z z (ev_on z hc351 (ev_v z z (ev_on z hc351 (ev_v z z (ev_on z hc351 (ev_v z z (ev_v z (d_pick_t z hc351 z) (ev_v z z (ev_on z hc352 (ev_v z z (ev_on z hc352 (ev_v z z (ev_on z hc352 (ev_v z z (ev_v z (d_pick_t z hc352 z) (ev_v z z (ev_off z hc353 (ev_off z hc353 (ev_off z hc353 (ev_v z (d_pick_f z hc353 z) (ev_v z z (ev_off z z (ev_off z z (ev_off z z (ev_v z (d_pick_f z z z) (ev_v z z (ev_nil))))))))))))))))))))))))))))))))))))))))))))))))))))))))))))))))))))))))))))))) (gcQ_n (gc_to [] (e := [(4, .vw [] (.bool false))]) (ts := []) (n := 0) z z z z) (seqQ_n (?_)))
                 replace h := Option.some.inj h
                 subst h
                 exact wp_ret (qf_r ((outs_ok (vs := [(.vw _ _)]) z (absW_cons z z (absW_nil)) z z)))
               ·refine wp_reg (nx' := 2656) z (ev_v z z (ev_v z z (ev_v z z (ev_v z z (ev_on z hc344 (ev_v z z (ev_on z hc344 (ev_v z z (ev_on z hc344 (ev_v z z (ev_v z (d_pick_t z hc344 z) (ev_v z z (ev_on z hc345 (ev_v z z (ev_on z hc345 (ev_v z z (ev_on z hc345 (ev_v z z (ev_v z (d_pick_t z hc345 z) (ev_v z z (ev_on z hc346 (ev_den (.ref 656 _ _ _ _) z z (ev_on z hc346 (ev_den (.ref 800 _ _ _ _) z z (ev_on z hc346 (ev_call0 [(.ref 656 _ _ _ _), (.ref 800 _ _ _ _)] z (call_okf (vs' := [(.ref 656 _ _ _ _), (.ref 800 _ _ _ _)]) z (call_ok (rs := []) (rd := [656, 800]) z z z z (argL_cons (argT_r (rget_of z (get_nil)) sub_i) (argL_cons (argT_r (rget_of z (get_nil)) sub_i) (argL_nil))) z z (laws_zSame_ok hv347) z z z z z)) (ev_v z (d_pick_t z hc346 z) (ev_v z z (ev_on z hc348 (ev_v z z (ev_on z hc348 (ev_v z z (ev_on z hc348 (ev_v z z (ev_v z (d_pick_t z hc348 z) (ev_v z z (ev_on z hc349 (ev_v z z (ev_on z hc349 (ev_v z z (ev_on z hc349 (ev_v z z (ev_v z (d_pick_t z hc349 z) (ev_v z z (ev_on z hc350 (ev_v z z (ev_on z hc350 (ev_v z z (ev_on z hc350 (ev_v z z (ev_v z (d_pick_t z hc350 z) (ev_v z z (ev_on z hc351 (ev_v z z (ev_on z hc351 (ev_v z z (ev_on z hc351 (ev_v z z (ev_v z (d_pick_t z hc351 z) (ev_v z z (ev_off z hc352 (ev_off z hc352 (ev_off z hc352 (ev_v z (d_pick_f z hc352 z) (ev_v z z (ev_off z z (ev_off z z (ev_off z z (ev_v z (d_pick_f z z z) (ev_v z z (ev_off z z (ev_off z z (ev_off z z (ev_v z (d_pick_f z z z) (ev_v z z (ev_nil)))))))))))))))))))))))))))))))))))))))))))))))))))))))))))))))))))))))))))) (gcQ_n (gc_to [] (e := [(4, .vw [] (.bool false))]) (ts := []) (n := 0) z z z z) (seqQ_n (?_)))
                replace h := Option.some.inj h
                subst h
                exact wp_ret (qf_r ((outs_ok (vs := [(.vw _ _)]) z (absW_cons z z (absW_nil)) z z)))
              ·refine wp_reg (nx' := 2656) z (ev_v z z (ev_v z z (ev_v z z (ev_v z z (ev_on z hc344 (ev_v z z (ev_on z hc344 (ev_v z z (ev_on z hc344 (ev_v z z (ev_v z (d_pick_t z hc344 z) (ev_v z z (ev_on z hc345 (ev_v z z (ev_on z hc345 (ev_v z z (ev_on z hc345 (ev_v z z (ev_v z (d_pick_t z hc345 z) (ev_v z z (ev_on z hc346 (ev_den (.ref 656 _ _ _ _) z z (ev_on z hc346 (ev_den (.ref 800 _ _ _ _) z z (ev_on z hc346 (ev_call0 [(.ref 656 _ _ _ _), (.ref 800 _ _ _ _)] z (call_okf (vs' := [(.ref 656 _ _ _ _), (.ref 800 _ _ _ _)]) z (call_ok (rs := []) (rd := [656, 800]) z z z z (argL_cons (argT_r (rget_of z (get_nil)) sub_i) (argL_cons (argT_r (rget_of z (get_nil)) sub_i) (argL_nil))) z z (laws_zSame_ok hv347) z z z z z)) (ev_v z (d_pick_t z hc346 z) (ev_v z z (ev_on z hc348 (ev_v z z (ev_on z hc348 (ev_v z z (ev_on z hc348 (ev_v z z (ev_v z (d_pick_t z hc348 z) (ev_v z z (ev_on z hc349 (ev_v z z (ev_on z hc349 (ev_v z z (ev_on z hc349 (ev_v z z (ev_v z (d_pick_t z hc349 z) (ev_v z z (ev_on z hc350 (ev_v z z (ev_on z hc350 (ev_v z z (ev_on z hc350 (ev_v z z (ev_v z (d_pick_t z hc350 z) (ev_v z z (ev_off z hc351 (ev_off z hc351 (ev_off z hc351 (ev_v z (d_pick_f z hc351 z) (ev_v z z (ev_off z z (ev_off z z (ev_off z z (ev_v z (d_pick_f z z z) (ev_v z z (ev_off z z (ev_off z z (ev_off z z (ev_v z (d_pick_f z z z) (ev_v z z (ev_off z z (ev_off z z (ev_off z z (ev_v z (d_pick_f z z z) (ev_v z z (ev_nil))))))))))))))))))))))))))))))))))))))))))))))))))))))))))))))))))))))))) (gcQ_n (gc_to [] (e := [(4, .vw [] (.bool false))]) (ts := []) (n := 0) z z z z) (seqQ_n (?_)))
               replace h := Option.some.inj h
               subst h
               exact wp_ret (qf_r ((outs_ok (vs := [(.vw _ _)]) z (absW_cons z z (absW_nil)) z z)))
             ·refine wp_reg (nx' := 2656) z (ev_v z z (ev_v z z (ev_v z z (ev_v z z (ev_on z hc344 (ev_v z z (ev_on z hc344 (ev_v z z (ev_on z hc344 (ev_v z z (ev_v z (d_pick_t z hc344 z) (ev_v z z (ev_on z hc345 (ev_v z z (ev_on z hc345 (ev_v z z (ev_on z hc345 (ev_v z z (ev_v z (d_pick_t z hc345 z) (ev_v z z (ev_on z hc346 (ev_den (.ref 656 _ _ _ _) z z (ev_on z hc346 (ev_den (.ref 800 _ _ _ _) z z (ev_on z hc346 (ev_call0 [(.ref 656 _ _ _ _), (.ref 800 _ _ _ _)] z (call_okf (vs' := [(.ref 656 _ _ _ _), (.ref 800 _ _ _ _)]) z (call_ok (rs := []) (rd := [656, 800]) z z z z (argL_cons (argT_r (rget_of z (get_nil)) sub_i) (argL_cons (argT_r (rget_of z (get_nil)) sub_i) (argL_nil))) z z (laws_zSame_ok hv347) z z z z z)) (ev_v z (d_pick_t z hc346 z) (ev_v z z (ev_on z hc348 (ev_v z z (ev_on z hc348 (ev_v z z (ev_on z hc348 (ev_v z z (ev_v z (d_pick_t z hc348 z) (ev_v z z (ev_on z hc349 (ev_v z z (ev_on z hc349 (ev_v z z (ev_on z hc349 (ev_v z z (ev_v z (d_pick_t z hc349 z) (ev_v z z (ev_off z hc350 (ev_off z hc350 (ev_off z hc350 (ev_v z (d_pick_f z hc350 z) (ev_v z z (ev_off z z (ev_off z z (ev_off z z (ev_v z (d_pick_f z z z) (ev_v z z (ev_off z z (ev_off z z (ev_off z z (ev_v z (d_pick_f z z z) (ev_v z z (ev_off z z (ev_off z z (ev_off z z (ev_v z (d_pick_f z z z) (ev_v z z (ev_off z z (ev_off z z (ev_off z z (ev_v z (d_pick_f z z z) (ev_v z z (ev_nil)))))))))))))))))))))))))))))))))))))))))))))))))))))))))))))))))))))) (gcQ_n (gc_to [] (e := [(4, .vw [] (.bool false))]) (ts := []) (n := 0) z z z z) (seqQ_n (?_)))
              replace h := Option.some.inj h
              subst h
              exact wp_ret (qf_r ((outs_ok (vs := [(.vw _ _)]) z (absW_cons z z (absW_nil)) z z)))
            ·refine wp_reg (nx' := 2656) z (ev_v z z (ev_v z z (ev_v z z (ev_v z z (ev_on z hc344 (ev_v z z (ev_on z hc344 (ev_v z z (ev_on z hc344 (ev_v z z (ev_v z (d_pick_t z hc344 z) (ev_v z z (ev_on z hc345 (ev_v z z (ev_on z hc345 (ev_v z z (ev_on z hc345 (ev_v z z (ev_v z (d_pick_t z hc345 z) (ev_v z z (ev_on z hc346 (ev_den (.ref 656 _ _ _ _) z z (ev_on z hc346 (ev_den (.ref 800 _ _ _ _) z z (ev_on z hc346 (ev_call0 [(.ref 656 _ _ _ _), (.ref 800 _ _ _ _)] z (call_okf (vs' := [(.ref 656 _ _ _ _), (.ref 800 _ _ _ _)]) z (call_ok (rs := []) (rd := [656, 800]) z z z z (argL_cons (argT_r (rget_of z (get_nil)) sub_i) (argL_cons (argT_r (rget_of z (get_nil)) sub_i) (argL_nil))) z z (laws_zSame_ok hv347) z z z z z)) (ev_v z (d_pick_t z hc346 z) (ev_v z z (ev_on z hc348 (ev_v z z (ev_on z hc348 (ev_v z z (ev_on z hc348 (ev_v z z (ev_v z (d_pick_t z hc348 z) (ev_v z z (ev_off z hc349 (ev_off z hc349 (ev_off z hc349 (ev_v z (d_pick_f z hc349 z) (ev_v z z (ev_off z z (ev_off z z (ev_off z z (ev_v z (d_pick_f z z z) (ev_v z z (ev_off z z (ev_off z z (ev_off z z (ev_v z (d_pick_f z z z) (ev_v z z (ev_off z z (ev_off z z (ev_off z z (ev_v z (d_pick_f z z z) (ev_v z z (ev_off z z (ev_off z z (ev_off z z (ev_v z (d_pick_f z z z) (ev_v z z (ev_off z z (ev_off z z (ev_off z z (ev_v z (d_pick_f z z z) (ev_v z z (ev_nil))))))))))))))))))))))))))))))))))))))))))))))))))))))))))))))))))) (gcQ_n (gc_to [] (e := [(4, .vw [] (.bool false))]) (ts := []) (n := 0) z z z z) (seqQ_n (?_)))
             replace h := Option.some.inj h
             subst h
             exact wp_ret (qf_r ((outs_ok (vs := [(.vw _ _)]) z (absW_cons z z (absW_nil)) z z)))
           ·refine wp_reg (nx' := 2656) z (ev_v z z (ev_v z z (ev_v z z (ev_v z z (ev_on z hc344 (ev_v z z (ev_on z hc344 (ev_v z z (ev_on z hc344 (ev_v z z (ev_v z (d_pick_t z hc344 z) (ev_v z z (ev_on z hc345 (ev_v z z (ev_on z hc345 (ev_v z z (ev_on z hc345 (ev_v z z (ev_v z (d_pick_t z hc345 z) (ev_v z z (ev_on z hc346 (ev_den (.ref 656 _ _ _ _) z z (ev_on z hc346 (ev_den (.ref 800 _ _ _ _) z z (ev_on z hc346 (ev_call0 [(.ref 656 _ _ _ _), (.ref 800 _ _ _ _)] z (call_okf (vs' := [(.ref 656 _ _ _ _), (.ref 800 _ _ _ _)]) z (call_ok (rs := []) (rd := [656, 800]) z z z z (argL_cons (argT_r (rget_of z (get_nil)) sub_i) (argL_cons (argT_r (rget_of z (get_nil)) sub_i) (argL_nil))) z z (laws_zSame_ok hv347) z z z z z)) (ev_v z (d_pick_t z hc346 z) (ev_v z z (ev_off z hc348 (ev_off z hc348 (ev_off z hc348 (ev_v z (d_pick_f z hc348 z) (ev_v z z (ev_off z z (ev_off z z (ev_off z z (ev_v z (d_pick_f z z z) (ev_v z z (ev_off z z (ev_off z z (ev_off z z (ev_v z (d_pick_f z z z) (ev_v z z (ev_off z z (ev_off z z (ev_off z z (ev_v z (d_pick_f z z z) (ev_v z z (ev_off z z (ev_off z z (ev_off z z (ev_v z (d_pick_f z z z) (ev_v z z (ev_off z z (ev_off z z (ev_off z z (ev_v z (d_pick_f z z z) (ev_v z z (ev_off z z (ev_off z z (ev_off z z (ev_v z (d_pick_f z z z) (ev_v z z (ev_nil)))))))))))))))))))))))))))))))))))))))))))))))))))))))))))))))) (gcQ_n (gc_to [] (e := [(4, .vw [] (.bool false))]) (ts := []) (n := 0) z z z z) (seqQ_n (?_)))
            replace h := Option.some.inj h
            subst h
            exact wp_ret (qf_r ((outs_ok (vs := [(.vw _ _)]) z (absW_cons z z (absW_nil)) z z)))
          ·refine wp_reg (nx' := 2656) z (ev_v z z (ev_v z z (ev_v z z (ev_v z z (ev_on z hc344 (ev_v z z (ev_on z hc344 (ev_v z z (ev_on z hc344 (ev_v z z (ev_v z (d_pick_t z hc344 z) (ev_v z z (ev_on z hc345 (ev_v z z (ev_on z hc345 (ev_v z z (ev_on z hc345 (ev_v z z (ev_v z (d_pick_t z hc345 z) (ev_v z z (ev_off z hc346 (ev_off z hc346 (ev_off z hc346 (ev_v z (d_pick_f z hc346 z) (ev_v z z (ev_off z z (ev_off z z (ev_off z z (ev_v z (d_pick_f z z z) (ev_v z z (ev_off z z (ev_off z z (ev_off z z (ev_v z (d_pick_f z z z) (ev_v z z (ev_off z z (ev_off z z (ev_off z z (ev_v z (d_pick_f z z z) (ev_v z z (ev_off z z (ev_off z z (ev_off z z (ev_v z (d_pick_f z z z) (ev_v z z (ev_off z z (ev_off z z (ev_off z z (ev_v z (d_pick_f z z z) (ev_v z z (ev_off z z (ev_off z z (ev_off z z (ev_v z (d_pick_f z z z) (ev_v z z (ev_off z z (ev_off z z (ev_off z z (ev_v z (d_pick_f z z z) (ev_v z z (ev_nil))))))))))))))))))))))))))))))))))))))))))))))))))))))))))))) (gcQ_n (gc_to [] (e := [(4, .vw [] (.bool false))]) (ts := []) (n := 0) z z z z) (seqQ_n (?_)))
           replace h := Option.some.inj h
           subst h
           exact wp_ret (qf_r ((outs_ok (vs := [(.vw _ _)]) z (absW_cons z z (absW_nil)) z z)))
         ·refine wp_reg (nx' := 2656) z (ev_v z z (ev_v z z (ev_v z z (ev_v z z (ev_on z hc344 (ev_v z z (ev_on z hc344 (ev_v z z (ev_on z hc344 (ev_v z z (ev_v z (d_pick_t z hc344 z) (ev_v z z (ev_off z hc345 (ev_off z hc345 (ev_off z hc345 (ev_v z (d_pick_f z hc345 z) (ev_v z z (ev_off z z (ev_off z z (ev_off z z (ev_v z (d_pick_f z z z) (ev_v z z (ev_off z z (ev_off z z (ev_off z z (ev_v z (d_pick_f z z z) (ev_v z z (ev_off z z (ev_off z z (ev_off z z (ev_v z (d_pick_f z z z) (ev_v z z (ev_off z z (ev_off z z (ev_off z z (ev_v z (d_pick_f z z z) (ev_v z z (ev_off z z (ev_off z z (ev_off z z (ev_v z (d_pick_f z z z) (ev_v z z (ev_off z z (ev_off z z (ev_off z z (ev_v z (d_pick_f z z z) (ev_v z z (ev_off z z (ev_off z z (ev_off z z (ev_v z (d_pick_f z z z) (ev_v z z (ev_off z z (ev_off z z (ev_off z z (ev_v z (d_pick_f z z z) (ev_v z z (ev_nil)))))))))))))))))))))))))))))))))))))))))))))))))))))))))) (gcQ_n (gc_to [] (e := [(4, .vw [] (.bool false))]) (ts := []) (n := 0) z z z z) (seqQ_n (?_)))
          replace h := Option.some.inj h
          subst h
          exact wp_ret (qf_r ((outs_ok (vs := [(.vw _ _)]) z (absW_cons z z (absW_nil)) z z)))
        ·refine wp_reg (nx' := 2656) z (ev_v z z (ev_v z z (ev_v z z (ev_v z z (ev_off z hc344 (ev_off z hc344 (ev_off z hc344 (ev_v z (d_pick_f z hc344 z) (ev_v z z (ev_off z z (ev_off z z (ev_off z z (ev_v z (d_pick_f z z z) (ev_v z z (ev_off z z (ev_off z z (ev_off z z (ev_v z (d_pick_f z z z) (ev_v z z (ev_off z z (ev_off z z (ev_off z z (ev_v z (d_pick_f z z z) (ev_v z z (ev_off z z (ev_off z z (ev_off z z (ev_v z (d_pick_f z z z) (ev_v z z (ev_off z z (ev_off z z (ev_off z z (ev_v z (d_pick_f z z z) (ev_v z z (ev_off z z (ev_off z z (ev_off z z (ev_v z (d_pick_f z z z) (ev_v z z (ev_off z z (ev_off z z (ev_off z z (ev_v z (d_pick_f z z z) (ev_v z z (ev_off z z (ev_off z z (ev_off z z (ev_v z (d_pick_f z z z) (ev_v z z (ev_off z z (ev_off z z (ev_off z z (ev_v z (d_pick_f z z z) (ev_v z z (ev_nil))))))))))))))))))))))))))))))))))))))))))))))))))))))) (gcQ_n (gc_to [] (e := [(4, .vw [] (.bool false))]) (ts := []) (n := 0) z z z z) (seqQ_n (?_)))
         replace h := Option.some.inj h
         subst h
         exact wp_ret (qf_r ((outs_ok (vs := [(.vw _ _)]) z (absW_cons z z (absW_nil)) z z)))
       ·refine wp_seq ?_
        refine wp_join (laws_FnWaitsBounded_j5 p1 v279 v280) (fun (x356 : Bool) => (⟨al .dead [(1, .vw [] (.ints .u8 p1)), (30, .ptr 0 [] (some 0)), (32, .ref 1 [] 3 0 (List.length v280.1)), (324, .vw [] (.bool x356))], hl [some (.ptr (.agg [.int .i64 v279.1.1, .int .i64 v279.1.2.1, .int .i64 v279.1.2.2])), some (.rows 3 (List.map e0 v280.1))], 2⟩ : St)) ?_ ?_
        ·rintro x356 o h
         unfold laws_FnWaitsBounded_j5 at h
         refine seqQ_n (?_)
         rcases its h with ⟨hc357, h⟩ | ⟨hc357, h⟩
         ·refine wp_ct z hc357 ?_
          refine wp_seq ?_
          obtain ⟨v358, hv358, h⟩ := bs h
          refine wp_reg (nx' := 162) z (ev_den (.agg [(.vw _ _), (.vw _ _), (.vw _ _)]) z (d_ld_os z (rget_of z (get_nil)) z (cells_cons z (cells_cons z (cells_cons z (cells_nil))))) (ev_den (.ref 1 _ _ _ _) z z (ev_den (.ptr 0 [] (some 0)) z z (ev_v z (d_ld_o z (rget_of z (get_nil)) z z) (ev_call0 [(.agg [(.vw _ _), (.vw _ _), (.vw _ _)]), (.ref 1 _ _ _ _), (.vw _ _)] z (call_okf (vs' := [(.agg [(.vw _ _), (.vw _ _), (.vw _ _)]), (.ref 1 _ _ _ _), (.vw _ _)]) z (call_ok (rs := []) (rd := [1]) z z z z (argL_cons (argT_a (argL_cons z (argL_cons z (argL_cons z (argL_nil))))) (argL_cons (argT_r (rget_of z (get_nil)) sub_r) (argL_cons z (argL_nil)))) z z (impl_VisitsOf_ok hv358) z z (by simp [T.open_, T.noSh, noShL, ns_ints, ns_bool, ns_str, ns_e0]) (bindR_t (bindL_cons bindR_r (bindL_cons z (bindL_nil)))) z)) (ev_den (.tup [(.ref 66 _ _ _ _), (.vw _ _)]) z z (ev_den (.ref 66 _ _ _ _) z z (ev_v z z (ev_den (.ref 66 _ _ _ _) z z (ev_v z z (ev_nil))))))))))) (seqQ_n (?_))
          refine wp_seq ?_
          obtain ⟨v359, hv359, h⟩ := bs h
          refine wp_reg (nx' := 274) z (ev_den (.agg [(.vw _ _), (.vw _ _), (.vw _ _)]) z (d_ld_os z (rget_of z (get_nil)) z (cells_cons z (cells_cons z (cells_cons z (cells_nil))))) (ev_call0 [(.agg [(.vw _ _), (.vw _ _), (.vw _ _)]), (.vw _ _)] z (call_okf (vs' := [(.agg [(.vw _ _), (.vw _ _), (.vw _ _)]), (.vw _ _)]) z (call_ok (rs := []) (rd := []) z z z z (argL_cons (argT_a (argL_cons z (argL_cons z (argL_cons z (argL_nil))))) (argL_cons z (argL_nil))) z z (impl_FullShares_ok hv359) z z z (bindR_t (bindL_cons z (bindL_cons z (bindL_nil)))) z)) (ev_den (.tup [(.ref 178 _ _ _ _), (.vw _ _)]) z z (ev_den (.ref 178 _ _ _ _) z z (ev_v z z (ev_den (.ref 178 _ _ _ _) z z (ev_v z z (ev_nil)))))))) (seqQ_n (?_))
          refine wp_seq ?_
          refine wp_gc ?_
          refine wp_seq ?_
          refine wp_join (laws_FnWaitsBounded_j6 p1 v358 v359) (fun (x364 : Bool) => (⟨al .dead [(1, .vw [] (.ints .u8 p1)), (42, .ref 0 [] 1 0 (List.length v358.1)), (44, .ref 1 [] 1 0 (List.length v359.1)), (343, .vw [] (.bool x364))], hl [some (.rows 1 (List.map (T.ints .i64) v358.1)), some (.ints .i64 v359.1)], 2⟩ : St)) ?_ ?_
          ·rintro x364 o h
           unfold laws_FnWaitsBounded_j6 at h
           refine seqQ_n (?_)
           rcases its h with ⟨hc365, h⟩ | ⟨hc365, h⟩
           ·refine wp_ct z hc365 ?_
            refine wp_seq ?_
            refine wp_reg (nx' := 18) z (ev_v z z (ev_nil)) (seqQ_n (?_))
            replace h := Option.some.inj h
            subst h
            exact wp_ret (gcQ_r (seqQ_r (joinQ_r (seqQ_r (qf_r ((outs_ok (vs := [(.vw _ _)]) z (absW_cons z z (absW_nil)) z z)))))))
           ·refine wp_cf z hc365 ?_
            refine wp_skip (gcQ_n (gc_to [0, 1] (e := [(1, .vw [] (.ints .u8 p1)), (42, .ref 0 [] 1 0 (List.length v358.1)), (44, .ref 1 [] 1 0 (List.length v359.1))]) (ts := [some (.rows 1 (List.map (T.ints .i64) v358.1)), some (.ints .i64 v359.1)]) (n := 2) z z z z) (seqQ_n (?_)))
            refine wp_seq ?_
            refine wp_gc ?_
            refine wp_reg (nx' := 50) z (ev_den (.ref 0 _ _ _ _) z z (ev_v z z (ev_v z z (ev_nil)))) (gcQ_n (gc_to [1, 0] (e := [(1, .vw [] (.ints .u8 p1)), (44, .ref 0 [] 1 0 (List.length v359.1)), (344, .ref 1 [] 1 0 (List.length v358.1)), (345, .vw [] (.int .i64 ((List.length v358.1 : Int)))), (346, .vw [] (.int .i64 ((0 : Int))))]) (ts := [some (.ints .i64 v359.1), some (.rows 1 (List.map (T.ints .i64) v358.1))]) (n := 2) z z z z) (seqQ_n (?_)))
            refine wp_gc ?_
            refine wp_blk ?_
            obtain ⟨w411, hw411, h⟩ := bs h
            refine wp_mono (wp_loop (fun (x383 : Int) => (⟨al .dead [(1, .vw [] (.ints .u8 p1)), (44, .ref 0 [] 1 0 (List.length v359.1)), (344, .ref 1 [] 1 0 (List.length v358.1)), (345, .vw [] (.int .i64 ((List.length v358.1 : Int)))), (346, .vw [] (.int .i64 x383))], hl [some (.ints .i64 v359.1), some (.rows 1 (List.map (T.ints .i64) v358.1))], 2⟩ : St)) (fun (v : Unit ⊕ Bool) e st => match v with | .inl _ => e = .exit 6 ∧ gc 0 [1] st = ⟨al .dead [(1, .vw [] (.ints .u8 p1))], hl [], 0⟩ | .inr rr => e = .ret ∧ outs 0 k3 st = some (.bool rr, [])) hw411 ?_) ?_
            ·rintro x383 o h
             refine wp_gc ?_
             refine wp_seq ?_
             refine wp_reg (nx' := 18) z (ev_v z z (ev_nil)) (seqQ_n (?_))
             refine wp_seq ?_
             refine wp_gc ?_
             rcases its h with ⟨hc397, h⟩ | ⟨hc397, h⟩
             ·refine wp_ct z hc397 ?_
              refine wp_skip (gcQ_n (gc_to [0, 1] (e := [(1, .vw [] (.ints .u8 p1)), (44, .ref 0 [] 1 0 (List.length v359.1)), (344, .ref 1 [] 1 0 (List.length v358.1)), (345, .vw [] (.int .i64 ((List.length v358.1 : Int)))), (346, .vw [] (.int .i64 x383))]) (ts := [some (.ints .i64 v359.1), some (.rows 1 (List.map (T.ints .i64) v358.1))]) (n := 2) z z z z) (seqQ_n (?_)))
              refine wp_seq ?_
              refine wp_gc ?_
              refine wp_gc ?_
              refine wp_blk ?_
              refine wp_seq ?_
              obtain ⟨v406, hv406, h⟩ := bs h
              refine wp_reg (nx' := 82) z (ev_v z z (ev_den (.ptr 1 [.e (Int.toNat x383)] none) z (d_idx_r (p := []) z z hv406) (ev_den (.ref 1 [.e (Int.toNat x383)] _ _ _) z (d_ld_p z (rget_of z (get_r (e := (T.ints .i64)) hv406 (get_nil))) z) (ev_v z z (ev_den (.ref 1 [.e (Int.toNat x383)] _ _ _) z z (ev_nil)))))) (seqQ_n (?_))
              refine wp_seq ?_
              obtain ⟨v407, hv407, h⟩ := bs h
              obtain ⟨v408, hv408, h⟩ := bs h
              refine wp_reg (nx' := 210) z (ev_den (.ref 1 [.e (Int.toNat x383)] _ _ _) z z (ev_den (.ptr 1 [.e (Int.toNat x383), .e (Int.toNat ((2 : Int)))] none) z (d_idx_r (p := [.e (Int.toNat x383)]) z z hv407) (ev_v z (d_ld_p z (rget_of z (get_r (e := (T.ints .i64)) hv406 (get_i hv407))) z) (ev_den (.ref 0 _ _ _ _) z z (ev_v z z (ev_den (.ptr 0 [.e (Int.toNat x383)] none) z (d_idx_r (p := []) z z hv408) (ev_v z (d_ld_p z (rget_of z (get_i hv408)) z) (ev_v z z (ev_nil))))))))) (seqQ_n (?_))
              rcases its h with ⟨hc409, h⟩ | ⟨hc409, h⟩
              ·refine wp_ct z hc409 ?_
               refine wp_seq ?_
               refine wp_reg (nx' := 226) z (ev_v z z (ev_nil)) (seqQ_n (?_))
               replace h := Option.some.inj h
               subst h
               exact wp_ret (blkQ_r (gcQ_r (gcQ_r (seqQ_r (gcQ_r (loopQ_r (And.intro z (outs_ok (vs := [(.vw _ _)]) z (absW_cons z z (absW_nil)) z z))))))))
              ·refine wp_cf z hc409 ?_
               refine wp_skip (blkQ_n (gcQ_n (gc_to [0, 1] (e := [(1, .vw [] (.ints .u8 p1)), (44, .ref 0 [] 1 0 (List.length v359.1)), (344, .ref 1 [] 1 0 (List.length v358.1)), (345, .vw [] (.int .i64 ((List.length v358.1 : Int)))), (346, .vw [] (.int .i64 x383))]) (ts := [some (.ints .i64 v359.1), some (.rows 1 (List.map (T.ints .i64) v358.1))]) (n := 2) z z z z) (gcQ_n (gc_to [0, 1] (e := [(1, .vw [] (.ints .u8 p1)), (44, .ref 0 [] 1 0 (List.length v359.1)), (344, .ref 1 [] 1 0 (List.length v358.1)), (345, .vw [] (.int .i64 ((List.length v358.1 : Int)))), (346, .vw [] (.int .i64 x383))]) (ts := [some (.ints .i64 v359.1), some (.rows 1 (List.map (T.ints .i64) v358.1))]) (n := 2) z z z z) (seqQ_n (?_)))))
               replace h := Option.some.inj h
               subst h
               exact wp_reg (nx' := 34) z (ev_v z z (ev_v z z (ev_nil))) (gcQ_n (gc_to [0, 1] (e := [(1, .vw [] (.ints .u8 p1)), (44, .ref 0 [] 1 0 (List.length v359.1)), (344, .ref 1 [] 1 0 (List.length v358.1)), (345, .vw [] (.int .i64 ((List.length v358.1 : Int)))), (346, .vw [] (.int .i64 ((w64 (x383 + (1 : Int))))))]) (ts := [some (.ints .i64 v359.1), some (.rows 1 (List.map (T.ints .i64) v358.1))]) (n := 2) z z z z) (loopQ_n z))
             ·refine wp_cf z hc397 ?_
              replace h := Option.some.inj h
              subst h
              exact wp_exit (gcQ_e (seqQ_e (gcQ_e (loopQ_e (And.intro z (gc_to [] (e := [(1, .vw [] (.ints .u8 p1))]) (ts := []) (n := 0) z z z z))))))
            ·intro e st411 hg411
             rcases w411 with _ | r412
             ·obtain ⟨rfl, hg411⟩ := hg411
              exact blkQ_h (gcQ_n hg411 (joinQ_n () h (gc_to [] z z z z)))
             ·obtain ⟨rfl, hg411⟩ := hg411
              replace h := Option.some.inj h
              subst h
              exact blkQ_r (gcQ_r (joinQ_r (seqQ_r (qf_r (hg411)))))
          ·rcases its h with ⟨hc413, h⟩ | ⟨hc413, h⟩
           ·exact wp_reg (nx' := 370) z (ev_v z z (ev_v z z (ev_v z z (ev_off z hc413 (ev_off z hc413 (ev_v z (d_pick_t z hc413 z) (ev_nil))))))) (joinQ_n true h (gc_to [66, 178] z z z z))
           ·exact wp_reg (nx' := 370) z (ev_v z z (ev_v z z (ev_v z z (ev_on z hc413 (ev_v z z (ev_on z hc413 (ev_v z z (ev_v z (d_pick_f z hc413 z) (ev_nil))))))))) (joinQ_n (!v359.2) h (gc_to [66, 178] z z z z))
         ·refine wp_cf z hc357 ?_
          exact wp_skip (joinQ_n () h (gc_to [] z z z z))
        ·rcases its h with ⟨hc416, h⟩ | ⟨hc416, h⟩
         ·exact wp_reg (nx' := 114) z (ev_v z z (ev_v z z (ev_on z hc416 (ev_v z z (ev_on z hc416 (ev_den (.ptr 0 [] (some 1)) z z (ev_on z hc416 (ev_v z (d_ld_o z (rget_of z (get_nil)) z z) (ev_on z hc416 (ev_v z z (ev_v z (d_pick_t z hc416 z) (ev_nil)))))))))))) (joinQ_n (decide (v279.2 ≥ v279.1.2.1)) h (gc_to [0, 1] z z z z))
         ·exact wp_reg (nx' := 114) z (ev_v z z (ev_v z z (ev_off z hc416 (ev_off z hc416 (ev_off z hc416 (ev_off z hc416 (ev_v z (d_pick_f z hc416 z) (ev_nil)))))))) (joinQ_n false h (gc_to [0, 1] z z z z))
     ·rcases its h with ⟨hc419, h⟩ | ⟨hc419, h⟩
      ·exact wp_reg (nx' := 1088) z (ev_v z z (ev_v z z (ev_v z z (ev_v z z (ev_off z hc419 (ev_off z hc419 (ev_off z hc419 (ev_off z hc419 (ev_v z (d_pick_t z hc419 z) (ev_v z z (ev_off z z (ev_off z z (ev_off z z (ev_v z (d_pick_t z z z) (ev_v z z (ev_off z z (ev_off z z (ev_off z z (ev_off z z (ev_v z (d_pick_t z z z) (ev_nil))))))))))))))))))))) (joinQ_n true h (gc_to [80, 160] z z z z))
      ·obtain ⟨v421, hv421, h⟩ := bs h
       rcases its h with ⟨hc422, h⟩ | ⟨hc422, h⟩
       ·exact wp_reg (nx' := 1088) z (ev_v z z (ev_v z z (ev_v z z (ev_v z z (ev_on z hc419 (ev_den (.ref 160 _ _ _ _) z z (ev_on z hc419 (ev_den (.ref 288 _ _ _ _) z z (ev_on z hc419 (ev_call0 [(.ref 160 _ _ _ _), (.ref 288 _ _ _ _)] z (call_okf (vs' := [(.ref 160 _ _ _ _), (.ref 288 _ _ _ _)]) z (call_ok (rs := []) (rd := [160, 288]) z z z z (argL_cons (argT_r (rget_of z (get_nil)) sub_r) (argL_cons (argT_r (rget_of z (get_nil)) sub_r) (argL_nil))) z z (laws_zCalls_ok hv421) z z z z z)) (ev_on z hc419 (ev_v z z (ev_v z (d_pick_f z hc419 z) (ev_v z z (ev_off z hc422 (ev_off z hc422 (ev_off z hc422 (ev_v z (d_pick_t z hc422 z) (ev_v z z (ev_off z z (ev_off z z (ev_off z z (ev_off z z (ev_v z (d_pick_t z z z) (ev_nil))))))))))))))))))))))))) (joinQ_n true h (gc_to [80, 160] z z z z))
       ·rcases its h with ⟨hc424, h⟩ | ⟨hc424, h⟩
        ·exact wp_reg (nx' := 1088) z (ev_v z z (ev_v z z (ev_v z z (ev_v z z (ev_on z hc419 (ev_den (.ref 160 _ _ _ _) z z (ev_on z hc419 (ev_den (.ref 288 _ _ _ _) z z (ev_on z hc419 (ev_call0 [(.ref 160 _ _ _ _), (.ref 288 _ _ _ _)] z (call_okf (vs' := [(.ref 160 _ _ _ _), (.ref 288 _ _ _ _)]) z (call_ok (rs := []) (rd := [160, 288]) z z z z (argL_cons (argT_r (rget_of z (get_nil)) sub_r) (argL_cons (argT_r (rget_of z (get_nil)) sub_r) (argL_nil))) z z (laws_zCalls_ok hv421) z z z z z)) (ev_on z hc419 (ev_v z z (ev_v z (d_pick_f z hc419 z) (ev_v z z (ev_on z hc422 (ev_v z z (ev_on z hc422 (ev_v z z (ev_on z hc422 (ev_v z z (ev_v z (d_pick_f z hc422 z) (ev_v z z (ev_off z hc424 (ev_off z hc424 (ev_off z hc424 (ev_off z hc424 (ev_v z (d_pick_t z hc424 z) (ev_nil)))))))))))))))))))))))))))) (joinQ_n true h (gc_to [80, 160] z z z z))
        ·obtain ⟨v426, hv426, h⟩ := bs h
         exact wp_reg (nx' := 1088) z (ev_v z z (ev_v z z (ev_v z z (ev_v z z (ev_on z hc419 (ev_den (.ref 160 _ _ _ _) z z (ev_on z hc419 (ev_den (.ref 288 _ _ _ _) z z (ev_on z hc419 (ev_call0 [(.ref 160 _ _ _ _), (.ref 288 _ _ _ _)] z (call_okf (vs' := [(.ref 160 _ _ _ _), (.ref 288 _ _ _ _)]) z (call_ok (rs := []) (rd := [160, 288]) z z z z (argL_cons (argT_r (rget_of z (get_nil)) sub_r) (argL_cons (argT_r (rget_of z (get_nil)) sub_r) (argL_nil))) z z (laws_zCalls_ok hv421) z z z z z)) (ev_on z hc419 (ev_v z z (ev_v z (d_pick_f z hc419 z) (ev_v z z (ev_on z hc422 (ev_v z z (ev_on z hc422 (ev_v z z (ev_on z hc422 (ev_v z z (ev_v z (d_pick_f z hc422 z) (ev_v z z (ev_on z hc424 (ev_den (.ref 544 _ _ _ _) z z (ev_on z hc424 (ev_den (.ref 672 _ _ _ _) z z (ev_on z hc424 (ev_call0 [(.ref 544 _ _ _ _), (.ref 672 _ _ _ _)] z (call_okf (vs' := [(.ref 544 _ _ _ _), (.ref 672 _ _ _ _)]) z (call_ok (rs := []) (rd := [544, 672]) z z z z (argL_cons (argT_r (rget_of z (get_nil)) sub_i) (argL_cons (argT_r (rget_of z (get_nil)) sub_i) (argL_nil))) z z (laws_zSame_ok hv426) z z z z z)) (ev_on z hc424 (ev_v z z (ev_v z (d_pick_f z hc424 z) (ev_nil)))))))))))))))))))))))))))))))) (joinQ_n (!v426) h (gc_to [80, 160] z z z z))
    ·refine wp_seq ?_
     refine wp_reg (nx' := 18) z (ev_v z z (ev_nil)) (seqQ_n (?_))
     rcases its h with ⟨hc428, h⟩ | ⟨hc428, h⟩
     ·refine wp_ct z hc428 ?_
      refine wp_seq ?_
      obtain ⟨v429, hv429, h⟩ := bs h
      refine wp_reg (nx' := 146) z (ev_den (.agg [(.vw _ _), (.vw _ _), (.vw _ _)]) z (d_ld_os z (rget_of z (get_nil)) z (cells_cons z (cells_cons z (cells_cons z (cells_nil))))) (ev_den (.ref 1 _ _ _ _) z z (ev_call0 [(.agg [(.vw _ _), (.vw _ _), (.vw _ _)]), (.ref 1 _ _ _ _)] z (call_okf (vs' := [(.agg [(.vw _ _), (.vw _ _), (.vw _ _)]), (.ref 1 _ _ _ _)]) z (call_ok (rs := []) (rd := [1]) z z z z (argL_cons (argT_a (argL_cons z (argL_cons z (argL_cons z (argL_nil))))) (argL_cons (argT_r (rget_of z (get_nil)) sub_r) (argL_nil))) z z (impl_SentAt_ok hv429) z z (by simp [T.open_, T.noSh, noShL, ns_ints, ns_bool, ns_str, ns_e0]) (bindR_t (bindL_cons z (bindL_cons z (bindL_nil)))) z)) (ev_den (.tup [(.ref 50 _ _ _ _), (.vw _ _)]) z z (ev_den (.ref 50 _ _ _ _) z z (ev_v z z (ev_den (.ref 50 _ _ _ _) z z (ev_v z z (ev_nil))))))))) (seqQ_n (?_))
      refine wp_seq ?_
      refine wp_gc ?_
      refine wp_seq ?_
      refine wp_reg (nx' := 178) z (ev_v z z (ev_v z z (ev_nil))) (seqQ_n (?_))
      rcases its h with ⟨hc431, h⟩ | ⟨hc431, h⟩
      ·refine wp_ct z hc431 ?_
       refine wp_seq ?_
       refine wp_reg (nx' := 194) z (ev_v z z (ev_nil)) (seqQ_n (?_))
       replace h := Option.some.inj h
       subst h
       exact wp_ret (gcQ_r (seqQ_r (joinQ_r (seqQ_r (qf_r ((outs_ok (vs := [(.vw _ _)]) z (absW_cons z z (absW_nil)) z z)))))))
      ·refine wp_cf z hc431 ?_
       refine wp_skip (gcQ_n (gc_to [0, 1, 50] (e := [(0, .vw [] (.ints .u8 p0)), (1, .vw [] (.ints .u8 p1)), (5, .ptr 0 [] (some 0)), (6, .ref 1 [] 3 0 (List.length v169.2)), (7, .vw [] (.int .i64 v170.1)), (11, .vw [] (.int .i64 v172.1)), (15, .ref 2 [] 1 0 (List.length v429.1))]) (ts := [some (.ptr (.agg [.int .i64 v169.1.1, .int .i64 v169.1.2.1, .int .i64 v169.1.2.2])), some (.rows 3 (List.map e0 v169.2)), some (.ints .i64 v429.1)]) (n := 3) z z z z) (seqQ_n (?_)))
       refine wp_seq ?_
       refine wp_reg (nx' := 19) z (ev_v z z (ev_nil)) (seqQ_n (?_))
       refine wp_seq ?_
       refine wp_gc ?_
       refine wp_seq ?_
       refine wp_gc ?_
       refine wp_reg (nx' := 67) z (ev_den (.ref 1 _ _ _ _) z z (ev_v z z (ev_v z z (ev_nil)))) (gcQ_n (gc_to [0, 1, 2] (e := [(0, .vw [] (.ints .u8 p0)), (1, .vw [] (.ints .u8 p1)), (5, .ptr 0 [] (some 0)), (6, .ref 1 [] 3 0 (List.length v169.2)), (7, .vw [] (.int .i64 v170.1)), (11, .vw [] (.int .i64 v172.1)), (15, .ref 2 [] 1 0 (List.length v429.1)), (17, .vw [] (.int .i64 ((0 : Int)))), (141, .ref 1 [] 3 0 (List.length v169.2)), (142, .vw [] (.int .i64 ((List.length v169.2 : Int)))), (143, .vw [] (.int .i64 ((0 : Int))))]) (ts := [some (.ptr (.agg [.int .i64 v169.1.1, .int .i64 v169.1.2.1, .int .i64 v169.1.2.2])), some (.rows 3 (List.map e0 v169.2)), some (.ints .i64 v429.1)]) (n := 3) z z z z) (seqQ_n (?_)))
       refine wp_gc ?_
       refine wp_blk ?_
       obtain ⟨w835, hw835, h⟩ := bs h
       refine wp_mono (wp_loop (fun ((x589, x590) : Int × Int) => (⟨al .dead [(0, .vw [] (.ints .u8 p0)), (1, .vw [] (.ints .u8 p1)), (5, .ptr 0 [] (some 0)), (6, .ref 1 [] 3 0 (List.length v169.2)), (7, .vw [] (.int .i64 v170.1)), (11, .vw [] (.int .i64 v172.1)), (15, .ref 2 [] 1 0 (List.length v429.1)), (17, .vw [] (.int .i64 x589)), (141, .ref 1 [] 3 0 (List.length v169.2)), (142, .vw [] (.int .i64 ((List.length v169.2 : Int)))), (143, .vw [] (.int .i64 x590))], hl [some (.ptr (.agg [.int .i64 v169.1.1, .int .i64 v169.1.2.1, .int .i64 v169.1.2.2])), some (.rows 3 (List.map e0 v169.2)), some (.ints .i64 v429.1)], 3⟩ : St)) (fun (v : Int ⊕ Bool) e st => match v with | .inl x623 => e = .exit 0 ∧ gc 0 [0, 1, 5, 6, 7, 15, 17] st = ⟨al .dead [(0, .vw [] (.ints .u8 p0)), (1, .vw [] (.ints .u8 p1)), (5, .ptr 0 [] (some 0)), (6, .ref 1 [] 3 0 (List.length v169.2)), (7, .vw [] (.int .i64 v170.1)), (15, .ref 2 [] 1 0 (List.length v429.1)), (17, .vw [] (.int .i64 x623))], hl [some (.ptr (.agg [.int .i64 v169.1.1, .int .i64 v169.1.2.1, .int .i64 v169.1.2.2])), some (.rows 3 (List.map e0 v169.2)), some (.ints .i64 v429.1)], 3⟩ | .inr rr => e = .ret ∧ outs 0 k3 st = some (.bool rr, [])) hw835 ?_) ?_
       ·rintro ⟨x589, x590⟩ o h
        refine wp_gc ?_
        refine wp_seq ?_
        refine wp_reg (nx' := 19) z (ev_v z z (ev_nil)) (seqQ_n (?_))
        refine wp_seq ?_
        refine wp_gc ?_
        rcases its h with ⟨hc657, h⟩ | ⟨hc657, h⟩
        ·refine wp_ct z hc657 ?_
         refine wp_skip (gcQ_n (gc_to [0, 1, 2] (e := [(0, .vw [] (.ints .u8 p0)), (1, .vw [] (.ints .u8 p1)), (5, .ptr 0 [] (some 0)), (6, .ref 1 [] 3 0 (List.length v169.2)), (7, .vw [] (.int .i64 v170.1)), (11, .vw [] (.int .i64 v172.1)), (15, .ref 2 [] 1 0 (List.length v429.1)), (17, .vw [] (.int .i64 x589)), (141, .ref 1 [] 3 0 (List.length v169.2)), (142, .vw [] (.int .i64 ((List.length v169.2 : Int)))), (143, .vw [] (.int .i64 x590))]) (ts := [some (.ptr (.agg [.int .i64 v169.1.1, .int .i64 v169.1.2.1, .int .i64 v169.1.2.2])), some (.rows 3 (List.map e0 v169.2)), some (.ints .i64 v429.1)]) (n := 3) z z z z) (seqQ_n (?_)))
         refine wp_seq ?_
         refine wp_join (laws_FnWaitsBounded_j9 x590) (fun (x686 : Int) => (⟨al .dead [(0, .vw [] (.ints .u8 p0)), (1, .vw [] (.ints .u8 p1)), (5, .ptr 0 [] (some 0)), (6, .ref 1 [] 3 0 (List.length v169.2)), (7, .vw [] (.int .i64 v170.1)), (11, .vw [] (.int .i64 v172.1)), (15, .ref 2 [] 1 0 (List.length v429.1)), (17, .vw [] (.int .i64 x686)), (141, .ref 1 [] 3 0 (List.length v169.2)), (142, .vw [] (.int .i64 ((List.length v169.2 : Int)))), (143, .vw [] (.int .i64 x590))], hl [some (.ptr (.agg [.int .i64 v169.1.1, .int .i64 v169.1.2.1, .int .i64 v169.1.2.2])), some (.rows 3 (List.map e0 v169.2)), some (.ints .i64 v429.1)], 3⟩ : St)) ?_ ?_
         ·rintro x686 o h
          unfold laws_FnWaitsBounded_j9 at h
          refine seqQ_n (?_)
          replace h := Option.some.inj h
          subst h
          exact wp_reg (nx' := 35) z (ev_v z z (ev_v z z (ev_nil))) (gcQ_n (gc_to [0, 1, 2] (e := [(0, .vw [] (.ints .u8 p0)), (1, .vw [] (.ints .u8 p1)), (5, .ptr 0 [] (some 0)), (6, .ref 1 [] 3 0 (List.length v169.2)), (7, .vw [] (.int .i64 v170.1)), (11, .vw [] (.int .i64 v172.1)), (15, .ref 2 [] 1 0 (List.length v429.1)), (17, .vw [] (.int .i64 x686)), (141, .ref 1 [] 3 0 (List.length v169.2)), (142, .vw [] (.int .i64 ((List.length v169.2 : Int)))), (143, .vw [] (.int .i64 ((w64 (x590 + (1 : Int))))))]) (ts := [some (.ptr (.agg [.int .i64 v169.1.1, .int .i64 v169.1.2.1, .int .i64 v169.1.2.2])), some (.rows 3 (List.map e0 v169.2)), some (.ints .i64 v429.1)]) (n := 3) z z z z) (loopQ_n z))
         ·refine wp_gc ?_
          refine wp_blk ?_
          refine wp_seq ?_
          obtain ⟨v717, hv717, h⟩ := bs h
          refine wp_reg (nx' := 99) z (ev_v z z (ev_den (.ptr 1 [.e (Int.toNat x590)] (some 0)) z (d_idx_r (p := []) z z hv717) (ev_den (.agg [(.vw _ _), (.vw _ _), (.vw _ _)]) z (d_ld_os z (rget_of z (get_r (e := e0) hv717 (get_nil))) z (cells_cons z (cells_cons z (cells_cons z (cells_nil))))) (ev_new (.ptr 51 [] (some 0)) (.ptr (.agg [.int .i64 ((0 : Int)), .int .i64 ((0 : Int)), .int .i64 ((0 : Int))])) z z (ev_v z z (ev_wr0 z (w_st_a z z z (stL_cons (st1_of z z z (get_f z (get_nil)) z (rput_p (put_f z (put_nil)))) z (stL_cons (st1_of z z z (get_f z (get_nil)) z (rput_p (put_f z (put_nil)))) z (stL_cons (st1_of z z z (get_f z (get_nil)) z (rput_p (put_f z (put_nil)))) z (stL_nil))))) (ev_nil))))))) (seqQ_n (?_))
          refine wp_seq ?_
          refine wp_reg (nx' := 115) z (ev_v z z (ev_nil)) (seqQ_n (?_))
          refine wp_seq ?_
          refine wp_gc ?_
          refine wp_seq ?_
          refine wp_gc ?_
          refine wp_reg (nx' := 131) z (ev_v z z (ev_nil)) (gcQ_n (gc_to [0, 1, 2, 51] (e := [(0, .vw [] (.ints .u8 p0)), (1, .vw [] (.ints .u8 p1)), (5, .ptr 0 [] (some 0)), (6, .ref 1 [] 3 0 (List.length v169.2)), (7, .vw [] (.int .i64 v170.1)), (11, .vw [] (.int .i64 v172.1)), (15, .ref 2 [] 1 0 (List.length v429.1)), (17, .vw [] (.int .i64 x589)), (18, .vw [] (.int .i64 x590)), (19, .ptr 3 [] (some 0)), (20, .vw [] (.int .i64 ((0 : Int)))), (21, .vw [] (.int .i64 ((0 : Int)))), (141, .ref 1 [] 3 0 (List.length v169.2)), (142, .vw [] (.int .i64 ((List.length v169.2 : Int)))), (143, .vw [] (.int .i64 x590))]) (ts := [some (.ptr (.agg [.int .i64 v169.1.1, .int .i64 v169.1.2.1, .int .i64 v169.1.2.2])), some (.rows 3 (List.map e0 v169.2)), some (.ints .i64 v429.1), some (.ptr (.agg [.int .i64 v717.1, .int .i64 v717.2.1, .int .i64 v717.2.2]))]) (n := 4) z z z z) (seqQ_n (?_)))
          refine wp_gc ?_
          refine wp_blk ?_
          obtain ⟨x774, hw812, h⟩ := bs h
          refine wp_mono (wp_loop (fun ((x763, x764) : Int × Int) => (⟨al .dead [(0, .vw [] (.ints .u8 p0)), (1, .vw [] (.ints .u8 p1)), (5, .ptr 0 [] (some 0)), (6, .ref 1 [] 3 0 (List.length v169.2)), (7, .vw [] (.int .i64 v170.1)), (11, .vw [] (.int .i64 v172.1)), (15, .ref 2 [] 1 0 (List.length v429.1)), (17, .vw [] (.int .i64 x589)), (18, .vw [] (.int .i64 x590)), (19, .ptr 3 [] (some 0)), (20, .vw [] (.int .i64 x763)), (21, .vw [] (.int .i64 x764)), (141, .ref 1 [] 3 0 (List.length v169.2)), (142, .vw [] (.int .i64 ((List.length v169.2 : Int)))), (143, .vw [] (.int .i64 x590))], hl [some (.ptr (.agg [.int .i64 v169.1.1, .int .i64 v169.1.2.1, .int .i64 v169.1.2.2])), some (.rows 3 (List.map e0 v169.2)), some (.ints .i64 v429.1), some (.ptr (.agg [.int .i64 v717.1, .int .i64 v717.2.1, .int .i64 v717.2.2]))], 4⟩ : St)) (fun (x774 : Int) e st => e = .exit 2 ∧ gc 0 [0, 1, 5, 6, 7, 11, 15, 17, 18, 19, 20, 141, 142, 143] st = ⟨al .dead [(0, .vw [] (.ints .u8 p0)), (1, .vw [] (.ints .u8 p1)), (5, .ptr 0 [] (some 0)), (6, .ref 1 [] 3 0 (List.length v169.2)), (7, .vw [] (.int .i64 v170.1)), (11, .vw [] (.int .i64 v172.1)), (15, .ref 2 [] 1 0 (List.length v429.1)), (17, .vw [] (.int .i64 x589)), (18, .vw [] (.int .i64 x590)), (19, .ptr 3 [] (some 0)), (20, .vw [] (.int .i64 x774)), (141, .ref 1 [] 3 0 (List.length v169.2)), (142, .vw [] (.int .i64 ((List.length v169.2 : Int)))), (143, .vw [] (.int .i64 x590))], hl [some (.ptr (.agg [.int .i64 v169.1.1, .int .i64 v169.1.2.1, .int .i64 v169.1.2.2])), some (.rows 3 (List.map e0 v169.2)), some (.ints .i64 v429.1), some (.ptr (.agg [.int .i64 v717.1, .int .i64 v717.2.1, .int .i64 v717.2.2]))], 4⟩) hw812 ?_) ?_
          ·rintro ⟨x763, x764⟩ o h
           refine wp_gc ?_
           refine wp_seq ?_
           refine wp_gc ?_
           refine wp_seq ?_
           refine wp_reg (nx' := 52) z (ev_v z z (ev_v z z (ev_v z z (ev_nil)))) (seqQ_n (?_))
           rcases its h with ⟨hc785, h⟩ | ⟨hc785, h⟩
           ·refine wp_ct z hc785 ?_
            refine wp_skip (gcQ_n (gc_to [0, 1, 2, 3] (e := [(0, .vw [] (.ints .u8 p0)), (1, .vw [] (.ints .u8 p1)), (5, .ptr 0 [] (some 0)), (6, .ref 1 [] 3 0 (List.length v169.2)), (7, .vw [] (.int .i64 v170.1)), (11, .vw [] (.int .i64 v172.1)), (15, .ref 2 [] 1 0 (List.length v429.1)), (17, .vw [] (.int .i64 x589)), (18, .vw [] (.int .i64 x590)), (19, .ptr 3 [] (some 0)), (20, .vw [] (.int .i64 x763)), (21, .vw [] (.int .i64 x764)), (141, .ref 1 [] 3 0 (List.length v169.2)), (142, .vw [] (.int .i64 ((List.length v169.2 : Int)))), (143, .vw [] (.int .i64 x590))]) (ts := [some (.ptr (.agg [.int .i64 v169.1.1, .int .i64 v169.1.2.1, .int .i64 v169.1.2.2])), some (.rows 3 (List.map e0 v169.2)), some (.ints .i64 v429.1), some (.ptr (.agg [.int .i64 v717.1, .int .i64 v717.2.1, .int .i64 v717.2.2]))]) (n := 4) z z z z) (seqQ_n (?_)))
            refine wp_seq ?_
            refine wp_join (laws_FnWaitsBounded_j11 x764) (fun (x791 : Int) => (⟨al .dead [(0, .vw [] (.ints .u8 p0)), (1, .vw [] (.ints .u8 p1)), (5, .ptr 0 [] (some 0)), (6, .ref 1 [] 3 0 (List.length v169.2)), (7, .vw [] (.int .i64 v170.1)), (11, .vw [] (.int .i64 v172.1)), (15, .ref 2 [] 1 0 (List.length v429.1)), (17, .vw [] (.int .i64 x589)), (18, .vw [] (.int .i64 x590)), (19, .ptr 3 [] (some 0)), (20, .vw [] (.int .i64 x791)), (21, .vw [] (.int .i64 x764)), (141, .ref 1 [] 3 0 (List.length v169.2)), (142, .vw [] (.int .i64 ((List.length v169.2 : Int)))), (143, .vw [] (.int .i64 x590))], hl [some (.ptr (.agg [.int .i64 v169.1.1, .int .i64 v169.1.2.1, .int .i64 v169.1.2.2])), some (.rows 3 (List.map e0 v169.2)), some (.ints .i64 v429.1), some (.ptr (.agg [.int .i64 v717.1, .int .i64 v717.2.1, .int .i64 v717.2.2]))], 4⟩ : St)) ?_ ?_
            ·rintro x791 o h
             unfold laws_FnWaitsBounded_j11 at h
             refine seqQ_n (?_)
             replace h := Option.some.inj h
             subst h
             exact wp_reg (nx' := 52) z (ev_v z z (ev_v z z (ev_v z z (ev_nil)))) (gcQ_n (gc_to [0, 1, 2, 3] (e := [(0, .vw [] (.ints .u8 p0)), (1, .vw [] (.ints .u8 p1)), (5, .ptr 0 [] (some 0)), (6, .ref 1 [] 3 0 (List.length v169.2)), (7, .vw [] (.int .i64 v170.1)), (11, .vw [] (.int .i64 v172.1)), (15, .ref 2 [] 1 0 (List.length v429.1)), (17, .vw [] (.int .i64 x589)), (18, .vw [] (.int .i64 x590)), (19, .ptr 3 [] (some 0)), (20, .vw [] (.int .i64 x791)), (21, .vw [] (.int .i64 ((w64 (x764 + (1 : Int)))))), (141, .ref 1 [] 3 0 (List.length v169.2)), (142, .vw [] (.int .i64 ((List.length v169.2 : Int)))), (143, .vw [] (.int .i64 x590))]) (ts := [some (.ptr (.agg [.int .i64 v169.1.1, .int .i64 v169.1.2.1, .int .i64 v169.1.2.2])), some (.rows 3 (List.map e0 v169.2)), some (.ints .i64 v429.1), some (.ptr (.agg [.int .i64 v717.1, .int .i64 v717.2.1, .int .i64 v717.2.2]))]) (n := 4) z z z z) (loopQ_n z))
            ·refine wp_gc ?_
             refine wp_blk ?_
             refine wp_seq ?_
             refine wp_join (laws_FnWaitsBounded_j12 x763 x764) (fun (x802 : Bool) => (⟨al .dead [(0, .vw [] (.ints .u8 p0)), (1, .vw [] (.ints .u8 p1)), (5, .ptr 0 [] (some 0)), (6, .ref 1 [] 3 0 (List.length v169.2)), (7, .vw [] (.int .i64 v170.1)), (11, .vw [] (.int .i64 v172.1)), (15, .ref 2 [] 1 0 (List.length v429.1)), (17, .vw [] (.int .i64 x589)), (18, .vw [] (.int .i64 x590)), (19, .ptr 3 [] (some 0)), (20, .vw [] (.int .i64 x763)), (21, .vw [] (.int .i64 x764)), (141, .ref 1 [] 3 0 (List.length v169.2)), (142, .vw [] (.int .i64 ((List.length v169.2 : Int)))), (143, .vw [] (.int .i64 x590)), (169, .vw [] (.bool x802))], hl [some (.ptr (.agg [.int .i64 v169.1.1, .int .i64 v169.1.2.1, .int .i64 v169.1.2.2])), some (.rows 3 (List.map e0 v169.2)), some (.ints .i64 v429.1), some (.ptr (.agg [.int .i64 v717.1, .int .i64 v717.2.1, .int .i64 v717.2.2]))], 4⟩ : St)) ?_ ?_
             ·rintro x802 o h
              unfold laws_FnWaitsBounded_j12 at h
              refine seqQ_n (?_)
              rcases its h with ⟨hc803, h⟩ | ⟨hc803, h⟩
              ·refine wp_ct z hc803 ?_
               exact wp_reg (nx' := 52) z (ev_v z z (ev_v z z (ev_v z z (ev_nil)))) (blkQ_n (gcQ_n (gc_to [0, 1, 2, 3] (e := [(0, .vw [] (.ints .u8 p0)), (1, .vw [] (.ints .u8 p1)), (5, .ptr 0 [] (some 0)), (6, .ref 1 [] 3 0 (List.length v169.2)), (7, .vw [] (.int .i64 v170.1)), (11, .vw [] (.int .i64 v172.1)), (15, .ref 2 [] 1 0 (List.length v429.1)), (17, .vw [] (.int .i64 x589)), (18, .vw [] (.int .i64 x590)), (19, .ptr 3 [] (some 0)), (20, .vw [] (.int .i64 ((w64 (x763 + (1 : Int)))))), (21, .vw [] (.int .i64 x764)), (141, .ref 1 [] 3 0 (List.length v169.2)), (142, .vw [] (.int .i64 ((List.length v169.2 : Int)))), (143, .vw [] (.int .i64 x590))]) (ts := [some (.ptr (.agg [.int .i64 v169.1.1, .int .i64 v169.1.2.1, .int .i64 v169.1.2.2])), some (.rows 3 (List.map e0 v169.2)), some (.ints .i64 v429.1), some (.ptr (.agg [.int .i64 v717.1, .int .i64 v717.2.1, .int .i64 v717.2.2]))]) (n := 4) z z z z) (joinQ_n (w64 (x763 + (1 : Int))) h (gc_to [0, 1, 2, 3] z z z z))))
              ·refine wp_cf z hc803 ?_
               exact wp_skip (blkQ_n (gcQ_n (gc_to [0, 1, 2, 3] (e := [(0, .vw [] (.ints .u8 p0)), (1, .vw [] (.ints .u8 p1)), (5, .ptr 0 [] (some 0)), (6, .ref 1 [] 3 0 (List.length v169.2)), (7, .vw [] (.int .i64 v170.1)), (11, .vw [] (.int .i64 v172.1)), (15, .ref 2 [] 1 0 (List.length v429.1)), (17, .vw [] (.int .i64 x589)), (18, .vw [] (.int .i64 x590)), (19, .ptr 3 [] (some 0)), (20, .vw [] (.int .i64 x763)), (21, .vw [] (.int .i64 x764)), (141, .ref 1 [] 3 0 (List.length v169.2)), (142, .vw [] (.int .i64 ((List.length v169.2 : Int)))), (143, .vw [] (.int .i64 x590))]) (ts := [some (.ptr (.agg [.int .i64 v169.1.1, .int .i64 v169.1.2.1, .int .i64 v169.1.2.2])), some (.rows 3 (List.map e0 v169.2)), some (.ints .i64 v429.1), some (.ptr (.agg [.int .i64 v717.1, .int .i64 v717.2.1, .int .i64 v717.2.2]))]) (n := 4) z z z z) (joinQ_n x763 h (gc_to [0, 1, 2, 3] z z z z))))
             ·obtain ⟨v806, hv806, h⟩ := bs h
              rcases its h with ⟨hc807, h⟩ | ⟨hc807, h⟩
              ·obtain ⟨v808, hv808, h⟩ := bs h
               exact wp_reg (nx' := 276) z (ev_den (.ref 1 _ _ _ _) z z (ev_v z z (ev_den (.ptr 1 [.e (Int.toNat x764)] (some 0)) z (d_idx_r (p := []) z z hv806) (ev_den (.ptr 1 [.e (Int.toNat x764)] (some 1)) z z (ev_v z (d_ld_o z (rget_of z (get_r (e := e0) hv806 (get_nil))) z z) (ev_den (.ptr 3 [] (some 1)) z z (ev_v z (d_ld_o z (rget_of z (get_nil)) z z) (ev_v z z (ev_v z z (ev_on z hc807 (ev_den (.ref 2 _ _ _ _) z z (ev_on z hc807 (ev_v z z (ev_on z hc807 (ev_den (.ptr 2 [.e (Int.toNat x764)] none) z (d_idx_r (p := []) z z hv808) (ev_on z hc807 (ev_v z (d_ld_p z (rget_of z (get_i hv808)) z) (ev_on z hc807 (ev_den (.ptr 3 [] (some 0)) z z (ev_on z hc807 (ev_v z (d_ld_o z (rget_of z (get_nil)) z z) (ev_on z hc807 (ev_v z z (ev_v z (d_pick_t z hc807 z) (ev_nil))))))))))))))))))))))))) (joinQ_n (decide (v808 ≥ v717.1)) h (gc_to [0, 1, 2, 3] z z z z))
              ·exact wp_reg (nx' := 276) z (ev_den (.ref 1 _ _ _ _) z z (ev_v z z (ev_den (.ptr 1 [.e (Int.toNat x764)] (some 0)) z (d_idx_r (p := []) z z hv806) (ev_den (.ptr 1 [.e (Int.toNat x764)] (some 1)) z z (ev_v z (d_ld_o z (rget_of z (get_r (e := e0) hv806 (get_nil))) z z) (ev_den (.ptr 3 [] (some 1)) z z (ev_v z (d_ld_o z (rget_of z (get_nil)) z z) (ev_v z z (ev_v z z (ev_off z hc807 (ev_off z hc807 (ev_off z hc807 (ev_off z hc807 (ev_off z hc807 (ev_off z hc807 (ev_off z hc807 (ev_v z (d_pick_f z hc807 z) (ev_nil)))))))))))))))))) (joinQ_n false h (gc_to [0, 1, 2, 3] z z z z))
           ·refine wp_cf z hc785 ?_
            replace h := Option.some.inj h
            subst h
            exact wp_exit (gcQ_e (seqQ_e (gcQ_e (loopQ_e (And.intro z (gc_to [0, 1, 2, 3] (e := [(0, .vw [] (.ints .u8 p0)), (1, .vw [] (.ints .u8 p1)), (5, .ptr 0 [] (some 0)), (6, .ref 1 [] 3 0 (List.length v169.2)), (7, .vw [] (.int .i64 v170.1)), (11, .vw [] (.int .i64 v172.1)), (15, .ref 2 [] 1 0 (List.length v429.1)), (17, .vw [] (.int .i64 x589)), (18, .vw [] (.int .i64 x590)), (19, .ptr 3 [] (some 0)), (20, .vw [] (.int .i64 x763)), (141, .ref 1 [] 3 0 (List.length v169.2)), (142, .vw [] (.int .i64 ((List.length v169.2 : Int)))), (143, .vw [] (.int .i64 x590))]) (ts := [some (.ptr (.agg [.int .i64 v169.1.1, .int .i64 v169.1.2.1, .int .i64 v169.1.2.2])), some (.rows 3 (List.map e0 v169.2)), some (.ints .i64 v429.1), some (.ptr (.agg [.int .i64 v717.1, .int .i64 v717.2.1, .int .i64 v717.2.2]))]) (n := 4) z z z z))))))
          ·intro e st812 hg812
           obtain ⟨rfl, hg812⟩ := hg812
           refine blkQ_h (gcQ_n hg812 (gcQ_n (gc_to [0, 1, 2, 3] (e := [(0, .vw [] (.ints .u8 p0)), (1, .vw [] (.ints .u8 p1)), (5, .ptr 0 [] (some 0)), (6, .ref 1 [] 3 0 (List.length v169.2)), (7, .vw [] (.int .i64 v170.1)), (11, .vw [] (.int .i64 v172.1)), (15, .ref 2 [] 1 0 (List.length v429.1)), (17, .vw [] (.int .i64 x589)), (18, .vw [] (.int .i64 x590)), (19, .ptr 3 [] (some 0)), (20, .vw [] (.int .i64 x774)), (141, .ref 1 [] 3 0 (List.length v169.2)), (142, .vw [] (.int .i64 ((List.length v169.2 : Int)))), (143, .vw [] (.int .i64 x590))]) (ts := [some (.ptr (.agg [.int .i64 v169.1.1, .int .i64 v169.1.2.1, .int .i64 v169.1.2.2])), some (.rows 3 (List.map e0 v169.2)), some (.ints .i64 v429.1), some (.ptr (.agg [.int .i64 v717.1, .int .i64 v717.2.1, .int .i64 v717.2.2]))]) (n := 4) z z z z) (seqQ_n (?_))))
           refine wp_seq ?_
           obtain ⟨v813, hv813, h⟩ := bs h
           refine wp_reg (nx' := 132) z (ev_den (.agg [(.vw _ _), (.vw _ _), (.vw _ _)]) z (d_ld_os z (rget_of z (get_nil)) z (cells_cons z (cells_cons z (cells_cons z (cells_nil))))) (ev_v z z (ev_call0 [(.agg [(.vw _ _), (.vw _ _), (.vw _ _)]), (.vw _ _)] z (call_okf (vs' := [(.agg [(.vw _ _), (.vw _ _), (.vw _ _)]), (.vw _ _)]) z (call_ok (rs := []) (rd := []) z z z z (argL_cons (argT_a (argL_cons z (argL_cons z (argL_cons z (argL_nil))))) (argL_cons z (argL_nil))) z z (impl_WaitBound_ok hv813) z z z (bindR_t (bindL_cons z (bindL_cons z (bindL_nil)))) z)) (ev_den (.tup [(.vw _ _), (.vw _ _)]) z z (ev_v z z (ev_v z z (ev_v z z (ev_v z z (ev_nil))))))))) (seqQ_n (?_))
           refine wp_seq ?_
           refine wp_gc ?_
           refine wp_seq ?_
           refine wp_join (laws_FnWaitsBounded_j13 v429 x589 x590 v717) (fun (x822 : Bool) => (⟨al .dead [(0, .vw [] (.ints .u8 p0)), (1, .vw [] (.ints .u8 p1)), (5, .ptr 0 [] (some 0)), (6, .ref 1 [] 3 0 (List.length v169.2)), (7, .vw [] (.int .i64 v170.1)), (11, .vw [] (.int .i64 v172.1)), (15, .ref 2 [] 1 0 (List.length v429.1)), (17, .vw [] (.int .i64 x589)), (18, .vw [] (.int .i64 x590)), (19, .ptr 3 [] (some 0)), (141, .ref 1 [] 3 0 (List.length v169.2)), (142, .vw [] (.int .i64 ((List.length v169.2 : Int)))), (143, .vw [] (.int .i64 x590)), (198, .vw [] (.bool x822))], hl [some (.ptr (.agg [.int .i64 v169.1.1, .int .i64 v169.1.2.1, .int .i64 v169.1.2.2])), some (.rows 3 (List.map e0 v169.2)), some (.ints .i64 v429.1), some (.ptr (.agg [.int .i64 v717.1, .int .i64 v717.2.1, .int .i64 v717.2.2]))], 4⟩ : St)) ?_ ?_
           ·rintro x822 o h
            unfold laws_FnWaitsBounded_j13 at h
            refine seqQ_n (?_)
            rcases its h with ⟨hc823, h⟩ | ⟨hc823, h⟩
            ·refine wp_ct z hc823 ?_
             refine wp_seq ?_
             refine wp_reg (nx' := 20) z (ev_v z z (ev_nil)) (seqQ_n (?_))
             replace h := Option.some.inj h
             subst h
             exact wp_ret (gcQ_r (seqQ_r (blkQ_r (gcQ_r (joinQ_r (seqQ_r (gcQ_r (loopQ_r (And.intro z (outs_ok (vs := [(.vw _ _)]) z (absW_cons z z (absW_nil)) z z))))))))))
            ·refine wp_cf z hc823 ?_
             refine wp_skip (gcQ_n (gc_to [0, 1, 2, 3] (e := [(0, .vw [] (.ints .u8 p0)), (1, .vw [] (.ints .u8 p1)), (5, .ptr 0 [] (some 0)), (6, .ref 1 [] 3 0 (List.length v169.2)), (7, .vw [] (.int .i64 v170.1)), (11, .vw [] (.int .i64 v172.1)), (15, .ref 2 [] 1 0 (List.length v429.1)), (17, .vw [] (.int .i64 x589)), (18, .vw [] (.int .i64 x590)), (19, .ptr 3 [] (some 0)), (141, .ref 1 [] 3 0 (List.length v169.2)), (142, .vw [] (.int .i64 ((List.length v169.2 : Int)))), (143, .vw [] (.int .i64 x590))]) (ts := [some (.ptr (.agg [.int .i64 v169.1.1, .int .i64 v169.1.2.1, .int .i64 v169.1.2.2])), some (.rows 3 (List.map e0 v169.2)), some (.ints .i64 v429.1), some (.ptr (.agg [.int .i64 v717.1, .int .i64 v717.2.1, .int .i64 v717.2.2]))]) (n := 4) z z z z) (seqQ_n (?_)))
             refine wp_seq ?_
             obtain ⟨v824, hv824, h⟩ := bs h
             refine wp_reg (nx' := 148) z (ev_den (.ref 2 _ _ _ _) z z (ev_v z z (ev_den (.ptr 2 [.e (Int.toNat x590)] none) z (d_idx_r (p := []) z z hv824) (ev_v z (d_ld_p z (rget_of z (get_i hv824)) z) (ev_den (.ptr 3 [] (some 0)) z z (ev_v z (d_ld_o z (rget_of z (get_nil)) z z) (ev_v z z (ev_v z z (ev_v z z (ev_nil)))))))))) (seqQ_n (?_))
             rcases its h with ⟨hc825, h⟩ | ⟨hc825, h⟩
             ·refine wp_ct z hc825 ?_
              exact wp_reg (nx' := 276) z (ev_den (.ref 2 _ _ _ _) z z (ev_v z z (ev_den (.ptr 2 [.e (Int.toNat x590)] none) z (d_idx_r (p := []) z z hv824) (ev_v z (d_ld_p z (rget_of z (get_i hv824)) z) (ev_den (.ptr 3 [] (some 0)) z z (ev_v z (d_ld_o z (rget_of z (get_nil)) z z) (ev_v z z (ev_v z z (ev_nil))))))))) (blkQ_n (gcQ_n (gc_to [0, 1, 2] (e := [(0, .vw [] (.ints .u8 p0)), (1, .vw [] (.ints .u8 p1)), (5, .ptr 0 [] (some 0)), (6, .ref 1 [] 3 0 (List.length v169.2)), (7, .vw [] (.int .i64 v170.1)), (11, .vw [] (.int .i64 v172.1)), (15, .ref 2 [] 1 0 (List.length v429.1)), (17, .vw [] (.int .i64 ((w64 (v824 - v717.1))))), (141, .ref 1 [] 3 0 (List.length v169.2)), (142, .vw [] (.int .i64 ((List.length v169.2 : Int)))), (143, .vw [] (.int .i64 x590))]) (ts := [some (.ptr (.agg [.int .i64 v169.1.1, .int .i64 v169.1.2.1, .int .i64 v169.1.2.2])), some (.rows 3 (List.map e0 v169.2)), some (.ints .i64 v429.1)]) (n := 3) z z z z) (joinQ_n (w64 (v824 - v717.1)) h (gc_to [0, 1, 2] z z z z))))
             ·refine wp_cf z hc825 ?_
              exact wp_skip (blkQ_n (gcQ_n (gc_to [0, 1, 2] (e := [(0, .vw [] (.ints .u8 p0)), (1, .vw [] (.ints .u8 p1)), (5, .ptr 0 [] (some 0)), (6, .ref 1 [] 3 0 (List.length v169.2)), (7, .vw [] (.int .i64 v170.1)), (11, .vw [] (.int .i64 v172.1)), (15, .ref 2 [] 1 0 (List.length v429.1)), (17, .vw [] (.int .i64 x589)), (141, .ref 1 [] 3 0 (List.length v169.2)), (142, .vw [] (.int .i64 ((List.length v169.2 : Int)))), (143, .vw [] (.int .i64 x590))]) (ts := [some (.ptr (.agg [.int .i64 v169.1.1, .int .i64 v169.1.2.1, .int .i64 v169.1.2.2])), some (.rows 3 (List.map e0 v169.2)), some (.ints .i64 v429.1)]) (n := 3) z z z z) (joinQ_n x589 h (gc_to [0, 1, 2] z z z z))))
           ·rcases its h with ⟨hc828, h⟩ | ⟨hc828, h⟩
            ·exact wp_reg (nx' := 468) z (ev_v z z (ev_v z z (ev_v z z (ev_off z hc828 (ev_off z hc828 (ev_off z hc828 (ev_off z hc828 (ev_off z hc828 (ev_off z hc828 (ev_off z hc828 (ev_off z hc828 (ev_off z hc828 (ev_v z (d_pick_t z hc828 z) (ev_v z z (ev_off z z (ev_off z z (ev_off z z (ev_off z z (ev_off z z (ev_off z z (ev_v z (d_pick_t z z z) (ev_nil)))))))))))))))))))))) (joinQ_n true h (gc_to [0, 1, 2, 3] z z z z))
            ·obtain ⟨v830, hv830, h⟩ := bs h
             rcases its h with ⟨hc831, h⟩ | ⟨hc831, h⟩
             ·exact wp_reg (nx' := 468) z (ev_v z z (ev_v z z (ev_v z z (ev_on z hc828 (ev_den (.ref 2 _ _ _ _) z z (ev_on z hc828 (ev_v z z (ev_on z hc828 (ev_den (.ptr 2 [.e (Int.toNat x590)] none) z (d_idx_r (p := []) z z hv830) (ev_on z hc828 (ev_v z (d_ld_p z (rget_of z (get_i hv830)) z) (ev_on z hc828 (ev_den (.ptr 3 [] (some 0)) z z (ev_on z hc828 (ev_v z (d_ld_o z (rget_of z (get_nil)) z z) (ev_on z hc828 (ev_v z z (ev_on z hc828 (ev_v z z (ev_on z hc828 (ev_v z z (ev_v z (d_pick_f z hc828 z) (ev_v z z (ev_off z hc831 (ev_off z hc831 (ev_off z hc831 (ev_off z hc831 (ev_off z hc831 (ev_off z hc831 (ev_v z (d_pick_t z hc831 z) (ev_nil))))))))))))))))))))))))))))))) (joinQ_n true h (gc_to [0, 1, 2, 3] z z z z))
             ·exact wp_reg (nx' := 468) z (ev_v z z (ev_v z z (ev_v z z (ev_on z hc828 (ev_den (.ref 2 _ _ _ _) z z (ev_on z hc828 (ev_v z z (ev_on z hc828 (ev_den (.ptr 2 [.e (Int.toNat x590)] none) z (d_idx_r (p := []) z z hv830) (ev_on z hc828 (ev_v z (d_ld_p z (rget_of z (get_i hv830)) z) (ev_on z hc828 (ev_den (.ptr 3 [] (some 0)) z z (ev_on z hc828 (ev_v z (d_ld_o z (rget_of z (get_nil)) z z) (ev_on z hc828 (ev_v z z (ev_on z hc828 (ev_v z z (ev_on z hc828 (ev_v z z (ev_v z (d_pick_f z hc828 z) (ev_v z z (ev_on z hc831 (ev_den (.ref 2 _ _ _ _) z z (ev_on z hc831 (ev_v z z (ev_on z hc831 (ev_den (.ptr 2 [.e (Int.toNat x590)] none) z (d_idx_r (p := []) z z hv830) (ev_on z hc831 (ev_v z (d_ld_p z (rget_of z (get_i hv830)) z) (ev_on z hc831 (ev_v z z (ev_on z hc831 (ev_v z z (ev_v z (d_pick_f z hc831 z) (ev_nil))))))))))))))))))))))))))))))))))))) (joinQ_n (decide (v830 ≥ v172.1)) h (gc_to [0, 1, 2, 3] z z z z))
        ·refine wp_cf z hc657 ?_
         replace h := Option.some.inj h
         subst h
         exact wp_exit (gcQ_e (seqQ_e (gcQ_e (loopQ_e (And.intro z (gc_to [0, 1, 2] (e := [(0, .vw [] (.ints .u8 p0)), (1, .vw [] (.ints .u8 p1)), (5, .ptr 0 [] (some 0)), (6, .ref 1 [] 3 0 (List.length v169.2)), (7, .vw [] (.int .i64 v170.1)), (15, .ref 2 [] 1 0 (List.length v429.1)), (17, .vw [] (.int .i64 x589))]) (ts := [some (.ptr (.agg [.int .i64 v169.1.1, .int .i64 v169.1.2.1, .int .i64 v169.1.2.2])), some (.rows 3 (List.map e0 v169.2)), some (.ints .i64 v429.1)]) (n := 3) z z z z))))))
       ·intro e st835 hg835
        rcases w835 with x623 | r942
        ·obtain ⟨rfl, hg835⟩ := hg835
         refine blkQ_h (gcQ_n hg835 (gcQ_n (gc_to [0, 1, 2] (e := [(0, .vw [] (.ints .u8 p0)), (1, .vw [] (.ints .u8 p1)), (5, .ptr 0 [] (some 0)), (6, .ref 1 [] 3 0 (List.length v169.2)), (7, .vw [] (.int .i64 v170.1)), (15, .ref 2 [] 1 0 (List.length v429.1)), (17, .vw [] (.int .i64 x623))]) (ts := [some (.ptr (.agg [.int .i64 v169.1.1, .int .i64 v169.1.2.1, .int .i64 v169.1.2.2])), some (.rows 3 (List.map e0 v169.2)), some (.ints .i64 v429.1)]) (n := 3) z z z z) (seqQ_n (?_))))
         refine wp_seq ?_
         refine wp_gc ?_
         refine wp_seq ?_
         refine wp_reg (nx' := 51) z (ev_v z z (ev_v z z (ev_v z z (ev_nil)))) (seqQ_n (?_))
         rcases its h with ⟨hc837, h⟩ | ⟨hc837, h⟩
         ·refine wp_ct z hc837 ?_
          refine wp_seq ?_
          refine wp_reg (nx' := 67) z (ev_v z z (ev_nil)) (seqQ_n (?_))
          replace h := Option.some.inj h
          subst h
          exact wp_ret (gcQ_r (seqQ_r (joinQ_r (seqQ_r (qf_r ((outs_ok (vs := [(.vw _ _)]) z (absW_cons z z (absW_nil)) z z)))))))
         ·refine wp_cf z hc837 ?_
          refine wp_skip (gcQ_n (gc_to [0, 1, 2] (e := [(0, .vw [] (.ints .u8 p0)), (1, .vw [] (.ints .u8 p1)), (5, .ptr 0 [] (some 0)), (6, .ref 1 [] 3 0 (List.length v169.2)), (15, .ref 2 [] 1 0 (List.length v429.1))]) (ts := [some (.ptr (.agg [.int .i64 v169.1.1, .int .i64 v169.1.2.1, .int .i64 v169.1.2.2])), some (.rows 3 (List.map e0 v169.2)), some (.ints .i64 v429.1)]) (n := 3) z z z z) (seqQ_n (?_)))
          refine wp_seq ?_
          obtain ⟨v838, hv838, h⟩ := bs h
          refine wp_reg (nx' := 147) z (ev_v z z (ev_v z z (ev_v z z (ev_v z z (ev_v z z (ev_v z z (ev_den (.vw [] (.int .i64 v838)) z (d_as_i z (Option.some.inj hv838)) (ev_v z (d_rem (u := ()) z z z) (ev_v z z (ev_nil)))))))))) (seqQ_n (?_))
          refine wp_seq ?_
          obtain ⟨v839, hv839, h⟩ := bs h
          refine wp_reg (nx' := 291) z (ev_den (.agg [(.vw _ _), (.vw _ _), (.vw _ _)]) z (d_ld_os z (rget_of z (get_nil)) z (cells_cons z (cells_cons z (cells_cons z (cells_nil))))) (ev_den (.ref 1 _ _ _ _) z z (ev_v z z (ev_call0 [(.agg [(.vw _ _), (.vw _ _), (.vw _ _)]), (.ref 1 _ _ _ _), (.vw _ _)] z (call_okf (vs' := [(.agg [(.vw _ _), (.vw _ _), (.vw _ _)]), (.ref 1 _ _ _ _), (.vw _ _)]) z (call_ok (rs := []) (rd := [1]) z z z z (argL_cons (argT_a (argL_cons z (argL_cons z (argL_cons z (argL_nil))))) (argL_cons (argT_r (rget_of z (get_nil)) sub_r) (argL_cons z (argL_nil)))) z z (impl_BacklogAt_ok hv839) z z (by simp [T.open_, T.noSh, noShL, ns_ints, ns_bool, ns_str, ns_e0]) (bindR_t (bindL_cons z (bindL_cons z (bindL_nil)))) z)) (ev_den (.tup [(.ref 195 _ _ _ _), (.vw _ _)]) z z (ev_den (.ref 195 _ _ _ _) z z (ev_v z z (ev_den (.ref 195 _ _ _ _) z z (ev_v z z (ev_nil)))))))))) (seqQ_n (?_))
          refine wp_seq ?_
          refine wp_reg (nx' := 307) z (ev_v z z (ev_nil)) (seqQ_n (?_))
          refine wp_seq ?_
          refine wp_gc ?_
          refine wp_seq ?_
          refine wp_gc ?_
          refine wp_reg (nx' := 355) z (ev_den (.ref 1 _ _ _ _) z z (ev_v z z (ev_v z z (ev_nil)))) (gcQ_n (gc_to [2, 195, 1] (e := [(1, .vw [] (.ints .u8 p1)), (15, .ref 0 [] 1 0 (List.length v429.1)), (24, .vw [] (.int .i64 ((Int.tmod v838 (60 : Int))))), (25, .ref 1 [] 1 0 (List.length v839.1)), (26, .vw [] (.bool v839.2)), (27, .vw [] (.int .i64 ((0 : Int)))), (234, .ref 2 [] 3 0 (List.length v169.2)), (235, .vw [] (.int .i64 ((List.length v169.2 : Int)))), (236, .vw [] (.int .i64 ((0 : Int))))]) (ts := [some (.ints .i64 v429.1), some (.ints .i64 v839.1), some (.rows 3 (List.map e0 v169.2))]) (n := 3) z z z z) (seqQ_n (?_)))
          refine wp_gc ?_
          refine wp_blk ?_
          obtain ⟨x896, hw933, h⟩ := bs h
          refine wp_mono (wp_loop (fun ((x885, x886) : Int × Int) => (⟨al .dead [(1, .vw [] (.ints .u8 p1)), (15, .ref 0 [] 1 0 (List.length v429.1)), (24, .vw [] (.int .i64 ((Int.tmod v838 (60 : Int))))), (25, .ref 1 [] 1 0 (List.length v839.1)), (26, .vw [] (.bool v839.2)), (27, .vw [] (.int .i64 x885)), (234, .ref 2 [] 3 0 (List.length v169.2)), (235, .vw [] (.int .i64 ((List.length v169.2 : Int)))), (236, .vw [] (.int .i64 x886))], hl [some (.ints .i64 v429.1), some (.ints .i64 v839.1), some (.rows 3 (List.map e0 v169.2))], 3⟩ : St)) (fun (x896 : Int) e st => e = .exit 4 ∧ gc 0 [1, 25, 26, 27] st = ⟨al .dead [(1, .vw [] (.ints .u8 p1)), (25, .ref 0 [] 1 0 (List.length v839.1)), (26, .vw [] (.bool v839.2)), (27, .vw [] (.int .i64 x896))], hl [some (.ints .i64 v839.1)], 1⟩) hw933 ?_) ?_
          ·rintro ⟨x885, x886⟩ o h
           refine wp_gc ?_
           refine wp_seq ?_
           refine wp_reg (nx' := 19) z (ev_v z z (ev_nil)) (seqQ_n (?_))
           refine wp_seq ?_
           refine wp_gc ?_
           rcases its h with ⟨hc907, h⟩ | ⟨hc907, h⟩
           ·refine wp_ct z hc907 ?_
            refine wp_skip (gcQ_n (gc_to [0, 1, 2] (e := [(1, .vw [] (.ints .u8 p1)), (15, .ref 0 [] 1 0 (List.length v429.1)), (24, .vw [] (.int .i64 ((Int.tmod v838 (60 : Int))))), (25, .ref 1 [] 1 0 (List.length v839.1)), (26, .vw [] (.bool v839.2)), (27, .vw [] (.int .i64 x885)), (234, .ref 2 [] 3 0 (List.length v169.2)), (235, .vw [] (.int .i64 ((List.length v169.2 : Int)))), (236, .vw [] (.int .i64 x886))]) (ts := [some (.ints .i64 v429.1), some (.ints .i64 v839.1), some (.rows 3 (List.map e0 v169.2))]) (n := 3) z z z z) (seqQ_n (?_)))
            refine wp_seq ?_
            refine wp_join (laws_FnWaitsBounded_j15 x886) (fun (x913 : Int) => (⟨al .dead [(1, .vw [] (.ints .u8 p1)), (15, .ref 0 [] 1 0 (List.length v429.1)), (24, .vw [] (.int .i64 ((Int.tmod v838 (60 : Int))))), (25, .ref 1 [] 1 0 (List.length v839.1)), (26, .vw [] (.bool v839.2)), (27, .vw [] (.int .i64 x913)), (234, .ref 2 [] 3 0 (List.length v169.2)), (235, .vw [] (.int .i64 ((List.length v169.2 : Int)))), (236, .vw [] (.int .i64 x886))], hl [some (.ints .i64 v429.1), some (.ints .i64 v839.1), some (.rows 3 (List.map e0 v169.2))], 3⟩ : St)) ?_ ?_
            ·rintro x913 o h
             unfold laws_FnWaitsBounded_j15 at h
             refine seqQ_n (?_)
             replace h := Option.some.inj h
             subst h
             exact wp_reg (nx' := 35) z (ev_v z z (ev_v z z (ev_nil))) (gcQ_n (gc_to [0, 1, 2] (e := [(1, .vw [] (.ints .u8 p1)), (15, .ref 0 [] 1 0 (List.length v429.1)), (24, .vw [] (.int .i64 ((Int.tmod v838 (60 : Int))))), (25, .ref 1 [] 1 0 (List.length v839.1)), (26, .vw [] (.bool v839.2)), (27, .vw [] (.int .i64 x913)), (234, .ref 2 [] 3 0 (List.length v169.2)), (235, .vw [] (.int .i64 ((List.length v169.2 : Int)))), (236, .vw [] (.int .i64 ((w64 (x886 + (1 : Int))))))]) (ts := [some (.ints .i64 v429.1), some (.ints .i64 v839.1), some (.rows 3 (List.map e0 v169.2))]) (n := 3) z z z z) (loopQ_n z))
            ·refine wp_gc ?_
             refine wp_blk ?_
             refine wp_seq ?_
             obtain ⟨v921, hv921, h⟩ := bs h
             refine wp_reg (nx' := 99) z (ev_v z z (ev_den (.ptr 2 [.e (Int.toNat x886)] (some 0)) z (d_idx_r (p := []) z z hv921) (ev_den (.agg [(.vw _ _), (.vw _ _), (.vw _ _)]) z (d_ld_os z (rget_of z (get_r (e := e0) hv921 (get_nil))) z (cells_cons z (cells_cons z (cells_cons z (cells_nil))))) (ev_new (.ptr 51 [] (some 0)) (.ptr (.agg [.int .i64 ((0 : Int)), .int .i64 ((0 : Int)), .int .i64 ((0 : Int))])) z z (ev_v z z (ev_wr0 z (w_st_a z z z (stL_cons (st1_of z z z (get_f z (get_nil)) z (rput_p (put_f z (put_nil)))) z (stL_cons (st1_of z z z (get_f z (get_nil)) z (rput_p (put_f z (put_nil)))) z (stL_cons (st1_of z z z (get_f z (get_nil)) z (rput_p (put_f z (put_nil)))) z (stL_nil))))) (ev_nil))))))) (seqQ_n (?_))
             refine wp_seq ?_
             refine wp_join (laws_FnWaitsBounded_j16 x885 x886) (fun (x924 : Bool) => (⟨al .dead [(1, .vw [] (.ints .u8 p1)), (15, .ref 0 [] 1 0 (List.length v429.1)), (24, .vw [] (.int .i64 ((Int.tmod v838 (60 : Int))))), (25, .ref 1 [] 1 0 (List.length v839.1)), (26, .vw [] (.bool v839.2)), (27, .vw [] (.int .i64 x885)), (234, .ref 2 [] 3 0 (List.length v169.2)), (235, .vw [] (.int .i64 ((List.length v169.2 : Int)))), (236, .vw [] (.int .i64 x886)), (252, .vw [] (.bool x924))], hl [some (.ints .i64 v429.1), some (.ints .i64 v839.1), some (.rows 3 (List.map e0 v169.2))], 3⟩ : St)) ?_ ?_
             ·rintro x924 o h
              unfold laws_FnWaitsBounded_j16 at h
              refine seqQ_n (?_)
              rcases its h with ⟨hc925, h⟩ | ⟨hc925, h⟩
              ·refine wp_ct z hc925 ?_
               exact wp_reg (nx' := 51) z (ev_v z z (ev_v z z (ev_v z z (ev_nil)))) (blkQ_n (gcQ_n (gc_to [0, 1, 2] (e := [(1, .vw [] (.ints .u8 p1)), (15, .ref 0 [] 1 0 (List.length v429.1)), (24, .vw [] (.int .i64 ((Int.tmod v838 (60 : Int))))), (25, .ref 1 [] 1 0 (List.length v839.1)), (26, .vw [] (.bool v839.2)), (27, .vw [] (.int .i64 ((w64 (x885 + (1 : Int)))))), (234, .ref 2 [] 3 0 (List.length v169.2)), (235, .vw [] (.int .i64 ((List.length v169.2 : Int)))), (236, .vw [] (.int .i64 x886))]) (ts := [some (.ints .i64 v429.1), some (.ints .i64 v839.1), some (.rows 3 (List.map e0 v169.2))]) (n := 3) z z z z) (joinQ_n (w64 (x885 + (1 : Int))) h (gc_to [0, 1, 2] z z z z))))
              ·refine wp_cf z hc925 ?_
               exact wp_skip (blkQ_n (gcQ_n (gc_to [0, 1, 2] (e := [(1, .vw [] (.ints .u8 p1)), (15, .ref 0 [] 1 0 (List.length v429.1)), (24, .vw [] (.int .i64 ((Int.tmod v838 (60 : Int))))), (25, .ref 1 [] 1 0 (List.length v839.1)), (26, .vw [] (.bool v839.2)), (27, .vw [] (.int .i64 x885)), (234, .ref 2 [] 3 0 (List.length v169.2)), (235, .vw [] (.int .i64 ((List.length v169.2 : Int)))), (236, .vw [] (.int .i64 x886))]) (ts := [some (.ints .i64 v429.1), some (.ints .i64 v839.1), some (.rows 3 (List.map e0 v169.2))]) (n := 3) z z z z) (joinQ_n x885 h (gc_to [0, 1, 2] z z z z))))
             ·rcases its h with ⟨hc928, h⟩ | ⟨hc928, h⟩
              ·obtain ⟨v929, hv929, h⟩ := bs h
               exact wp_reg (nx' := 291) z (ev_den (.ptr 51 [] (some 0)) z z (ev_v z (d_ld_o z (rget_of z (get_nil)) z z) (ev_v z z (ev_v z z (ev_v z z (ev_on z hc928 (ev_den (.ref 0 _ _ _ _) z z (ev_on z hc928 (ev_v z z (ev_on z hc928 (ev_den (.ptr 0 [.e (Int.toNat x886)] none) z (d_idx_r (p := []) z z hv929) (ev_on z hc928 (ev_v z (d_ld_p z (rget_of z (get_i hv929)) z) (ev_on z hc928 (ev_v z z (ev_on z hc928 (ev_v z z (ev_v z (d_pick_t z hc928 z) (ev_nil))))))))))))))))))) (joinQ_n (decide (v929 > (Int.tmod v838 (60 : Int)))) h (gc_to [0, 1, 2] z z z z))
              ·exact wp_reg (nx' := 291) z (ev_den (.ptr 51 [] (some 0)) z z (ev_v z (d_ld_o z (rget_of z (get_nil)) z z) (ev_v z z (ev_v z z (ev_v z z (ev_off z hc928 (ev_off z hc928 (ev_off z hc928 (ev_off z hc928 (ev_off z hc928 (ev_off z hc928 (ev_v z (d_pick_f z hc928 z) (ev_nil))))))))))))) (joinQ_n false h (gc_to [0, 1, 2] z z z z))
           ·refine wp_cf z hc907 ?_
            replace h := Option.some.inj h
            subst h
            exact wp_exit (gcQ_e (seqQ_e (gcQ_e (loopQ_e (And.intro z (gc_to [1] (e := [(1, .vw [] (.ints .u8 p1)), (25, .ref 0 [] 1 0 (List.length v839.1)), (26, .vw [] (.bool v839.2)), (27, .vw [] (.int .i64 x885))]) (ts := [some (.ints .i64 v839.1)]) (n := 1) z z z z))))))
          ·intro e st933 hg933
           obtain ⟨rfl, hg933⟩ := hg933
           refine blkQ_h (gcQ_n hg933 (gcQ_n (gc_to [0] (e := [(1, .vw [] (.ints .u8 p1)), (25, .ref 0 [] 1 0 (List.length v839.1)), (26, .vw [] (.bool v839.2)), (27, .vw [] (.int .i64 x896))]) (ts := [some (.ints .i64 v839.1)]) (n := 1) z z z z) (seqQ_n (?_))))
           refine wp_seq ?_
           refine wp_join (laws_FnWaitsBounded_j17 p1) (fun (x936 : Bool) => (⟨al .dead [(1, .vw [] (.ints .u8 p1)), (263, .vw [] (.bool x936))], hl [], 0⟩ : St)) ?_ ?_
           ·rintro x936 o h
            unfold laws_FnWaitsBounded_j17 at h
            refine seqQ_n (?_)
            rcases its h with ⟨hc937, h⟩ | ⟨hc937, h⟩
            ·refine wp_ct z hc937 ?_
             refine wp_seq ?_
             refine wp_reg (nx' := 16) z (ev_v z z (ev_nil)) (seqQ_n (?_))
             replace h := Option.some.inj h
             subst h
             exact wp_ret (joinQ_r (seqQ_r (qf_r ((outs_ok (vs := [(.vw _ _)]) z (absW_cons z z (absW_nil)) z z)))))
            ·refine wp_cf z hc937 ?_
             exact wp_skip (joinQ_n () h (gc_to [] z z z z))
           ·rcases its h with ⟨hc938, h⟩ | ⟨hc938, h⟩
            ·exact wp_reg (nx' := 129) z (ev_v z z (ev_v z z (ev_v z z (ev_off z hc938 (ev_off z hc938 (ev_off z hc938 (ev_off z hc938 (ev_v z (d_pick_t z hc938 z) (ev_nil))))))))) (joinQ_n true h (gc_to [] z z z z))
            ·obtain ⟨v940, hv940, h⟩ := bs h
             exact wp_reg (nx' := 129) z (ev_v z z (ev_v z z (ev_v z z (ev_on z hc938 (ev_den (.ref 0 _ _ _ _) z z (ev_on z hc938 (ev_call0 [(.ref 0 _ _ _ _)] z (call_okf (vs' := [(.ref 0 _ _ _ _)]) z (call_ok (rs := []) (rd := [0]) z z z z (argL_cons (argT_r (rget_of z (get_nil)) sub_i) (argL_nil)) z z (laws_zSum_ok hv940) z z z z z)) (ev_on z hc938 (ev_v z z (ev_on z hc938 (ev_v z z (ev_v z (d_pick_f z hc938 z) (ev_nil))))))))))))) (joinQ_n (v940 != x896) h (gc_to [] z z z z))
        ·obtain ⟨rfl, hg835⟩ := hg835
         replace h := Option.some.inj h
         subst h
         exact blkQ_r (gcQ_r (gcQ_r (seqQ_r (joinQ_r (seqQ_r (qf_r (hg835)))))))
     ·refine wp_cf z hc428 ?_
      exact wp_skip (joinQ_n () h (gc_to [] z z z z))
  ·rcases its h with ⟨hc943, h⟩ | ⟨hc943, h⟩
   ·exact wp_reg (nx' := 1008) z (ev_v z z (ev_v z z (ev_v z z (ev_v z z (ev_off z hc943 (ev_off z hc943 (ev_off z hc943 (ev_v z (d_pick_t z hc943 z) (ev_v z z (ev_off z z (ev_off z z (ev_off z z (ev_v z (d_pick_t z z z) (ev_v z z (ev_off z z (ev_off z z (ev_off z z (ev_v z (d_pick_t z z z) (ev_v z z (ev_off z z (ev_off z z (ev_off z z (ev_v z (d_pick_t z z z) (ev_nil)))))))))))))))))))))))) (joinQ_n true h (gc_to [80, 16] z z z z))
   ·rcases its h with ⟨hc945, h⟩ | ⟨hc945, h⟩
    ·exact wp_reg (nx' := 1008) z (ev_v z z (ev_v z z (ev_v z z (ev_v z z (ev_on z hc943 (ev_v z z (ev_on z hc943 (ev_v z z (ev_on z hc943 (ev_v z z (ev_v z (d_pick_f z hc943 z) (ev_v z z (ev_off z hc945 (ev_off z hc945 (ev_off z hc945 (ev_v z (d_pick_t z hc945 z) (ev_v z z (ev_off z z (ev_off z z (ev_off z z (ev_v z (d_pick_t z z z) (ev_v z z (ev_off z z (ev_off z z (ev_off z z (ev_v z (d_pick_t z z z) (ev_nil))))))))))))))))))))))))))) (joinQ_n true h (gc_to [80, 16] z z z z))
    ·rcases its h with ⟨hc947, h⟩ | ⟨hc947, h⟩
     ·exact wp_reg (nx' := 1008) z (ev_v z z (ev_v z z (ev_v z z (ev_v z z (ev_on z hc943 (ev_v z z (ev_on z hc943 (ev_v z z (ev_on z hc943 (ev_v z z (ev_v z (d_pick_f z hc943 z) (ev_v z z (ev_on z hc945 (ev_v z z (ev_on z hc945 (ev_v z z (ev_on z hc945 (ev_v z z (ev_v z (d_pick_f z hc945 z) (ev_v z z (ev_off z hc947 (ev_off z hc947 (ev_off z hc947 (ev_v z (d_pick_t z hc947 z) (ev_v z z (ev_off z z (ev_off z z (ev_off z z (ev_v z (d_pick_t z z z) (ev_nil)))))))))))))))))))))))))))))) (joinQ_n true h (gc_to [80, 16] z z z z))
     ·rcases its h with ⟨hc949, h⟩ | ⟨hc949, h⟩
      ·exact wp_reg (nx' := 1008) z (ev_v z z (ev_v z z (ev_v z z (ev_v z z (ev_on z hc943 (ev_v z z (ev_on z hc943 (ev_v z z (ev_on z hc943 (ev_v z z (ev_v z (d_pick_f z hc943 z) (ev_v z z (ev_on z hc945 (ev_v z z (ev_on z hc945 (ev_v z z (ev_on z hc945 (ev_v z z (ev_v z (d_pick_f z hc945 z) (ev_v z z (ev_on z hc947 (ev_v z z (ev_on z hc947 (ev_v z z (ev_on z hc947 (ev_v z z (ev_v z (d_pick_f z hc947 z) (ev_v z z (ev_off z hc949 (ev_off z hc949 (ev_off z hc949 (ev_v z (d_pick_t z hc949 z) (ev_nil))))))))))))))))))))))))))))))))) (joinQ_n true h (gc_to [80, 16] z z z z))
      ·exact wp_reg (nx' := 1008) z (ev_v z z (ev_v z z (ev_v z z (ev_v z z (ev_on z hc943 (ev_v z z (ev_on z hc943 (ev_v z z (ev_on z hc943 (ev_v z z (ev_v z (d_pick_f z hc943 z) (ev_v z z (ev_on z hc945 (ev_v z z (ev_on z hc945 (ev_v z z (ev_on z hc945 (ev_v z z (ev_v z (d_pick_f z hc945 z) (ev_v z z (ev_on z hc947 (ev_v z z (ev_on z hc947 (ev_v z z (ev_on z hc947 (ev_v z z (ev_v z (d_pick_f z hc947 z) (ev_v z z (ev_on z hc949 (ev_v z z (ev_on z hc949 (ev_v z z (ev_on z hc949 (ev_v z z (ev_v z (d_pick_f z hc949 z) (ev_nil)))))))))))))))))))))))))))))))))))) (joinQ_n (!(v172.2 == v170.2)) h (gc_to [80, 16] z z z z))
end Go.Proofs.Ytdblfocadcgmaaa.Ev.W7
