/- What functions of the program come to, as plain functions; no condition. -/
import Derived.Test.YteeejellpcikkaaH57
set_option linter.unusedVariables false
set_option linter.unusedSimpArgs false
set_option maxRecDepth 100000
set_option maxHeartbeats 4000000
set_option linter.unusedVariables false
namespace Go.Proofs.Yteeejellpcikkaa.Ev.H5
open Go
noncomputable def laws_FnSlotsHeld_j6 (x354 : Int) : Int → Option ((Int × Int) ⊕ Int) := fun x384 =>
some (.inl (x384, (w64 (x354 + (1 : Int)))))
noncomputable def laws_FnSlotsHeld_j7 (x353 : Int) (x354 : Int) : Bool → Option ((Int × Int) ⊕ Int) := fun x397 =>
if x397 = true then
laws_FnSlotsHeld_j6 x354 (w64 (x353 + (1 : Int)))
else
laws_FnSlotsHeld_j6 x354 x353
noncomputable def laws_FnSlotsHeld_s5 (v226 : ((Int × Bool) × (List (Int × Int × Int)) × Int × Int)) (v302 : ((List Int) × Bool)) : (Int × Int) → Option ((Int × Int) ⊕ Int) := fun (x353, x354) =>
if (decide (x354 < (List.length v226.2.1 : Int))) = true then
(at? v226.2.1 x354).bind fun v393 =>
if (v393.2.1 == v226.2.2.1) = true then
if (decide (v393.1 ≤ v226.2.2.2)) = true then
(at? v302.1 x354).bind fun v403 =>
laws_FnSlotsHeld_j7 x353 x354 (decide (v403 > v226.2.2.2))
else
laws_FnSlotsHeld_j7 x353 x354 false
else
laws_FnSlotsHeld_j7 x353 x354 false
else
some (.inr x353)
noncomputable def laws_FnSlotsHeld_l5 (v226 : ((Int × Bool) × (List (Int × Int × Int)) × Int × Int)) (v302 : ((List Int) × Bool)) : (Int × Int) → Option Int := iter (laws_FnSlotsHeld_s5 v226 v302)
noncomputable def laws_FnSlotsHeld_j4 (v226 : ((Int × Bool) × (List (Int × Int × Int)) × Int × Int)) (v227 : ((List Int) × Bool)) : Unit → Option (Bool) := fun _ =>
if v227.2 = true then
(impl_FilledAt v226.1 v226.2.1).bind fun v302 =>
(laws_FnSlotsHeld_l5 v226 v302 ((0 : Int), (0 : Int))).bind fun x365 =>
if v302.2 = true then
some (x365 == (List.length v227.1 : Int))
else
some false
else
some true
noncomputable def laws_FnSlotsHeld_j8 (v226 : ((Int × Bool) × (List (Int × Int × Int)) × Int × Int)) (v227 : ((List Int) × Bool)) : Bool → Option (Bool) := fun x423 =>
if x423 = true then
some false
else
laws_FnSlotsHeld_j4 v226 v227 ()
noncomputable def laws_FnSlotsHeld_j3 (v226 : ((Int × Bool) × (List (Int × Int × Int)) × Int × Int)) (v227 : ((List Int) × Bool)) (v232 : ((Int × Bool) × (List (Int × Int × Int)) × Int)) (v233 : ((List (Int × Int × Int)) × Bool)) : Bool → Option (Bool) := fun x261 =>
if x261 = true then
some false
else
if v233.2 = true then
(impl_FilledAt v232.1 v232.2.1).bind fun v412 =>
(impl_FilledAt v232.1 v233.1).bind fun v413 =>
(impl_ReadAt v232.1 v233.1).bind fun v414 =>
(impl_ReadAt v232.1 v232.2.1).bind fun v415 =>
if (!v412.2) = true then
laws_FnSlotsHeld_j8 v226 v227 true
else
if (!v413.2) = true then
laws_FnSlotsHeld_j8 v226 v227 true
else
(laws_kSame v412.1 v413.1).bind fun v429 =>
if (!v429) = true then
laws_FnSlotsHeld_j8 v226 v227 true
else
if (!v414.2) = true then
laws_FnSlotsHeld_j8 v226 v227 true
else
if (!v415.2) = true then
laws_FnSlotsHeld_j8 v226 v227 true
else
(laws_kSame v414.1 v415.1).bind fun v436 =>
laws_FnSlotsHeld_j8 v226 v227 (!v436)
else
laws_FnSlotsHeld_j4 v226 v227 ()
noncomputable def laws_FnSlotsHeld_j2 (p1 : List Int) : Unit → Option (Bool) := fun _ =>
(spec_DrawQueueAt p1).bind fun v226 =>
(impl_QueueAt v226.1 v226.2.1 v226.2.2.1 v226.2.2.2).bind fun v227 =>
(spec_QueueAt v226.1 v226.2.1 v226.2.2.1 v226.2.2.2).bind fun v228 =>
(spec_DrawFullTicks p1).bind fun v229 =>
(impl_FullTicks v229.1 v229.2.1 v229.2.2).bind fun v230 =>
(spec_FullTicks v229.1 v229.2.1 v229.2.2).bind fun v231 =>
(spec_DrawTurnMessages p1).bind fun v232 =>
(impl_TurnMessages v232.1 v232.2.1 v232.2.2).bind fun v233 =>
(spec_TurnMessages v232.1 v232.2.1 v232.2.2).bind fun v234 =>
if (!(v227.2 == v228.2)) = true then
laws_FnSlotsHeld_j3 v226 v227 v232 v233 true
else
(laws_kSame v227.1 v228.1).bind fun v440 =>
if (!v440) = true then
laws_FnSlotsHeld_j3 v226 v227 v232 v233 true
else
if (!(v230.2 == v231.2)) = true then
laws_FnSlotsHeld_j3 v226 v227 v232 v233 true
else
if (v230.1 != v231.1) = true then
laws_FnSlotsHeld_j3 v226 v227 v232 v233 true
else
if v230.2 = true then
if (decide (v230.1 < (0 : Int))) = true then
laws_FnSlotsHeld_j3 v226 v227 v232 v233 true
else
if (decide (v230.1 > v229.2.2)) = true then
laws_FnSlotsHeld_j3 v226 v227 v232 v233 true
else
if (!(v233.2 == v234.2)) = true then
laws_FnSlotsHeld_j3 v226 v227 v232 v233 true
else
(laws_kMessages v233.1 v234.1).bind fun v454 =>
laws_FnSlotsHeld_j3 v226 v227 v232 v233 (!v454)
else
if (!(v233.2 == v234.2)) = true then
laws_FnSlotsHeld_j3 v226 v227 v232 v233 true
else
(laws_kMessages v233.1 v234.1).bind fun v458 =>
laws_FnSlotsHeld_j3 v226 v227 v232 v233 (!v458)
noncomputable def laws_FnSlotsHeld_j11 (x562 : Int) : Int → Option ((Int × Int) ⊕ (Int ⊕ Bool)) := fun x616 =>
some (.inl (x616, (w64 (x562 + (1 : Int)))))
noncomputable def laws_FnSlotsHeld_j12 (x561 : Int) (x562 : Int) : Bool → Option ((Int × Int) ⊕ (Int ⊕ Bool)) := fun x658 =>
if x658 = true then
some (.inr (.inr false))
else
laws_FnSlotsHeld_j11 x562 (w64 (x561 + (1 : Int)))
noncomputable def laws_FnSlotsHeld_s10 (v145 : ((Int × Bool) × (List (Int × Int × Int)) × Int)) (v146 : ((List Int) × Bool)) (v461 : ((List Int) × Bool)) (v462 : ((List Int) × Bool)) : (Int × Int) → Option ((Int × Int) ⊕ (Int ⊕ Bool)) := fun (x561, x562) =>
if (decide (x562 < (List.length v146.1 : Int))) = true then
(at? v146.1 x562).bind fun v633 =>
if (v633 == (0 : Int)) = true then
laws_FnSlotsHeld_j11 x562 x561
else
(at? v145.2.1 ((w64 (v633 - (1 : Int))))).bind fun v637 =>
(at? v461.1 ((w64 (v633 - (1 : Int))))).bind fun v661 =>
if (decide (v661 > v145.2.2)) = true then
laws_FnSlotsHeld_j12 x561 x562 true
else
(nz? v145.1.1).bind fun u664 =>
if ((Int.tmod (w64 (x562 + v661)) v145.1.1) != v637.2.1) = true then
laws_FnSlotsHeld_j12 x561 x562 true
else
if (!v145.1.2) = true then
(at? v462.1 ((w64 (v633 - (1 : Int))))).bind fun v668 =>
if (decide (v668 ≤ v145.2.2)) = true then
laws_FnSlotsHeld_j12 x561 x562 true
else
if v145.1.2 = true then
laws_FnSlotsHeld_j12 x561 x562 (decide ((w64 (v661 + v145.1.1)) ≤ v145.2.2))
else
laws_FnSlotsHeld_j12 x561 x562 false
else
if v145.1.2 = true then
laws_FnSlotsHeld_j12 x561 x562 (decide ((w64 (v661 + v145.1.1)) ≤ v145.2.2))
else
laws_FnSlotsHeld_j12 x561 x562 false
else
some (.inr (.inl x561))
noncomputable def laws_FnSlotsHeld_l10 (v145 : ((Int × Bool) × (List (Int × Int × Int)) × Int)) (v146 : ((List Int) × Bool)) (v461 : ((List Int) × Bool)) (v462 : ((List Int) × Bool)) : (Int × Int) → Option (Int ⊕ Bool) := iter (laws_FnSlotsHeld_s10 v145 v146 v461 v462)
noncomputable def laws_FnSlotsHeld_j14 (x740 : Int) : Int → Option ((Int × Int) ⊕ Int) := fun x776 =>
some (.inl (x776, (w64 (x740 + (1 : Int)))))
noncomputable def laws_FnSlotsHeld_j16 (x739 : Int) (x740 : Int) : Bool → Option ((Int × Int) ⊕ Int) := fun x793 =>
if x793 = true then
laws_FnSlotsHeld_j14 x740 (w64 (x739 + (1 : Int)))
else
laws_FnSlotsHeld_j14 x740 x739
noncomputable def laws_FnSlotsHeld_j15 (v145 : ((Int × Bool) × (List (Int × Int × Int)) × Int)) (v461 : ((List Int) × Bool)) (x739 : Int) (x740 : Int) : Int → Option ((Int × Int) ⊕ Int) := fun x790 =>
(at? v461.1 x740).bind fun v797 =>
if (decide (v797 ≤ v145.2.2)) = true then
laws_FnSlotsHeld_j16 x739 x740 (decide (v145.2.2 < x790))
else
laws_FnSlotsHeld_j16 x739 x740 false
noncomputable def laws_FnSlotsHeld_s13 (v145 : ((Int × Bool) × (List (Int × Int × Int)) × Int)) (v461 : ((List Int) × Bool)) (v462 : ((List Int) × Bool)) : (Int × Int) → Option ((Int × Int) ⊕ Int) := fun (x739, x740) =>
if (decide (x740 < (List.length v145.2.1 : Int))) = true then
(at? v462.1 x740).bind fun v787 =>
if v145.1.2 = true then
(at? v461.1 x740).bind fun v802 =>
laws_FnSlotsHeld_j15 v145 v461 x739 x740 (w64 (v802 + v145.1.1))
else
laws_FnSlotsHeld_j15 v145 v461 x739 x740 v787
else
some (.inr x739)
noncomputable def laws_FnSlotsHeld_l13 (v145 : ((Int × Bool) × (List (Int × Int × Int)) × Int)) (v461 : ((List Int) × Bool)) (v462 : ((List Int) × Bool)) : (Int × Int) → Option Int := iter (laws_FnSlotsHeld_s13 v145 v461 v462)
noncomputable def laws_FnSlotsHeld_j9 (p1 : List Int) (v145 : ((Int × Bool) × (List (Int × Int × Int)) × Int)) (v146 : ((List Int) × Bool)) (v461 : ((List Int) × Bool)) (v462 : ((List Int) × Bool)) : Bool → Option (Bool) := fun x469 =>
if x469 = true then
some false
else
(laws_FnSlotsHeld_l10 v145 v146 v461 v462 ((0 : Int), (0 : Int))).bind fun w => match w with
| .inl x581 =>
(laws_FnSlotsHeld_l13 v145 v461 v462 ((0 : Int), (0 : Int))).bind fun x753 =>
if (x581 != x753) = true then
some false
else
laws_FnSlotsHeld_j2 p1 ()
| .inr r808 =>
some r808
noncomputable def laws_FnSlotsHeld_j1 (p1 : List Int) (v145 : ((Int × Bool) × (List (Int × Int × Int)) × Int)) (v146 : ((List Int) × Bool)) : Bool → Option (Bool) := fun x154 =>
if x154 = true then
some false
else
if v146.2 = true then
(impl_FilledAt v145.1 v145.2.1).bind fun v461 =>
(impl_ReadAt v145.1 v145.2.1).bind fun v462 =>
if (!v461.2) = true then
laws_FnSlotsHeld_j9 p1 v145 v146 v461 v462 true
else
if (!v462.2) = true then
laws_FnSlotsHeld_j9 p1 v145 v146 v461 v462 true
else
laws_FnSlotsHeld_j9 p1 v145 v146 v461 v462 ((List.length v146.1 : Int) != v145.1.1)
else
laws_FnSlotsHeld_j2 p1 ()
/-- loop.example/g01176/laws.FnSlotsHeld -/
noncomputable def laws_FnSlotsHeld (p0 : List Int) (p1 : List Int) : Option Bool :=
(laws_big p0 p1).bind fun v143 =>
if v143 = true then
some true
else
(spec_DrawSlotsAt p0).bind fun v145 =>
(impl_SlotsAt v145.1 v145.2.1 v145.2.2).bind fun v146 =>
(spec_SlotsAt v145.1 v145.2.1 v145.2.2).bind fun v147 =>
if (!(v146.2 == v147.2)) = true then
laws_FnSlotsHeld_j1 p1 v145 v146 true
else
(laws_kSame v146.1 v147.1).bind fun v816 =>
laws_FnSlotsHeld_j1 p1 v145 v146 (!v816)
theorem laws_FnSlotsHeld_ok {p0 : List Int} {p1 : List Int} {o : Bool} (h : laws_FnSlotsHeld p0 p1 = some o) : RN 3 [.ints .u8 p0, .ints .u8 p1] [] = some (.bool o, []) := by
 refine fn_run (o := o) (nr := 0) (F := k3) (st := ⟨entry 0 [.vw [] (.ints .u8 p0), .vw [] (.ints .u8 p1)], fun n => ([] : List T)[n]?, 0⟩) (fun (o : Bool) => (.bool o, [])) rfl fns_3 rfl rfl rfl ?_
 refine wp_seq ?_
 refine wp_reg (nx' := 16) rfl (ev_v rfl rfl (ev_nil)) (seqQ_n (?_))
 refine wp_seq ?_
 refine wp_gc ?_
 refine wp_seq ?_
 obtain ⟨v143, hv143, h⟩ := bs h
 refine wp_reg (nx' := 64) rfl (ev_v rfl rfl (ev_v rfl rfl (ev_call0 [(.vw _ _), (.vw _ _)] rfl (call_ok (rs := []) (rd := []) rfl rfl rfl rfl (argL_cons rfl (argL_cons rfl (argL_nil))) rfl rfl (laws_big_ok hv143) rfl rfl rfl rfl rfl) (ev_nil)))) (seqQ_n (?_))
 rcases its h with ⟨hc144, h⟩ | ⟨hc144, h⟩
 ·refine wp_ct rfl hc144 ?_
  refine wp_seq ?_
  refine wp_reg (nx' := 80) rfl (ev_v rfl rfl (ev_nil)) (seqQ_n (?_))
  replace h := Option.some.inj h
  subst h
  exact wp_ret (gcQ_r (seqQ_r (qf_r ((outs_ok (vs := [(.vw _ _)]) rfl (absW_cons rfl rfl (absW_nil)) rfl rfl)))))
 ·refine wp_cf rfl hc144 ?_
  refine wp_skip (gcQ_n (gc_to [] (e := [(0, .vw [] (.ints .u8 p0)), (1, .vw [] (.ints .u8 p1))]) (ts := []) (n := 0) rfl rfl rfl rfl) (seqQ_n (?_)))
  refine wp_seq ?_
  obtain ⟨v145, hv145, h⟩ := bs h
  refine wp_reg (nx' := 160) rfl (ev_v rfl rfl (ev_call0 [(.vw _ _)] rfl (call_ok (rs := []) (rd := []) rfl rfl rfl rfl (argL_cons rfl (argL_nil)) rfl rfl (spec_DrawSlotsAt_ok hv145) rfl rfl rfl (bindR_t (bindL_cons (bindR_a (bindL_cons rfl (bindL_cons rfl (bindL_nil)))) (bindL_cons bindR_r (bindL_cons rfl (bindL_nil))))) rfl) (ev_den (.tup [(.agg [(.vw _ _), (.vw _ _)]), (.ref 16 _ _ _ _), (.vw _ _)]) rfl rfl (ev_den (.agg [(.vw _ _), (.vw _ _)]) rfl rfl (ev_den (.ref 16 _ _ _ _) rfl rfl (ev_v rfl rfl (ev_new (.ptr 96 [] (some 0)) (.ptr (.agg [.int .i64 ((0 : Int)), .bool false])) rfl rfl (ev_wr0 rfl (w_st_a rfl rfl rfl (stL_cons (st1_of rfl rfl rfl (get_f rfl (get_nil)) rfl (rput_p (put_f rfl (put_nil)))) rfl (stL_cons (st1_of rfl rfl rfl (get_f rfl (get_nil)) rfl (rput_p (put_f rfl (put_nil)))) rfl (stL_nil)))) (ev_den (.ref 16 _ _ _ _) rfl rfl (ev_v rfl rfl (ev_nil))))))))))) (seqQ_n (?_))
  refine wp_seq ?_
  obtain ⟨v146, hv146, h⟩ := bs h
  refine wp_reg (nx' := 304) rfl (ev_den (.agg [(.vw _ _), (.vw _ _)]) rfl (d_ld_os rfl (rget_of rfl (get_nil)) rfl (cells_cons rfl (cells_cons rfl (cells_nil)))) (ev_den (.ref 16 _ _ _ _) rfl rfl (ev_v rfl rfl (ev_call0 [(.agg [(.vw _ _), (.vw _ _)]), (.ref 16 _ _ _ _), (.vw _ _)] rfl (call_ok (rs := []) (rd := [16]) rfl rfl rfl rfl (argL_cons (argT_a (argL_cons rfl (argL_cons rfl (argL_nil)))) (argL_cons (argT_r (rget_of rfl (get_nil)) sub_r) (argL_cons rfl (argL_nil)))) rfl rfl (impl_SlotsAt_ok hv146) rfl rfl (by simp [T.open_, T.noSh, noShL, ns_ints, ns_bool, ns_str, ns_e0]) (bindR_t (bindL_cons rfl (bindL_cons rfl (bindL_nil)))) rfl) (ev_den (.tup [(.ref 208 _ _ _ _), (.vw _ _)]) rfl rfl (ev_den (.ref 208 _ _ _ _) rfl rfl (ev_v rfl rfl (ev_den (.ref 208 _ _ _ _) rfl rfl (ev_v rfl rfl (ev_nil)))))))))) (seqQ_n (?_))
  refine wp_seq ?_
  obtain ⟨v147, hv147, h⟩ := bs h
  refine wp_reg (nx' := 448) rfl (ev_den (.agg [(.vw _ _), (.vw _ _)]) rfl (d_ld_os rfl (rget_of rfl (get_nil)) rfl (cells_cons rfl (cells_cons rfl (cells_nil)))) (ev_den (.ref 16 _ _ _ _) rfl rfl (ev_v rfl rfl (ev_call0 [(.agg [(.vw _ _), (.vw _ _)]), (.ref 16 _ _ _ _), (.vw _ _)] rfl (call_ok (rs := []) (rd := [16]) rfl rfl rfl rfl (argL_cons (argT_a (argL_cons rfl (argL_cons rfl (argL_nil)))) (argL_cons (argT_r (rget_of rfl (get_nil)) sub_r) (argL_cons rfl (argL_nil)))) rfl rfl (spec_SlotsAt_ok hv147) rfl rfl (by simp [T.open_, T.noSh, noShL, ns_ints, ns_bool, ns_str, ns_e0]) (bindR_t (bindL_cons rfl (bindL_cons rfl (bindL_nil)))) rfl) (ev_den (.tup [(.ref 352 _ _ _ _), (.vw _ _)]) rfl rfl (ev_den (.ref 352 _ _ _ _) rfl rfl (ev_v rfl rfl (ev_den (.ref 352 _ _ _ _) rfl rfl (ev_v rfl rfl (ev_nil)))))))))) (seqQ_n (?_))
  refine wp_seq ?_
  refine wp_gc ?_
  refine wp_seq ?_
  refine wp_join (laws_FnSlotsHeld_j1 p1 v145 v146) (fun (x154 : Bool) => (⟨al .dead [(1, .vw [] (.ints .u8 p1)), (5, .ptr 0 [] (some 0)), (6, .ref 1 [] 3 0 (List.length v145.2.1)), (7, .vw [] (.int .i64 v145.2.2)), (8, .ref 2 [] 1 0 (List.length v146.1)), (9, .vw [] (.bool v146.2)), (90, .vw [] (.bool x154))], hl [some (.ptr (.agg [.int .i64 v145.1.1, .bool v145.1.2])), some (.rows 3 (List.map e0 v145.2.1)), some (.ints .i64 v146.1)], 3⟩ : St)) ?_ ?_
  ·rintro x154 o h
   unfold laws_FnSlotsHeld_j1 at h
   refine seqQ_n (?_)
   rcases its h with ⟨hc155, h⟩ | ⟨hc155, h⟩
   ·refine wp_ct rfl hc155 ?_
    refine wp_seq ?_
    refine wp_reg (nx' := 19) rfl (ev_v rfl rfl (ev_nil)) (seqQ_n (?_))
    replace h := Option.some.inj h
    subst h
    exact wp_ret (gcQ_r (seqQ_r (qf_r ((outs_ok (vs := [(.vw _ _)]) rfl (absW_cons rfl rfl (absW_nil)) rfl rfl)))))
   ·refine wp_cf rfl hc155 ?_
    refine wp_skip (gcQ_n (gc_to [0, 1, 2] (e := [(1, .vw [] (.ints .u8 p1)), (5, .ptr 0 [] (some 0)), (6, .ref 1 [] 3 0 (List.length v145.2.1)), (7, .vw [] (.int .i64 v145.2.2)), (8, .ref 2 [] 1 0 (List.length v146.1)), (9, .vw [] (.bool v146.2))]) (ts := [some (.ptr (.agg [.int .i64 v145.1.1, .bool v145.1.2])), some (.rows 3 (List.map e0 v145.2.1)), some (.ints .i64 v146.1)]) (n := 3) rfl rfl rfl rfl) (seqQ_n (?_)))
    refine wp_seq ?_
    refine wp_join (laws_FnSlotsHeld_j2 p1) (fun (_ : Unit) => (⟨al .dead [(1, .vw [] (.ints .u8 p1))], hl [], 0⟩ : St)) ?_ ?_
    ·rintro _ o h
     unfold laws_FnSlotsHeld_j2 at h
     refine seqQ_n (?_)
     refine wp_seq ?_
     obtain ⟨v226, hv226, h⟩ := bs h
     refine wp_reg (nx' := 192) rfl (ev_v rfl rfl (ev_call0 [(.vw _ _)] rfl (call_ok (rs := []) (rd := []) rfl rfl rfl rfl (argL_cons rfl (argL_nil)) rfl rfl (spec_DrawQueueAt_ok hv226) rfl rfl rfl (bindR_t (bindL_cons (bindR_a (bindL_cons rfl (bindL_cons rfl (bindL_nil)))) (bindL_cons bindR_r (bindL_cons rfl (bindL_cons rfl (bindL_nil)))))) rfl) (ev_den (.tup [(.agg [(.vw _ _), (.vw _ _)]), (.ref 16 _ _ _ _), (.vw _ _), (.vw _ _)]) rfl rfl (ev_den (.agg [(.vw _ _), (.vw _ _)]) rfl rfl (ev_den (.ref 16 _ _ _ _) rfl rfl (ev_v rfl rfl (ev_v rfl rfl (ev_new (.ptr 112 [] (some 0)) (.ptr (.agg [.int .i64 ((0 : Int)), .bool false])) rfl rfl (ev_wr0 rfl (w_st_a rfl rfl rfl (stL_cons (st1_of rfl rfl rfl (get_f rfl (get_nil)) rfl (rput_p (put_f rfl (put_nil)))) rfl (stL_cons (st1_of rfl rfl rfl (get_f rfl (get_nil)) rfl (rput_p (put_f rfl (put_nil)))) rfl (stL_nil)))) (ev_den (.ref 16 _ _ _ _) rfl rfl (ev_v rfl rfl (ev_v rfl rfl (ev_nil))))))))))))) (seqQ_n (?_))
     refine wp_seq ?_
     obtain ⟨v227, hv227, h⟩ := bs h
     refine wp_reg (nx' := 352) rfl (ev_den (.agg [(.vw _ _), (.vw _ _)]) rfl (d_ld_os rfl (rget_of rfl (get_nil)) rfl (cells_cons rfl (cells_cons rfl (cells_nil)))) (ev_den (.ref 16 _ _ _ _) rfl rfl (ev_v rfl rfl (ev_v rfl rfl (ev_call0 [(.agg [(.vw _ _), (.vw _ _)]), (.ref 16 _ _ _ _), (.vw _ _), (.vw _ _)] rfl (call_ok (rs := []) (rd := [16]) rfl rfl rfl rfl (argL_cons (argT_a (argL_cons rfl (argL_cons rfl (argL_nil)))) (argL_cons (argT_r (rget_of rfl (get_nil)) sub_r) (argL_cons rfl (argL_cons rfl (argL_nil))))) rfl rfl (impl_QueueAt_ok hv227) rfl rfl (by simp [T.open_, T.noSh, noShL, ns_ints, ns_bool, ns_str, ns_e0]) (bindR_t (bindL_cons rfl (bindL_cons rfl (bindL_nil)))) rfl) (ev_den (.tup [(.ref 256 _ _ _ _), (.vw _ _)]) rfl rfl (ev_den (.ref 256 _ _ _ _) rfl rfl (ev_v rfl rfl (ev_den (.ref 256 _ _ _ _) rfl rfl (ev_v rfl rfl (ev_nil))))))))))) (seqQ_n (?_))
     refine wp_seq ?_
     obtain ⟨v228, hv228, h⟩ := bs h
     refine wp_reg (nx' := 512) rfl (ev_den (.agg [(.vw _ _), (.vw _ _)]) rfl (d_ld_os rfl (rget_of rfl (get_nil)) rfl (cells_cons rfl (cells_cons rfl (cells_nil)))) (ev_den (.ref 16 _ _ _ _) rfl rfl (ev_v rfl rfl (ev_v rfl rfl (ev_call0 [(.agg [(.vw _ _), (.vw _ _)]), (.ref 16 _ _ _ _), (.vw _ _), (.vw _ _)] rfl (call_ok (rs := []) (rd := [16]) rfl rfl rfl rfl (argL_cons (argT_a (argL_cons rfl (argL_cons rfl (argL_nil)))) (argL_cons (argT_r (rget_of rfl (get_nil)) sub_r) (argL_cons rfl (argL_cons rfl (argL_nil))))) rfl rfl (spec_QueueAt_ok hv228) rfl rfl (by simp [T.open_, T.noSh, noShL, ns_ints, ns_bool, ns_str, ns_e0]) (bindR_t (bindL_cons rfl (bindL_cons rfl (bindL_nil)))) rfl) (ev_den (.tup [(.ref 416 _ _ _ _), (.vw _ _)]) rfl rfl (ev_den (.ref 416 _ _ _ _) rfl rfl (ev_v rfl rfl (ev_den (.ref 416 _ _ _ _) rfl rfl (ev_v rfl rfl (ev_nil))))))))))) (seqQ_n (?_))
     refine wp_seq ?_
     obtain ⟨v229, hv229, h⟩ := bs h
     refine wp_reg (nx' := 672) rfl (ev_v rfl rfl (ev_call0 [(.vw _ _)] rfl (call_ok (rs := []) (rd := []) rfl rfl rfl rfl (argL_cons rfl (argL_nil)) rfl rfl (spec_DrawFullTicks_ok hv229) rfl rfl rfl (bindR_t (bindL_cons (bindR_a (bindL_cons rfl (bindL_cons rfl (bindL_nil)))) (bindL_cons bindR_r (bindL_cons rfl (bindL_nil))))) rfl) (ev_den (.tup [(.agg [(.vw _ _), (.vw _ _)]), (.ref 528 _ _ _ _), (.vw _ _)]) rfl rfl (ev_den (.agg [(.vw _ _), (.vw _ _)]) rfl rfl (ev_den (.ref 528 _ _ _ _) rfl rfl (ev_v rfl rfl (ev_new (.ptr 608 [] (some 0)) (.ptr (.agg [.int .i64 ((0 : Int)), .bool false])) rfl rfl (ev_wr0 rfl (w_st_a rfl rfl rfl (stL_cons (st1_of rfl rfl rfl (get_f rfl (get_nil)) rfl (rput_p (put_f rfl (put_nil)))) rfl (stL_cons (st1_of rfl rfl rfl (get_f rfl (get_nil)) rfl (rput_p (put_f rfl (put_nil)))) rfl (stL_nil)))) (ev_den (.ref 528 _ _ _ _) rfl rfl (ev_v rfl rfl (ev_nil))))))))))) (seqQ_n (?_))
     refine wp_seq ?_
     obtain ⟨v230, hv230, h⟩ := bs h
     refine wp_reg (nx' := 816) rfl (ev_den (.agg [(.vw _ _), (.vw _ _)]) rfl (d_ld_os rfl (rget_of rfl (get_nil)) rfl (cells_cons rfl (cells_cons rfl (cells_nil)))) (ev_den (.ref 528 _ _ _ _) rfl rfl (ev_v rfl rfl (ev_call0 [(.agg [(.vw _ _), (.vw _ _)]), (.ref 528 _ _ _ _), (.vw _ _)] rfl (call_ok (rs := []) (rd := [528]) rfl rfl rfl rfl (argL_cons (argT_a (argL_cons rfl (argL_cons rfl (argL_nil)))) (argL_cons (argT_r (rget_of rfl (get_nil)) sub_r) (argL_cons rfl (argL_nil)))) rfl rfl (impl_FullTicks_ok hv230) rfl rfl rfl (bindR_t (bindL_cons rfl (bindL_cons rfl (bindL_nil)))) rfl) (ev_den (.tup [(.vw _ _), (.vw _ _)]) rfl rfl (ev_v rfl rfl (ev_v rfl rfl (ev_v rfl rfl (ev_v rfl rfl (ev_nil)))))))))) (seqQ_n (?_))
     refine wp_seq ?_
     obtain ⟨v231, hv231, h⟩ := bs h
     refine wp_reg (nx' := 960) rfl (ev_den (.agg [(.vw _ _), (.vw _ _)]) rfl (d_ld_os rfl (rget_of rfl (get_nil)) rfl (cells_cons rfl (cells_cons rfl (cells_nil)))) (ev_den (.ref 528 _ _ _ _) rfl rfl (ev_v rfl rfl (ev_call0 [(.agg [(.vw _ _), (.vw _ _)]), (.ref 528 _ _ _ _), (.vw _ _)] rfl (call_ok (rs := []) (rd := [528]) rfl rfl rfl rfl (argL_cons (argT_a (argL_cons rfl (argL_cons rfl (argL_nil)))) (argL_cons (argT_r (rget_of rfl (get_nil)) sub_r) (argL_cons rfl (argL_nil)))) rfl rfl (spec_FullTicks_ok hv231) rfl rfl rfl (bindR_t (bindL_cons rfl (bindL_cons rfl (bindL_nil)))) rfl) (ev_den (.tup [(.vw _ _), (.vw _ _)]) rfl rfl (ev_v rfl rfl (ev_v rfl rfl (ev_v rfl rfl (ev_v rfl rfl (ev_nil)))))))))) (seqQ_n (?_))
     refine wp_seq ?_
     obtain ⟨v232, hv232, h⟩ := bs h
     refine wp_reg (nx' := 1120) rfl (ev_v rfl rfl (ev_call0 [(.vw _ _)] rfl (call_ok (rs := []) (rd := []) rfl rfl rfl rfl (argL_cons rfl (argL_nil)) rfl rfl (spec_DrawTurnMessages_ok hv232) rfl rfl rfl (bindR_t (bindL_cons (bindR_a (bindL_cons rfl (bindL_cons rfl (bindL_nil)))) (bindL_cons bindR_r (bindL_cons rfl (bindL_nil))))) rfl) (ev_den (.tup [(.agg [(.vw _ _), (.vw _ _)]), (.ref 976 _ _ _ _), (.vw _ _)]) rfl rfl (ev_den (.agg [(.vw _ _), (.vw _ _)]) rfl rfl (ev_den (.ref 976 _ _ _ _) rfl rfl (ev_v rfl rfl (ev_new (.ptr 1056 [] (some 0)) (.ptr (.agg [.int .i64 ((0 : Int)), .bool false])) rfl rfl (ev_wr0 rfl (w_st_a rfl rfl rfl (stL_cons (st1_of rfl rfl rfl (get_f rfl (get_nil)) rfl (rput_p (put_f rfl (put_nil)))) rfl (stL_cons (st1_of rfl rfl rfl (get_f rfl (get_nil)) rfl (rput_p (put_f rfl (put_nil)))) rfl (stL_nil)))) (ev_den (.ref 976 _ _ _ _) rfl rfl (ev_v rfl rfl (ev_nil))))))))))) (seqQ_n (?_))
     refine wp_seq ?_
     obtain ⟨v233, hv233, h⟩ := bs h
     refine wp_reg (nx' := 1264) rfl (ev_den (.agg [(.vw _ _), (.vw _ _)]) rfl (d_ld_os rfl (rget_of rfl (get_nil)) rfl (cells_cons rfl (cells_cons rfl (cells_nil)))) (ev_den (.ref 976 _ _ _ _) rfl rfl (ev_v rfl rfl (ev_call0 [(.agg [(.vw _ _), (.vw _ _)]), (.ref 976 _ _ _ _), (.vw _ _)] rfl (call_ok (rs := []) (rd := [976]) rfl rfl rfl rfl (argL_cons (argT_a (argL_cons rfl (argL_cons rfl (argL_nil)))) (argL_cons (argT_r (rget_of rfl (get_nil)) sub_r) (argL_cons rfl (argL_nil)))) rfl rfl (impl_TurnMessages_ok hv233) rfl rfl (by simp [T.open_, T.noSh, noShL, ns_ints, ns_bool, ns_str, ns_e0]) (bindR_t (bindL_cons bindR_r (bindL_cons rfl (bindL_nil)))) rfl) (ev_den (.tup [(.ref 1168 _ _ _ _), (.vw _ _)]) rfl rfl (ev_den (.ref 1168 _ _ _ _) rfl rfl (ev_v rfl rfl (ev_den (.ref 1168 _ _ _ _) rfl rfl (ev_v rfl rfl (ev_nil)))))))))) (seqQ_n (?_))
     refine wp_seq ?_
     obtain ⟨v234, hv234, h⟩ := bs h
     refine wp_reg (nx' := 1408) rfl (ev_den (.agg [(.vw _ _), (.vw _ _)]) rfl (d_ld_os rfl (rget_of rfl (get_nil)) rfl (cells_cons rfl (cells_cons rfl (cells_nil)))) (ev_den (.ref 976 _ _ _ _) rfl rfl (ev_v rfl rfl (ev_call0 [(.agg [(.vw _ _), (.vw _ _)]), (.ref 976 _ _ _ _), (.vw _ _)] rfl (call_ok (rs := []) (rd := [976]) rfl rfl rfl rfl (argL_cons (argT_a (argL_cons rfl (argL_cons rfl (argL_nil)))) (argL_cons (argT_r (rget_of rfl (get_nil)) sub_r) (argL_cons rfl (argL_nil)))) rfl rfl (spec_TurnMessages_ok hv234) rfl rfl (by simp [T.open_, T.noSh, noShL, ns_ints, ns_bool, ns_str, ns_e0]) (bindR_t (bindL_cons bindR_r (bindL_cons rfl (bindL_nil)))) rfl) (ev_den (.tup [(.ref 1312 _ _ _ _), (.vw _ _)]) rfl rfl (ev_den (.ref 1312 _ _ _ _) rfl rfl (ev_v rfl rfl (ev_den (.ref 1312 _ _ _ _) rfl rfl (ev_v rfl rfl (ev_nil)))))))))) (seqQ_n (?_))
     refine wp_seq ?_
     refine wp_gc ?_
     refine wp_seq ?_
     refine wp_join (laws_FnSlotsHeld_j3 v226 v227 v232 v233) (fun (x261 : Bool) => (⟨al .dead [(24, .ptr 0 [] (some 0)), (25, .ref 1 [] 3 0 (List.length v226.2.1)), (26, .vw [] (.int .i64 v226.2.2.1)), (27, .vw [] (.int .i64 v226.2.2.2)), (28, .ref 2 [] 1 0 (List.length v227.1)), (29, .vw [] (.bool v227.2)), (39, .ptr 3 [] (some 0)), (40, .ref 4 [] 3 0 (List.length v232.2.1)), (42, .ref 5 [] 3 0 (List.length v233.1)), (43, .vw [] (.bool v233.2)), (322, .vw [] (.bool x261))], hl [some (.ptr (.agg [.int .i64 v226.1.1, .bool v226.1.2])), some (.rows 3 (List.map e0 v226.2.1)), some (.ints .i64 v227.1), some (.ptr (.agg [.int .i64 v232.1.1, .bool v232.1.2])), some (.rows 3 (List.map e0 v232.2.1)), some (.rows 3 (List.map e0 v233.1))], 6⟩ : St)) ?_ ?_
     ·rintro x261 o h
      unfold laws_FnSlotsHeld_j3 at h
      refine seqQ_n (?_)
      rcases its h with ⟨hc262, h⟩ | ⟨hc262, h⟩
      ·refine wp_ct rfl hc262 ?_
       refine wp_seq ?_
       refine wp_reg (nx' := 22) rfl (ev_v rfl rfl (ev_nil)) (seqQ_n (?_))
       replace h := Option.some.inj h
       subst h
       exact wp_ret (gcQ_r (seqQ_r (qf_r ((outs_ok (vs := [(.vw _ _)]) rfl (absW_cons rfl rfl (absW_nil)) rfl rfl)))))
      ·refine wp_cf rfl hc262 ?_
       refine wp_skip (gcQ_n (gc_to [0, 1, 2, 3, 4, 5] (e := [(24, .ptr 0 [] (some 0)), (25, .ref 1 [] 3 0 (List.length v226.2.1)), (26, .vw [] (.int .i64 v226.2.2.1)), (27, .vw [] (.int .i64 v226.2.2.2)), (28, .ref 2 [] 1 0 (List.length v227.1)), (29, .vw [] (.bool v227.2)), (39, .ptr 3 [] (some 0)), (40, .ref 4 [] 3 0 (List.length v232.2.1)), (42, .ref 5 [] 3 0 (List.length v233.1)), (43, .vw [] (.bool v233.2))]) (ts := [some (.ptr (.agg [.int .i64 v226.1.1, .bool v226.1.2])), some (.rows 3 (List.map e0 v226.2.1)), some (.ints .i64 v227.1), some (.ptr (.agg [.int .i64 v232.1.1, .bool v232.1.2])), some (.rows 3 (List.map e0 v232.2.1)), some (.rows 3 (List.map e0 v233.1))]) (n := 6) rfl rfl rfl rfl) (seqQ_n (?_)))
       refine wp_seq ?_
       refine wp_join (laws_FnSlotsHeld_j4 v226 v227) (fun (_ : Unit) => (⟨al .dead [(24, .ptr 0 [] (some 0)), (25, .ref 1 [] 3 0 (List.length v226.2.1)), (26, .vw [] (.int .i64 v226.2.2.1)), (27, .vw [] (.int .i64 v226.2.2.2)), (28, .ref 2 [] 1 0 (List.length v227.1)), (29, .vw [] (.bool v227.2))], hl [some (.ptr (.agg [.int .i64 v226.1.1, .bool v226.1.2])), some (.rows 3 (List.map e0 v226.2.1)), some (.ints .i64 v227.1)], 3⟩ : St)) ?_ ?_
       ·rintro _ o h
        unfold laws_FnSlotsHeld_j4 at h
        refine seqQ_n (?_)
        refine wp_seq ?_
        refine wp_gc ?_
        refine wp_seq ?_
        refine wp_reg (nx' := 19) rfl (ev_v rfl rfl (ev_nil)) (seqQ_n (?_))
        rcases its h with ⟨hc301, h⟩ | ⟨hc301, h⟩
        ·refine wp_ct rfl hc301 ?_
         refine wp_seq ?_
         obtain ⟨v302, hv302, h⟩ := bs h
         refine wp_reg (nx' := 147) rfl (ev_den (.agg [(.vw _ _), (.vw _ _)]) rfl (d_ld_os rfl (rget_of rfl (get_nil)) rfl (cells_cons rfl (cells_cons rfl (cells_nil)))) (ev_den (.ref 1 _ _ _ _) rfl rfl (ev_call0 [(.agg [(.vw _ _), (.vw _ _)]), (.ref 1 _ _ _ _)] rfl (call_ok (rs := []) (rd := [1]) rfl rfl rfl rfl (argL_cons (argT_a (argL_cons rfl (argL_cons rfl (argL_nil)))) (argL_cons (argT_r (rget_of rfl (get_nil)) sub_r) (argL_nil))) rfl rfl (impl_FilledAt_ok hv302) rfl rfl (by simp [T.open_, T.noSh, noShL, ns_ints, ns_bool, ns_str, ns_e0]) (bindR_t (bindL_cons rfl (bindL_cons rfl (bindL_nil)))) rfl) (ev_den (.tup [(.ref 51 _ _ _ _), (.vw _ _)]) rfl rfl (ev_den (.ref 51 _ _ _ _) rfl rfl (ev_v rfl rfl (ev_den (.ref 51 _ _ _ _) rfl rfl (ev_v rfl rfl (ev_nil))))))))) (seqQ_n (?_))
         refine wp_seq ?_
         refine wp_reg (nx' := 163) rfl (ev_v rfl rfl (ev_nil)) (seqQ_n (?_))
         refine wp_seq ?_
         refine wp_gc ?_
         refine wp_seq ?_
         refine wp_gc ?_
         refine wp_reg (nx' := 211) rfl (ev_den (.ref 1 _ _ _ _) rfl rfl (ev_v rfl rfl (ev_v rfl rfl (ev_nil)))) (gcQ_n (gc_to [2, 51, 1] (e := [(26, .vw [] (.int .i64 v226.2.2.1)), (27, .vw [] (.int .i64 v226.2.2.2)), (28, .ref 0 [] 1 0 (List.length v227.1)), (54, .ref 1 [] 1 0 (List.length v302.1)), (55, .vw [] (.bool v302.2)), (56, .vw [] (.int .i64 ((0 : Int)))), (381, .ref 2 [] 3 0 (List.length v226.2.1)), (382, .vw [] (.int .i64 ((List.length v226.2.1 : Int)))), (383, .vw [] (.int .i64 ((0 : Int))))]) (ts := [some (.ints .i64 v227.1), some (.ints .i64 v302.1), some (.rows 3 (List.map e0 v226.2.1))]) (n := 3) rfl rfl rfl rfl) (seqQ_n (?_)))
         refine wp_gc ?_
         refine wp_blk ?_
         obtain ⟨x365, hw408, h⟩ := bs h
         refine wp_mono (wp_loop (fun ((x353, x354) : Int × Int) => (⟨al .dead [(26, .vw [] (.int .i64 v226.2.2.1)), (27, .vw [] (.int .i64 v226.2.2.2)), (28, .ref 0 [] 1 0 (List.length v227.1)), (54, .ref 1 [] 1 0 (List.length v302.1)), (55, .vw [] (.bool v302.2)), (56, .vw [] (.int .i64 x353)), (381, .ref 2 [] 3 0 (List.length v226.2.1)), (382, .vw [] (.int .i64 ((List.length v226.2.1 : Int)))), (383, .vw [] (.int .i64 x354))], hl [some (.ints .i64 v227.1), some (.ints .i64 v302.1), some (.rows 3 (List.map e0 v226.2.1))], 3⟩ : St)) (fun (x365 : Int) e st => e = .exit 4 ∧ gc 0 [28, 55, 56] st = ⟨al .dead [(28, .ref 0 [] 1 0 (List.length v227.1)), (55, .vw [] (.bool v302.2)), (56, .vw [] (.int .i64 x365))], hl [some (.ints .i64 v227.1)], 1⟩) hw408 ?_) ?_
         ·rintro ⟨x353, x354⟩ o h
          refine wp_gc ?_
          refine wp_seq ?_
          refine wp_reg (nx' := 19) rfl (ev_v rfl rfl (ev_nil)) (seqQ_n (?_))
          refine wp_seq ?_
          refine wp_gc ?_
          rcases its h with ⟨hc377, h⟩ | ⟨hc377, h⟩
          ·refine wp_ct rfl hc377 ?_
           refine wp_skip (gcQ_n (gc_to [0, 1, 2] (e := [(26, .vw [] (.int .i64 v226.2.2.1)), (27, .vw [] (.int .i64 v226.2.2.2)), (28, .ref 0 [] 1 0 (List.length v227.1)), (54, .ref 1 [] 1 0 (List.length v302.1)), (55, .vw [] (.bool v302.2)), (56, .vw [] (.int .i64 x353)), (381, .ref 2 [] 3 0 (List.length v226.2.1)), (382, .vw [] (.int .i64 ((List.length v226.2.1 : Int)))), (383, .vw [] (.int .i64 x354))]) (ts := [some (.ints .i64 v227.1), some (.ints .i64 v302.1), some (.rows 3 (List.map e0 v226.2.1))]) (n := 3) rfl rfl rfl rfl) (seqQ_n (?_)))
           refine wp_seq ?_
           refine wp_join (laws_FnSlotsHeld_j6 x354) (fun (x384 : Int) => (⟨al .dead [(26, .vw [] (.int .i64 v226.2.2.1)), (27, .vw [] (.int .i64 v226.2.2.2)), (28, .ref 0 [] 1 0 (List.length v227.1)), (54, .ref 1 [] 1 0 (List.length v302.1)), (55, .vw [] (.bool v302.2)), (56, .vw [] (.int .i64 x384)), (381, .ref 2 [] 3 0 (List.length v226.2.1)), (382, .vw [] (.int .i64 ((List.length v226.2.1 : Int)))), (383, .vw [] (.int .i64 x354))], hl [some (.ints .i64 v227.1), some (.ints .i64 v302.1), some (.rows 3 (List.map e0 v226.2.1))], 3⟩ : St)) ?_ ?_
           ·rintro x384 o h
            unfold laws_FnSlotsHeld_j6 at h
            refine seqQ_n (?_)
            replace h := Option.some.inj h
            subst h
            exact wp_reg (nx' := 35) rfl (ev_v rfl rfl (ev_v rfl rfl (ev_nil))) (gcQ_n (gc_to [0, 1, 2] (e := [(26, .vw [] (.int .i64 v226.2.2.1)), (27, .vw [] (.int .i64 v226.2.2.2)), (28, .ref 0 [] 1 0 (List.length v227.1)), (54, .ref 1 [] 1 0 (List.length v302.1)), (55, .vw [] (.bool v302.2)), (56, .vw [] (.int .i64 x384)), (381, .ref 2 [] 3 0 (List.length v226.2.1)), (382, .vw [] (.int .i64 ((List.length v226.2.1 : Int)))), (383, .vw [] (.int .i64 ((w64 (x354 + (1 : Int))))))]) (ts := [some (.ints .i64 v227.1), some (.ints .i64 v302.1), some (.rows 3 (List.map e0 v226.2.1))]) (n := 3) rfl rfl rfl rfl) (loopQ_n rfl))
           ·refine wp_gc ?_
            refine wp_blk ?_
            refine wp_seq ?_
            obtain ⟨v393, hv393, h⟩ := bs h
            refine wp_reg (nx' := 99) rfl (ev_v rfl rfl (ev_den (.ptr 2 [.e (Int.toNat x354)] (some 0)) rfl (d_idx_r (p := []) rfl rfl hv393) (ev_den (.agg [(.vw _ _), (.vw _ _), (.vw _ _)]) rfl (d_ld_os rfl (rget_of rfl (get_r (e := e0) hv393 (get_nil))) rfl (cells_cons rfl (cells_cons rfl (cells_cons rfl (cells_nil))))) (ev_new (.ptr 51 [] (some 0)) (.ptr (.agg [.int .i64 ((0 : Int)), .int .i64 ((0 : Int)), .int .i64 ((0 : Int))])) rfl rfl (ev_v rfl rfl (ev_wr0 rfl (w_st_a rfl rfl rfl (stL_cons (st1_of rfl rfl rfl (get_f rfl (get_nil)) rfl (rput_p (put_f rfl (put_nil)))) rfl (stL_cons (st1_of rfl rfl rfl (get_f rfl (get_nil)) rfl (rput_p (put_f rfl (put_nil)))) rfl (stL_cons (st1_of rfl rfl rfl (get_f rfl (get_nil)) rfl (rput_p (put_f rfl (put_nil)))) rfl (stL_nil))))) (ev_nil))))))) (seqQ_n (?_))
            refine wp_seq ?_
            refine wp_join (laws_FnSlotsHeld_j7 x353 x354) (fun (x397 : Bool) => (⟨al .dead [(26, .vw [] (.int .i64 v226.2.2.1)), (27, .vw [] (.int .i64 v226.2.2.2)), (28, .ref 0 [] 1 0 (List.length v227.1)), (54, .ref 1 [] 1 0 (List.length v302.1)), (55, .vw [] (.bool v302.2)), (56, .vw [] (.int .i64 x353)), (381, .ref 2 [] 3 0 (List.length v226.2.1)), (382, .vw [] (.int .i64 ((List.length v226.2.1 : Int)))), (383, .vw [] (.int .i64 x354)), (405, .vw [] (.bool x397))], hl [some (.ints .i64 v227.1), some (.ints .i64 v302.1), some (.rows 3 (List.map e0 v226.2.1))], 3⟩ : St)) ?_ ?_
            ·rintro x397 o h
             unfold laws_FnSlotsHeld_j7 at h
             refine seqQ_n (?_)
             rcases its h with ⟨hc398, h⟩ | ⟨hc398, h⟩
             ·refine wp_ct rfl hc398 ?_
              exact wp_reg (nx' := 51) rfl (ev_v rfl rfl (ev_v rfl rfl (ev_v rfl rfl (ev_nil)))) (blkQ_n (gcQ_n (gc_to [0, 1, 2] (e := [(26, .vw [] (.int .i64 v226.2.2.1)), (27, .vw [] (.int .i64 v226.2.2.2)), (28, .ref 0 [] 1 0 (List.length v227.1)), (54, .ref 1 [] 1 0 (List.length v302.1)), (55, .vw [] (.bool v302.2)), (56, .vw [] (.int .i64 ((w64 (x353 + (1 : Int)))))), (381, .ref 2 [] 3 0 (List.length v226.2.1)), (382, .vw [] (.int .i64 ((List.length v226.2.1 : Int)))), (383, .vw [] (.int .i64 x354))]) (ts := [some (.ints .i64 v227.1), some (.ints .i64 v302.1), some (.rows 3 (List.map e0 v226.2.1))]) (n := 3) rfl rfl rfl rfl) (joinQ_n (w64 (x353 + (1 : Int))) h (gc_to [0, 1, 2] rfl rfl rfl rfl))))
             ·refine wp_cf rfl hc398 ?_
              exact wp_skip (blkQ_n (gcQ_n (gc_to [0, 1, 2] (e := [(26, .vw [] (.int .i64 v226.2.2.1)), (27, .vw [] (.int .i64 v226.2.2.2)), (28, .ref 0 [] 1 0 (List.length v227.1)), (54, .ref 1 [] 1 0 (List.length v302.1)), (55, .vw [] (.bool v302.2)), (56, .vw [] (.int .i64 x353)), (381, .ref 2 [] 3 0 (List.length v226.2.1)), (382, .vw [] (.int .i64 ((List.length v226.2.1 : Int)))), (383, .vw [] (.int .i64 x354))]) (ts := [some (.ints .i64 v227.1), some (.ints .i64 v302.1), some (.rows 3 (List.map e0 v226.2.1))]) (n := 3) rfl rfl rfl rfl) (joinQ_n x353 h (gc_to [0, 1, 2] rfl rfl rfl rfl))))
            ·rcases its h with ⟨hc401, h⟩ | ⟨hc401, h⟩
             ·rcases its h with ⟨hc402, h⟩ | ⟨hc402, h⟩
              ·obtain ⟨v403, hv403, h⟩ := bs h
               exact wp_reg (nx' := 387) rfl (ev_den (.ptr 51 [] (some 1)) rfl rfl (ev_v rfl (d_ld_o rfl (rget_of rfl (get_nil)) rfl rfl) (ev_v rfl rfl (ev_v rfl rfl (ev_v rfl rfl (ev_on rfl hc401 (ev_den (.ptr 51 [] (some 0)) rfl rfl (ev_on rfl hc401 (ev_v rfl (d_ld_o rfl (rget_of rfl (get_nil)) rfl rfl) (ev_on rfl hc401 (ev_v rfl rfl (ev_on rfl hc401 (ev_v rfl rfl (ev_v rfl (d_pick_t rfl hc401 rfl) (ev_v rfl rfl (ev_on rfl hc402 (ev_den (.ref 1 _ _ _ _) rfl rfl (ev_on rfl hc402 (ev_v rfl rfl (ev_on rfl hc402 (ev_den (.ptr 1 [.e (Int.toNat x354)] none) rfl (d_idx_r (p := []) rfl rfl hv403) (ev_on rfl hc402 (ev_v rfl (d_ld_p rfl (rget_of rfl (get_i hv403)) rfl) (ev_on rfl hc402 (ev_v rfl rfl (ev_on rfl hc402 (ev_v rfl rfl (ev_v rfl (d_pick_t rfl hc402 rfl) (ev_nil))))))))))))))))))))))))))))) (joinQ_n (decide (v403 > v226.2.2.2)) h (gc_to [0, 1, 2] rfl rfl rfl rfl))
              ·exact wp_reg (nx' := 387) rfl (ev_den (.ptr 51 [] (some 1)) rfl rfl (ev_v rfl (d_ld_o rfl (rget_of rfl (get_nil)) rfl rfl) (ev_v rfl rfl (ev_v rfl rfl (ev_v rfl rfl (ev_on rfl hc401 (ev_den (.ptr 51 [] (some 0)) rfl rfl (ev_on rfl hc401 (ev_v rfl (d_ld_o rfl (rget_of rfl (get_nil)) rfl rfl) (ev_on rfl hc401 (ev_v rfl rfl (ev_on rfl hc401 (ev_v rfl rfl (ev_v rfl (d_pick_t rfl hc401 rfl) (ev_v rfl rfl (ev_off rfl hc402 (ev_off rfl hc402 (ev_off rfl hc402 (ev_off rfl hc402 (ev_off rfl hc402 (ev_off rfl hc402 (ev_v rfl (d_pick_f rfl hc402 rfl) (ev_nil))))))))))))))))))))))) (joinQ_n false h (gc_to [0, 1, 2] rfl rfl rfl rfl))
             ·exact wp_reg (nx' := 387) rfl (ev_den (.ptr 51 [] (some 1)) rfl rfl (ev_v rfl (d_ld_o rfl (rget_of rfl (get_nil)) rfl rfl) (ev_v rfl rfl (ev_v rfl rfl (ev_v rfl rfl (ev_off rfl hc401 (ev_off rfl hc401 (ev_off rfl hc401 (ev_off rfl hc401 (ev_v rfl (d_pick_f rfl hc401 rfl) (ev_v rfl rfl (ev_off rfl rfl (ev_off rfl rfl (ev_off rfl rfl (ev_off rfl rfl (ev_off rfl rfl (ev_off rfl rfl (ev_v rfl (d_pick_f rfl rfl rfl) (ev_nil))))))))))))))))))) (joinQ_n false h (gc_to [0, 1, 2] rfl rfl rfl rfl))
          ·refine wp_cf rfl hc377 ?_
           replace h := Option.some.inj h
           subst h
           exact wp_exit (gcQ_e (seqQ_e (gcQ_e (loopQ_e (And.intro rfl (gc_to [0] (e := [(28, .ref 0 [] 1 0 (List.length v227.1)), (55, .vw [] (.bool v302.2)), (56, .vw [] (.int .i64 x353))]) (ts := [some (.ints .i64 v227.1)]) (n := 1) rfl rfl rfl rfl))))))
         ·intro e st408 hg408
          obtain ⟨rfl, hg408⟩ := hg408
          refine blkQ_h (gcQ_n hg408 (gcQ_n (gc_to [0] (e := [(28, .ref 0 [] 1 0 (List.length v227.1)), (55, .vw [] (.bool v302.2)), (56, .vw [] (.int .i64 x365))]) (ts := [some (.ints .i64 v227.1)]) (n := 1) rfl rfl rfl rfl) (seqQ_n (?_))))
          refine wp_seq ?_
          refine wp_gc ?_
          rcases its h with ⟨hc410, h⟩ | ⟨hc410, h⟩
          ·refine wp_reg (nx' := 129) rfl (ev_v rfl rfl (ev_v rfl rfl (ev_on rfl hc410 (ev_v rfl rfl (ev_on rfl hc410 (ev_den (.ref 0 _ _ _ _) rfl rfl (ev_on rfl hc410 (ev_v rfl rfl (ev_on rfl hc410 (ev_v rfl rfl (ev_v rfl (d_pick_t rfl hc410 rfl) (ev_v rfl rfl (ev_nil))))))))))))) (gcQ_n (gc_to [] (e := [(4, .vw [] (.bool ((x365 == (List.length v227.1 : Int)))))]) (ts := []) (n := 0) rfl rfl rfl rfl) (seqQ_n (?_)))
           replace h := Option.some.inj h
           subst h
           exact wp_ret (gcQ_r (seqQ_r (qf_r ((outs_ok (vs := [(.vw _ _)]) rfl (absW_cons rfl rfl (absW_nil)) rfl rfl)))))
          ·refine wp_reg (nx' := 129) rfl (ev_v rfl rfl (ev_v rfl rfl (ev_off rfl hc410 (ev_off rfl hc410 (ev_off rfl hc410 (ev_off rfl hc410 (ev_v rfl (d_pick_f rfl hc410 rfl) (ev_v rfl rfl (ev_nil))))))))) (gcQ_n (gc_to [] (e := [(4, .vw [] (.bool false))]) (ts := []) (n := 0) rfl rfl rfl rfl) (seqQ_n (?_)))
           replace h := Option.some.inj h
           subst h
           exact wp_ret (gcQ_r (seqQ_r (qf_r ((outs_ok (vs := [(.vw _ _)]) rfl (absW_cons rfl rfl (absW_nil)) rfl rfl)))))
        ·refine wp_cf rfl hc301 ?_
         refine wp_skip (gcQ_n (gc_to [] (e := []) (ts := []) (n := 0) rfl rfl rfl rfl) (seqQ_n (?_)))
         refine wp_seq ?_
         refine wp_reg (nx' := 16) rfl (ev_v rfl rfl (ev_nil)) (seqQ_n (?_))
         replace h := Option.some.inj h
         subst h
         exact wp_ret (qf_r ((outs_ok (vs := [(.vw _ _)]) rfl (absW_cons rfl rfl (absW_nil)) rfl rfl)))
       ·refine wp_seq ?_
        refine wp_reg (nx' := 22) rfl (ev_v rfl rfl (ev_nil)) (seqQ_n (?_))
        rcases its h with ⟨hc411, h⟩ | ⟨hc411, h⟩
        ·refine wp_ct rfl hc411 ?_
         refine wp_seq ?_
         obtain ⟨v412, hv412, h⟩ := bs h
         refine wp_reg (nx' := 150) rfl (ev_den (.agg [(.vw _ _), (.vw _ _)]) rfl (d_ld_os rfl (rget_of rfl (get_nil)) rfl (cells_cons rfl (cells_cons rfl (cells_nil)))) (ev_den (.ref 4 _ _ _ _) rfl rfl (ev_call0 [(.agg [(.vw _ _), (.vw _ _)]), (.ref 4 _ _ _ _)] rfl (call_ok (rs := []) (rd := [4]) rfl rfl rfl rfl (argL_cons (argT_a (argL_cons rfl (argL_cons rfl (argL_nil)))) (argL_cons (argT_r (rget_of rfl (get_nil)) sub_r) (argL_nil))) rfl rfl (impl_FilledAt_ok hv412) rfl rfl (by simp [T.open_, T.noSh, noShL, ns_ints, ns_bool, ns_str, ns_e0]) (bindR_t (bindL_cons rfl (bindL_cons rfl (bindL_nil)))) rfl) (ev_den (.tup [(.ref 54 _ _ _ _), (.vw _ _)]) rfl rfl (ev_den (.ref 54 _ _ _ _) rfl rfl (ev_v rfl rfl (ev_den (.ref 54 _ _ _ _) rfl rfl (ev_v rfl rfl (ev_nil))))))))) (seqQ_n (?_))
         refine wp_seq ?_
         obtain ⟨v413, hv413, h⟩ := bs h
         refine wp_reg (nx' := 278) rfl (ev_den (.agg [(.vw _ _), (.vw _ _)]) rfl (d_ld_os rfl (rget_of rfl (get_nil)) rfl (cells_cons rfl (cells_cons rfl (cells_nil)))) (ev_den (.ref 5 _ _ _ _) rfl rfl (ev_call0 [(.agg [(.vw _ _), (.vw _ _)]), (.ref 5 _ _ _ _)] rfl (call_ok (rs := []) (rd := [5]) rfl rfl rfl rfl (argL_cons (argT_a (argL_cons rfl (argL_cons rfl (argL_nil)))) (argL_cons (argT_r (rget_of rfl (get_nil)) sub_r) (argL_nil))) rfl rfl (impl_FilledAt_ok hv413) rfl rfl (by simp [T.open_, T.noSh, noShL, ns_ints, ns_bool, ns_str, ns_e0]) (bindR_t (bindL_cons rfl (bindL_cons rfl (bindL_nil)))) rfl) (ev_den (.tup [(.ref 182 _ _ _ _), (.vw _ _)]) rfl rfl (ev_den (.ref 182 _ _ _ _) rfl rfl (ev_v rfl rfl (ev_den (.ref 182 _ _ _ _) rfl rfl (ev_v rfl rfl (ev_nil))))))))) (seqQ_n (?_))
         refine wp_seq ?_
         obtain ⟨v414, hv414, h⟩ := bs h
         refine wp_reg (nx' := 406) rfl (ev_den (.agg [(.vw _ _), (.vw _ _)]) rfl (d_ld_os rfl (rget_of rfl (get_nil)) rfl (cells_cons rfl (cells_cons rfl (cells_nil)))) (ev_den (.ref 5 _ _ _ _) rfl rfl (ev_call0 [(.agg [(.vw _ _), (.vw _ _)]), (.ref 5 _ _ _ _)] rfl (call_ok (rs := []) (rd := [5]) rfl rfl rfl rfl (argL_cons (argT_a (argL_cons rfl (argL_cons rfl (argL_nil)))) (argL_cons (argT_r (rget_of rfl (get_nil)) sub_r) (argL_nil))) rfl rfl (impl_ReadAt_ok hv414) rfl rfl (by simp [T.open_, T.noSh, noShL, ns_ints, ns_bool, ns_str, ns_e0]) (bindR_t (bindL_cons rfl (bindL_cons rfl (bindL_nil)))) rfl) (ev_den (.tup [(.ref 310 _ _ _ _), (.vw _ _)]) rfl rfl (ev_den (.ref 310 _ _ _ _) rfl rfl (ev_v rfl rfl (ev_den (.ref 310 _ _ _ _) rfl rfl (ev_v rfl rfl (ev_nil))))))))) (seqQ_n (?_))
         refine wp_seq ?_
         obtain ⟨v415, hv415, h⟩ := bs h
         refine wp_reg (nx' := 534) rfl (ev_den (.agg [(.vw _ _), (.vw _ _)]) rfl (d_ld_os rfl (rget_of rfl (get_nil)) rfl (cells_cons rfl (cells_cons rfl (cells_nil)))) (ev_den (.ref 4 _ _ _ _) rfl rfl (ev_call0 [(.agg [(.vw _ _), (.vw _ _)]), (.ref 4 _ _ _ _)] rfl (call_ok (rs := []) (rd := [4]) rfl rfl rfl rfl (argL_cons (argT_a (argL_cons rfl (argL_cons rfl (argL_nil)))) (argL_cons (argT_r (rget_of rfl (get_nil)) sub_r) (argL_nil))) rfl rfl (impl_ReadAt_ok hv415) rfl rfl (by simp [T.open_, T.noSh, noShL, ns_ints, ns_bool, ns_str, ns_e0]) (bindR_t (bindL_cons rfl (bindL_cons rfl (bindL_nil)))) rfl) (ev_den (.tup [(.ref 438 _ _ _ _), (.vw _ _)]) rfl rfl (ev_den (.ref 438 _ _ _ _) rfl rfl (ev_v rfl rfl (ev_den (.ref 438 _ _ _ _) rfl rfl (ev_v rfl rfl (ev_nil))))))))) (seqQ_n (?_))
         refine wp_seq ?_
         refine wp_join (laws_FnSlotsHeld_j8 v226 v227) (fun (x423 : Bool) => (⟨al .dead [(24, .ptr 0 [] (some 0)), (25, .ref 1 [] 3 0 (List.length v226.2.1)), (26, .vw [] (.int .i64 v226.2.2.1)), (27, .vw [] (.int .i64 v226.2.2.2)), (28, .ref 2 [] 1 0 (List.length v227.1)), (29, .vw [] (.bool v227.2)), (373, .vw [] (.bool x423))], hl [some (.ptr (.agg [.int .i64 v226.1.1, .bool v226.1.2])), some (.rows 3 (List.map e0 v226.2.1)), some (.ints .i64 v227.1)], 3⟩ : St)) ?_ ?_
         ·rintro x423 o h
          unfold laws_FnSlotsHeld_j8 at h
          refine seqQ_n (?_)
          rcases its h with ⟨hc424, h⟩ | ⟨hc424, h⟩
          ·refine wp_ct rfl hc424 ?_
           refine wp_seq ?_
           refine wp_reg (nx' := 19) rfl (ev_v rfl rfl (ev_nil)) (seqQ_n (?_))
           replace h := Option.some.inj h
           subst h
           exact wp_ret (joinQ_r (seqQ_r (qf_r ((outs_ok (vs := [(.vw _ _)]) rfl (absW_cons rfl rfl (absW_nil)) rfl rfl)))))
          ·refine wp_cf rfl hc424 ?_
           exact wp_skip (joinQ_n () h (gc_to [0, 1, 2] rfl rfl rfl rfl))
         ·rcases its h with ⟨hc425, h⟩ | ⟨hc425, h⟩
          ·exact wp_reg (nx' := 950) rfl (ev_v rfl rfl (ev_v rfl rfl (ev_v rfl rfl (ev_off rfl hc425 (ev_off rfl hc425 (ev_v rfl (d_pick_t rfl hc425 rfl) (ev_v rfl rfl (ev_off rfl rfl (ev_off rfl rfl (ev_off rfl rfl (ev_off rfl rfl (ev_v rfl (d_pick_t rfl rfl rfl) (ev_v rfl rfl (ev_off rfl rfl (ev_off rfl rfl (ev_v rfl (d_pick_t rfl rfl rfl) (ev_v rfl rfl (ev_off rfl rfl (ev_off rfl rfl (ev_v rfl (d_pick_t rfl rfl rfl) (ev_v rfl rfl (ev_off rfl rfl (ev_off rfl rfl (ev_off rfl rfl (ev_off rfl rfl (ev_v rfl (d_pick_t rfl rfl rfl) (ev_nil))))))))))))))))))))))))))) (joinQ_n true h (gc_to [0, 1, 2] rfl rfl rfl rfl))
          ·rcases its h with ⟨hc427, h⟩ | ⟨hc427, h⟩
           ·exact wp_reg (nx' := 950) rfl (ev_v rfl rfl (ev_v rfl rfl (ev_v rfl rfl (ev_on rfl hc425 (ev_v rfl rfl (ev_on rfl hc425 (ev_v rfl rfl (ev_v rfl (d_pick_f rfl hc425 rfl) (ev_v rfl rfl (ev_off rfl hc427 (ev_off rfl hc427 (ev_off rfl hc427 (ev_off rfl hc427 (ev_v rfl (d_pick_t rfl hc427 rfl) (ev_v rfl rfl (ev_off rfl rfl (ev_off rfl rfl (ev_v rfl (d_pick_t rfl rfl rfl) (ev_v rfl rfl (ev_off rfl rfl (ev_off rfl rfl (ev_v rfl (d_pick_t rfl rfl rfl) (ev_v rfl rfl (ev_off rfl rfl (ev_off rfl rfl (ev_off rfl rfl (ev_off rfl rfl (ev_v rfl (d_pick_t rfl rfl rfl) (ev_nil))))))))))))))))))))))))))))) (joinQ_n true h (gc_to [0, 1, 2] rfl rfl rfl rfl))
           ·obtain ⟨v429, hv429, h⟩ := bs h
            rcases its h with ⟨hc430, h⟩ | ⟨hc430, h⟩
            ·exact wp_reg (nx' := 950) rfl (ev_v rfl rfl (ev_v rfl rfl (ev_v rfl rfl (ev_on rfl hc425 (ev_v rfl rfl (ev_on rfl hc425 (ev_v rfl rfl (ev_v rfl (d_pick_f rfl hc425 rfl) (ev_v rfl rfl (ev_on rfl hc427 (ev_den (.ref 54 _ _ _ _) rfl rfl (ev_on rfl hc427 (ev_den (.ref 182 _ _ _ _) rfl rfl (ev_on rfl hc427 (ev_call0 [(.ref 54 _ _ _ _), (.ref 182 _ _ _ _)] rfl (call_ok (rs := []) (rd := [54, 182]) rfl rfl rfl rfl (argL_cons (argT_r (rget_of rfl (get_nil)) sub_i) (argL_cons (argT_r (rget_of rfl (get_nil)) sub_i) (argL_nil))) rfl rfl (laws_kSame_ok hv429) rfl rfl rfl rfl rfl) (ev_on rfl hc427 (ev_v rfl rfl (ev_v rfl (d_pick_f rfl hc427 rfl) (ev_v rfl rfl (ev_off rfl hc430 (ev_off rfl hc430 (ev_v rfl (d_pick_t rfl hc430 rfl) (ev_v rfl rfl (ev_off rfl rfl (ev_off rfl rfl (ev_v rfl (d_pick_t rfl rfl rfl) (ev_v rfl rfl (ev_off rfl rfl (ev_off rfl rfl (ev_off rfl rfl (ev_off rfl rfl (ev_v rfl (d_pick_t rfl rfl rfl) (ev_nil))))))))))))))))))))))))))))))))) (joinQ_n true h (gc_to [0, 1, 2] rfl rfl rfl rfl))
            ·rcases its h with ⟨hc432, h⟩ | ⟨hc432, h⟩
             ·exact wp_reg (nx' := 950) rfl (ev_v rfl rfl (ev_v rfl rfl (ev_v rfl rfl (ev_on rfl hc425 (ev_v rfl rfl (ev_on rfl hc425 (ev_v rfl rfl (ev_v rfl (d_pick_f rfl hc425 rfl) (ev_v rfl rfl (ev_on rfl hc427 (ev_den (.ref 54 _ _ _ _) rfl rfl (ev_on rfl hc427 (ev_den (.ref 182 _ _ _ _) rfl rfl (ev_on rfl hc427 (ev_call0 [(.ref 54 _ _ _ _), (.ref 182 _ _ _ _)] rfl (call_ok (rs := []) (rd := [54, 182]) rfl rfl rfl rfl (argL_cons (argT_r (rget_of rfl (get_nil)) sub_i) (argL_cons (argT_r (rget_of rfl (get_nil)) sub_i) (argL_nil))) rfl rfl (laws_kSame_ok hv429) rfl rfl rfl rfl rfl) (ev_on rfl hc427 (ev_v rfl rfl (ev_v rfl (d_pick_f rfl hc427 rfl) (ev_v rfl rfl (ev_on rfl hc430 (ev_v rfl rfl (ev_on rfl hc430 (ev_v rfl rfl (ev_v rfl (d_pick_f rfl hc430 rfl) (ev_v rfl rfl (ev_off rfl hc432 (ev_off rfl hc432 (ev_v rfl (d_pick_t rfl hc432 rfl) (ev_v rfl rfl (ev_off rfl rfl (ev_off rfl rfl (ev_off rfl rfl (ev_off rfl rfl (ev_v rfl (d_pick_t rfl rfl rfl) (ev_nil))))))))))))))))))))))))))))))))))) (joinQ_n true h (gc_to [0, 1, 2] rfl rfl rfl rfl))
             ·rcases its h with ⟨hc434, h⟩ | ⟨hc434, h⟩
              ·exact wp_reg (nx' := 950) rfl (ev_v rfl rfl (ev_v rfl rfl (ev_v rfl rfl (ev_on rfl hc425 (ev_v rfl rfl (ev_on rfl hc425 (ev_v rfl rfl (ev_v rfl (d_pick_f rfl hc425 rfl) (ev_v rfl rfl (ev_on rfl hc427 (ev_den (.ref 54 _ _ _ _) rfl rfl (ev_on rfl hc427 (ev_den (.ref 182 _ _ _ _) rfl rfl (ev_on rfl hc427 (ev_call0 [(.ref 54 _ _ _ _), (.ref 182 _ _ _ _)] rfl (call_ok (rs := []) (rd := [54, 182]) rfl rfl rfl rfl (argL_cons (argT_r (rget_of rfl (get_nil)) sub_i) (argL_cons (argT_r (rget_of rfl (get_nil)) sub_i) (argL_nil))) rfl rfl (laws_kSame_ok hv429) rfl rfl rfl rfl rfl) (ev_on rfl hc427 (ev_v rfl rfl (ev_v rfl (d_pick_f rfl hc427 rfl) (ev_v rfl rfl (ev_on rfl hc430 (ev_v rfl rfl (ev_on rfl hc430 (ev_v rfl rfl (ev_v rfl (d_pick_f rfl hc430 rfl) (ev_v rfl rfl (ev_on rfl hc432 (ev_v rfl rfl (ev_on rfl hc432 (ev_v rfl rfl (ev_v rfl (d_pick_f rfl hc432 rfl) (ev_v rfl rfl (ev_off rfl hc434 (ev_off rfl hc434 (ev_off rfl hc434 (ev_off rfl hc434 (ev_v rfl (d_pick_t rfl hc434 rfl) (ev_nil))))))))))))))))))))))))))))))))))))) (joinQ_n true h (gc_to [0, 1, 2] rfl rfl rfl rfl))
              ·obtain ⟨v436, hv436, h⟩ := bs h
               exact wp_reg (nx' := 950) rfl (ev_v rfl rfl (ev_v rfl rfl (ev_v rfl rfl (ev_on rfl hc425 (ev_v rfl rfl (ev_on rfl hc425 (ev_v rfl rfl (ev_v rfl (d_pick_f rfl hc425 rfl) (ev_v rfl rfl (ev_on rfl hc427 (ev_den (.ref 54 _ _ _ _) rfl rfl (ev_on rfl hc427 (ev_den (.ref 182 _ _ _ _) rfl rfl (ev_on rfl hc427 (ev_call0 [(.ref 54 _ _ _ _), (.ref 182 _ _ _ _)] rfl (call_ok (rs := []) (rd := [54, 182]) rfl rfl rfl rfl (argL_cons (argT_r (rget_of rfl (get_nil)) sub_i) (argL_cons (argT_r (rget_of rfl (get_nil)) sub_i) (argL_nil))) rfl rfl (laws_kSame_ok hv429) rfl rfl rfl rfl rfl) (ev_on rfl hc427 (ev_v rfl rfl (ev_v rfl (d_pick_f rfl hc427 rfl) (ev_v rfl rfl (ev_on rfl hc430 (ev_v rfl rfl (ev_on rfl hc430 (ev_v rfl rfl (ev_v rfl (d_pick_f rfl hc430 rfl) (ev_v rfl rfl (ev_on rfl hc432 (ev_v rfl rfl (ev_on rfl hc432 (ev_v rfl rfl (ev_v rfl (d_pick_f rfl hc432 rfl) (ev_v rfl rfl (ev_on rfl hc434 (ev_den (.ref 310 _ _ _ _) rfl rfl (ev_on rfl hc434 (ev_den (.ref 438 _ _ _ _) rfl rfl (ev_on rfl hc434 (ev_call0 [(.ref 310 _ _ _ _), (.ref 438 _ _ _ _)] rfl (call_ok (rs := []) (rd := [310, 438]) rfl rfl rfl rfl (argL_cons (argT_r (rget_of rfl (get_nil)) sub_i) (argL_cons (argT_r (rget_of rfl (get_nil)) sub_i) (argL_nil))) rfl rfl (laws_kSame_ok hv436) rfl rfl rfl rfl rfl) (ev_on rfl hc434 (ev_v rfl rfl (ev_v rfl (d_pick_f rfl hc434 rfl) (ev_nil))))))))))))))))))))))))))))))))))))))))) (joinQ_n (!v436) h (gc_to [0, 1, 2] rfl rfl rfl rfl))
        ·refine wp_cf rfl hc411 ?_
         exact wp_skip (joinQ_n () h (gc_to [0, 1, 2] rfl rfl rfl rfl))
     ·rcases its h with ⟨hc438, h⟩ | ⟨hc438, h⟩
      ·exact wp_reg (nx' := 2080) rfl (ev_v rfl rfl (ev_v rfl rfl (ev_v rfl rfl (ev_v rfl rfl (ev_off rfl hc438 (ev_off rfl hc438 (ev_off rfl hc438 (ev_off rfl hc438 (ev_v rfl (d_pick_t rfl hc438 rfl) (ev_v rfl rfl (ev_off rfl rfl (ev_off rfl rfl (ev_off rfl rfl (ev_v rfl (d_pick_t rfl rfl rfl) (ev_v rfl rfl (ev_off rfl rfl (ev_off rfl rfl (ev_off rfl rfl (ev_v rfl (d_pick_t rfl rfl rfl) (ev_v rfl rfl (ev_off rfl rfl (ev_off rfl rfl (ev_un rfl (ev_un rfl (ev_un rfl (ev_un rfl (ev_un rfl (ev_un rfl (ev_un rfl (ev_off rfl rfl (ev_v rfl (d_pick_t rfl rfl rfl) (ev_v rfl rfl (ev_off rfl rfl (ev_off rfl rfl (ev_off rfl rfl (ev_v rfl (d_pick_t rfl rfl rfl) (ev_v rfl rfl (ev_off rfl rfl (ev_off rfl rfl (ev_off rfl rfl (ev_off rfl rfl (ev_v rfl (d_pick_t rfl rfl rfl) (ev_nil))))))))))))))))))))))))))))))))))))))))))) (joinQ_n true h (gc_to [112, 16, 256, 1056, 976, 1168] rfl rfl rfl rfl))
      ·obtain ⟨v440, hv440, h⟩ := bs h
       rcases its h with ⟨hc441, h⟩ | ⟨hc441, h⟩
       ·exact wp_reg (nx' := 2080) rfl (ev_v rfl rfl (ev_v rfl rfl (ev_v rfl rfl (ev_v rfl rfl (ev_on rfl hc438 (ev_den (.ref 256 _ _ _ _) rfl rfl (ev_on rfl hc438 (ev_den (.ref 416 _ _ _ _) rfl rfl (ev_on rfl hc438 (ev_call0 [(.ref 256 _ _ _ _), (.ref 416 _ _ _ _)] rfl (call_ok (rs := []) (rd := [256, 416]) rfl rfl rfl rfl (argL_cons (argT_r (rget_of rfl (get_nil)) sub_i) (argL_cons (argT_r (rget_of rfl (get_nil)) sub_i) (argL_nil))) rfl rfl (laws_kSame_ok hv440) rfl rfl rfl rfl rfl) (ev_on rfl hc438 (ev_v rfl rfl (ev_v rfl (d_pick_f rfl hc438 rfl) (ev_v rfl rfl (ev_off rfl hc441 (ev_off rfl hc441 (ev_off rfl hc441 (ev_v rfl (d_pick_t rfl hc441 rfl) (ev_v rfl rfl (ev_off rfl rfl (ev_off rfl rfl (ev_off rfl rfl (ev_v rfl (d_pick_t rfl rfl rfl) (ev_v rfl rfl (ev_off rfl rfl (ev_off rfl rfl (ev_un rfl (ev_un rfl (ev_un rfl (ev_un rfl (ev_un rfl (ev_un rfl (ev_un rfl (ev_off rfl rfl (ev_v rfl (d_pick_t rfl rfl rfl) (ev_v rfl rfl (ev_off rfl rfl (ev_off rfl rfl (ev_off rfl rfl (ev_v rfl (d_pick_t rfl rfl rfl) (ev_v rfl rfl (ev_off rfl rfl (ev_off rfl rfl (ev_off rfl rfl (ev_off rfl rfl (ev_v rfl (d_pick_t rfl rfl rfl) (ev_nil))))))))))))))))))))))))))))))))))))))))))))))) (joinQ_n true h (gc_to [112, 16, 256, 1056, 976, 1168] rfl rfl rfl rfl))
       ·rcases its h with ⟨hc443, h⟩ | ⟨hc443, h⟩
        ·exact wp_reg (nx' := 2080) rfl (ev_v rfl rfl (ev_v rfl rfl (ev_v rfl rfl (ev_v rfl rfl (ev_on rfl hc438 (ev_den (.ref 256 _ _ _ _) rfl rfl (ev_on rfl hc438 (ev_den (.ref 416 _ _ _ _) rfl rfl (ev_on rfl hc438 (ev_call0 [(.ref 256 _ _ _ _), (.ref 416 _ _ _ _)] rfl (call_ok (rs := []) (rd := [256, 416]) rfl rfl rfl rfl (argL_cons (argT_r (rget_of rfl (get_nil)) sub_i) (argL_cons (argT_r (rget_of rfl (get_nil)) sub_i) (argL_nil))) rfl rfl (laws_kSame_ok hv440) rfl rfl rfl rfl rfl) (ev_on rfl hc438 (ev_v rfl rfl (ev_v rfl (d_pick_f rfl hc438 rfl) (ev_v rfl rfl (ev_on rfl hc441 (ev_v rfl rfl (ev_on rfl hc441 (ev_v rfl rfl (ev_on rfl hc441 (ev_v rfl rfl (ev_v rfl (d_pick_f rfl hc441 rfl) (ev_v rfl rfl (ev_off rfl hc443 (ev_off rfl hc443 (ev_off rfl hc443 (ev_v rfl (d_pick_t rfl hc443 rfl) (ev_v rfl rfl (ev_off rfl rfl (ev_off rfl rfl (ev_un rfl (ev_un rfl (ev_un rfl (ev_un rfl (ev_un rfl (ev_un rfl (ev_un rfl (ev_off rfl rfl (ev_v rfl (d_pick_t rfl rfl rfl) (ev_v rfl rfl (ev_off rfl rfl (ev_off rfl rfl (ev_off rfl rfl (ev_v rfl (d_pick_t rfl rfl rfl) (ev_v rfl rfl (ev_off rfl rfl (ev_off rfl rfl (ev_off rfl rfl (ev_off rfl rfl (ev_v rfl (d_pick_t rfl rfl rfl) (ev_nil)))))))))))))))))))))))))))))))))))))))))))))))))) (joinQ_n true h (gc_to [112, 16, 256, 1056, 976, 1168] rfl rfl rfl rfl))
        ·rcases its h with ⟨hc445, h⟩ | ⟨hc445, h⟩
         ·exact wp_reg (nx' := 2080) rfl (ev_v rfl rfl (ev_v rfl rfl (ev_v rfl rfl (ev_v rfl rfl (ev_on rfl hc438 (ev_den (.ref 256 _ _ _ _) rfl rfl (ev_on rfl hc438 (ev_den (.ref 416 _ _ _ _) rfl rfl (ev_on rfl hc438 (ev_call0 [(.ref 256 _ _ _ _), (.ref 416 _ _ _ _)] rfl (call_ok (rs := []) (rd := [256, 416]) rfl rfl rfl rfl (argL_cons (argT_r (rget_of rfl (get_nil)) sub_i) (argL_cons (argT_r (rget_of rfl (get_nil)) sub_i) (argL_nil))) rfl rfl (laws_kSame_ok hv440) rfl rfl rfl rfl rfl) (ev_on rfl hc438 (ev_v rfl rfl (ev_v rfl (d_pick_f rfl hc438 rfl) (ev_v rfl rfl (ev_on rfl hc441 (ev_v rfl rfl (ev_on rfl hc441 (ev_v rfl rfl (ev_on rfl hc441 (ev_v rfl rfl (ev_v rfl (d_pick_f rfl hc441 rfl) (ev_v rfl rfl (ev_on rfl hc443 (ev_v rfl rfl (ev_on rfl hc443 (ev_v rfl rfl (ev_on rfl hc443 (ev_v rfl rfl (ev_v rfl (d_pick_f rfl hc443 rfl) (ev_v rfl rfl (ev_off rfl hc445 (ev_off rfl hc445 (ev_un rfl (ev_un rfl (ev_un rfl (ev_un rfl (ev_un rfl (ev_un rfl (ev_un rfl (ev_off rfl hc445 (ev_v rfl (d_pick_t rfl hc445 rfl) (ev_v rfl rfl (ev_off rfl rfl (ev_off rfl rfl (ev_off rfl rfl (ev_v rfl (d_pick_t rfl rfl rfl) (ev_v rfl rfl (ev_off rfl rfl (ev_off rfl rfl (ev_off rfl rfl (ev_off rfl rfl (ev_v rfl (d_pick_t rfl rfl rfl) (ev_nil))))))))))))))))))))))))))))))))))))))))))))))))))))) (joinQ_n true h (gc_to [112, 16, 256, 1056, 976, 1168] rfl rfl rfl rfl))
         ·rcases its h with ⟨hc447, h⟩ | ⟨hc447, h⟩
          ·rcases its h with ⟨hc448, h⟩ | ⟨hc448, h⟩
           ·exact wp_reg (nx' := 2080) rfl (ev_v rfl rfl (ev_v rfl rfl (ev_v rfl rfl (ev_v rfl rfl (ev_on rfl hc438 (ev_den (.ref 256 _ _ _ _) rfl rfl (ev_on rfl hc438 (ev_den (.ref 416 _ _ _ _) rfl rfl (ev_on rfl hc438 (ev_call0 [(.ref 256 _ _ _ _), (.ref 416 _ _ _ _)] rfl (call_ok (rs := []) (rd := [256, 416]) rfl rfl rfl rfl (argL_cons (argT_r (rget_of rfl (get_nil)) sub_i) (argL_cons (argT_r (rget_of rfl (get_nil)) sub_i) (argL_nil))) rfl rfl (laws_kSame_ok hv440) rfl rfl rfl rfl rfl) (ev_on rfl hc438 (ev_v rfl rfl (ev_v rfl (d_pick_f rfl hc438 rfl) (ev_v rfl rfl (ev_on rfl hc441 (ev_v rfl rfl (ev_on rfl hc441 (ev_v rfl rfl (ev_on rfl hc441 (ev_v rfl rfl (ev_v rfl (d_pick_f rfl hc441 rfl) (ev_v rfl rfl (ev_on rfl hc443 (ev_v rfl rfl (ev_on rfl hc443 (ev_v rfl rfl (ev_on rfl hc443 (ev_v rfl rfl (ev_v rfl (d_pick_f rfl hc443 rfl) (ev_v rfl rfl (ev_on rfl hc445 (ev_v rfl rfl (ev_on rfl hc445 (ev_v rfl rfl (ev_on rfl hc447 (ev_v rfl rfl (ev_on rfl hc447 (ev_v rfl rfl (ev_on rfl hc447 (ev_v rfl rfl (ev_off rfl hc448 (ev_off rfl hc448 (ev_off rfl hc448 (ev_on rfl hc447 (ev_v rfl (d_pick_t rfl hc448 rfl) (ev_on rfl hc445 (ev_v rfl (d_pick_t rfl hc447 rfl) (ev_v rfl (d_pick_f rfl hc445 rfl) (ev_v rfl rfl (ev_off rfl rfl (ev_off rfl rfl (ev_off rfl rfl (ev_v rfl (d_pick_t rfl rfl rfl) (ev_v rfl rfl (ev_off rfl rfl (ev_off rfl rfl (ev_off rfl rfl (ev_off rfl rfl (ev_v rfl (d_pick_t rfl rfl rfl) (ev_nil)))))))))))))))))))))))))))))))))))))))))))))))))))))))))))) (joinQ_n true h (gc_to [112, 16, 256, 1056, 976, 1168] rfl rfl rfl rfl))
           ·rcases its h with ⟨hc450, h⟩ | ⟨hc450, h⟩
            ·exact wp_reg (nx' := 2080) rfl (ev_v rfl rfl (ev_v rfl rfl (ev_v rfl rfl (ev_v rfl rfl (ev_on rfl hc438 (ev_den (.ref 256 _ _ _ _) rfl rfl (ev_on rfl hc438 (ev_den (.ref 416 _ _ _ _) rfl rfl (ev_on rfl hc438 (ev_call0 [(.ref 256 _ _ _ _), (.ref 416 _ _ _ _)] rfl (call_ok (rs := []) (rd := [256, 416]) rfl rfl rfl rfl (argL_cons (argT_r (rget_of rfl (get_nil)) sub_i) (argL_cons (argT_r (rget_of rfl (get_nil)) sub_i) (argL_nil))) rfl rfl (laws_kSame_ok hv440) rfl rfl rfl rfl rfl) (ev_on rfl hc438 (ev_v rfl rfl (ev_v rfl (d_pick_f rfl hc438 rfl) (ev_v rfl rfl (ev_on rfl hc441 (ev_v rfl rfl (ev_on rfl hc441 (ev_v rfl rfl (ev_on rfl hc441 (ev_v rfl rfl (ev_v rfl (d_pick_f rfl hc441 rfl) (ev_v rfl rfl (ev_on rfl hc443 (ev_v rfl rfl (ev_on rfl hc443 (ev_v rfl rfl (ev_on rfl hc443 (ev_v rfl rfl (ev_v rfl (d_pick_f rfl hc443 rfl) (ev_v rfl rfl (ev_on rfl hc445 (ev_v rfl rfl (ev_on rfl hc445 (ev_v rfl rfl (ev_on rfl hc447 (ev_v rfl rfl (ev_on rfl hc447 (ev_v rfl rfl (ev_on rfl hc447 (ev_v rfl rfl (ev_on rfl hc448 (ev_v rfl rfl (ev_on rfl hc448 (ev_v rfl rfl (ev_on rfl hc448 (ev_v rfl rfl (ev_on rfl hc447 (ev_v rfl (d_pick_f rfl hc448 rfl) (ev_on rfl hc445 (ev_v rfl (d_pick_t rfl hc447 rfl) (ev_v rfl (d_pick_f rfl hc445 rfl) (ev_v rfl rfl (ev_off rfl hc450 (ev_off rfl hc450 (ev_off rfl hc450 (ev_v rfl (d_pick_t rfl hc450 rfl) (ev_v rfl rfl (ev_off rfl rfl (ev_off rfl rfl (ev_off rfl rfl (ev_off rfl rfl (ev_v rfl (d_pick_t rfl rfl rfl) (ev_nil))))))))))))))))))))))))))))))))))))))))))))))))))))))))))))))) (joinQ_n true h (gc_to [112, 16, 256, 1056, 976, 1168] rfl rfl rfl rfl))
            ·rcases its h with ⟨hc452, h⟩ | ⟨hc452, h⟩
             ·exact wp_reg (nx' := 2080) rfl (ev_v rfl rfl (ev_v rfl rfl (ev_v rfl rfl (ev_v rfl rfl (ev_on rfl hc438 (ev_den (.ref 256 _ _ _ _) rfl rfl (ev_on rfl hc438 (ev_den (.ref 416 _ _ _ _) rfl rfl (ev_on rfl hc438 (ev_call0 [(.ref 256 _ _ _ _), (.ref 416 _ _ _ _)] rfl (call_ok (rs := []) (rd := [256, 416]) rfl rfl rfl rfl (argL_cons (argT_r (rget_of rfl (get_nil)) sub_i) (argL_cons (argT_r (rget_of rfl (get_nil)) sub_i) (argL_nil))) rfl rfl (laws_kSame_ok hv440) rfl rfl rfl rfl rfl) (ev_on rfl hc438 (ev_v rfl rfl (ev_v rfl (d_pick_f rfl hc438 rfl) (ev_v rfl rfl (ev_on rfl hc441 (ev_v rfl rfl (ev_on rfl hc441 (ev_v rfl rfl (ev_on rfl hc441 (ev_v rfl rfl (ev_v rfl (d_pick_f rfl hc441 rfl) (ev_v rfl rfl (ev_on rfl hc443 (ev_v rfl rfl (ev_on rfl hc443 (ev_v rfl rfl (ev_on rfl hc443 (ev_v rfl rfl (ev_v rfl (d_pick_f rfl hc443 rfl) (ev_v rfl rfl (ev_on rfl hc445 (ev_v rfl rfl (ev_on rfl hc445 (ev_v rfl rfl (ev_on rfl hc447 (ev_v rfl rfl (ev_on rfl hc447 (ev_v rfl rfl (ev_on rfl hc447 (ev_v rfl rfl (ev_on rfl hc448 (ev_v rfl rfl (ev_on rfl hc448 (ev_v rfl rfl (ev_on rfl hc448 (ev_v rfl rfl (ev_on rfl hc447 (ev_v rfl (d_pick_f rfl hc448 rfl) (ev_on rfl hc445 (ev_v rfl (d_pick_t rfl hc447 rfl) (ev_v rfl (d_pick_f rfl hc445 rfl) (ev_v rfl rfl (ev_on rfl hc450 (ev_v rfl rfl (ev_on rfl hc450 (ev_v rfl rfl (ev_on rfl hc450 (ev_v rfl rfl (ev_v rfl (d_pick_f rfl hc450 rfl) (ev_v rfl rfl (ev_off rfl hc452 (ev_off rfl hc452 (ev_off rfl hc452 (ev_off rfl hc452 (ev_v rfl (d_pick_t rfl hc452 rfl) (ev_nil)))))))))))))))))))))))))))))))))))))))))))))))))))))))))))))))))) (joinQ_n true h (gc_to [112, 16, 256, 1056, 976, 1168] rfl rfl rfl rfl))
             ·obtain ⟨v454, hv454, h⟩ := bs h
              exact wp_reg (nx' := 2080) rfl (ev_v rfl rfl (ev_v rfl rfl (ev_v rfl rfl (ev_v rfl rfl (ev_on rfl hc438 (ev_den (.ref 256 _ _ _ _) rfl rfl (ev_on rfl hc438 (ev_den (.ref 416 _ _ _ _) rfl rfl (ev_on rfl hc438 (ev_call0 [(.ref 256 _ _ _ _), (.ref 416 _ _ _ _)] rfl (call_ok (rs := []) (rd := [256, 416]) rfl rfl rfl rfl (argL_cons (argT_r (rget_of rfl (get_nil)) sub_i) (argL_cons (argT_r (rget_of rfl (get_nil)) sub_i) (argL_nil))) rfl rfl (laws_kSame_ok hv440) rfl rfl rfl rfl rfl) (ev_on rfl hc438 (ev_v rfl rfl (ev_v rfl (d_pick_f rfl hc438 rfl) (ev_v rfl rfl (ev_on rfl hc441 (ev_v rfl rfl (ev_on rfl hc441 (ev_v rfl rfl (ev_on rfl hc441 (ev_v rfl rfl (ev_v rfl (d_pick_f rfl hc441 rfl) (ev_v rfl rfl (ev_on rfl hc443 (ev_v rfl rfl (ev_on rfl hc443 (ev_v rfl rfl (ev_on rfl hc443 (ev_v rfl rfl (ev_v rfl (d_pick_f rfl hc443 rfl) (ev_v rfl rfl (ev_on rfl hc445 (ev_v rfl rfl (ev_on rfl hc445 (ev_v rfl rfl (ev_on rfl hc447 (ev_v rfl rfl (ev_on rfl hc447 (ev_v rfl rfl (ev_on rfl hc447 (ev_v rfl rfl (ev_on rfl hc448 (ev_v rfl rfl (ev_on rfl hc448 (ev_v rfl rfl (ev_on rfl hc448 (ev_v rfl rfl (ev_on rfl hc447 (ev_v rfl (d_pick_f rfl hc448 rfl) (ev_on rfl hc445 (ev_v rfl (d_pick_t rfl hc447 rfl) (ev_v rfl (d_pick_f rfl hc445 rfl) (ev_v rfl rfl (ev_on rfl hc450 (ev_v rfl rfl (ev_on rfl hc450 (ev_v rfl rfl (ev_on rfl hc450 (ev_v rfl rfl (ev_v rfl (d_pick_f rfl hc450 rfl) (ev_v rfl rfl (ev_on rfl hc452 (ev_den (.ref 1168 _ _ _ _) rfl rfl (ev_on rfl hc452 (ev_den (.ref 1312 _ _ _ _) rfl rfl (ev_on rfl hc452 (ev_call0 [(.ref 1168 _ _ _ _), (.ref 1312 _ _ _ _)] rfl (call_ok (rs := []) (rd := [1168, 1312]) rfl rfl rfl rfl (argL_cons (argT_r (rget_of rfl (get_nil)) sub_r) (argL_cons (argT_r (rget_of rfl (get_nil)) sub_r) (argL_nil))) rfl rfl (laws_kMessages_ok hv454) rfl rfl rfl rfl rfl) (ev_on rfl hc452 (ev_v rfl rfl (ev_v rfl (d_pick_f rfl hc452 rfl) (ev_nil)))))))))))))))))))))))))))))))))))))))))))))))))))))))))))))))))))))) (joinQ_n (!v454) h (gc_to [112, 16, 256, 1056, 976, 1168] rfl rfl rfl rfl))
          ·rcases its h with ⟨hc456, h⟩ | ⟨hc456, h⟩
           ·exact wp_reg (nx' := 2080) rfl (ev_v rfl rfl (ev_v rfl rfl (ev_v rfl rfl (ev_v rfl rfl (ev_on rfl hc438 (ev_den (.ref 256 _ _ _ _) rfl rfl (ev_on rfl hc438 (ev_den (.ref 416 _ _ _ _) rfl rfl (ev_on rfl hc438 (ev_call0 [(.ref 256 _ _ _ _), (.ref 416 _ _ _ _)] rfl (call_ok (rs := []) (rd := [256, 416]) rfl rfl rfl rfl (argL_cons (argT_r (rget_of rfl (get_nil)) sub_i) (argL_cons (argT_r (rget_of rfl (get_nil)) sub_i) (argL_nil))) rfl rfl (laws_kSame_ok hv440) rfl rfl rfl rfl rfl) (ev_on rfl hc438 (ev_v rfl rfl (ev_v rfl (d_pick_f rfl hc438 rfl) (ev_v rfl rfl (ev_on rfl hc441 (ev_v rfl rfl (ev_on rfl hc441 (ev_v rfl rfl (ev_on rfl hc441 (ev_v rfl rfl (ev_v rfl (d_pick_f rfl hc441 rfl) (ev_v rfl rfl (ev_on rfl hc443 (ev_v rfl rfl (ev_on rfl hc443 (ev_v rfl rfl (ev_on rfl hc443 (ev_v rfl rfl (ev_v rfl (d_pick_f rfl hc443 rfl) (ev_v rfl rfl (ev_on rfl hc445 (ev_v rfl rfl (ev_on rfl hc445 (ev_v rfl rfl (ev_off rfl hc447 (ev_off rfl hc447 (ev_off rfl hc447 (ev_un rfl (ev_un rfl (ev_un rfl (ev_off rfl hc447 (ev_on rfl hc445 (ev_v rfl (d_pick_f rfl hc447 rfl) (ev_v rfl (d_pick_f rfl hc445 rfl) (ev_v rfl rfl (ev_on rfl rfl (ev_v rfl rfl (ev_on rfl rfl (ev_v rfl rfl (ev_on rfl rfl (ev_v rfl rfl (ev_v rfl (d_pick_f rfl rfl rfl) (ev_v rfl rfl (ev_off rfl hc456 (ev_off rfl hc456 (ev_off rfl hc456 (ev_off rfl hc456 (ev_v rfl (d_pick_t rfl hc456 rfl) (ev_nil))))))))))))))))))))))))))))))))))))))))))))))))))))))))))) (joinQ_n true h (gc_to [112, 16, 256, 1056, 976, 1168] rfl rfl rfl rfl))
           ·obtain ⟨v458, hv458, h⟩ := bs h
            exact wp_reg (nx' := 2080) rfl (ev_v rfl rfl (ev_v rfl rfl (ev_v rfl rfl (ev_v rfl rfl (ev_on rfl hc438 (ev_den (.ref 256 _ _ _ _) rfl rfl (ev_on rfl hc438 (ev_den (.ref 416 _ _ _ _) rfl rfl (ev_on rfl hc438 (ev_call0 [(.ref 256 _ _ _ _), (.ref 416 _ _ _ _)] rfl (call_ok (rs := []) (rd := [256, 416]) rfl rfl rfl rfl (argL_cons (argT_r (rget_of rfl (get_nil)) sub_i) (argL_cons (argT_r (rget_of rfl (get_nil)) sub_i) (argL_nil))) rfl rfl (laws_kSame_ok hv440) rfl rfl rfl rfl rfl) (ev_on rfl hc438 (ev_v rfl rfl (ev_v rfl (d_pick_f rfl hc438 rfl) (ev_v rfl rfl (ev_on rfl hc441 (ev_v rfl rfl (ev_on rfl hc441 (ev_v rfl rfl (ev_on rfl hc441 (ev_v rfl rfl (ev_v rfl (d_pick_f rfl hc441 rfl) (ev_v rfl rfl (ev_on rfl hc443 (ev_v rfl rfl (ev_on rfl hc443 (ev_v rfl rfl (ev_on rfl hc443 (ev_v rfl rfl (ev_v rfl (d_pick_f rfl hc443 rfl) (ev_v rfl rfl (ev_on rfl hc445 (ev_v rfl rfl (ev_on rfl hc445 (ev_v rfl rfl (ev_off rfl hc447 (ev_off rfl hc447 (ev_off rfl hc447 (ev_un rfl (ev_un rfl (ev_un rfl (ev_off rfl hc447 (ev_on rfl hc445 (ev_v rfl (d_pick_f rfl hc447 rfl) (ev_v rfl (d_pick_f rfl hc445 rfl) (ev_v rfl rfl (ev_on rfl rfl (ev_v rfl rfl (ev_on rfl rfl (ev_v rfl rfl (ev_on rfl rfl (ev_v rfl rfl (ev_v rfl (d_pick_f rfl rfl rfl) (ev_v rfl rfl (ev_on rfl hc456 (ev_den (.ref 1168 _ _ _ _) rfl rfl (ev_on rfl hc456 (ev_den (.ref 1312 _ _ _ _) rfl rfl (ev_on rfl hc456 (ev_call0 [(.ref 1168 _ _ _ _), (.ref 1312 _ _ _ _)] rfl (call_ok (rs := []) (rd := [1168, 1312]) rfl rfl rfl rfl (argL_cons (argT_r (rget_of rfl (get_nil)) sub_r) (argL_cons (argT_r (rget_of rfl (get_nil)) sub_r) (argL_nil))) rfl rfl (laws_kMessages_ok hv458) rfl rfl rfl rfl rfl) (ev_on rfl hc456 (ev_v rfl rfl (ev_v rfl (d_pick_f rfl hc456 rfl) (ev_nil))))))))))))))))))))))))))))))))))))))))))))))))))))))))))))))) (joinQ_n (!v458) h (gc_to [112, 16, 256, 1056, 976, 1168] rfl rfl rfl rfl))
    ·refine wp_seq ?_
     refine wp_reg (nx' := 19) rfl (ev_v rfl rfl (ev_nil)) (seqQ_n (?_))
     rcases its h with ⟨hc460, h⟩ | ⟨hc460, h⟩
     ·refine wp_ct rfl hc460 ?_
      refine wp_seq ?_
      obtain ⟨v461, hv461, h⟩ := bs h
      refine wp_reg (nx' := 147) rfl (ev_den (.agg [(.vw _ _), (.vw _ _)]) rfl (d_ld_os rfl (rget_of rfl (get_nil)) rfl (cells_cons rfl (cells_cons rfl (cells_nil)))) (ev_den (.ref 1 _ _ _ _) rfl rfl (ev_call0 [(.agg [(.vw _ _), (.vw _ _)]), (.ref 1 _ _ _ _)] rfl (call_ok (rs := []) (rd := [1]) rfl rfl rfl rfl (argL_cons (argT_a (argL_cons rfl (argL_cons rfl (argL_nil)))) (argL_cons (argT_r (rget_of rfl (get_nil)) sub_r) (argL_nil))) rfl rfl (impl_FilledAt_ok hv461) rfl rfl (by simp [T.open_, T.noSh, noShL, ns_ints, ns_bool, ns_str, ns_e0]) (bindR_t (bindL_cons rfl (bindL_cons rfl (bindL_nil)))) rfl) (ev_den (.tup [(.ref 51 _ _ _ _), (.vw _ _)]) rfl rfl (ev_den (.ref 51 _ _ _ _) rfl rfl (ev_v rfl rfl (ev_den (.ref 51 _ _ _ _) rfl rfl (ev_v rfl rfl (ev_nil))))))))) (seqQ_n (?_))
      refine wp_seq ?_
      obtain ⟨v462, hv462, h⟩ := bs h
      refine wp_reg (nx' := 275) rfl (ev_den (.agg [(.vw _ _), (.vw _ _)]) rfl (d_ld_os rfl (rget_of rfl (get_nil)) rfl (cells_cons rfl (cells_cons rfl (cells_nil)))) (ev_den (.ref 1 _ _ _ _) rfl rfl (ev_call0 [(.agg [(.vw _ _), (.vw _ _)]), (.ref 1 _ _ _ _)] rfl (call_ok (rs := []) (rd := [1]) rfl rfl rfl rfl (argL_cons (argT_a (argL_cons rfl (argL_cons rfl (argL_nil)))) (argL_cons (argT_r (rget_of rfl (get_nil)) sub_r) (argL_nil))) rfl rfl (impl_ReadAt_ok hv462) rfl rfl (by simp [T.open_, T.noSh, noShL, ns_ints, ns_bool, ns_str, ns_e0]) (bindR_t (bindL_cons rfl (bindL_cons rfl (bindL_nil)))) rfl) (ev_den (.tup [(.ref 179 _ _ _ _), (.vw _ _)]) rfl rfl (ev_den (.ref 179 _ _ _ _) rfl rfl (ev_v rfl rfl (ev_den (.ref 179 _ _ _ _) rfl rfl (ev_v rfl rfl (ev_nil))))))))) (seqQ_n (?_))
      refine wp_seq ?_
      refine wp_gc ?_
      refine wp_seq ?_
      refine wp_join (laws_FnSlotsHeld_j9 p1 v145 v146 v461 v462) (fun (x469 : Bool) => (⟨al .dead [(1, .vw [] (.ints .u8 p1)), (5, .ptr 0 [] (some 0)), (6, .ref 1 [] 3 0 (List.length v145.2.1)), (7, .vw [] (.int .i64 v145.2.2)), (8, .ref 2 [] 1 0 (List.length v146.1)), (12, .ref 3 [] 1 0 (List.length v461.1)), (14, .ref 4 [] 1 0 (List.length v462.1)), (116, .vw [] (.bool x469))], hl [some (.ptr (.agg [.int .i64 v145.1.1, .bool v145.1.2])), some (.rows 3 (List.map e0 v145.2.1)), some (.ints .i64 v146.1), some (.ints .i64 v461.1), some (.ints .i64 v462.1)], 5⟩ : St)) ?_ ?_
      ·rintro x469 o h
       unfold laws_FnSlotsHeld_j9 at h
       refine seqQ_n (?_)
       rcases its h with ⟨hc470, h⟩ | ⟨hc470, h⟩
       ·refine wp_ct rfl hc470 ?_
        refine wp_seq ?_
        refine wp_reg (nx' := 21) rfl (ev_v rfl rfl (ev_nil)) (seqQ_n (?_))
        replace h := Option.some.inj h
        subst h
        exact wp_ret (gcQ_r (seqQ_r (joinQ_r (seqQ_r (qf_r ((outs_ok (vs := [(.vw _ _)]) rfl (absW_cons rfl rfl (absW_nil)) rfl rfl)))))))
       ·refine wp_cf rfl hc470 ?_
        refine wp_skip (gcQ_n (gc_to [0, 1, 2, 3, 4] (e := [(1, .vw [] (.ints .u8 p1)), (5, .ptr 0 [] (some 0)), (6, .ref 1 [] 3 0 (List.length v145.2.1)), (7, .vw [] (.int .i64 v145.2.2)), (8, .ref 2 [] 1 0 (List.length v146.1)), (12, .ref 3 [] 1 0 (List.length v461.1)), (14, .ref 4 [] 1 0 (List.length v462.1))]) (ts := [some (.ptr (.agg [.int .i64 v145.1.1, .bool v145.1.2])), some (.rows 3 (List.map e0 v145.2.1)), some (.ints .i64 v146.1), some (.ints .i64 v461.1), some (.ints .i64 v462.1)]) (n := 5) rfl rfl rfl rfl) (seqQ_n (?_)))
        refine wp_seq ?_
        refine wp_reg (nx' := 21) rfl (ev_v rfl rfl (ev_nil)) (seqQ_n (?_))
        refine wp_seq ?_
        refine wp_gc ?_
        refine wp_seq ?_
        refine wp_gc ?_
        refine wp_reg (nx' := 69) rfl (ev_den (.ref 2 _ _ _ _) rfl rfl (ev_v rfl rfl (ev_v rfl rfl (ev_nil)))) (gcQ_n (gc_to [0, 1, 3, 4, 2] (e := [(1, .vw [] (.ints .u8 p1)), (5, .ptr 0 [] (some 0)), (6, .ref 1 [] 3 0 (List.length v145.2.1)), (7, .vw [] (.int .i64 v145.2.2)), (12, .ref 2 [] 1 0 (List.length v461.1)), (14, .ref 3 [] 1 0 (List.length v462.1)), (16, .vw [] (.int .i64 ((0 : Int)))), (117, .ref 4 [] 1 0 (List.length v146.1)), (118, .vw [] (.int .i64 ((List.length v146.1 : Int)))), (119, .vw [] (.int .i64 ((0 : Int))))]) (ts := [some (.ptr (.agg [.int .i64 v145.1.1, .bool v145.1.2])), some (.rows 3 (List.map e0 v145.2.1)), some (.ints .i64 v461.1), some (.ints .i64 v462.1), some (.ints .i64 v146.1)]) (n := 5) rfl rfl rfl rfl) (seqQ_n (?_)))
        refine wp_gc ?_
        refine wp_blk ?_
        obtain ⟨w678, hw678, h⟩ := bs h
        refine wp_mono (wp_loop (fun ((x561, x562) : Int × Int) => (⟨al .dead [(1, .vw [] (.ints .u8 p1)), (5, .ptr 0 [] (some 0)), (6, .ref 1 [] 3 0 (List.length v145.2.1)), (7, .vw [] (.int .i64 v145.2.2)), (12, .ref 2 [] 1 0 (List.length v461.1)), (14, .ref 3 [] 1 0 (List.length v462.1)), (16, .vw [] (.int .i64 x561)), (117, .ref 4 [] 1 0 (List.length v146.1)), (118, .vw [] (.int .i64 ((List.length v146.1 : Int)))), (119, .vw [] (.int .i64 x562))], hl [some (.ptr (.agg [.int .i64 v145.1.1, .bool v145.1.2])), some (.rows 3 (List.map e0 v145.2.1)), some (.ints .i64 v461.1), some (.ints .i64 v462.1), some (.ints .i64 v146.1)], 5⟩ : St)) (fun (v : Int ⊕ Bool) e st => match v with | .inl x581 => e = .exit 0 ∧ gc 0 [1, 5, 6, 7, 12, 14, 16] st = ⟨al .dead [(1, .vw [] (.ints .u8 p1)), (5, .ptr 0 [] (some 0)), (6, .ref 1 [] 3 0 (List.length v145.2.1)), (7, .vw [] (.int .i64 v145.2.2)), (12, .ref 2 [] 1 0 (List.length v461.1)), (14, .ref 3 [] 1 0 (List.length v462.1)), (16, .vw [] (.int .i64 x581))], hl [some (.ptr (.agg [.int .i64 v145.1.1, .bool v145.1.2])), some (.rows 3 (List.map e0 v145.2.1)), some (.ints .i64 v461.1), some (.ints .i64 v462.1)], 4⟩ | .inr rr => e = .ret ∧ outs 0 k3 st = some (.bool rr, [])) hw678 ?_) ?_
        ·rintro ⟨x561, x562⟩ o h
         refine wp_gc ?_
         refine wp_seq ?_
         refine wp_reg (nx' := 21) rfl (ev_v rfl rfl (ev_nil)) (seqQ_n (?_))
         refine wp_seq ?_
         refine wp_gc ?_
         rcases its h with ⟨hc601, h⟩ | ⟨hc601, h⟩
         ·refine wp_ct rfl hc601 ?_
          refine wp_skip (gcQ_n (gc_to [0, 1, 2, 3, 4] (e := [(1, .vw [] (.ints .u8 p1)), (5, .ptr 0 [] (some 0)), (6, .ref 1 [] 3 0 (List.length v145.2.1)), (7, .vw [] (.int .i64 v145.2.2)), (12, .ref 2 [] 1 0 (List.length v461.1)), (14, .ref 3 [] 1 0 (List.length v462.1)), (16, .vw [] (.int .i64 x561)), (117, .ref 4 [] 1 0 (List.length v146.1)), (118, .vw [] (.int .i64 ((List.length v146.1 : Int)))), (119, .vw [] (.int .i64 x562))]) (ts := [some (.ptr (.agg [.int .i64 v145.1.1, .bool v145.1.2])), some (.rows 3 (List.map e0 v145.2.1)), some (.ints .i64 v461.1), some (.ints .i64 v462.1), some (.ints .i64 v146.1)]) (n := 5) rfl rfl rfl rfl) (seqQ_n (?_)))
          refine wp_seq ?_
          refine wp_join (laws_FnSlotsHeld_j11 x562) (fun (x616 : Int) => (⟨al .dead [(1, .vw [] (.ints .u8 p1)), (5, .ptr 0 [] (some 0)), (6, .ref 1 [] 3 0 (List.length v145.2.1)), (7, .vw [] (.int .i64 v145.2.2)), (12, .ref 2 [] 1 0 (List.length v461.1)), (14, .ref 3 [] 1 0 (List.length v462.1)), (16, .vw [] (.int .i64 x616)), (117, .ref 4 [] 1 0 (List.length v146.1)), (118, .vw [] (.int .i64 ((List.length v146.1 : Int)))), (119, .vw [] (.int .i64 x562))], hl [some (.ptr (.agg [.int .i64 v145.1.1, .bool v145.1.2])), some (.rows 3 (List.map e0 v145.2.1)), some (.ints .i64 v461.1), some (.ints .i64 v462.1), some (.ints .i64 v146.1)], 5⟩ : St)) ?_ ?_
          ·rintro x616 o h
           unfold laws_FnSlotsHeld_j11 at h
           refine seqQ_n (?_)
           replace h := Option.some.inj h
           subst h
           exact wp_reg (nx' := 37) rfl (ev_v rfl rfl (ev_v rfl rfl (ev_nil))) (gcQ_n (gc_to [0, 1, 2, 3, 4] (e := [(1, .vw [] (.ints .u8 p1)), (5, .ptr 0 [] (some 0)), (6, .ref 1 [] 3 0 (List.length v145.2.1)), (7, .vw [] (.int .i64 v145.2.2)), (12, .ref 2 [] 1 0 (List.length v461.1)), (14, .ref 3 [] 1 0 (List.length v462.1)), (16, .vw [] (.int .i64 x616)), (117, .ref 4 [] 1 0 (List.length v146.1)), (118, .vw [] (.int .i64 ((List.length v146.1 : Int)))), (119, .vw [] (.int .i64 ((w64 (x562 + (1 : Int))))))]) (ts := [some (.ptr (.agg [.int .i64 v145.1.1, .bool v145.1.2])), some (.rows 3 (List.map e0 v145.2.1)), some (.ints .i64 v461.1), some (.ints .i64 v462.1), some (.ints .i64 v146.1)]) (n := 5) rfl rfl rfl rfl) (loopQ_n rfl))
          ·refine wp_gc ?_
           refine wp_blk ?_
           refine wp_seq ?_
           obtain ⟨v633, hv633, h⟩ := bs h
           refine wp_reg (nx' := 85) rfl (ev_v rfl rfl (ev_den (.ptr 4 [.e (Int.toNat x562)] none) rfl (d_idx_r (p := []) rfl rfl hv633) (ev_v rfl (d_ld_p rfl (rget_of rfl (get_i hv633)) rfl) (ev_v rfl rfl (ev_v rfl rfl (ev_nil)))))) (seqQ_n (?_))
           refine wp_seq ?_
           refine wp_gc ?_
           refine wp_seq ?_
           refine wp_reg (nx' := 117) rfl (ev_v rfl rfl (ev_v rfl rfl (ev_nil))) (seqQ_n (?_))
           rcases its h with ⟨hc635, h⟩ | ⟨hc635, h⟩
           ·refine wp_ct rfl hc635 ?_
            exact wp_exit (gcQ_e (seqQ_e (blkQ_h (gcQ_n (gc_to [0, 1, 2, 3, 4] (e := [(1, .vw [] (.ints .u8 p1)), (5, .ptr 0 [] (some 0)), (6, .ref 1 [] 3 0 (List.length v145.2.1)), (7, .vw [] (.int .i64 v145.2.2)), (12, .ref 2 [] 1 0 (List.length v461.1)), (14, .ref 3 [] 1 0 (List.length v462.1)), (16, .vw [] (.int .i64 x561)), (117, .ref 4 [] 1 0 (List.length v146.1)), (118, .vw [] (.int .i64 ((List.length v146.1 : Int)))), (119, .vw [] (.int .i64 x562))]) (ts := [some (.ptr (.agg [.int .i64 v145.1.1, .bool v145.1.2])), some (.rows 3 (List.map e0 v145.2.1)), some (.ints .i64 v461.1), some (.ints .i64 v462.1), some (.ints .i64 v146.1)]) (n := 5) rfl rfl rfl rfl) (joinQ_n x561 h (gc_to [0, 1, 2, 3, 4] rfl rfl rfl rfl))))))
           ·refine wp_cf rfl hc635 ?_
            refine wp_skip (gcQ_n (gc_to [0, 1, 2, 3, 4] (e := [(1, .vw [] (.ints .u8 p1)), (5, .ptr 0 [] (some 0)), (6, .ref 1 [] 3 0 (List.length v145.2.1)), (7, .vw [] (.int .i64 v145.2.2)), (12, .ref 2 [] 1 0 (List.length v461.1)), (14, .ref 3 [] 1 0 (List.length v462.1)), (16, .vw [] (.int .i64 x561)), (17, .vw [] (.int .i64 x562)), (18, .vw [] (.int .i64 v633)), (117, .ref 4 [] 1 0 (List.length v146.1)), (118, .vw [] (.int .i64 ((List.length v146.1 : Int)))), (119, .vw [] (.int .i64 x562))]) (ts := [some (.ptr (.agg [.int .i64 v145.1.1, .bool v145.1.2])), some (.rows 3 (List.map e0 v145.2.1)), some (.ints .i64 v461.1), some (.ints .i64 v462.1), some (.ints .i64 v146.1)]) (n := 5) rfl rfl rfl rfl) (seqQ_n (?_)))
            refine wp_seq ?_
            refine wp_reg (nx' := 53) rfl (ev_v rfl rfl (ev_v rfl rfl (ev_v rfl rfl (ev_nil)))) (seqQ_n (?_))
            refine wp_seq ?_
            obtain ⟨v637, hv637, h⟩ := bs h
            refine wp_reg (nx' := 149) rfl (ev_den (.ref 1 _ _ _ _) rfl rfl (ev_v rfl rfl (ev_den (.ptr 1 [.e (Int.toNat ((w64 (v633 - (1 : Int)))))] (some 0)) rfl (d_idx_r (p := []) rfl rfl hv637) (ev_den (.agg [(.vw _ _), (.vw _ _), (.vw _ _)]) rfl (d_ld_os rfl (rget_of rfl (get_r (e := e0) hv637 (get_nil))) rfl (cells_cons rfl (cells_cons rfl (cells_cons rfl (cells_nil))))) (ev_new (.ptr 117 [] (some 0)) (.ptr (.agg [.int .i64 ((0 : Int)), .int .i64 ((0 : Int)), .int .i64 ((0 : Int))])) rfl rfl (ev_wr0 rfl (w_st_a rfl rfl rfl (stL_cons (st1_of rfl rfl rfl (get_f rfl (get_nil)) rfl (rput_p (put_f rfl (put_nil)))) rfl (stL_cons (st1_of rfl rfl rfl (get_f rfl (get_nil)) rfl (rput_p (put_f rfl (put_nil)))) rfl (stL_cons (st1_of rfl rfl rfl (get_f rfl (get_nil)) rfl (rput_p (put_f rfl (put_nil)))) rfl (stL_nil))))) (ev_nil))))))) (seqQ_n (?_))
            refine wp_seq ?_
            refine wp_gc ?_
            refine wp_seq ?_
            refine wp_join (laws_FnSlotsHeld_j12 x561 x562) (fun (x658 : Bool) => (⟨al .dead [(1, .vw [] (.ints .u8 p1)), (5, .ptr 0 [] (some 0)), (6, .ref 1 [] 3 0 (List.length v145.2.1)), (7, .vw [] (.int .i64 v145.2.2)), (12, .ref 2 [] 1 0 (List.length v461.1)), (14, .ref 3 [] 1 0 (List.length v462.1)), (16, .vw [] (.int .i64 x561)), (117, .ref 4 [] 1 0 (List.length v146.1)), (118, .vw [] (.int .i64 ((List.length v146.1 : Int)))), (119, .vw [] (.int .i64 x562)), (179, .vw [] (.bool x658))], hl [some (.ptr (.agg [.int .i64 v145.1.1, .bool v145.1.2])), some (.rows 3 (List.map e0 v145.2.1)), some (.ints .i64 v461.1), some (.ints .i64 v462.1), some (.ints .i64 v146.1)], 5⟩ : St)) ?_ ?_
            ·rintro x658 o h
             unfold laws_FnSlotsHeld_j12 at h
             refine seqQ_n (?_)
             rcases its h with ⟨hc659, h⟩ | ⟨hc659, h⟩
             ·refine wp_ct rfl hc659 ?_
              refine wp_seq ?_
              refine wp_reg (nx' := 21) rfl (ev_v rfl rfl (ev_nil)) (seqQ_n (?_))
              replace h := Option.some.inj h
              subst h
              exact wp_ret (gcQ_r (seqQ_r (blkQ_r (gcQ_r (joinQ_r (seqQ_r (gcQ_r (loopQ_r (And.intro rfl (outs_ok (vs := [(.vw _ _)]) rfl (absW_cons rfl rfl (absW_nil)) rfl rfl))))))))))
             ·refine wp_cf rfl hc659 ?_
              refine wp_skip (gcQ_n (gc_to [0, 1, 2, 3, 4] (e := [(1, .vw [] (.ints .u8 p1)), (5, .ptr 0 [] (some 0)), (6, .ref 1 [] 3 0 (List.length v145.2.1)), (7, .vw [] (.int .i64 v145.2.2)), (12, .ref 2 [] 1 0 (List.length v461.1)), (14, .ref 3 [] 1 0 (List.length v462.1)), (16, .vw [] (.int .i64 x561)), (117, .ref 4 [] 1 0 (List.length v146.1)), (118, .vw [] (.int .i64 ((List.length v146.1 : Int)))), (119, .vw [] (.int .i64 x562))]) (ts := [some (.ptr (.agg [.int .i64 v145.1.1, .bool v145.1.2])), some (.rows 3 (List.map e0 v145.2.1)), some (.ints .i64 v461.1), some (.ints .i64 v462.1), some (.ints .i64 v146.1)]) (n := 5) rfl rfl rfl rfl) (seqQ_n (?_)))
              exact wp_reg (nx' := 53) rfl (ev_v rfl rfl (ev_v rfl rfl (ev_v rfl rfl (ev_nil)))) (blkQ_n (gcQ_n (gc_to [0, 1, 2, 3, 4] (e := [(1, .vw [] (.ints .u8 p1)), (5, .ptr 0 [] (some 0)), (6, .ref 1 [] 3 0 (List.length v145.2.1)), (7, .vw [] (.int .i64 v145.2.2)), (12, .ref 2 [] 1 0 (List.length v461.1)), (14, .ref 3 [] 1 0 (List.length v462.1)), (16, .vw [] (.int .i64 ((w64 (x561 + (1 : Int)))))), (117, .ref 4 [] 1 0 (List.length v146.1)), (118, .vw [] (.int .i64 ((List.length v146.1 : Int)))), (119, .vw [] (.int .i64 x562))]) (ts := [some (.ptr (.agg [.int .i64 v145.1.1, .bool v145.1.2])), some (.rows 3 (List.map e0 v145.2.1)), some (.ints .i64 v461.1), some (.ints .i64 v462.1), some (.ints .i64 v146.1)]) (n := 5) rfl rfl rfl rfl) (joinQ_n (w64 (x561 + (1 : Int))) h (gc_to [0, 1, 2, 3, 4] rfl rfl rfl rfl))))
            ·obtain ⟨v661, hv661, h⟩ := bs h
             rcases its h with ⟨hc662, h⟩ | ⟨hc662, h⟩
             ·exact wp_reg (nx' := 917) rfl (ev_den (.ref 2 _ _ _ _) rfl rfl (ev_v rfl rfl (ev_den (.ptr 2 [.e (Int.toNat ((w64 (v633 - (1 : Int)))))] none) rfl (d_idx_r (p := []) rfl rfl hv661) (ev_v rfl (d_ld_p rfl (rget_of rfl (get_i hv661)) rfl) (ev_v rfl rfl (ev_v rfl rfl (ev_v rfl rfl (ev_off rfl hc662 (ev_off rfl hc662 (ev_off rfl hc662 (ev_off rfl hc662 (ev_off rfl hc662 (ev_off rfl hc662 (ev_off rfl hc662 (ev_off rfl hc662 (ev_off rfl hc662 (ev_off rfl hc662 (ev_off rfl hc662 (ev_off rfl hc662 (ev_v rfl (d_pick_t rfl hc662 rfl) (ev_v rfl rfl (ev_off rfl rfl (ev_off rfl rfl (ev_off rfl rfl (ev_off rfl rfl (ev_un rfl (ev_un rfl (ev_un rfl (ev_un rfl (ev_un rfl (ev_un rfl (ev_off rfl rfl (ev_v rfl (d_pick_t rfl rfl rfl) (ev_v rfl rfl (ev_off rfl rfl (ev_off rfl rfl (ev_off rfl rfl (ev_un rfl (ev_un rfl (ev_un rfl (ev_un rfl (ev_un rfl (ev_un rfl (ev_un rfl (ev_un rfl (ev_un rfl (ev_off rfl rfl (ev_v rfl (d_pick_t rfl rfl rfl) (ev_nil))))))))))))))))))))))))))))))))))))))))))))))))) (joinQ_n true h (gc_to [0, 1, 2, 3, 4] rfl rfl rfl rfl))
             ·obtain ⟨u664, hu664, h⟩ := bs h
              rcases its h with ⟨hc665, h⟩ | ⟨hc665, h⟩
              ·exact wp_reg (nx' := 917) rfl (ev_den (.ref 2 _ _ _ _) rfl rfl (ev_v rfl rfl (ev_den (.ptr 2 [.e (Int.toNat ((w64 (v633 - (1 : Int)))))] none) rfl (d_idx_r (p := []) rfl rfl hv661) (ev_v rfl (d_ld_p rfl (rget_of rfl (get_i hv661)) rfl) (ev_v rfl rfl (ev_v rfl rfl (ev_v rfl rfl (ev_on rfl hc662 (ev_v rfl rfl (ev_on rfl hc662 (ev_den (.ref 2 _ _ _ _) rfl rfl (ev_on rfl hc662 (ev_v rfl rfl (ev_on rfl hc662 (ev_den (.ptr 2 [.e (Int.toNat ((w64 (v633 - (1 : Int)))))] none) rfl (d_idx_r (p := []) rfl rfl hv661) (ev_on rfl hc662 (ev_v rfl (d_ld_p rfl (rget_of rfl (get_i hv661)) rfl) (ev_on rfl hc662 (ev_v rfl rfl (ev_on rfl hc662 (ev_den (.ptr 0 [] (some 0)) rfl rfl (ev_on rfl hc662 (ev_v rfl (d_ld_o rfl (rget_of rfl (get_nil)) rfl rfl) (ev_on rfl hc662 (ev_v rfl (d_rem rfl rfl hu664) (ev_on rfl hc662 (ev_den (.ptr 117 [] (some 1)) rfl rfl (ev_on rfl hc662 (ev_v rfl (d_ld_o rfl (rget_of rfl (get_nil)) rfl rfl) (ev_on rfl hc662 (ev_v rfl rfl (ev_v rfl (d_pick_f rfl hc662 rfl) (ev_v rfl rfl (ev_off rfl hc665 (ev_off rfl hc665 (ev_off rfl hc665 (ev_off rfl hc665 (ev_un rfl (ev_un rfl (ev_un rfl (ev_un rfl (ev_un rfl (ev_un rfl (ev_off rfl hc665 (ev_v rfl (d_pick_t rfl hc665 rfl) (ev_v rfl rfl (ev_off rfl rfl (ev_off rfl rfl (ev_off rfl rfl (ev_un rfl (ev_un rfl (ev_un rfl (ev_un rfl (ev_un rfl (ev_un rfl (ev_un rfl (ev_un rfl (ev_un rfl (ev_off rfl rfl (ev_v rfl (d_pick_t rfl rfl rfl) (ev_nil))))))))))))))))))))))))))))))))))))))))))))))))))))))))))))) (joinQ_n true h (gc_to [0, 1, 2, 3, 4] rfl rfl rfl rfl))
              ·rcases its h with ⟨hc667, h⟩ | ⟨hc667, h⟩
               ·obtain ⟨v668, hv668, h⟩ := bs h
                rcases its h with ⟨hc669, h⟩ | ⟨hc669, h⟩
                ·exact wp_reg (nx' := 917) rfl (ev_den (.ref 2 _ _ _ _) rfl rfl (ev_v rfl rfl (ev_den (.ptr 2 [.e (Int.toNat ((w64 (v633 - (1 : Int)))))] none) rfl (d_idx_r (p := []) rfl rfl hv661) (ev_v rfl (d_ld_p rfl (rget_of rfl (get_i hv661)) rfl) (ev_v rfl rfl (ev_v rfl rfl (ev_v rfl rfl (ev_on rfl hc662 (ev_v rfl rfl (ev_on rfl hc662 (ev_den (.ref 2 _ _ _ _) rfl rfl (ev_on rfl hc662 (ev_v rfl rfl (ev_on rfl hc662 (ev_den (.ptr 2 [.e (Int.toNat ((w64 (v633 - (1 : Int)))))] none) rfl (d_idx_r (p := []) rfl rfl hv661) (ev_on rfl hc662 (ev_v rfl (d_ld_p rfl (rget_of rfl (get_i hv661)) rfl) (ev_on rfl hc662 (ev_v rfl rfl (ev_on rfl hc662 (ev_den (.ptr 0 [] (some 0)) rfl rfl (ev_on rfl hc662 (ev_v rfl (d_ld_o rfl (rget_of rfl (get_nil)) rfl rfl) (ev_on rfl hc662 (ev_v rfl (d_rem rfl rfl hu664) (ev_on rfl hc662 (ev_den (.ptr 117 [] (some 1)) rfl rfl (ev_on rfl hc662 (ev_v rfl (d_ld_o rfl (rget_of rfl (get_nil)) rfl rfl) (ev_on rfl hc662 (ev_v rfl rfl (ev_v rfl (d_pick_f rfl hc662 rfl) (ev_v rfl rfl (ev_on rfl hc665 (ev_den (.ptr 0 [] (some 1)) rfl rfl (ev_on rfl hc665 (ev_v rfl (d_ld_o rfl (rget_of rfl (get_nil)) rfl rfl) (ev_on rfl hc665 (ev_v rfl rfl (ev_on rfl hc665 (ev_v rfl rfl (ev_on rfl hc667 (ev_den (.ref 3 _ _ _ _) rfl rfl (ev_on rfl hc667 (ev_v rfl rfl (ev_on rfl hc667 (ev_den (.ptr 3 [.e (Int.toNat ((w64 (v633 - (1 : Int)))))] none) rfl (d_idx_r (p := []) rfl rfl hv668) (ev_on rfl hc667 (ev_v rfl (d_ld_p rfl (rget_of rfl (get_i hv668)) rfl) (ev_on rfl hc667 (ev_v rfl rfl (ev_on rfl hc667 (ev_v rfl rfl (ev_on rfl hc665 (ev_v rfl (d_pick_t rfl hc667 rfl) (ev_v rfl (d_pick_f rfl hc665 rfl) (ev_v rfl rfl (ev_off rfl hc669 (ev_off rfl hc669 (ev_off rfl hc669 (ev_un rfl (ev_un rfl (ev_un rfl (ev_un rfl (ev_un rfl (ev_un rfl (ev_un rfl (ev_un rfl (ev_un rfl (ev_off rfl hc669 (ev_v rfl (d_pick_t rfl hc669 rfl) (ev_nil)))))))))))))))))))))))))))))))))))))))))))))))))))))))))))))))))))))))) (joinQ_n true h (gc_to [0, 1, 2, 3, 4] rfl rfl rfl rfl))
                ·rcases its h with ⟨hc671, h⟩ | ⟨hc671, h⟩
                 ·exact wp_reg (nx' := 917) rfl (ev_den (.ref 2 _ _ _ _) rfl rfl (ev_v rfl rfl (ev_den (.ptr 2 [.e (Int.toNat ((w64 (v633 - (1 : Int)))))] none) rfl (d_idx_r (p := []) rfl rfl hv661) (ev_v rfl (d_ld_p rfl (rget_of rfl (get_i hv661)) rfl) (ev_v rfl rfl (ev_v rfl rfl (ev_v rfl rfl (ev_on rfl hc662 (ev_v rfl rfl (ev_on rfl hc662 (ev_den (.ref 2 _ _ _ _) rfl rfl (ev_on rfl hc662 (ev_v rfl rfl (ev_on rfl hc662 (ev_den (.ptr 2 [.e (Int.toNat ((w64 (v633 - (1 : Int)))))] none) rfl (d_idx_r (p := []) rfl rfl hv661) (ev_on rfl hc662 (ev_v rfl (d_ld_p rfl (rget_of rfl (get_i hv661)) rfl) (ev_on rfl hc662 (ev_v rfl rfl (ev_on rfl hc662 (ev_den (.ptr 0 [] (some 0)) rfl rfl (ev_on rfl hc662 (ev_v rfl (d_ld_o rfl (rget_of rfl (get_nil)) rfl rfl) (ev_on rfl hc662 (ev_v rfl (d_rem rfl rfl hu664) (ev_on rfl hc662 (ev_den (.ptr 117 [] (some 1)) rfl rfl (ev_on rfl hc662 (ev_v rfl (d_ld_o rfl (rget_of rfl (get_nil)) rfl rfl) (ev_on rfl hc662 (ev_v rfl rfl (ev_v rfl (d_pick_f rfl hc662 rfl) (ev_v rfl rfl (ev_on rfl hc665 (ev_den (.ptr 0 [] (some 1)) rfl rfl (ev_on rfl hc665 (ev_v rfl (d_ld_o rfl (rget_of rfl (get_nil)) rfl rfl) (ev_on rfl hc665 (ev_v rfl rfl (ev_on rfl hc665 (ev_v rfl rfl (ev_on rfl hc667 (ev_den (.ref 3 _ _ _ _) rfl rfl (ev_on rfl hc667 (ev_v rfl rfl (ev_on rfl hc667 (ev_den (.ptr 3 [.e (Int.toNat ((w64 (v633 - (1 : Int)))))] none) rfl (d_idx_r (p := []) rfl rfl hv668) (ev_on rfl hc667 (ev_v rfl (d_ld_p rfl (rget_of rfl (get_i hv668)) rfl) (ev_on rfl hc667 (ev_v rfl rfl (ev_on rfl hc667 (ev_v rfl rfl (ev_on rfl hc665 (ev_v rfl (d_pick_t rfl hc667 rfl) (ev_v rfl (d_pick_f rfl hc665 rfl) (ev_v rfl rfl (ev_on rfl hc669 (ev_den (.ptr 0 [] (some 1)) rfl rfl (ev_on rfl hc669 (ev_v rfl (d_ld_o rfl (rget_of rfl (get_nil)) rfl rfl) (ev_on rfl hc669 (ev_v rfl rfl (ev_on rfl hc671 (ev_den (.ref 2 _ _ _ _) rfl rfl (ev_on rfl hc671 (ev_v rfl rfl (ev_on rfl hc671 (ev_den (.ptr 2 [.e (Int.toNat ((w64 (v633 - (1 : Int)))))] none) rfl (d_idx_r (p := []) rfl rfl hv661) (ev_on rfl hc671 (ev_v rfl (d_ld_p rfl (rget_of rfl (get_i hv661)) rfl) (ev_on rfl hc671 (ev_den (.ptr 0 [] (some 0)) rfl rfl (ev_on rfl hc671 (ev_v rfl (d_ld_o rfl (rget_of rfl (get_nil)) rfl rfl) (ev_on rfl hc671 (ev_v rfl rfl (ev_on rfl hc671 (ev_v rfl rfl (ev_on rfl hc671 (ev_v rfl rfl (ev_on rfl hc669 (ev_v rfl (d_pick_t rfl hc671 rfl) (ev_v rfl (d_pick_f rfl hc669 rfl) (ev_nil))))))))))))))))))))))))))))))))))))))))))))))))))))))))))))))))))))))))))))))))))))) (joinQ_n (decide ((w64 (v661 + v145.1.1)) ≤ v145.2.2)) h (gc_to [0, 1, 2, 3, 4] rfl rfl rfl rfl))
                 ·exact wp_reg (nx' := 917) rfl (ev_den (.ref 2 _ _ _ _) rfl rfl (ev_v rfl rfl (ev_den (.ptr 2 [.e (Int.toNat ((w64 (v633 - (1 : Int)))))] none) rfl (d_idx_r (p := []) rfl rfl hv661) (ev_v rfl (d_ld_p rfl (rget_of rfl (get_i hv661)) rfl) (ev_v rfl rfl (ev_v rfl rfl (ev_v rfl rfl (ev_on rfl hc662 (ev_v rfl rfl (ev_on rfl hc662 (ev_den (.ref 2 _ _ _ _) rfl rfl (ev_on rfl hc662 (ev_v rfl rfl (ev_on rfl hc662 (ev_den (.ptr 2 [.e (Int.toNat ((w64 (v633 - (1 : Int)))))] none) rfl (d_idx_r (p := []) rfl rfl hv661) (ev_on rfl hc662 (ev_v rfl (d_ld_p rfl (rget_of rfl (get_i hv661)) rfl) (ev_on rfl hc662 (ev_v rfl rfl (ev_on rfl hc662 (ev_den (.ptr 0 [] (some 0)) rfl rfl (ev_on rfl hc662 (ev_v rfl (d_ld_o rfl (rget_of rfl (get_nil)) rfl rfl) (ev_on rfl hc662 (ev_v rfl (d_rem rfl rfl hu664) (ev_on rfl hc662 (ev_den (.ptr 117 [] (some 1)) rfl rfl (ev_on rfl hc662 (ev_v rfl (d_ld_o rfl (rget_of rfl (get_nil)) rfl rfl) (ev_on rfl hc662 (ev_v rfl rfl (ev_v rfl (d_pick_f rfl hc662 rfl) (ev_v rfl rfl (ev_on rfl hc665 (ev_den (.ptr 0 [] (some 1)) rfl rfl (ev_on rfl hc665 (ev_v rfl (d_ld_o rfl (rget_of rfl (get_nil)) rfl rfl) (ev_on rfl hc665 (ev_v rfl rfl (ev_on rfl hc665 (ev_v rfl rfl (ev_on rfl hc667 (ev_den (.ref 3 _ _ _ _) rfl rfl (ev_on rfl hc667 (ev_v rfl rfl (ev_on rfl hc667 (ev_den (.ptr 3 [.e (Int.toNat ((w64 (v633 - (1 : Int)))))] none) rfl (d_idx_r (p := []) rfl rfl hv668) (ev_on rfl hc667 (ev_v rfl (d_ld_p rfl (rget_of rfl (get_i hv668)) rfl) (ev_on rfl hc667 (ev_v rfl rfl (ev_on rfl hc667 (ev_v rfl rfl (ev_on rfl hc665 (ev_v rfl (d_pick_t rfl hc667 rfl) (ev_v rfl (d_pick_f rfl hc665 rfl) (ev_v rfl rfl (ev_on rfl hc669 (ev_den (.ptr 0 [] (some 1)) rfl rfl (ev_on rfl hc669 (ev_v rfl (d_ld_o rfl (rget_of rfl (get_nil)) rfl rfl) (ev_on rfl hc669 (ev_v rfl rfl (ev_off rfl hc671 (ev_off rfl hc671 (ev_off rfl hc671 (ev_off rfl hc671 (ev_off rfl hc671 (ev_off rfl hc671 (ev_off rfl hc671 (ev_off rfl hc671 (ev_off rfl hc671 (ev_on rfl hc669 (ev_v rfl (d_pick_f rfl hc671 rfl) (ev_v rfl (d_pick_f rfl hc669 rfl) (ev_nil)))))))))))))))))))))))))))))))))))))))))))))))))))))))))))))))))))))))))))) (joinQ_n false h (gc_to [0, 1, 2, 3, 4] rfl rfl rfl rfl))
               ·rcases its h with ⟨hc674, h⟩ | ⟨hc674, h⟩
                ·exact wp_reg (nx' := 917) rfl (ev_den (.ref 2 _ _ _ _) rfl rfl (ev_v rfl rfl (ev_den (.ptr 2 [.e (Int.toNat ((w64 (v633 - (1 : Int)))))] none) rfl (d_idx_r (p := []) rfl rfl hv661) (ev_v rfl (d_ld_p rfl (rget_of rfl (get_i hv661)) rfl) (ev_v rfl rfl (ev_v rfl rfl (ev_v rfl rfl (ev_on rfl hc662 (ev_v rfl rfl (ev_on rfl hc662 (ev_den (.ref 2 _ _ _ _) rfl rfl (ev_on rfl hc662 (ev_v rfl rfl (ev_on rfl hc662 (ev_den (.ptr 2 [.e (Int.toNat ((w64 (v633 - (1 : Int)))))] none) rfl (d_idx_r (p := []) rfl rfl hv661) (ev_on rfl hc662 (ev_v rfl (d_ld_p rfl (rget_of rfl (get_i hv661)) rfl) (ev_on rfl hc662 (ev_v rfl rfl (ev_on rfl hc662 (ev_den (.ptr 0 [] (some 0)) rfl rfl (ev_on rfl hc662 (ev_v rfl (d_ld_o rfl (rget_of rfl (get_nil)) rfl rfl) (ev_on rfl hc662 (ev_v rfl (d_rem rfl rfl hu664) (ev_on rfl hc662 (ev_den (.ptr 117 [] (some 1)) rfl rfl (ev_on rfl hc662 (ev_v rfl (d_ld_o rfl (rget_of rfl (get_nil)) rfl rfl) (ev_on rfl hc662 (ev_v rfl rfl (ev_v rfl (d_pick_f rfl hc662 rfl) (ev_v rfl rfl (ev_on rfl hc665 (ev_den (.ptr 0 [] (some 1)) rfl rfl (ev_on rfl hc665 (ev_v rfl (d_ld_o rfl (rget_of rfl (get_nil)) rfl rfl) (ev_on rfl hc665 (ev_v rfl rfl (ev_on rfl hc665 (ev_v rfl rfl (ev_off rfl hc667 (ev_off rfl hc667 (ev_off rfl hc667 (ev_off rfl hc667 (ev_off rfl hc667 (ev_off rfl hc667 (ev_on rfl hc665 (ev_v rfl (d_pick_f rfl hc667 rfl) (ev_v rfl (d_pick_f rfl hc665 rfl) (ev_v rfl rfl (ev_on rfl rfl (ev_den (.ptr 0 [] (some 1)) rfl rfl (ev_on rfl rfl (ev_v rfl (d_ld_o rfl (rget_of rfl (get_nil)) rfl rfl) (ev_on rfl rfl (ev_v rfl rfl (ev_on rfl hc674 (ev_den (.ref 2 _ _ _ _) rfl rfl (ev_on rfl hc674 (ev_v rfl rfl (ev_on rfl hc674 (ev_den (.ptr 2 [.e (Int.toNat ((w64 (v633 - (1 : Int)))))] none) rfl (d_idx_r (p := []) rfl rfl hv661) (ev_on rfl hc674 (ev_v rfl (d_ld_p rfl (rget_of rfl (get_i hv661)) rfl) (ev_on rfl hc674 (ev_den (.ptr 0 [] (some 0)) rfl rfl (ev_on rfl hc674 (ev_v rfl (d_ld_o rfl (rget_of rfl (get_nil)) rfl rfl) (ev_on rfl hc674 (ev_v rfl rfl (ev_on rfl hc674 (ev_v rfl rfl (ev_on rfl hc674 (ev_v rfl rfl (ev_on rfl rfl (ev_v rfl (d_pick_t rfl hc674 rfl) (ev_v rfl (d_pick_f rfl rfl rfl) (ev_nil))))))))))))))))))))))))))))))))))))))))))))))))))))))))))))))))))))))))))))))) (joinQ_n (decide ((w64 (v661 + v145.1.1)) ≤ v145.2.2)) h (gc_to [0, 1, 2, 3, 4] rfl rfl rfl rfl))
                ·exact wp_reg (nx' := 917) rfl (ev_den (.ref 2 _ _ _ _) rfl rfl (ev_v rfl rfl (ev_den (.ptr 2 [.e (Int.toNat ((w64 (v633 - (1 : Int)))))] none) rfl (d_idx_r (p := []) rfl rfl hv661) (ev_v rfl (d_ld_p rfl (rget_of rfl (get_i hv661)) rfl) (ev_v rfl rfl (ev_v rfl rfl (ev_v rfl rfl (ev_on rfl hc662 (ev_v rfl rfl (ev_on rfl hc662 (ev_den (.ref 2 _ _ _ _) rfl rfl (ev_on rfl hc662 (ev_v rfl rfl (ev_on rfl hc662 (ev_den (.ptr 2 [.e (Int.toNat ((w64 (v633 - (1 : Int)))))] none) rfl (d_idx_r (p := []) rfl rfl hv661) (ev_on rfl hc662 (ev_v rfl (d_ld_p rfl (rget_of rfl (get_i hv661)) rfl) (ev_on rfl hc662 (ev_v rfl rfl (ev_on rfl hc662 (ev_den (.ptr 0 [] (some 0)) rfl rfl (ev_on rfl hc662 (ev_v rfl (d_ld_o rfl (rget_of rfl (get_nil)) rfl rfl) (ev_on rfl hc662 (ev_v rfl (d_rem rfl rfl hu664) (ev_on rfl hc662 (ev_den (.ptr 117 [] (some 1)) rfl rfl (ev_on rfl hc662 (ev_v rfl (d_ld_o rfl (rget_of rfl (get_nil)) rfl rfl) (ev_on rfl hc662 (ev_v rfl rfl (ev_v rfl (d_pick_f rfl hc662 rfl) (ev_v rfl rfl (ev_on rfl hc665 (ev_den (.ptr 0 [] (some 1)) rfl rfl (ev_on rfl hc665 (ev_v rfl (d_ld_o rfl (rget_of rfl (get_nil)) rfl rfl) (ev_on rfl hc665 (ev_v rfl rfl (ev_on rfl hc665 (ev_v rfl rfl (ev_off rfl hc667 (ev_off rfl hc667 (ev_off rfl hc667 (ev_off rfl hc667 (ev_off rfl hc667 (ev_off rfl hc667 (ev_on rfl hc665 (ev_v rfl (d_pick_f rfl hc667 rfl) (ev_v rfl (d_pick_f rfl hc665 rfl) (ev_v rfl rfl (ev_on rfl rfl (ev_den (.ptr 0 [] (some 1)) rfl rfl (ev_on rfl rfl (ev_v rfl (d_ld_o rfl (rget_of rfl (get_nil)) rfl rfl) (ev_on rfl rfl (ev_v rfl rfl (ev_off rfl hc674 (ev_off rfl hc674 (ev_off rfl hc674 (ev_off rfl hc674 (ev_off rfl hc674 (ev_off rfl hc674 (ev_off rfl hc674 (ev_off rfl hc674 (ev_off rfl hc674 (ev_on rfl rfl (ev_v rfl (d_pick_f rfl hc674 rfl) (ev_v rfl (d_pick_f rfl rfl rfl) (ev_nil)))))))))))))))))))))))))))))))))))))))))))))))))))))))))))))))))))))) (joinQ_n false h (gc_to [0, 1, 2, 3, 4] rfl rfl rfl rfl))
         ·refine wp_cf rfl hc601 ?_
          replace h := Option.some.inj h
          subst h
          exact wp_exit (gcQ_e (seqQ_e (gcQ_e (loopQ_e (And.intro rfl (gc_to [0, 1, 2, 3] (e := [(1, .vw [] (.ints .u8 p1)), (5, .ptr 0 [] (some 0)), (6, .ref 1 [] 3 0 (List.length v145.2.1)), (7, .vw [] (.int .i64 v145.2.2)), (12, .ref 2 [] 1 0 (List.length v461.1)), (14, .ref 3 [] 1 0 (List.length v462.1)), (16, .vw [] (.int .i64 x561))]) (ts := [some (.ptr (.agg [.int .i64 v145.1.1, .bool v145.1.2])), some (.rows 3 (List.map e0 v145.2.1)), some (.ints .i64 v461.1), some (.ints .i64 v462.1)]) (n := 4) rfl rfl rfl rfl))))))
        ·intro e st678 hg678
         rcases w678 with x581 | r808
         ·obtain ⟨rfl, hg678⟩ := hg678
          refine blkQ_h (gcQ_n hg678 (gcQ_n (gc_to [0, 1, 2, 3] (e := [(1, .vw [] (.ints .u8 p1)), (5, .ptr 0 [] (some 0)), (6, .ref 1 [] 3 0 (List.length v145.2.1)), (7, .vw [] (.int .i64 v145.2.2)), (12, .ref 2 [] 1 0 (List.length v461.1)), (14, .ref 3 [] 1 0 (List.length v462.1)), (16, .vw [] (.int .i64 x581))]) (ts := [some (.ptr (.agg [.int .i64 v145.1.1, .bool v145.1.2])), some (.rows 3 (List.map e0 v145.2.1)), some (.ints .i64 v461.1), some (.ints .i64 v462.1)]) (n := 4) rfl rfl rfl rfl) (seqQ_n (?_))))
          refine wp_seq ?_
          refine wp_reg (nx' := 20) rfl (ev_v rfl rfl (ev_nil)) (seqQ_n (?_))
          refine wp_seq ?_
          refine wp_gc ?_
          refine wp_seq ?_
          refine wp_gc ?_
          refine wp_reg (nx' := 68) rfl (ev_den (.ref 1 _ _ _ _) rfl rfl (ev_v rfl rfl (ev_v rfl rfl (ev_nil)))) (gcQ_n (gc_to [0, 2, 3] (e := [(1, .vw [] (.ints .u8 p1)), (5, .ptr 0 [] (some 0)), (7, .vw [] (.int .i64 v145.2.2)), (12, .ref 1 [] 1 0 (List.length v461.1)), (14, .ref 2 [] 1 0 (List.length v462.1)), (16, .vw [] (.int .i64 x581)), (21, .vw [] (.int .i64 ((0 : Int)))), (184, .vw [] (.int .i64 ((List.length v145.2.1 : Int)))), (185, .vw [] (.int .i64 ((0 : Int))))]) (ts := [some (.ptr (.agg [.int .i64 v145.1.1, .bool v145.1.2])), some (.ints .i64 v461.1), some (.ints .i64 v462.1)]) (n := 3) rfl rfl rfl rfl) (seqQ_n (?_)))
          refine wp_gc ?_
          refine wp_blk ?_
          obtain ⟨x753, hw806, h⟩ := bs h
          refine wp_mono (wp_loop (fun ((x739, x740) : Int × Int) => (⟨al .dead [(1, .vw [] (.ints .u8 p1)), (5, .ptr 0 [] (some 0)), (7, .vw [] (.int .i64 v145.2.2)), (12, .ref 1 [] 1 0 (List.length v461.1)), (14, .ref 2 [] 1 0 (List.length v462.1)), (16, .vw [] (.int .i64 x581)), (21, .vw [] (.int .i64 x739)), (184, .vw [] (.int .i64 ((List.length v145.2.1 : Int)))), (185, .vw [] (.int .i64 x740))], hl [some (.ptr (.agg [.int .i64 v145.1.1, .bool v145.1.2])), some (.ints .i64 v461.1), some (.ints .i64 v462.1)], 3⟩ : St)) (fun (x753 : Int) e st => e = .exit 2 ∧ gc 0 [1, 16, 21] st = ⟨al .dead [(1, .vw [] (.ints .u8 p1)), (16, .vw [] (.int .i64 x581)), (21, .vw [] (.int .i64 x753))], hl [], 0⟩) hw806 ?_) ?_
          ·rintro ⟨x739, x740⟩ o h
           refine wp_gc ?_
           refine wp_seq ?_
           refine wp_reg (nx' := 19) rfl (ev_v rfl rfl (ev_nil)) (seqQ_n (?_))
           refine wp_seq ?_
           refine wp_gc ?_
           rcases its h with ⟨hc767, h⟩ | ⟨hc767, h⟩
           ·refine wp_ct rfl hc767 ?_
            refine wp_skip (gcQ_n (gc_to [0, 1, 2] (e := [(1, .vw [] (.ints .u8 p1)), (5, .ptr 0 [] (some 0)), (7, .vw [] (.int .i64 v145.2.2)), (12, .ref 1 [] 1 0 (List.length v461.1)), (14, .ref 2 [] 1 0 (List.length v462.1)), (16, .vw [] (.int .i64 x581)), (21, .vw [] (.int .i64 x739)), (184, .vw [] (.int .i64 ((List.length v145.2.1 : Int)))), (185, .vw [] (.int .i64 x740))]) (ts := [some (.ptr (.agg [.int .i64 v145.1.1, .bool v145.1.2])), some (.ints .i64 v461.1), some (.ints .i64 v462.1)]) (n := 3) rfl rfl rfl rfl) (seqQ_n (?_)))
            refine wp_seq ?_
            refine wp_join (laws_FnSlotsHeld_j14 x740) (fun (x776 : Int) => (⟨al .dead [(1, .vw [] (.ints .u8 p1)), (5, .ptr 0 [] (some 0)), (7, .vw [] (.int .i64 v145.2.2)), (12, .ref 1 [] 1 0 (List.length v461.1)), (14, .ref 2 [] 1 0 (List.length v462.1)), (16, .vw [] (.int .i64 x581)), (21, .vw [] (.int .i64 x776)), (184, .vw [] (.int .i64 ((List.length v145.2.1 : Int)))), (185, .vw [] (.int .i64 x740))], hl [some (.ptr (.agg [.int .i64 v145.1.1, .bool v145.1.2])), some (.ints .i64 v461.1), some (.ints .i64 v462.1)], 3⟩ : St)) ?_ ?_
            ·rintro x776 o h
             unfold laws_FnSlotsHeld_j14 at h
             refine seqQ_n (?_)
             replace h := Option.some.inj h
             subst h
             exact wp_reg (nx' := 35) rfl (ev_v rfl rfl (ev_v rfl rfl (ev_nil))) (gcQ_n (gc_to [0, 1, 2] (e := [(1, .vw [] (.ints .u8 p1)), (5, .ptr 0 [] (some 0)), (7, .vw [] (.int .i64 v145.2.2)), (12, .ref 1 [] 1 0 (List.length v461.1)), (14, .ref 2 [] 1 0 (List.length v462.1)), (16, .vw [] (.int .i64 x581)), (21, .vw [] (.int .i64 x776)), (184, .vw [] (.int .i64 ((List.length v145.2.1 : Int)))), (185, .vw [] (.int .i64 ((w64 (x740 + (1 : Int))))))]) (ts := [some (.ptr (.agg [.int .i64 v145.1.1, .bool v145.1.2])), some (.ints .i64 v461.1), some (.ints .i64 v462.1)]) (n := 3) rfl rfl rfl rfl) (loopQ_n rfl))
            ·refine wp_gc ?_
             refine wp_blk ?_
             refine wp_seq ?_
             refine wp_reg (nx' := 35) rfl (ev_v rfl rfl (ev_v rfl rfl (ev_nil))) (seqQ_n (?_))
             refine wp_seq ?_
             obtain ⟨v787, hv787, h⟩ := bs h
             refine wp_reg (nx' := 115) rfl (ev_den (.ref 2 _ _ _ _) rfl rfl (ev_v rfl rfl (ev_den (.ptr 2 [.e (Int.toNat x740)] none) rfl (d_idx_r (p := []) rfl rfl hv787) (ev_v rfl (d_ld_p rfl (rget_of rfl (get_i hv787)) rfl) (ev_v rfl rfl (ev_nil)))))) (seqQ_n (?_))
             refine wp_seq ?_
             refine wp_join (laws_FnSlotsHeld_j15 v145 v461 x739 x740) (fun (x790 : Int) => (⟨al .dead [(1, .vw [] (.ints .u8 p1)), (5, .ptr 0 [] (some 0)), (7, .vw [] (.int .i64 v145.2.2)), (12, .ref 1 [] 1 0 (List.length v461.1)), (14, .ref 2 [] 1 0 (List.length v462.1)), (16, .vw [] (.int .i64 x581)), (21, .vw [] (.int .i64 x739)), (22, .vw [] (.int .i64 x740)), (23, .vw [] (.int .i64 x790)), (184, .vw [] (.int .i64 ((List.length v145.2.1 : Int)))), (185, .vw [] (.int .i64 x740))], hl [some (.ptr (.agg [.int .i64 v145.1.1, .bool v145.1.2])), some (.ints .i64 v461.1), some (.ints .i64 v462.1)], 3⟩ : St)) ?_ ?_
             ·rintro x790 o h
              unfold laws_FnSlotsHeld_j15 at h
              refine seqQ_n (?_)
              refine wp_seq ?_
              refine wp_join (laws_FnSlotsHeld_j16 x739 x740) (fun (x793 : Bool) => (⟨al .dead [(1, .vw [] (.ints .u8 p1)), (5, .ptr 0 [] (some 0)), (7, .vw [] (.int .i64 v145.2.2)), (12, .ref 1 [] 1 0 (List.length v461.1)), (14, .ref 2 [] 1 0 (List.length v462.1)), (16, .vw [] (.int .i64 x581)), (21, .vw [] (.int .i64 x739)), (184, .vw [] (.int .i64 ((List.length v145.2.1 : Int)))), (185, .vw [] (.int .i64 x740)), (211, .vw [] (.bool x793))], hl [some (.ptr (.agg [.int .i64 v145.1.1, .bool v145.1.2])), some (.ints .i64 v461.1), some (.ints .i64 v462.1)], 3⟩ : St)) ?_ ?_
              ·rintro x793 o h
               unfold laws_FnSlotsHeld_j16 at h
               refine seqQ_n (?_)
               rcases its h with ⟨hc794, h⟩ | ⟨hc794, h⟩
               ·refine wp_ct rfl hc794 ?_
                exact wp_reg (nx' := 51) rfl (ev_v rfl rfl (ev_v rfl rfl (ev_v rfl rfl (ev_nil)))) (blkQ_n (gcQ_n (gc_to [0, 1, 2] (e := [(1, .vw [] (.ints .u8 p1)), (5, .ptr 0 [] (some 0)), (7, .vw [] (.int .i64 v145.2.2)), (12, .ref 1 [] 1 0 (List.length v461.1)), (14, .ref 2 [] 1 0 (List.length v462.1)), (16, .vw [] (.int .i64 x581)), (21, .vw [] (.int .i64 ((w64 (x739 + (1 : Int)))))), (184, .vw [] (.int .i64 ((List.length v145.2.1 : Int)))), (185, .vw [] (.int .i64 x740))]) (ts := [some (.ptr (.agg [.int .i64 v145.1.1, .bool v145.1.2])), some (.ints .i64 v461.1), some (.ints .i64 v462.1)]) (n := 3) rfl rfl rfl rfl) (joinQ_n (w64 (x739 + (1 : Int))) h (gc_to [0, 1, 2] rfl rfl rfl rfl))))
               ·refine wp_cf rfl hc794 ?_
                exact wp_skip (blkQ_n (gcQ_n (gc_to [0, 1, 2] (e := [(1, .vw [] (.ints .u8 p1)), (5, .ptr 0 [] (some 0)), (7, .vw [] (.int .i64 v145.2.2)), (12, .ref 1 [] 1 0 (List.length v461.1)), (14, .ref 2 [] 1 0 (List.length v462.1)), (16, .vw [] (.int .i64 x581)), (21, .vw [] (.int .i64 x739)), (184, .vw [] (.int .i64 ((List.length v145.2.1 : Int)))), (185, .vw [] (.int .i64 x740))]) (ts := [some (.ptr (.agg [.int .i64 v145.1.1, .bool v145.1.2])), some (.ints .i64 v461.1), some (.ints .i64 v462.1)]) (n := 3) rfl rfl rfl rfl) (joinQ_n x739 h (gc_to [0, 1, 2] rfl rfl rfl rfl))))
              ·obtain ⟨v797, hv797, h⟩ := bs h
               rcases its h with ⟨hc798, h⟩ | ⟨hc798, h⟩
               ·exact wp_reg (nx' := 179) rfl (ev_den (.ref 1 _ _ _ _) rfl rfl (ev_v rfl rfl (ev_den (.ptr 1 [.e (Int.toNat x740)] none) rfl (d_idx_r (p := []) rfl rfl hv797) (ev_v rfl (d_ld_p rfl (rget_of rfl (get_i hv797)) rfl) (ev_v rfl rfl (ev_v rfl rfl (ev_v rfl rfl (ev_on rfl hc798 (ev_v rfl rfl (ev_on rfl hc798 (ev_v rfl rfl (ev_on rfl hc798 (ev_v rfl rfl (ev_v rfl (d_pick_t rfl hc798 rfl) (ev_nil))))))))))))))) (joinQ_n (decide (v145.2.2 < x790)) h (gc_to [0, 1, 2] rfl rfl rfl rfl))
               ·exact wp_reg (nx' := 179) rfl (ev_den (.ref 1 _ _ _ _) rfl rfl (ev_v rfl rfl (ev_den (.ptr 1 [.e (Int.toNat x740)] none) rfl (d_idx_r (p := []) rfl rfl hv797) (ev_v rfl (d_ld_p rfl (rget_of rfl (get_i hv797)) rfl) (ev_v rfl rfl (ev_v rfl rfl (ev_v rfl rfl (ev_off rfl hc798 (ev_off rfl hc798 (ev_off rfl hc798 (ev_v rfl (d_pick_f rfl hc798 rfl) (ev_nil)))))))))))) (joinQ_n false h (gc_to [0, 1, 2] rfl rfl rfl rfl))
             ·refine wp_seq ?_
              refine wp_reg (nx' := 147) rfl (ev_den (.ptr 0 [] (some 1)) rfl rfl (ev_v rfl (d_ld_o rfl (rget_of rfl (get_nil)) rfl rfl) (ev_nil))) (seqQ_n (?_))
              rcases its h with ⟨hc801, h⟩ | ⟨hc801, h⟩
              ·refine wp_ct rfl hc801 ?_
               obtain ⟨v802, hv802, h⟩ := bs h
               exact wp_reg (nx' := 275) rfl (ev_den (.ref 1 _ _ _ _) rfl rfl (ev_v rfl rfl (ev_den (.ptr 1 [.e (Int.toNat x740)] none) rfl (d_idx_r (p := []) rfl rfl hv802) (ev_v rfl (d_ld_p rfl (rget_of rfl (get_i hv802)) rfl) (ev_den (.ptr 0 [] (some 0)) rfl rfl (ev_v rfl (d_ld_o rfl (rget_of rfl (get_nil)) rfl rfl) (ev_v rfl rfl (ev_v rfl rfl (ev_nil))))))))) (joinQ_n (w64 (v802 + v145.1.1)) h (gc_to [0, 1, 2] rfl rfl rfl rfl))
              ·refine wp_cf rfl hc801 ?_
               exact wp_skip (joinQ_n v787 h (gc_to [0, 1, 2] rfl rfl rfl rfl))
           ·refine wp_cf rfl hc767 ?_
            replace h := Option.some.inj h
            subst h
            exact wp_exit (gcQ_e (seqQ_e (gcQ_e (loopQ_e (And.intro rfl (gc_to [] (e := [(1, .vw [] (.ints .u8 p1)), (16, .vw [] (.int .i64 x581)), (21, .vw [] (.int .i64 x739))]) (ts := []) (n := 0) rfl rfl rfl rfl))))))
          ·intro e st806 hg806
           obtain ⟨rfl, hg806⟩ := hg806
           refine blkQ_h (gcQ_n hg806 (gcQ_n (gc_to [] (e := [(1, .vw [] (.ints .u8 p1)), (16, .vw [] (.int .i64 x581)), (21, .vw [] (.int .i64 x753))]) (ts := []) (n := 0) rfl rfl rfl rfl) (seqQ_n (?_))))
           refine wp_seq ?_
           refine wp_reg (nx' := 48) rfl (ev_v rfl rfl (ev_v rfl rfl (ev_v rfl rfl (ev_nil)))) (seqQ_n (?_))
           rcases its h with ⟨hc807, h⟩ | ⟨hc807, h⟩
           ·refine wp_ct rfl hc807 ?_
            refine wp_seq ?_
            refine wp_reg (nx' := 64) rfl (ev_v rfl rfl (ev_nil)) (seqQ_n (?_))
            replace h := Option.some.inj h
            subst h
            exact wp_ret (joinQ_r (seqQ_r (qf_r ((outs_ok (vs := [(.vw _ _)]) rfl (absW_cons rfl rfl (absW_nil)) rfl rfl)))))
           ·refine wp_cf rfl hc807 ?_
            exact wp_skip (joinQ_n () h (gc_to [] rfl rfl rfl rfl))
         ·obtain ⟨rfl, hg678⟩ := hg678
          replace h := Option.some.inj h
          subst h
          exact blkQ_r (gcQ_r (gcQ_r (seqQ_r (joinQ_r (seqQ_r (qf_r (hg678)))))))
      ·rcases its h with ⟨hc809, h⟩ | ⟨hc809, h⟩
       ·exact wp_reg (nx' := 483) rfl (ev_v rfl rfl (ev_v rfl rfl (ev_v rfl rfl (ev_off rfl hc809 (ev_off rfl hc809 (ev_v rfl (d_pick_t rfl hc809 rfl) (ev_v rfl rfl (ev_off rfl rfl (ev_off rfl rfl (ev_off rfl rfl (ev_off rfl rfl (ev_off rfl rfl (ev_v rfl (d_pick_t rfl rfl rfl) (ev_nil)))))))))))))) (joinQ_n true h (gc_to [0, 1, 2, 51, 179] rfl rfl rfl rfl))
       ·rcases its h with ⟨hc811, h⟩ | ⟨hc811, h⟩
        ·exact wp_reg (nx' := 483) rfl (ev_v rfl rfl (ev_v rfl rfl (ev_v rfl rfl (ev_on rfl hc809 (ev_v rfl rfl (ev_on rfl hc809 (ev_v rfl rfl (ev_v rfl (d_pick_f rfl hc809 rfl) (ev_v rfl rfl (ev_off rfl hc811 (ev_off rfl hc811 (ev_off rfl hc811 (ev_off rfl hc811 (ev_off rfl hc811 (ev_v rfl (d_pick_t rfl hc811 rfl) (ev_nil)))))))))))))))) (joinQ_n true h (gc_to [0, 1, 2, 51, 179] rfl rfl rfl rfl))
        ·exact wp_reg (nx' := 483) rfl (ev_v rfl rfl (ev_v rfl rfl (ev_v rfl rfl (ev_on rfl hc809 (ev_v rfl rfl (ev_on rfl hc809 (ev_v rfl rfl (ev_v rfl (d_pick_f rfl hc809 rfl) (ev_v rfl rfl (ev_on rfl hc811 (ev_den (.ref 2 _ _ _ _) rfl rfl (ev_on rfl hc811 (ev_v rfl rfl (ev_on rfl hc811 (ev_den (.ptr 0 [] (some 0)) rfl rfl (ev_on rfl hc811 (ev_v rfl (d_ld_o rfl (rget_of rfl (get_nil)) rfl rfl) (ev_on rfl hc811 (ev_v rfl rfl (ev_v rfl (d_pick_f rfl hc811 rfl) (ev_nil))))))))))))))))))))) (joinQ_n ((List.length v146.1 : Int) != v145.1.1) h (gc_to [0, 1, 2, 51, 179] rfl rfl rfl rfl))
     ·refine wp_cf rfl hc460 ?_
      exact wp_skip (joinQ_n () h (gc_to [] rfl rfl rfl rfl))
  ·rcases its h with ⟨hc814, h⟩ | ⟨hc814, h⟩
   ·exact wp_reg (nx' := 592) rfl (ev_v rfl rfl (ev_v rfl rfl (ev_v rfl rfl (ev_v rfl rfl (ev_off rfl hc814 (ev_off rfl hc814 (ev_off rfl hc814 (ev_off rfl hc814 (ev_v rfl (d_pick_t rfl hc814 rfl) (ev_nil)))))))))) (joinQ_n true h (gc_to [96, 16, 208] rfl rfl rfl rfl))
   ·obtain ⟨v816, hv816, h⟩ := bs h
    exact wp_reg (nx' := 592) rfl (ev_v rfl rfl (ev_v rfl rfl (ev_v rfl rfl (ev_v rfl rfl (ev_on rfl hc814 (ev_den (.ref 208 _ _ _ _) rfl rfl (ev_on rfl hc814 (ev_den (.ref 352 _ _ _ _) rfl rfl (ev_on rfl hc814 (ev_call0 [(.ref 208 _ _ _ _), (.ref 352 _ _ _ _)] rfl (call_ok (rs := []) (rd := [208, 352]) rfl rfl rfl rfl (argL_cons (argT_r (rget_of rfl (get_nil)) sub_i) (argL_cons (argT_r (rget_of rfl (get_nil)) sub_i) (argL_nil))) rfl rfl (laws_kSame_ok hv816) rfl rfl rfl rfl rfl) (ev_on rfl hc814 (ev_v rfl rfl (ev_v rfl (d_pick_f rfl hc814 rfl) (ev_nil)))))))))))))) (joinQ_n (!v816) h (gc_to [96, 16, 208] rfl rfl rfl rfl))
end Go.Proofs.Yteeejellpcikkaa.Ev.H5
