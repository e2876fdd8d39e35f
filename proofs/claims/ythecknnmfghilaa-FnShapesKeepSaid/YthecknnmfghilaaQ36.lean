/- What functions of the program come to, as plain functions; no condition. -/
import Derived.Test.YthecknnmfghilaaQ35
set_option linter.unusedVariables false
set_option linter.unusedSimpArgs false
set_option maxRecDepth 100000
set_option maxHeartbeats 4000000
set_option linter.unusedVariables false
namespace Go.Proofs.Ythecknnmfghilaa.Ev.Q3
open Go
noncomputable def laws_FnShapesKeep_j4 : Unit → Option (Bool) := fun _ =>
some true
noncomputable def laws_FnShapesKeep_j6 : Bool → Option (Bool) := fun x307 =>
if x307 = true then
some false
else
laws_FnShapesKeep_j4 ()
noncomputable def laws_FnShapesKeep_j5 (v268 : (Int × (List Int))) (v269 : ((List Int) × Bool)) : Bool → Option (Bool) := fun x302 =>
if x302 = true then
some false
else
(impl_ShapeOf ((v268.1, v268.1)) v268.2).bind fun v304 =>
if (!v304.2) = true then
laws_FnShapesKeep_j6 true
else
(laws_kSame v304.1 v269.1).bind fun v311 =>
laws_FnShapesKeep_j6 (!v311)
noncomputable def laws_FnShapesKeep_j3 (v268 : (Int × (List Int))) (v269 : ((List Int) × Bool)) : Bool → Option (Bool) := fun x277 =>
if x277 = true then
some false
else
if v269.2 = true then
(laws_kSum v269.1).bind fun v313 =>
(laws_kSum v268.2).bind fun v314 =>
if (v313 != v314) = true then
laws_FnShapesKeep_j5 v268 v269 true
else
(laws_kMost v269.1).bind fun v317 =>
laws_FnShapesKeep_j5 v268 v269 (decide (v317 > v268.1))
else
laws_FnShapesKeep_j4 ()
noncomputable def laws_FnShapesKeep_j2 (p1 : List Int) : Unit → Option (Bool) := fun _ =>
(spec_DrawLeakOf p1).bind fun v268 =>
(impl_LeakOf v268.1 v268.2).bind fun v269 =>
(spec_LeakOf v268.1 v268.2).bind fun v270 =>
if (!(v269.2 == v270.2)) = true then
laws_FnShapesKeep_j3 v268 v269 true
else
(laws_kSame v269.1 v270.1).bind fun v321 =>
laws_FnShapesKeep_j3 v268 v269 (!v321)
noncomputable def laws_FnShapesKeep_j9 (x415 : Int) : (Int × Int × Int) → Option ((Int × Int × Int × Int) ⊕ (Int ⊕ Bool)) := fun (x459, x460, x461) =>
some (.inl (x459, x460, x461, (w64 (x415 + (1 : Int)))))
noncomputable def laws_FnShapesKeep_j11 (x413 : Int) (x414 : Int) (x415 : Int) (v474 : Int) (x477 : Int) : Bool → Option ((Int × Int × Int × Int) ⊕ (Int ⊕ Bool)) := fun x482 =>
if x482 = true then
some (.inr (.inr false))
else
if (decide ((w64 (x477 - (w64 (x413 + v474)))) > x414)) = true then
laws_FnShapesKeep_j9 x415 (x477, (w64 (x413 + v474)), (w64 (x477 - (w64 (x413 + v474)))))
else
laws_FnShapesKeep_j9 x415 (x477, (w64 (x413 + v474)), x414)
noncomputable def laws_FnShapesKeep_j10 (v145 : (Int × Bool)) (x413 : Int) (x414 : Int) (x415 : Int) (v474 : Int) : Int → Option ((Int × Int × Int × Int) ⊕ (Int ⊕ Bool)) := fun x477 =>
if (decide ((w64 (x413 + v474)) > x477)) = true then
laws_FnShapesKeep_j11 x413 x414 x415 v474 x477 true
else
laws_FnShapesKeep_j11 x413 x414 x415 v474 x477 (decide ((w64 (x477 - (w64 (x413 + v474)))) > v145.1))
noncomputable def laws_FnShapesKeep_s8 (v142 : ((Int × Int) × (List Int))) (v143 : ((List Int) × Bool)) (v145 : (Int × Bool)) : (Int × Int × Int × Int) → Option ((Int × Int × Int × Int) ⊕ (Int ⊕ Bool)) := fun (x412, x413, x414, x415) =>
if (decide (x415 < (List.length v143.1 : Int))) = true then
(at? v143.1 x415).bind fun v474 =>
if (decide (x415 < (List.length v142.2 : Int))) = true then
(at? v142.2 x415).bind fun v495 =>
laws_FnShapesKeep_j10 v145 x413 x414 x415 v474 (w64 (x412 + v495))
else
laws_FnShapesKeep_j10 v145 x413 x414 x415 v474 x412
else
some (.inr (.inl x414))
noncomputable def laws_FnShapesKeep_l8 (v142 : ((Int × Int) × (List Int))) (v143 : ((List Int) × Bool)) (v145 : (Int × Bool)) : (Int × Int × Int × Int) → Option (Int ⊕ Bool) := iter (laws_FnShapesKeep_s8 v142 v143 v145)
noncomputable def laws_FnShapesKeep_j16 (x584 : Int) : (Int × Int) → Option ((Int × Int × Int) ⊕ (Unit ⊕ Bool)) := fun (x641, x642) =>
some (.inl (x641, x642, (w64 (x584 + (1 : Int)))))
noncomputable def laws_FnShapesKeep_j19 (x583 : Int) (x584 : Int) (v660 : Int) (x663 : Int) : Bool → Option ((Int × Int × Int) ⊕ (Unit ⊕ Bool)) := fun x672 =>
if x672 = true then
some (.inr (.inr false))
else
laws_FnShapesKeep_j16 x584 (x663, (w64 (x583 + v660)))
noncomputable def laws_FnShapesKeep_j18 (v142 : ((Int × Int) × (List Int))) (v143 : ((List Int) × Bool)) (x583 : Int) (x584 : Int) (v660 : Int) (x663 : Int) : Bool → Option ((Int × Int × Int) ⊕ (Unit ⊕ Bool)) := fun x665 =>
if x665 = true then
(sub? v143.1 ((0 : Int)) ((w64 (x584 + (1 : Int))))).bind fun v667 =>
(app? ([] : List Int) v667).bind fun v668 =>
(at? v668 x584).bind fun v669 =>
(impl_KeepsBucket v142.1 ((List.set v668 (Int.toNat x584) ((w64 (v669 + (1 : Int))))))).bind fun v670 =>
if (!v670.2) = true then
laws_FnShapesKeep_j19 x583 x584 v660 x663 true
else
laws_FnShapesKeep_j19 x583 x584 v660 x663 v670.1
else
laws_FnShapesKeep_j16 x584 (x663, (w64 (x583 + v660)))
noncomputable def laws_FnShapesKeep_j17 (v142 : ((Int × Int) × (List Int))) (v143 : ((List Int) × Bool)) (x583 : Int) (x584 : Int) (v660 : Int) : Int → Option ((Int × Int × Int) ⊕ (Unit ⊕ Bool)) := fun x663 =>
if (decide (x663 > (w64 (x583 + v660)))) = true then
laws_FnShapesKeep_j18 v142 v143 x583 x584 v660 x663 (decide (v660 < (1000 : Int)))
else
laws_FnShapesKeep_j18 v142 v143 x583 x584 v660 x663 false
noncomputable def laws_FnShapesKeep_s15 (v142 : ((Int × Int) × (List Int))) (v143 : ((List Int) × Bool)) : (Int × Int × Int) → Option ((Int × Int × Int) ⊕ (Unit ⊕ Bool)) := fun (x582, x583, x584) =>
if (decide (x584 < (List.length v143.1 : Int))) = true then
(at? v143.1 x584).bind fun v660 =>
if (decide (x584 < (List.length v142.2 : Int))) = true then
(at? v142.2 x584).bind fun v685 =>
laws_FnShapesKeep_j17 v142 v143 x583 x584 v660 (w64 (x582 + v685))
else
laws_FnShapesKeep_j17 v142 v143 x583 x584 v660 x582
else
some (.inr (.inl ()))
noncomputable def laws_FnShapesKeep_l15 (v142 : ((Int × Int) × (List Int))) (v143 : ((List Int) × Bool)) : (Int × Int × Int) → Option (Unit ⊕ Bool) := iter (laws_FnShapesKeep_s15 v142 v143)
noncomputable def laws_FnShapesKeep_j14 (p1 : List Int) (v142 : ((Int × Int) × (List Int))) (v143 : ((List Int) × Bool)) : Bool → Option (Bool) := fun x523 =>
if x523 = true then
(laws_FnShapesKeep_l15 v142 v143 ((0 : Int), (0 : Int), (0 : Int))).bind fun w => match w with
| .inl _ =>
laws_FnShapesKeep_j2 p1 ()
| .inr r689 =>
some r689
else
laws_FnShapesKeep_j2 p1 ()
noncomputable def laws_FnShapesKeep_j13 (p1 : List Int) (v142 : ((Int × Int) × (List Int))) (v143 : ((List Int) × Bool)) : Unit → Option (Bool) := fun _ =>
if (decide ((List.length v143.1 : Int) ≤ (12 : Int))) = true then
(impl_IsTraffic v143.1).bind fun v691 =>
laws_FnShapesKeep_j14 p1 v142 v143 v691
else
laws_FnShapesKeep_j14 p1 v142 v143 false
noncomputable def laws_FnShapesKeep_j20 (p1 : List Int) (v142 : ((Int × Int) × (List Int))) (v143 : ((List Int) × Bool)) : Bool → Option (Bool) := fun x702 =>
if x702 = true then
some false
else
laws_FnShapesKeep_j13 p1 v142 v143 ()
noncomputable def laws_FnShapesKeep_j12 (p1 : List Int) (v142 : ((Int × Int) × (List Int))) (v143 : ((List Int) × Bool)) : Bool → Option (Bool) := fun x509 =>
if x509 = true then
some false
else
(impl_IsTraffic v143.1).bind fun v694 =>
if v694 = true then
(impl_KeepsBucket v142.1 v143.1).bind fun v696 =>
(impl_ShapeOf v142.1 v143.1).bind fun v697 =>
if (!v696.2) = true then
laws_FnShapesKeep_j20 p1 v142 v143 true
else
if (!v696.1) = true then
laws_FnShapesKeep_j20 p1 v142 v143 true
else
if (!v697.2) = true then
laws_FnShapesKeep_j20 p1 v142 v143 true
else
(laws_kSame v697.1 v143.1).bind fun v710 =>
laws_FnShapesKeep_j20 p1 v142 v143 (!v710)
else
laws_FnShapesKeep_j13 p1 v142 v143 ()
noncomputable def laws_FnShapesKeep_j7 (p1 : List Int) (v142 : ((Int × Int) × (List Int))) (v143 : ((List Int) × Bool)) (v145 : (Int × Bool)) (v147 : (Int × Bool)) : Bool → Option (Bool) := fun x332 =>
if x332 = true then
some false
else
(laws_FnShapesKeep_l8 v142 v143 v145 ((0 : Int), (0 : Int), (0 : Int), (0 : Int))).bind fun w => match w with
| .inl x432 =>
(impl_KeepsBucket v142.1 v142.2).bind fun v500 =>
if (x432 != v145.1) = true then
laws_FnShapesKeep_j12 p1 v142 v143 true
else
if v500.2 = true then
if (!(v500.1 == (v145.1 == (0 : Int)))) = true then
laws_FnShapesKeep_j12 p1 v142 v143 true
else
laws_FnShapesKeep_j12 p1 v142 v143 (!((v147.1 == (0 : Int)) == (v145.1 == (0 : Int))))
else
laws_FnShapesKeep_j12 p1 v142 v143 (!((v147.1 == (0 : Int)) == (v145.1 == (0 : Int))))
| .inr r719 =>
some r719
noncomputable def laws_FnShapesKeep_j1 (p1 : List Int) (v142 : ((Int × Int) × (List Int))) (v143 : ((List Int) × Bool)) (v145 : (Int × Bool)) (v147 : (Int × Bool)) : Bool → Option (Bool) := fun x167 =>
if x167 = true then
some false
else
if v143.2 = true then
(laws_kSum v143.1).bind fun v720 =>
(laws_kSum v142.2).bind fun v721 =>
if (v720 != v721) = true then
laws_FnShapesKeep_j7 p1 v142 v143 v145 v147 true
else
laws_FnShapesKeep_j7 p1 v142 v143 v145 v147 (decide ((List.length v143.1 : Int) < (List.length v142.2 : Int)))
else
laws_FnShapesKeep_j2 p1 ()
/-- loop.example/g01176/laws.FnShapesKeep -/
noncomputable def laws_FnShapesKeep (p0 : List Int) (p1 : List Int) : Option Bool :=
(laws_big p0 p1).bind fun v140 =>
if v140 = true then
some true
else
(spec_DrawShapeOf p0).bind fun v142 =>
(impl_ShapeOf v142.1 v142.2).bind fun v143 =>
(spec_ShapeOf v142.1 v142.2).bind fun v144 =>
(impl_BacklogOfShape v142.1 v142.2).bind fun v145 =>
(spec_BacklogOfShape v142.1 v142.2).bind fun v146 =>
(impl_DelayOfShape v142.1 v142.2).bind fun v147 =>
(spec_DelayOfShape v142.1 v142.2).bind fun v148 =>
if (!(v143.2 == v144.2)) = true then
laws_FnShapesKeep_j1 p1 v142 v143 v145 v147 true
else
(laws_kSame v143.1 v144.1).bind fun v727 =>
if (!v727) = true then
laws_FnShapesKeep_j1 p1 v142 v143 v145 v147 true
else
if (!(v145.2 == v146.2)) = true then
laws_FnShapesKeep_j1 p1 v142 v143 v145 v147 true
else
if (v145.1 != v146.1) = true then
laws_FnShapesKeep_j1 p1 v142 v143 v145 v147 true
else
if (!(v147.2 == v148.2)) = true then
laws_FnShapesKeep_j1 p1 v142 v143 v145 v147 true
else
if (v147.1 != v148.1) = true then
laws_FnShapesKeep_j1 p1 v142 v143 v145 v147 true
else
if (!(v145.2 == v143.2)) = true then
laws_FnShapesKeep_j1 p1 v142 v143 v145 v147 true
else
laws_FnShapesKeep_j1 p1 v142 v143 v145 v147 (!(v147.2 == v143.2))
theorem laws_FnShapesKeep_ok {p0 : List Int} {p1 : List Int} {o : Bool} (h : laws_FnShapesKeep p0 p1 = some o) : RN 3 [.ints .u8 p0, .ints .u8 p1] [] = some (.bool o, []) := by
  refine fn_run (o := o) (nr := 0) (F := k3) (st := ⟨entry 0 [.vw [] (.ints .u8 p0), .vw [] (.ints .u8 p1)], fun n => ([] : List T)[n]?, 0⟩) (fun (o : Bool) => (.bool o, [])) rfl fns_3 rfl rfl ?_
  refine wp_seq ?_
  refine wp_reg (nx' := 16) rfl (ev_den (.vw _ _) rfl rfl (ev_nil)) (seqQ_n (?_))
  refine wp_seq ?_
  refine wp_gc ?_
  refine wp_seq ?_
  obtain ⟨v140, hv140, h⟩ := bs h
  refine wp_reg (nx' := 64) rfl (ev_den (.vw _ _) rfl rfl (ev_den (.vw _ _) rfl rfl (ev_call0 [(.vw _ _), (.vw _ _)] rfl (call_ok (rs := []) (rd := []) rfl rfl rfl rfl (argL_cons rfl (argL_cons rfl (argL_nil))) rfl rfl (laws_big_ok hv140) rfl rfl rfl rfl rfl) (ev_nil)))) (seqQ_n (?_))
  rcases its h with ⟨hc141, h⟩ | ⟨hc141, h⟩
  · refine wp_ct rfl hc141 ?_
    refine wp_seq ?_
    refine wp_reg (nx' := 80) rfl (ev_den (.vw _ _) rfl rfl (ev_nil)) (seqQ_n (?_))
    replace h := Option.some.inj h
    subst h
    exact wp_ret (gcQ_r (seqQ_r (qf_r ((outs_ok (vs := [(.vw _ _)]) rfl (absW_cons rfl rfl (absW_nil)) rfl rfl)))))
  · refine wp_cf rfl hc141 ?_
    refine wp_skip (gcQ_n (gc_to [] (e := [(0, .vw [] (.ints .u8 p0)), (1, .vw [] (.ints .u8 p1))]) (ts := []) (n := 0) rfl rfl rfl rfl) (seqQ_n (?_)))
    refine wp_seq ?_
    obtain ⟨v142, hv142, h⟩ := bs h
    refine wp_reg (nx' := 128) rfl (ev_den (.vw _ _) rfl rfl (ev_call0 [(.vw _ _)] rfl (call_ok (rs := []) (rd := []) rfl rfl rfl rfl (argL_cons rfl (argL_nil)) rfl rfl (spec_DrawShapeOf_ok hv142) rfl rfl rfl (bindR_t (bindL_cons (bindR_a (bindL_cons rfl (bindL_cons rfl (bindL_nil)))) (bindL_cons rfl (bindL_nil)))) rfl) (ev_den (.tup [(.agg [(.vw _ _), (.vw _ _)]), (.ref 16 _ _ _ _)]) rfl rfl (ev_den (.agg [(.vw _ _), (.vw _ _)]) rfl rfl (ev_den (.ref 16 _ _ _ _) rfl rfl (ev_new (.ptr 80 [] (some 0)) (.ptr (.agg [.int .i64 ((0 : Int)), .int .i64 ((0 : Int))])) rfl rfl (ev_wr0 rfl (w_st_a rfl rfl rfl (stL_cons (st1_of rfl rfl rfl (get_f rfl (get_nil)) rfl (rput_p (put_f rfl (put_nil)))) rfl (stL_cons (st1_of rfl rfl rfl (get_f rfl (get_nil)) rfl (rput_p (put_f rfl (put_nil)))) rfl (stL_nil)))) (ev_den (.ref 16 _ _ _ _) rfl rfl (ev_nil))))))))) (seqQ_n (?_))
    refine wp_seq ?_
    obtain ⟨v143, hv143, h⟩ := bs h
    refine wp_reg (nx' := 256) rfl (ev_den (.agg [(.vw _ _), (.vw _ _)]) rfl (d_ld_os rfl (rget_of rfl (get_nil)) rfl (cells_cons rfl (cells_cons rfl (cells_nil)))) (ev_den (.ref 16 _ _ _ _) rfl rfl (ev_call0 [(.agg [(.vw _ _), (.vw _ _)]), (.ref 16 _ _ _ _)] rfl (call_ok (rs := []) (rd := [16]) rfl rfl rfl rfl (argL_cons (argT_a (argL_cons rfl (argL_cons rfl (argL_nil)))) (argL_cons (argT_r (rget_of rfl (get_nil)) sub_i) (argL_nil))) rfl rfl (impl_ShapeOf_ok hv143) rfl rfl (by simp [T.open_, T.noSh, noShL, ns_ints, ns_bool, ns_str]) (bindR_t (bindL_cons rfl (bindL_cons rfl (bindL_nil)))) rfl) (ev_den (.tup [(.ref 160 _ _ _ _), (.vw _ _)]) rfl rfl (ev_den (.ref 160 _ _ _ _) rfl rfl (ev_den (.vw _ _) rfl rfl (ev_den (.ref 160 _ _ _ _) rfl rfl (ev_den (.vw _ _) rfl rfl (ev_nil))))))))) (seqQ_n (?_))
    refine wp_seq ?_
    obtain ⟨v144, hv144, h⟩ := bs h
    refine wp_reg (nx' := 384) rfl (ev_den (.agg [(.vw _ _), (.vw _ _)]) rfl (d_ld_os rfl (rget_of rfl (get_nil)) rfl (cells_cons rfl (cells_cons rfl (cells_nil)))) (ev_den (.ref 16 _ _ _ _) rfl rfl (ev_call0 [(.agg [(.vw _ _), (.vw _ _)]), (.ref 16 _ _ _ _)] rfl (call_ok (rs := []) (rd := [16]) rfl rfl rfl rfl (argL_cons (argT_a (argL_cons rfl (argL_cons rfl (argL_nil)))) (argL_cons (argT_r (rget_of rfl (get_nil)) sub_i) (argL_nil))) rfl rfl (spec_ShapeOf_ok hv144) rfl rfl (by simp [T.open_, T.noSh, noShL, ns_ints, ns_bool, ns_str]) (bindR_t (bindL_cons rfl (bindL_cons rfl (bindL_nil)))) rfl) (ev_den (.tup [(.ref 288 _ _ _ _), (.vw _ _)]) rfl rfl (ev_den (.ref 288 _ _ _ _) rfl rfl (ev_den (.vw _ _) rfl rfl (ev_den (.ref 288 _ _ _ _) rfl rfl (ev_den (.vw _ _) rfl rfl (ev_nil))))))))) (seqQ_n (?_))
    refine wp_seq ?_
    obtain ⟨v145, hv145, h⟩ := bs h
    refine wp_reg (nx' := 512) rfl (ev_den (.agg [(.vw _ _), (.vw _ _)]) rfl (d_ld_os rfl (rget_of rfl (get_nil)) rfl (cells_cons rfl (cells_cons rfl (cells_nil)))) (ev_den (.ref 16 _ _ _ _) rfl rfl (ev_call0 [(.agg [(.vw _ _), (.vw _ _)]), (.ref 16 _ _ _ _)] rfl (call_ok (rs := []) (rd := [16]) rfl rfl rfl rfl (argL_cons (argT_a (argL_cons rfl (argL_cons rfl (argL_nil)))) (argL_cons (argT_r (rget_of rfl (get_nil)) sub_i) (argL_nil))) rfl rfl (impl_BacklogOfShape_ok hv145) rfl rfl rfl (bindR_t (bindL_cons rfl (bindL_cons rfl (bindL_nil)))) rfl) (ev_den (.tup [(.vw _ _), (.vw _ _)]) rfl rfl (ev_den (.vw _ _) rfl rfl (ev_den (.vw _ _) rfl rfl (ev_den (.vw _ _) rfl rfl (ev_den (.vw _ _) rfl rfl (ev_nil))))))))) (seqQ_n (?_))
    refine wp_seq ?_
    obtain ⟨v146, hv146, h⟩ := bs h
    refine wp_reg (nx' := 640) rfl (ev_den (.agg [(.vw _ _), (.vw _ _)]) rfl (d_ld_os rfl (rget_of rfl (get_nil)) rfl (cells_cons rfl (cells_cons rfl (cells_nil)))) (ev_den (.ref 16 _ _ _ _) rfl rfl (ev_call0 [(.agg [(.vw _ _), (.vw _ _)]), (.ref 16 _ _ _ _)] rfl (call_ok (rs := []) (rd := [16]) rfl rfl rfl rfl (argL_cons (argT_a (argL_cons rfl (argL_cons rfl (argL_nil)))) (argL_cons (argT_r (rget_of rfl (get_nil)) sub_i) (argL_nil))) rfl rfl (spec_BacklogOfShape_ok hv146) rfl rfl rfl (bindR_t (bindL_cons rfl (bindL_cons rfl (bindL_nil)))) rfl) (ev_den (.tup [(.vw _ _), (.vw _ _)]) rfl rfl (ev_den (.vw _ _) rfl rfl (ev_den (.vw _ _) rfl rfl (ev_den (.vw _ _) rfl rfl (ev_den (.vw _ _) rfl rfl (ev_nil))))))))) (seqQ_n (?_))
    refine wp_seq ?_
    obtain ⟨v147, hv147, h⟩ := bs h
    refine wp_reg (nx' := 768) rfl (ev_den (.agg [(.vw _ _), (.vw _ _)]) rfl (d_ld_os rfl (rget_of rfl (get_nil)) rfl (cells_cons rfl (cells_cons rfl (cells_nil)))) (ev_den (.ref 16 _ _ _ _) rfl rfl (ev_call0 [(.agg [(.vw _ _), (.vw _ _)]), (.ref 16 _ _ _ _)] rfl (call_ok (rs := []) (rd := [16]) rfl rfl rfl rfl (argL_cons (argT_a (argL_cons rfl (argL_cons rfl (argL_nil)))) (argL_cons (argT_r (rget_of rfl (get_nil)) sub_i) (argL_nil))) rfl rfl (impl_DelayOfShape_ok hv147) rfl rfl rfl (bindR_t (bindL_cons rfl (bindL_cons rfl (bindL_nil)))) rfl) (ev_den (.tup [(.vw _ _), (.vw _ _)]) rfl rfl (ev_den (.vw _ _) rfl rfl (ev_den (.vw _ _) rfl rfl (ev_den (.vw _ _) rfl rfl (ev_den (.vw _ _) rfl rfl (ev_nil))))))))) (seqQ_n (?_))
    refine wp_seq ?_
    obtain ⟨v148, hv148, h⟩ := bs h
    refine wp_reg (nx' := 896) rfl (ev_den (.agg [(.vw _ _), (.vw _ _)]) rfl (d_ld_os rfl (rget_of rfl (get_nil)) rfl (cells_cons rfl (cells_cons rfl (cells_nil)))) (ev_den (.ref 16 _ _ _ _) rfl rfl (ev_call0 [(.agg [(.vw _ _), (.vw _ _)]), (.ref 16 _ _ _ _)] rfl (call_ok (rs := []) (rd := [16]) rfl rfl rfl rfl (argL_cons (argT_a (argL_cons rfl (argL_cons rfl (argL_nil)))) (argL_cons (argT_r (rget_of rfl (get_nil)) sub_i) (argL_nil))) rfl rfl (spec_DelayOfShape_ok hv148) rfl rfl rfl (bindR_t (bindL_cons rfl (bindL_cons rfl (bindL_nil)))) rfl) (ev_den (.tup [(.vw _ _), (.vw _ _)]) rfl rfl (ev_den (.vw _ _) rfl rfl (ev_den (.vw _ _) rfl rfl (ev_den (.vw _ _) rfl rfl (ev_den (.vw _ _) rfl rfl (ev_nil))))))))) (seqQ_n (?_))
    refine wp_seq ?_
    refine wp_gc ?_
    refine wp_seq ?_
    refine wp_join (laws_FnShapesKeep_j1 p1 v142 v143 v145 v147) (fun (x167 : Bool) => (⟨al .dead [(1, .vw [] (.ints .u8 p1)), (5, .ptr 0 [] (some 0)), (6, .ref 1 [] 1 0 (List.length v142.2)), (7, .ref 2 [] 1 0 (List.length v143.1)), (8, .vw [] (.bool v143.2)), (11, .vw [] (.int .i64 v145.1)), (15, .vw [] (.int .i64 v147.1)), (125, .vw [] (.bool x167))], hl [some (.ptr (.agg [.int .i64 v142.1.1, .int .i64 v142.1.2])), some (.ints .i64 v142.2), some (.ints .i64 v143.1)], 3⟩ : St)) ?_ ?_
    · rintro x167 o h
      unfold laws_FnShapesKeep_j1 at h
      refine seqQ_n (?_)
      rcases its h with ⟨hc168, h⟩ | ⟨hc168, h⟩
      · refine wp_ct rfl hc168 ?_
        refine wp_seq ?_
        refine wp_reg (nx' := 19) rfl (ev_den (.vw _ _) rfl rfl (ev_nil)) (seqQ_n (?_))
        replace h := Option.some.inj h
        subst h
        exact wp_ret (gcQ_r (seqQ_r (qf_r ((outs_ok (vs := [(.vw _ _)]) rfl (absW_cons rfl rfl (absW_nil)) rfl rfl)))))
      · refine wp_cf rfl hc168 ?_
        refine wp_skip (gcQ_n (gc_to [0, 1, 2] (e := [(1, .vw [] (.ints .u8 p1)), (5, .ptr 0 [] (some 0)), (6, .ref 1 [] 1 0 (List.length v142.2)), (7, .ref 2 [] 1 0 (List.length v143.1)), (8, .vw [] (.bool v143.2)), (11, .vw [] (.int .i64 v145.1)), (15, .vw [] (.int .i64 v147.1))]) (ts := [some (.ptr (.agg [.int .i64 v142.1.1, .int .i64 v142.1.2])), some (.ints .i64 v142.2), some (.ints .i64 v143.1)]) (n := 3) rfl rfl rfl rfl) (seqQ_n (?_)))
        refine wp_seq ?_
        refine wp_join (laws_FnShapesKeep_j2 p1) (fun (_ : Unit) => (⟨al .dead [(1, .vw [] (.ints .u8 p1))], hl [], 0⟩ : St)) ?_ ?_
        · rintro _ o h
          unfold laws_FnShapesKeep_j2 at h
          refine seqQ_n (?_)
          refine wp_seq ?_
          obtain ⟨v268, hv268, h⟩ := bs h
          refine wp_reg (nx' := 112) rfl (ev_den (.vw _ _) rfl rfl (ev_call0 [(.vw _ _)] rfl (call_ok (rs := []) (rd := []) rfl rfl rfl rfl (argL_cons rfl (argL_nil)) rfl rfl (spec_DrawLeakOf_ok hv268) rfl rfl rfl (bindR_t (bindL_cons rfl (bindL_cons rfl (bindL_nil)))) rfl) (ev_den (.tup [(.vw _ _), (.ref 16 _ _ _ _)]) rfl rfl (ev_den (.vw _ _) rfl rfl (ev_den (.ref 16 _ _ _ _) rfl rfl (ev_den (.vw _ _) rfl rfl (ev_den (.ref 16 _ _ _ _) rfl rfl (ev_nil)))))))) (seqQ_n (?_))
          refine wp_seq ?_
          obtain ⟨v269, hv269, h⟩ := bs h
          refine wp_reg (nx' := 240) rfl (ev_den (.vw _ _) rfl rfl (ev_den (.ref 16 _ _ _ _) rfl rfl (ev_call0 [(.vw _ _), (.ref 16 _ _ _ _)] rfl (call_ok (rs := []) (rd := [16]) rfl rfl rfl rfl (argL_cons rfl (argL_cons (argT_r (rget_of rfl (get_nil)) sub_i) (argL_nil))) rfl rfl (impl_LeakOf_ok hv269) rfl rfl (by simp [T.open_, T.noSh, noShL, ns_ints, ns_bool, ns_str]) (bindR_t (bindL_cons rfl (bindL_cons rfl (bindL_nil)))) rfl) (ev_den (.tup [(.ref 144 _ _ _ _), (.vw _ _)]) rfl rfl (ev_den (.ref 144 _ _ _ _) rfl rfl (ev_den (.vw _ _) rfl rfl (ev_den (.ref 144 _ _ _ _) rfl rfl (ev_den (.vw _ _) rfl rfl (ev_nil))))))))) (seqQ_n (?_))
          refine wp_seq ?_
          obtain ⟨v270, hv270, h⟩ := bs h
          refine wp_reg (nx' := 368) rfl (ev_den (.vw _ _) rfl rfl (ev_den (.ref 16 _ _ _ _) rfl rfl (ev_call0 [(.vw _ _), (.ref 16 _ _ _ _)] rfl (call_ok (rs := []) (rd := [16]) rfl rfl rfl rfl (argL_cons rfl (argL_cons (argT_r (rget_of rfl (get_nil)) sub_i) (argL_nil))) rfl rfl (spec_LeakOf_ok hv270) rfl rfl (by simp [T.open_, T.noSh, noShL, ns_ints, ns_bool, ns_str]) (bindR_t (bindL_cons rfl (bindL_cons rfl (bindL_nil)))) rfl) (ev_den (.tup [(.ref 272 _ _ _ _), (.vw _ _)]) rfl rfl (ev_den (.ref 272 _ _ _ _) rfl rfl (ev_den (.vw _ _) rfl rfl (ev_den (.ref 272 _ _ _ _) rfl rfl (ev_den (.vw _ _) rfl rfl (ev_nil))))))))) (seqQ_n (?_))
          refine wp_seq ?_
          refine wp_gc ?_
          refine wp_seq ?_
          refine wp_join (laws_FnShapesKeep_j3 v268 v269) (fun (x277 : Bool) => (⟨al .dead [(35, .vw [] (.int .i64 v268.1)), (36, .ref 0 [] 1 0 (List.length v268.2)), (37, .ref 1 [] 1 0 (List.length v269.1)), (38, .vw [] (.bool v269.2)), (315, .vw [] (.bool x277))], hl [some (.ints .i64 v268.2), some (.ints .i64 v269.1)], 2⟩ : St)) ?_ ?_
          · rintro x277 o h
            unfold laws_FnShapesKeep_j3 at h
            refine seqQ_n (?_)
            rcases its h with ⟨hc278, h⟩ | ⟨hc278, h⟩
            · refine wp_ct rfl hc278 ?_
              refine wp_seq ?_
              refine wp_reg (nx' := 18) rfl (ev_den (.vw _ _) rfl rfl (ev_nil)) (seqQ_n (?_))
              replace h := Option.some.inj h
              subst h
              exact wp_ret (gcQ_r (seqQ_r (qf_r ((outs_ok (vs := [(.vw _ _)]) rfl (absW_cons rfl rfl (absW_nil)) rfl rfl)))))
            · refine wp_cf rfl hc278 ?_
              refine wp_skip (gcQ_n (gc_to [0, 1] (e := [(35, .vw [] (.int .i64 v268.1)), (36, .ref 0 [] 1 0 (List.length v268.2)), (37, .ref 1 [] 1 0 (List.length v269.1)), (38, .vw [] (.bool v269.2))]) (ts := [some (.ints .i64 v268.2), some (.ints .i64 v269.1)]) (n := 2) rfl rfl rfl rfl) (seqQ_n (?_)))
              refine wp_seq ?_
              refine wp_join (laws_FnShapesKeep_j4) (fun (_ : Unit) => (⟨al .dead [], hl [], 0⟩ : St)) ?_ ?_
              · rintro _ o h
                unfold laws_FnShapesKeep_j4 at h
                refine seqQ_n (?_)
                refine wp_seq ?_
                refine wp_reg (nx' := 16) rfl (ev_den (.vw _ _) rfl rfl (ev_nil)) (seqQ_n (?_))
                replace h := Option.some.inj h
                subst h
                exact wp_ret (qf_r ((outs_ok (vs := [(.vw _ _)]) rfl (absW_cons rfl rfl (absW_nil)) rfl rfl)))
              · refine wp_seq ?_
                refine wp_reg (nx' := 18) rfl (ev_den (.vw _ _) rfl rfl (ev_nil)) (seqQ_n (?_))
                rcases its h with ⟨hc291, h⟩ | ⟨hc291, h⟩
                · refine wp_ct rfl hc291 ?_
                  refine wp_seq ?_
                  refine wp_gc ?_
                  refine wp_seq ?_
                  refine wp_join (laws_FnShapesKeep_j5 v268 v269) (fun (x302 : Bool) => (⟨al .dead [(35, .vw [] (.int .i64 v268.1)), (36, .ref 0 [] 1 0 (List.length v268.2)), (37, .ref 1 [] 1 0 (List.length v269.1)), (327, .vw [] (.bool x302))], hl [some (.ints .i64 v268.2), some (.ints .i64 v269.1)], 2⟩ : St)) ?_ ?_
                  · rintro x302 o h
                    unfold laws_FnShapesKeep_j5 at h
                    refine seqQ_n (?_)
                    rcases its h with ⟨hc303, h⟩ | ⟨hc303, h⟩
                    · refine wp_ct rfl hc303 ?_
                      refine wp_seq ?_
                      refine wp_reg (nx' := 18) rfl (ev_den (.vw _ _) rfl rfl (ev_nil)) (seqQ_n (?_))
                      replace h := Option.some.inj h
                      subst h
                      exact wp_ret (gcQ_r (seqQ_r (joinQ_r (seqQ_r (qf_r ((outs_ok (vs := [(.vw _ _)]) rfl (absW_cons rfl rfl (absW_nil)) rfl rfl)))))))
                    · refine wp_cf rfl hc303 ?_
                      refine wp_skip (gcQ_n (gc_to [0, 1] (e := [(35, .vw [] (.int .i64 v268.1)), (36, .ref 0 [] 1 0 (List.length v268.2)), (37, .ref 1 [] 1 0 (List.length v269.1))]) (ts := [some (.ints .i64 v268.2), some (.ints .i64 v269.1)]) (n := 2) rfl rfl rfl rfl) (seqQ_n (?_)))
                      refine wp_seq ?_
                      obtain ⟨v304, hv304, h⟩ := bs h
                      refine wp_reg (nx' := 162) rfl (ev_den (.vw _ _) rfl rfl (ev_den (.vw _ _) rfl rfl (ev_den (.agg [(.vw _ _), (.vw _ _)]) rfl rfl (ev_den (.ref 0 _ _ _ _) rfl rfl (ev_call0 [(.agg [(.vw _ _), (.vw _ _)]), (.ref 0 _ _ _ _)] rfl (call_ok (rs := []) (rd := [0]) rfl rfl rfl rfl (argL_cons (argT_a (argL_cons rfl (argL_cons rfl (argL_nil)))) (argL_cons (argT_r (rget_of rfl (get_nil)) sub_i) (argL_nil))) rfl rfl (impl_ShapeOf_ok hv304) rfl rfl (by simp [T.open_, T.noSh, noShL, ns_ints, ns_bool, ns_str]) (bindR_t (bindL_cons rfl (bindL_cons rfl (bindL_nil)))) rfl) (ev_den (.tup [(.ref 66 _ _ _ _), (.vw _ _)]) rfl rfl (ev_den (.ref 66 _ _ _ _) rfl rfl (ev_den (.vw _ _) rfl rfl (ev_den (.ref 66 _ _ _ _) rfl rfl (ev_den (.vw _ _) rfl rfl (ev_nil))))))))))) (seqQ_n (?_))
                      refine wp_seq ?_
                      refine wp_join (laws_FnShapesKeep_j6) (fun (x307 : Bool) => (⟨al .dead [(343, .vw [] (.bool x307))], hl [], 0⟩ : St)) ?_ ?_
                      · rintro x307 o h
                        unfold laws_FnShapesKeep_j6 at h
                        refine seqQ_n (?_)
                        rcases its h with ⟨hc308, h⟩ | ⟨hc308, h⟩
                        · refine wp_ct rfl hc308 ?_
                          refine wp_seq ?_
                          refine wp_reg (nx' := 16) rfl (ev_den (.vw _ _) rfl rfl (ev_nil)) (seqQ_n (?_))
                          replace h := Option.some.inj h
                          subst h
                          exact wp_ret (joinQ_r (seqQ_r (qf_r ((outs_ok (vs := [(.vw _ _)]) rfl (absW_cons rfl rfl (absW_nil)) rfl rfl)))))
                        · refine wp_cf rfl hc308 ?_
                          exact wp_skip (joinQ_n () h (gc_to [] rfl rfl rfl rfl))
                      · rcases its h with ⟨hc309, h⟩ | ⟨hc309, h⟩
                        · exact wp_reg (nx' := 290) rfl (ev_den (.vw _ _) rfl rfl (ev_den (.vw _ _) rfl rfl (ev_den (.vw _ _) rfl rfl (ev_off rfl hc309 (ev_off rfl hc309 (ev_off rfl hc309 (ev_off rfl hc309 (ev_den (.vw _ _) rfl (d_pick_t rfl hc309 rfl) (ev_nil))))))))) (joinQ_n true h (gc_to [] rfl rfl rfl rfl))
                        · obtain ⟨v311, hv311, h⟩ := bs h
                          exact wp_reg (nx' := 290) rfl (ev_den (.vw _ _) rfl rfl (ev_den (.vw _ _) rfl rfl (ev_den (.vw _ _) rfl rfl (ev_on rfl hc309 (ev_den (.ref 66 _ _ _ _) rfl rfl (ev_on rfl hc309 (ev_den (.ref 1 _ _ _ _) rfl rfl (ev_on rfl hc309 (ev_call0 [(.ref 66 _ _ _ _), (.ref 1 _ _ _ _)] rfl (call_ok (rs := []) (rd := [66, 1]) rfl rfl rfl rfl (argL_cons (argT_r (rget_of rfl (get_nil)) sub_i) (argL_cons (argT_r (rget_of rfl (get_nil)) sub_i) (argL_nil))) rfl rfl (laws_kSame_ok hv311) rfl rfl rfl rfl rfl) (ev_on rfl hc309 (ev_den (.vw _ _) rfl rfl (ev_den (.vw _ _) rfl (d_pick_f rfl hc309 rfl) (ev_nil))))))))))))) (joinQ_n (!v311) h (gc_to [] rfl rfl rfl rfl))
                  · obtain ⟨v313, hv313, h⟩ := bs h
                    obtain ⟨v314, hv314, h⟩ := bs h
                    rcases its h with ⟨hc315, h⟩ | ⟨hc315, h⟩
                    · exact wp_reg (nx' := 194) rfl (ev_den (.ref 1 _ _ _ _) rfl rfl (ev_call0 [(.ref 1 _ _ _ _)] rfl (call_ok (rs := []) (rd := [1]) rfl rfl rfl rfl (argL_cons (argT_r (rget_of rfl (get_nil)) sub_i) (argL_nil)) rfl rfl (laws_kSum_ok hv313) rfl rfl rfl rfl rfl) (ev_den (.ref 0 _ _ _ _) rfl rfl (ev_call0 [(.ref 0 _ _ _ _)] rfl (call_ok (rs := []) (rd := [0]) rfl rfl rfl rfl (argL_cons (argT_r (rget_of rfl (get_nil)) sub_i) (argL_nil)) rfl rfl (laws_kSum_ok hv314) rfl rfl rfl rfl rfl) (ev_den (.vw _ _) rfl rfl (ev_den (.vw _ _) rfl rfl (ev_off rfl hc315 (ev_off rfl hc315 (ev_off rfl hc315 (ev_off rfl hc315 (ev_den (.vw _ _) rfl (d_pick_t rfl hc315 rfl) (ev_nil)))))))))))) (joinQ_n true h (gc_to [0, 1] rfl rfl rfl rfl))
                    · obtain ⟨v317, hv317, h⟩ := bs h
                      exact wp_reg (nx' := 194) rfl (ev_den (.ref 1 _ _ _ _) rfl rfl (ev_call0 [(.ref 1 _ _ _ _)] rfl (call_ok (rs := []) (rd := [1]) rfl rfl rfl rfl (argL_cons (argT_r (rget_of rfl (get_nil)) sub_i) (argL_nil)) rfl rfl (laws_kSum_ok hv313) rfl rfl rfl rfl rfl) (ev_den (.ref 0 _ _ _ _) rfl rfl (ev_call0 [(.ref 0 _ _ _ _)] rfl (call_ok (rs := []) (rd := [0]) rfl rfl rfl rfl (argL_cons (argT_r (rget_of rfl (get_nil)) sub_i) (argL_nil)) rfl rfl (laws_kSum_ok hv314) rfl rfl rfl rfl rfl) (ev_den (.vw _ _) rfl rfl (ev_den (.vw _ _) rfl rfl (ev_on rfl hc315 (ev_den (.ref 1 _ _ _ _) rfl rfl (ev_on rfl hc315 (ev_call0 [(.ref 1 _ _ _ _)] rfl (call_ok (rs := []) (rd := [1]) rfl rfl rfl rfl (argL_cons (argT_r (rget_of rfl (get_nil)) sub_i) (argL_nil)) rfl rfl (laws_kMost_ok hv317) rfl rfl rfl rfl rfl) (ev_on rfl hc315 (ev_den (.vw _ _) rfl rfl (ev_on rfl hc315 (ev_den (.vw _ _) rfl rfl (ev_den (.vw _ _) rfl (d_pick_f rfl hc315 rfl) (ev_nil)))))))))))))))) (joinQ_n (decide (v317 > v268.1)) h (gc_to [0, 1] rfl rfl rfl rfl))
                · refine wp_cf rfl hc291 ?_
                  exact wp_skip (joinQ_n () h (gc_to [] rfl rfl rfl rfl))
          · rcases its h with ⟨hc319, h⟩ | ⟨hc319, h⟩
            · exact wp_reg (nx' := 512) rfl (ev_den (.vw _ _) rfl rfl (ev_den (.vw _ _) rfl rfl (ev_den (.vw _ _) rfl rfl (ev_den (.vw _ _) rfl rfl (ev_off rfl hc319 (ev_off rfl hc319 (ev_off rfl hc319 (ev_off rfl hc319 (ev_den (.vw _ _) rfl (d_pick_t rfl hc319 rfl) (ev_nil)))))))))) (joinQ_n true h (gc_to [16, 144] rfl rfl rfl rfl))
            · obtain ⟨v321, hv321, h⟩ := bs h
              exact wp_reg (nx' := 512) rfl (ev_den (.vw _ _) rfl rfl (ev_den (.vw _ _) rfl rfl (ev_den (.vw _ _) rfl rfl (ev_den (.vw _ _) rfl rfl (ev_on rfl hc319 (ev_den (.ref 144 _ _ _ _) rfl rfl (ev_on rfl hc319 (ev_den (.ref 272 _ _ _ _) rfl rfl (ev_on rfl hc319 (ev_call0 [(.ref 144 _ _ _ _), (.ref 272 _ _ _ _)] rfl (call_ok (rs := []) (rd := [144, 272]) rfl rfl rfl rfl (argL_cons (argT_r (rget_of rfl (get_nil)) sub_i) (argL_cons (argT_r (rget_of rfl (get_nil)) sub_i) (argL_nil))) rfl rfl (laws_kSame_ok hv321) rfl rfl rfl rfl rfl) (ev_on rfl hc319 (ev_den (.vw _ _) rfl rfl (ev_den (.vw _ _) rfl (d_pick_f rfl hc319 rfl) (ev_nil)))))))))))))) (joinQ_n (!v321) h (gc_to [16, 144] rfl rfl rfl rfl))
        · refine wp_seq ?_
          refine wp_reg (nx' := 19) rfl (ev_den (.vw _ _) rfl rfl (ev_nil)) (seqQ_n (?_))
          rcases its h with ⟨hc323, h⟩ | ⟨hc323, h⟩
          · refine wp_ct rfl hc323 ?_
            refine wp_seq ?_
            refine wp_gc ?_
            refine wp_seq ?_
            refine wp_join (laws_FnShapesKeep_j7 p1 v142 v143 v145 v147) (fun (x332 : Bool) => (⟨al .dead [(1, .vw [] (.ints .u8 p1)), (5, .ptr 0 [] (some 0)), (6, .ref 1 [] 1 0 (List.length v142.2)), (7, .ref 2 [] 1 0 (List.length v143.1)), (11, .vw [] (.int .i64 v145.1)), (15, .vw [] (.int .i64 v147.1)), (138, .vw [] (.bool x332))], hl [some (.ptr (.agg [.int .i64 v142.1.1, .int .i64 v142.1.2])), some (.ints .i64 v142.2), some (.ints .i64 v143.1)], 3⟩ : St)) ?_ ?_
            · rintro x332 o h
              unfold laws_FnShapesKeep_j7 at h
              refine seqQ_n (?_)
              rcases its h with ⟨hc333, h⟩ | ⟨hc333, h⟩
              · refine wp_ct rfl hc333 ?_
                refine wp_seq ?_
                refine wp_reg (nx' := 19) rfl (ev_den (.vw _ _) rfl rfl (ev_nil)) (seqQ_n (?_))
                replace h := Option.some.inj h
                subst h
                exact wp_ret (gcQ_r (seqQ_r (joinQ_r (seqQ_r (qf_r ((outs_ok (vs := [(.vw _ _)]) rfl (absW_cons rfl rfl (absW_nil)) rfl rfl)))))))
              · refine wp_cf rfl hc333 ?_
                refine wp_skip (gcQ_n (gc_to [0, 1, 2] (e := [(1, .vw [] (.ints .u8 p1)), (5, .ptr 0 [] (some 0)), (6, .ref 1 [] 1 0 (List.length v142.2)), (7, .ref 2 [] 1 0 (List.length v143.1)), (11, .vw [] (.int .i64 v145.1)), (15, .vw [] (.int .i64 v147.1))]) (ts := [some (.ptr (.agg [.int .i64 v142.1.1, .int .i64 v142.1.2])), some (.ints .i64 v142.2), some (.ints .i64 v143.1)]) (n := 3) rfl rfl rfl rfl) (seqQ_n (?_)))
                refine wp_seq ?_
                refine wp_reg (nx' := 51) rfl (ev_den (.vw _ _) rfl rfl (ev_den (.vw _ _) rfl rfl (ev_den (.vw _ _) rfl rfl (ev_nil)))) (seqQ_n (?_))
                refine wp_seq ?_
                refine wp_gc ?_
                refine wp_seq ?_
                refine wp_gc ?_
                refine wp_reg (nx' := 99) rfl (ev_den (.ref 2 _ _ _ _) rfl rfl (ev_den (.vw _ _) rfl rfl (ev_den (.vw _ _) rfl rfl (ev_nil)))) (gcQ_n (gc_to [0, 1, 2] (e := [(1, .vw [] (.ints .u8 p1)), (5, .ptr 0 [] (some 0)), (6, .ref 1 [] 1 0 (List.length v142.2)), (7, .ref 2 [] 1 0 (List.length v143.1)), (11, .vw [] (.int .i64 v145.1)), (15, .vw [] (.int .i64 v147.1)), (19, .vw [] (.int .i64 ((0 : Int)))), (20, .vw [] (.int .i64 ((0 : Int)))), (21, .vw [] (.int .i64 ((0 : Int)))), (139, .ref 2 [] 1 0 (List.length v143.1)), (140, .vw [] (.int .i64 ((List.length v143.1 : Int)))), (141, .vw [] (.int .i64 ((0 : Int))))]) (ts := [some (.ptr (.agg [.int .i64 v142.1.1, .int .i64 v142.1.2])), some (.ints .i64 v142.2), some (.ints .i64 v143.1)]) (n := 3) rfl rfl rfl rfl) (seqQ_n (?_)))
                refine wp_gc ?_
                refine wp_blk ?_
                obtain ⟨w499, hw499, h⟩ := bs h
                refine wp_mono (wp_loop (fun ((x412, x413, x414, x415) : Int × Int × Int × Int) => (⟨al .dead [(1, .vw [] (.ints .u8 p1)), (5, .ptr 0 [] (some 0)), (6, .ref 1 [] 1 0 (List.length v142.2)), (7, .ref 2 [] 1 0 (List.length v143.1)), (11, .vw [] (.int .i64 v145.1)), (15, .vw [] (.int .i64 v147.1)), (19, .vw [] (.int .i64 x412)), (20, .vw [] (.int .i64 x413)), (21, .vw [] (.int .i64 x414)), (139, .ref 2 [] 1 0 (List.length v143.1)), (140, .vw [] (.int .i64 ((List.length v143.1 : Int)))), (141, .vw [] (.int .i64 x415))], hl [some (.ptr (.agg [.int .i64 v142.1.1, .int .i64 v142.1.2])), some (.ints .i64 v142.2), some (.ints .i64 v143.1)], 3⟩ : St)) (fun (v : Int ⊕ Bool) e st => match v with | .inl x432 => e = .exit 0 ∧ gc 0 [1, 5, 6, 7, 11, 15, 21] st = ⟨al .dead [(1, .vw [] (.ints .u8 p1)), (5, .ptr 0 [] (some 0)), (6, .ref 1 [] 1 0 (List.length v142.2)), (7, .ref 2 [] 1 0 (List.length v143.1)), (11, .vw [] (.int .i64 v145.1)), (15, .vw [] (.int .i64 v147.1)), (21, .vw [] (.int .i64 x432))], hl [some (.ptr (.agg [.int .i64 v142.1.1, .int .i64 v142.1.2])), some (.ints .i64 v142.2), some (.ints .i64 v143.1)], 3⟩ | .inr rr => e = .ret ∧ outs 0 k3 st = some (.bool rr, [])) hw499 ?_) ?_
                · rintro ⟨x412, x413, x414, x415⟩ o h
                  refine wp_gc ?_
                  refine wp_seq ?_
                  refine wp_reg (nx' := 19) rfl (ev_den (.vw _ _) rfl rfl (ev_nil)) (seqQ_n (?_))
                  refine wp_seq ?_
                  refine wp_gc ?_
                  rcases its h with ⟨hc450, h⟩ | ⟨hc450, h⟩
                  · refine wp_ct rfl hc450 ?_
                    refine wp_skip (gcQ_n (gc_to [0, 1, 2] (e := [(1, .vw [] (.ints .u8 p1)), (5, .ptr 0 [] (some 0)), (6, .ref 1 [] 1 0 (List.length v142.2)), (7, .ref 2 [] 1 0 (List.length v143.1)), (11, .vw [] (.int .i64 v145.1)), (15, .vw [] (.int .i64 v147.1)), (19, .vw [] (.int .i64 x412)), (20, .vw [] (.int .i64 x413)), (21, .vw [] (.int .i64 x414)), (139, .ref 2 [] 1 0 (List.length v143.1)), (140, .vw [] (.int .i64 ((List.length v143.1 : Int)))), (141, .vw [] (.int .i64 x415))]) (ts := [some (.ptr (.agg [.int .i64 v142.1.1, .int .i64 v142.1.2])), some (.ints .i64 v142.2), some (.ints .i64 v143.1)]) (n := 3) rfl rfl rfl rfl) (seqQ_n (?_)))
                    refine wp_seq ?_
                    refine wp_join (laws_FnShapesKeep_j9 x415) (fun ((x459, x460, x461) : Int × Int × Int) => (⟨al .dead [(1, .vw [] (.ints .u8 p1)), (5, .ptr 0 [] (some 0)), (6, .ref 1 [] 1 0 (List.length v142.2)), (7, .ref 2 [] 1 0 (List.length v143.1)), (11, .vw [] (.int .i64 v145.1)), (15, .vw [] (.int .i64 v147.1)), (19, .vw [] (.int .i64 x459)), (20, .vw [] (.int .i64 x460)), (21, .vw [] (.int .i64 x461)), (139, .ref 2 [] 1 0 (List.length v143.1)), (140, .vw [] (.int .i64 ((List.length v143.1 : Int)))), (141, .vw [] (.int .i64 x415))], hl [some (.ptr (.agg [.int .i64 v142.1.1, .int .i64 v142.1.2])), some (.ints .i64 v142.2), some (.ints .i64 v143.1)], 3⟩ : St)) ?_ ?_
                    · rintro ⟨x459, x460, x461⟩ o h
                      unfold laws_FnShapesKeep_j9 at h
                      refine seqQ_n (?_)
                      replace h := Option.some.inj h
                      subst h
                      exact wp_reg (nx' := 35) rfl (ev_den (.vw _ _) rfl rfl (ev_den (.vw _ _) rfl rfl (ev_nil))) (gcQ_n (gc_to [0, 1, 2] (e := [(1, .vw [] (.ints .u8 p1)), (5, .ptr 0 [] (some 0)), (6, .ref 1 [] 1 0 (List.length v142.2)), (7, .ref 2 [] 1 0 (List.length v143.1)), (11, .vw [] (.int .i64 v145.1)), (15, .vw [] (.int .i64 v147.1)), (19, .vw [] (.int .i64 x459)), (20, .vw [] (.int .i64 x460)), (21, .vw [] (.int .i64 x461)), (139, .ref 2 [] 1 0 (List.length v143.1)), (140, .vw [] (.int .i64 ((List.length v143.1 : Int)))), (141, .vw [] (.int .i64 ((w64 (x415 + (1 : Int))))))]) (ts := [some (.ptr (.agg [.int .i64 v142.1.1, .int .i64 v142.1.2])), some (.ints .i64 v142.2), some (.ints .i64 v143.1)]) (n := 3) rfl rfl rfl rfl) (loopQ_n rfl))
                    · refine wp_gc ?_
                      refine wp_blk ?_
                      refine wp_seq ?_
                      obtain ⟨v474, hv474, h⟩ := bs h
                      refine wp_reg (nx' := 83) rfl (ev_den (.vw _ _) rfl rfl (ev_den (.ptr 2 [.e (Int.toNat x415)] none) rfl (d_idx_r (p := []) rfl rfl hv474) (ev_den (.vw _ _) rfl (d_ld_p rfl (rget_of rfl (get_i hv474)) rfl) (ev_den (.vw _ _) rfl rfl (ev_den (.vw _ _) rfl rfl (ev_nil)))))) (seqQ_n (?_))
                      refine wp_seq ?_
                      refine wp_join (laws_FnShapesKeep_j10 v145 x413 x414 x415 v474) (fun (x477 : Int) => (⟨al .dead [(1, .vw [] (.ints .u8 p1)), (5, .ptr 0 [] (some 0)), (6, .ref 1 [] 1 0 (List.length v142.2)), (7, .ref 2 [] 1 0 (List.length v143.1)), (11, .vw [] (.int .i64 v145.1)), (15, .vw [] (.int .i64 v147.1)), (19, .vw [] (.int .i64 x477)), (20, .vw [] (.int .i64 x413)), (21, .vw [] (.int .i64 x414)), (23, .vw [] (.int .i64 v474)), (139, .ref 2 [] 1 0 (List.length v143.1)), (140, .vw [] (.int .i64 ((List.length v143.1 : Int)))), (141, .vw [] (.int .i64 x415))], hl [some (.ptr (.agg [.int .i64 v142.1.1, .int .i64 v142.1.2])), some (.ints .i64 v142.2), some (.ints .i64 v143.1)], 3⟩ : St)) ?_ ?_
                      · rintro x477 o h
                        unfold laws_FnShapesKeep_j10 at h
                        refine seqQ_n (?_)
                        refine wp_seq ?_
                        refine wp_reg (nx' := 67) rfl (ev_den (.vw _ _) rfl rfl (ev_den (.vw _ _) rfl rfl (ev_den (.vw _ _) rfl rfl (ev_den (.vw _ _) rfl rfl (ev_nil))))) (seqQ_n (?_))
                        refine wp_seq ?_
                        refine wp_gc ?_
                        refine wp_seq ?_
                        refine wp_join (laws_FnShapesKeep_j11 x413 x414 x415 v474 x477) (fun (x482 : Bool) => (⟨al .dead [(1, .vw [] (.ints .u8 p1)), (5, .ptr 0 [] (some 0)), (6, .ref 1 [] 1 0 (List.length v142.2)), (7, .ref 2 [] 1 0 (List.length v143.1)), (11, .vw [] (.int .i64 v145.1)), (15, .vw [] (.int .i64 v147.1)), (19, .vw [] (.int .i64 x477)), (20, .vw [] (.int .i64 ((w64 (x413 + v474))))), (21, .vw [] (.int .i64 x414)), (139, .ref 2 [] 1 0 (List.length v143.1)), (140, .vw [] (.int .i64 ((List.length v143.1 : Int)))), (141, .vw [] (.int .i64 x415)), (168, .vw [] (.bool x482))], hl [some (.ptr (.agg [.int .i64 v142.1.1, .int .i64 v142.1.2])), some (.ints .i64 v142.2), some (.ints .i64 v143.1)], 3⟩ : St)) ?_ ?_
                        · rintro x482 o h
                          unfold laws_FnShapesKeep_j11 at h
                          refine seqQ_n (?_)
                          rcases its h with ⟨hc483, h⟩ | ⟨hc483, h⟩
                          · refine wp_ct rfl hc483 ?_
                            refine wp_seq ?_
                            refine wp_reg (nx' := 19) rfl (ev_den (.vw _ _) rfl rfl (ev_nil)) (seqQ_n (?_))
                            replace h := Option.some.inj h
                            subst h
                            exact wp_ret (gcQ_r (seqQ_r (blkQ_r (gcQ_r (joinQ_r (seqQ_r (gcQ_r (loopQ_r (And.intro rfl (outs_ok (vs := [(.vw _ _)]) rfl (absW_cons rfl rfl (absW_nil)) rfl rfl))))))))))
                          · refine wp_cf rfl hc483 ?_
                            refine wp_skip (gcQ_n (gc_to [0, 1, 2] (e := [(1, .vw [] (.ints .u8 p1)), (5, .ptr 0 [] (some 0)), (6, .ref 1 [] 1 0 (List.length v142.2)), (7, .ref 2 [] 1 0 (List.length v143.1)), (11, .vw [] (.int .i64 v145.1)), (15, .vw [] (.int .i64 v147.1)), (19, .vw [] (.int .i64 x477)), (20, .vw [] (.int .i64 ((w64 (x413 + v474))))), (21, .vw [] (.int .i64 x414)), (139, .ref 2 [] 1 0 (List.length v143.1)), (140, .vw [] (.int .i64 ((List.length v143.1 : Int)))), (141, .vw [] (.int .i64 x415))]) (ts := [some (.ptr (.agg [.int .i64 v142.1.1, .int .i64 v142.1.2])), some (.ints .i64 v142.2), some (.ints .i64 v143.1)]) (n := 3) rfl rfl rfl rfl) (seqQ_n (?_)))
                            refine wp_seq ?_
                            refine wp_reg (nx' := 83) rfl (ev_den (.vw _ _) rfl rfl (ev_den (.vw _ _) rfl rfl (ev_den (.vw _ _) rfl rfl (ev_den (.vw _ _) rfl rfl (ev_den (.vw _ _) rfl rfl (ev_nil)))))) (seqQ_n (?_))
                            rcases its h with ⟨hc484, h⟩ | ⟨hc484, h⟩
                            · refine wp_ct rfl hc484 ?_
                              exact wp_reg (nx' := 147) rfl (ev_den (.vw _ _) rfl rfl (ev_den (.vw _ _) rfl rfl (ev_den (.vw _ _) rfl rfl (ev_den (.vw _ _) rfl rfl (ev_nil))))) (blkQ_n (gcQ_n (gc_to [0, 1, 2] (e := [(1, .vw [] (.ints .u8 p1)), (5, .ptr 0 [] (some 0)), (6, .ref 1 [] 1 0 (List.length v142.2)), (7, .ref 2 [] 1 0 (List.length v143.1)), (11, .vw [] (.int .i64 v145.1)), (15, .vw [] (.int .i64 v147.1)), (19, .vw [] (.int .i64 x477)), (20, .vw [] (.int .i64 ((w64 (x413 + v474))))), (21, .vw [] (.int .i64 ((w64 (x477 - (w64 (x413 + v474))))))), (139, .ref 2 [] 1 0 (List.length v143.1)), (140, .vw [] (.int .i64 ((List.length v143.1 : Int)))), (141, .vw [] (.int .i64 x415))]) (ts := [some (.ptr (.agg [.int .i64 v142.1.1, .int .i64 v142.1.2])), some (.ints .i64 v142.2), some (.ints .i64 v143.1)]) (n := 3) rfl rfl rfl rfl) (joinQ_n (x477, (w64 (x413 + v474)), (w64 (x477 - (w64 (x413 + v474))))) h (gc_to [0, 1, 2] rfl rfl rfl rfl))))
                            · refine wp_cf rfl hc484 ?_
                              exact wp_skip (blkQ_n (gcQ_n (gc_to [0, 1, 2] (e := [(1, .vw [] (.ints .u8 p1)), (5, .ptr 0 [] (some 0)), (6, .ref 1 [] 1 0 (List.length v142.2)), (7, .ref 2 [] 1 0 (List.length v143.1)), (11, .vw [] (.int .i64 v145.1)), (15, .vw [] (.int .i64 v147.1)), (19, .vw [] (.int .i64 x477)), (20, .vw [] (.int .i64 ((w64 (x413 + v474))))), (21, .vw [] (.int .i64 x414)), (139, .ref 2 [] 1 0 (List.length v143.1)), (140, .vw [] (.int .i64 ((List.length v143.1 : Int)))), (141, .vw [] (.int .i64 x415))]) (ts := [some (.ptr (.agg [.int .i64 v142.1.1, .int .i64 v142.1.2])), some (.ints .i64 v142.2), some (.ints .i64 v143.1)]) (n := 3) rfl rfl rfl rfl) (joinQ_n (x477, (w64 (x413 + v474)), x414) h (gc_to [0, 1, 2] rfl rfl rfl rfl))))
                        · rcases its h with ⟨hc491, h⟩ | ⟨hc491, h⟩
                          · exact wp_reg (nx' := 227) rfl (ev_den (.vw _ _) rfl rfl (ev_den (.vw _ _) rfl rfl (ev_den (.vw _ _) rfl rfl (ev_den (.vw _ _) rfl rfl (ev_off rfl hc491 (ev_off rfl hc491 (ev_off rfl hc491 (ev_off rfl hc491 (ev_off rfl hc491 (ev_den (.vw _ _) rfl (d_pick_t rfl hc491 rfl) (ev_nil))))))))))) (joinQ_n true h (gc_to [0, 1, 2] rfl rfl rfl rfl))
                          · exact wp_reg (nx' := 227) rfl (ev_den (.vw _ _) rfl rfl (ev_den (.vw _ _) rfl rfl (ev_den (.vw _ _) rfl rfl (ev_den (.vw _ _) rfl rfl (ev_on rfl hc491 (ev_den (.vw _ _) rfl rfl (ev_on rfl hc491 (ev_den (.vw _ _) rfl rfl (ev_on rfl hc491 (ev_den (.vw _ _) rfl rfl (ev_on rfl hc491 (ev_den (.vw _ _) rfl rfl (ev_on rfl hc491 (ev_den (.vw _ _) rfl rfl (ev_den (.vw _ _) rfl (d_pick_f rfl hc491 rfl) (ev_nil)))))))))))))))) (joinQ_n (decide ((w64 (x477 - (w64 (x413 + v474)))) > v145.1)) h (gc_to [0, 1, 2] rfl rfl rfl rfl))
                      · refine wp_seq ?_
                        refine wp_reg (nx' := 147) rfl (ev_den (.vw _ _) rfl rfl (ev_den (.ref 1 _ _ _ _) rfl rfl (ev_den (.vw _ _) rfl rfl (ev_den (.vw _ _) rfl rfl (ev_nil))))) (seqQ_n (?_))
                        rcases its h with ⟨hc494, h⟩ | ⟨hc494, h⟩
                        · refine wp_ct rfl hc494 ?_
                          obtain ⟨v495, hv495, h⟩ := bs h
                          exact wp_reg (nx' := 259) rfl (ev_den (.vw _ _) rfl rfl (ev_den (.ref 1 _ _ _ _) rfl rfl (ev_den (.vw _ _) rfl rfl (ev_den (.ptr 1 [.e (Int.toNat x415)] none) rfl (d_idx_r (p := []) rfl rfl hv495) (ev_den (.vw _ _) rfl (d_ld_p rfl (rget_of rfl (get_i hv495)) rfl) (ev_den (.vw _ _) rfl rfl (ev_den (.vw _ _) rfl rfl (ev_nil)))))))) (joinQ_n (w64 (x412 + v495)) h (gc_to [0, 1, 2] rfl rfl rfl rfl))
                        · refine wp_cf rfl hc494 ?_
                          exact wp_skip (joinQ_n x412 h (gc_to [0, 1, 2] rfl rfl rfl rfl))
                  · refine wp_cf rfl hc450 ?_
                    replace h := Option.some.inj h
                    subst h
                    exact wp_exit (gcQ_e (seqQ_e (gcQ_e (loopQ_e (And.intro rfl (gc_to [0, 1, 2] (e := [(1, .vw [] (.ints .u8 p1)), (5, .ptr 0 [] (some 0)), (6, .ref 1 [] 1 0 (List.length v142.2)), (7, .ref 2 [] 1 0 (List.length v143.1)), (11, .vw [] (.int .i64 v145.1)), (15, .vw [] (.int .i64 v147.1)), (21, .vw [] (.int .i64 x414))]) (ts := [some (.ptr (.agg [.int .i64 v142.1.1, .int .i64 v142.1.2])), some (.ints .i64 v142.2), some (.ints .i64 v143.1)]) (n := 3) rfl rfl rfl rfl))))))
                · intro e st499 hg499
                  rcases w499 with x432 | r719
                  · obtain ⟨rfl, hg499⟩ := hg499
                    refine blkQ_h (gcQ_n hg499 (gcQ_n (gc_to [0, 1, 2] (e := [(1, .vw [] (.ints .u8 p1)), (5, .ptr 0 [] (some 0)), (6, .ref 1 [] 1 0 (List.length v142.2)), (7, .ref 2 [] 1 0 (List.length v143.1)), (11, .vw [] (.int .i64 v145.1)), (15, .vw [] (.int .i64 v147.1)), (21, .vw [] (.int .i64 x432))]) (ts := [some (.ptr (.agg [.int .i64 v142.1.1, .int .i64 v142.1.2])), some (.ints .i64 v142.2), some (.ints .i64 v143.1)]) (n := 3) rfl rfl rfl rfl) (seqQ_n (?_))))
                    refine wp_seq ?_
                    obtain ⟨v500, hv500, h⟩ := bs h
                    refine wp_reg (nx' := 131) rfl (ev_den (.agg [(.vw _ _), (.vw _ _)]) rfl (d_ld_os rfl (rget_of rfl (get_nil)) rfl (cells_cons rfl (cells_cons rfl (cells_nil)))) (ev_den (.ref 1 _ _ _ _) rfl rfl (ev_call0 [(.agg [(.vw _ _), (.vw _ _)]), (.ref 1 _ _ _ _)] rfl (call_ok (rs := []) (rd := [1]) rfl rfl rfl rfl (argL_cons (argT_a (argL_cons rfl (argL_cons rfl (argL_nil)))) (argL_cons (argT_r (rget_of rfl (get_nil)) sub_i) (argL_nil))) rfl rfl (impl_KeepsBucket_ok hv500) rfl rfl rfl (bindR_t (bindL_cons rfl (bindL_cons rfl (bindL_nil)))) rfl) (ev_den (.tup [(.vw _ _), (.vw _ _)]) rfl rfl (ev_den (.vw _ _) rfl rfl (ev_den (.vw _ _) rfl rfl (ev_den (.vw _ _) rfl rfl (ev_den (.vw _ _) rfl rfl (ev_nil))))))))) (seqQ_n (?_))
                    refine wp_seq ?_
                    refine wp_gc ?_
                    refine wp_seq ?_
                    refine wp_join (laws_FnShapesKeep_j12 p1 v142 v143) (fun (x509 : Bool) => (⟨al .dead [(1, .vw [] (.ints .u8 p1)), (5, .ptr 0 [] (some 0)), (6, .ref 1 [] 1 0 (List.length v142.2)), (7, .ref 2 [] 1 0 (List.length v143.1)), (202, .vw [] (.bool x509))], hl [some (.ptr (.agg [.int .i64 v142.1.1, .int .i64 v142.1.2])), some (.ints .i64 v142.2), some (.ints .i64 v143.1)], 3⟩ : St)) ?_ ?_
                    · rintro x509 o h
                      unfold laws_FnShapesKeep_j12 at h
                      refine seqQ_n (?_)
                      rcases its h with ⟨hc510, h⟩ | ⟨hc510, h⟩
                      · refine wp_ct rfl hc510 ?_
                        refine wp_seq ?_
                        refine wp_reg (nx' := 19) rfl (ev_den (.vw _ _) rfl rfl (ev_nil)) (seqQ_n (?_))
                        replace h := Option.some.inj h
                        subst h
                        exact wp_ret (gcQ_r (seqQ_r (joinQ_r (seqQ_r (qf_r ((outs_ok (vs := [(.vw _ _)]) rfl (absW_cons rfl rfl (absW_nil)) rfl rfl)))))))
                      · refine wp_cf rfl hc510 ?_
                        refine wp_skip (gcQ_n (gc_to [0, 1, 2] (e := [(1, .vw [] (.ints .u8 p1)), (5, .ptr 0 [] (some 0)), (6, .ref 1 [] 1 0 (List.length v142.2)), (7, .ref 2 [] 1 0 (List.length v143.1))]) (ts := [some (.ptr (.agg [.int .i64 v142.1.1, .int .i64 v142.1.2])), some (.ints .i64 v142.2), some (.ints .i64 v143.1)]) (n := 3) rfl rfl rfl rfl) (seqQ_n (?_)))
                        refine wp_seq ?_
                        refine wp_join (laws_FnShapesKeep_j13 p1 v142 v143) (fun (_ : Unit) => (⟨al .dead [(1, .vw [] (.ints .u8 p1)), (5, .ptr 0 [] (some 0)), (6, .ref 1 [] 1 0 (List.length v142.2)), (7, .ref 2 [] 1 0 (List.length v143.1))], hl [some (.ptr (.agg [.int .i64 v142.1.1, .int .i64 v142.1.2])), some (.ints .i64 v142.2), some (.ints .i64 v143.1)], 3⟩ : St)) ?_ ?_
                        · rintro _ o h
                          unfold laws_FnShapesKeep_j13 at h
                          refine seqQ_n (?_)
                          refine wp_seq ?_
                          refine wp_join (laws_FnShapesKeep_j14 p1 v142 v143) (fun (x523 : Bool) => (⟨al .dead [(1, .vw [] (.ints .u8 p1)), (5, .ptr 0 [] (some 0)), (6, .ref 1 [] 1 0 (List.length v142.2)), (7, .ref 2 [] 1 0 (List.length v143.1)), (239, .vw [] (.bool x523))], hl [some (.ptr (.agg [.int .i64 v142.1.1, .int .i64 v142.1.2])), some (.ints .i64 v142.2), some (.ints .i64 v143.1)], 3⟩ : St)) ?_ ?_
                          · rintro x523 o h
                            unfold laws_FnShapesKeep_j14 at h
                            refine seqQ_n (?_)
                            rcases its h with ⟨hc524, h⟩ | ⟨hc524, h⟩
                            · refine wp_ct rfl hc524 ?_
                              refine wp_seq ?_
                              refine wp_reg (nx' := 35) rfl (ev_den (.vw _ _) rfl rfl (ev_den (.vw _ _) rfl rfl (ev_nil))) (seqQ_n (?_))
                              refine wp_seq ?_
                              refine wp_gc ?_
                              refine wp_reg (nx' := 83) rfl (ev_den (.ref 2 _ _ _ _) rfl rfl (ev_den (.vw _ _) rfl rfl (ev_den (.vw _ _) rfl rfl (ev_nil)))) (gcQ_n (gc_to [0, 1, 2] (e := [(1, .vw [] (.ints .u8 p1)), (5, .ptr 0 [] (some 0)), (6, .ref 1 [] 1 0 (List.length v142.2)), (7, .ref 2 [] 1 0 (List.length v143.1)), (19, .vw [] (.int .i64 ((0 : Int)))), (20, .vw [] (.int .i64 ((0 : Int)))), (240, .ref 2 [] 1 0 (List.length v143.1)), (241, .vw [] (.int .i64 ((List.length v143.1 : Int)))), (242, .vw [] (.int .i64 ((0 : Int))))]) (ts := [some (.ptr (.agg [.int .i64 v142.1.1, .int .i64 v142.1.2])), some (.ints .i64 v142.2), some (.ints .i64 v143.1)]) (n := 3) rfl rfl rfl rfl) (seqQ_n (?_)))
                              refine wp_gc ?_
                              refine wp_blk ?_
                              obtain ⟨w688, hw688, h⟩ := bs h
                              refine wp_mono (wp_loop (fun ((x582, x583, x584) : Int × Int × Int) => (⟨al .dead [(1, .vw [] (.ints .u8 p1)), (5, .ptr 0 [] (some 0)), (6, .ref 1 [] 1 0 (List.length v142.2)), (7, .ref 2 [] 1 0 (List.length v143.1)), (19, .vw [] (.int .i64 x582)), (20, .vw [] (.int .i64 x583)), (240, .ref 2 [] 1 0 (List.length v143.1)), (241, .vw [] (.int .i64 ((List.length v143.1 : Int)))), (242, .vw [] (.int .i64 x584))], hl [some (.ptr (.agg [.int .i64 v142.1.1, .int .i64 v142.1.2])), some (.ints .i64 v142.2), some (.ints .i64 v143.1)], 3⟩ : St)) (fun (v : Unit ⊕ Bool) e st => match v with | .inl _ => e = .exit 2 ∧ gc 0 [1] st = ⟨al .dead [(1, .vw [] (.ints .u8 p1))], hl [], 0⟩ | .inr rr => e = .ret ∧ outs 0 k3 st = some (.bool rr, [])) hw688 ?_) ?_
                              · rintro ⟨x582, x583, x584⟩ o h
                                refine wp_gc ?_
                                refine wp_seq ?_
                                refine wp_reg (nx' := 19) rfl (ev_den (.vw _ _) rfl rfl (ev_nil)) (seqQ_n (?_))
                                refine wp_seq ?_
                                refine wp_gc ?_
                                rcases its h with ⟨hc626, h⟩ | ⟨hc626, h⟩
                                · refine wp_ct rfl hc626 ?_
                                  refine wp_skip (gcQ_n (gc_to [0, 1, 2] (e := [(1, .vw [] (.ints .u8 p1)), (5, .ptr 0 [] (some 0)), (6, .ref 1 [] 1 0 (List.length v142.2)), (7, .ref 2 [] 1 0 (List.length v143.1)), (19, .vw [] (.int .i64 x582)), (20, .vw [] (.int .i64 x583)), (240, .ref 2 [] 1 0 (List.length v143.1)), (241, .vw [] (.int .i64 ((List.length v143.1 : Int)))), (242, .vw [] (.int .i64 x584))]) (ts := [some (.ptr (.agg [.int .i64 v142.1.1, .int .i64 v142.1.2])), some (.ints .i64 v142.2), some (.ints .i64 v143.1)]) (n := 3) rfl rfl rfl rfl) (seqQ_n (?_)))
                                  refine wp_seq ?_
                                  refine wp_join (laws_FnShapesKeep_j16 x584) (fun ((x641, x642) : Int × Int) => (⟨al .dead [(1, .vw [] (.ints .u8 p1)), (5, .ptr 0 [] (some 0)), (6, .ref 1 [] 1 0 (List.length v142.2)), (7, .ref 2 [] 1 0 (List.length v143.1)), (19, .vw [] (.int .i64 x641)), (20, .vw [] (.int .i64 x642)), (240, .ref 2 [] 1 0 (List.length v143.1)), (241, .vw [] (.int .i64 ((List.length v143.1 : Int)))), (242, .vw [] (.int .i64 x584))], hl [some (.ptr (.agg [.int .i64 v142.1.1, .int .i64 v142.1.2])), some (.ints .i64 v142.2), some (.ints .i64 v143.1)], 3⟩ : St)) ?_ ?_
                                  · rintro ⟨x641, x642⟩ o h
                                    unfold laws_FnShapesKeep_j16 at h
                                    refine seqQ_n (?_)
                                    replace h := Option.some.inj h
                                    subst h
                                    exact wp_reg (nx' := 35) rfl (ev_den (.vw _ _) rfl rfl (ev_den (.vw _ _) rfl rfl (ev_nil))) (gcQ_n (gc_to [0, 1, 2] (e := [(1, .vw [] (.ints .u8 p1)), (5, .ptr 0 [] (some 0)), (6, .ref 1 [] 1 0 (List.length v142.2)), (7, .ref 2 [] 1 0 (List.length v143.1)), (19, .vw [] (.int .i64 x641)), (20, .vw [] (.int .i64 x642)), (240, .ref 2 [] 1 0 (List.length v143.1)), (241, .vw [] (.int .i64 ((List.length v143.1 : Int)))), (242, .vw [] (.int .i64 ((w64 (x584 + (1 : Int))))))]) (ts := [some (.ptr (.agg [.int .i64 v142.1.1, .int .i64 v142.1.2])), some (.ints .i64 v142.2), some (.ints .i64 v143.1)]) (n := 3) rfl rfl rfl rfl) (loopQ_n rfl))
                                  · refine wp_gc ?_
                                    refine wp_blk ?_
                                    refine wp_seq ?_
                                    obtain ⟨v660, hv660, h⟩ := bs h
                                    refine wp_reg (nx' := 83) rfl (ev_den (.vw _ _) rfl rfl (ev_den (.ptr 2 [.e (Int.toNat x584)] none) rfl (d_idx_r (p := []) rfl rfl hv660) (ev_den (.vw _ _) rfl (d_ld_p rfl (rget_of rfl (get_i hv660)) rfl) (ev_den (.vw _ _) rfl rfl (ev_den (.vw _ _) rfl rfl (ev_nil)))))) (seqQ_n (?_))
                                    refine wp_seq ?_
                                    refine wp_join (laws_FnShapesKeep_j17 v142 v143 x583 x584 v660) (fun (x663 : Int) => (⟨al .dead [(1, .vw [] (.ints .u8 p1)), (5, .ptr 0 [] (some 0)), (6, .ref 1 [] 1 0 (List.length v142.2)), (7, .ref 2 [] 1 0 (List.length v143.1)), (19, .vw [] (.int .i64 x663)), (20, .vw [] (.int .i64 x583)), (30, .vw [] (.int .i64 x584)), (31, .vw [] (.int .i64 v660)), (240, .ref 2 [] 1 0 (List.length v143.1)), (241, .vw [] (.int .i64 ((List.length v143.1 : Int)))), (242, .vw [] (.int .i64 x584))], hl [some (.ptr (.agg [.int .i64 v142.1.1, .int .i64 v142.1.2])), some (.ints .i64 v142.2), some (.ints .i64 v143.1)], 3⟩ : St)) ?_ ?_
                                    · rintro x663 o h
                                      unfold laws_FnShapesKeep_j17 at h
                                      refine seqQ_n (?_)
                                      refine wp_seq ?_
                                      refine wp_reg (nx' := 67) rfl (ev_den (.vw _ _) rfl rfl (ev_den (.vw _ _) rfl rfl (ev_den (.vw _ _) rfl rfl (ev_den (.vw _ _) rfl rfl (ev_nil))))) (seqQ_n (?_))
                                      refine wp_seq ?_
                                      refine wp_join (laws_FnShapesKeep_j18 v142 v143 x583 x584 v660 x663) (fun (x665 : Bool) => (⟨al .dead [(1, .vw [] (.ints .u8 p1)), (5, .ptr 0 [] (some 0)), (6, .ref 1 [] 1 0 (List.length v142.2)), (7, .ref 2 [] 1 0 (List.length v143.1)), (19, .vw [] (.int .i64 x663)), (20, .vw [] (.int .i64 ((w64 (x583 + v660))))), (30, .vw [] (.int .i64 x584)), (240, .ref 2 [] 1 0 (List.length v143.1)), (241, .vw [] (.int .i64 ((List.length v143.1 : Int)))), (242, .vw [] (.int .i64 x584)), (266, .vw [] (.bool x665))], hl [some (.ptr (.agg [.int .i64 v142.1.1, .int .i64 v142.1.2])), some (.ints .i64 v142.2), some (.ints .i64 v143.1)], 3⟩ : St)) ?_ ?_
                                      · rintro x665 o h
                                        unfold laws_FnShapesKeep_j18 at h
                                        refine seqQ_n (?_)
                                        rcases its h with ⟨hc666, h⟩ | ⟨hc666, h⟩
                                        · refine wp_ct rfl hc666 ?_
                                          refine wp_seq ?_
                                          obtain ⟨v667, hv667, h⟩ := bs h
                                          obtain ⟨v668, hv668, h⟩ := bs h
                                          refine wp_reg (nx' := 99) rfl (ev_den (.ref 2 _ _ _ _) rfl rfl (ev_den (.vw _ _) rfl rfl (ev_den (.vw _ _) rfl rfl (ev_den (.ref 2 [] 1 (Int.toNat ((0 : Int))) (Int.toNat ((w64 (x584 + (1 : Int)))) - Int.toNat ((0 : Int)))) rfl (d_slc_r rfl hv667 (fun _ => rfl) (si_some rfl)) (ev_wr rfl (w_app_i (xv := (.nilS _)) 67 rfl (rb_part (rget_of rfl (get_nil)) (sub_pi hv667)) rfl hv668 rfl) (ev_den (.ref 67 _ _ _ _) rfl rfl (ev_nil))))))) (seqQ_n (?_))
                                          refine wp_seq ?_
                                          obtain ⟨v669, hv669, h⟩ := bs h
                                          refine wp_reg (nx' := 211) rfl (ev_den (.ref 67 _ _ _ _) rfl rfl (ev_den (.vw _ _) rfl rfl (ev_den (.ptr 67 [.e (Int.toNat x584)] none) rfl (d_idx_r (p := []) rfl rfl hv669) (ev_den (.vw _ _) rfl (d_ld_p rfl (rget_of rfl (get_i hv669)) rfl) (ev_den (.vw _ _) rfl rfl (ev_den (.ptr 67 [.e (Int.toNat x584)] none) rfl (d_idx_r (p := []) rfl rfl hv669) (ev_wr0 rfl (w_st_p rfl (st1_of rfl rfl rfl (get_i hv669) rfl (rput_i (put_i hv669)))) (ev_relen (b := (List.length ((List.set v668 (Int.toNat x584) ((w64 (v669 + (1 : Int)))))))) 32 rfl List.length_set.symm (ev_nil))))))))) (seqQ_n (?_))
                                          refine wp_seq ?_
                                          obtain ⟨v670, hv670, h⟩ := bs h
                                          refine wp_reg (nx' := 339) rfl (ev_den (.agg [(.vw _ _), (.vw _ _)]) rfl (d_ld_os rfl (rget_of rfl (get_nil)) rfl (cells_cons rfl (cells_cons rfl (cells_nil)))) (ev_den (.ref 67 _ _ _ _) rfl rfl (ev_call0 [(.agg [(.vw _ _), (.vw _ _)]), (.ref 67 _ _ _ _)] rfl (call_ok (rs := []) (rd := [67]) rfl rfl rfl rfl (argL_cons (argT_a (argL_cons rfl (argL_cons rfl (argL_nil)))) (argL_cons (argT_r (rget_of rfl (get_nil)) sub_i) (argL_nil))) rfl rfl (impl_KeepsBucket_ok hv670) rfl rfl rfl (bindR_t (bindL_cons rfl (bindL_cons rfl (bindL_nil)))) rfl) (ev_den (.tup [(.vw _ _), (.vw _ _)]) rfl rfl (ev_den (.vw _ _) rfl rfl (ev_den (.vw _ _) rfl rfl (ev_den (.vw _ _) rfl rfl (ev_den (.vw _ _) rfl rfl (ev_nil))))))))) (seqQ_n (?_))
                                          refine wp_seq ?_
                                          refine wp_join (laws_FnShapesKeep_j19 x583 x584 v660 x663) (fun (x672 : Bool) => (⟨al .dead [(1, .vw [] (.ints .u8 p1)), (5, .ptr 0 [] (some 0)), (6, .ref 1 [] 1 0 (List.length v142.2)), (7, .ref 2 [] 1 0 (List.length v143.1)), (19, .vw [] (.int .i64 x663)), (20, .vw [] (.int .i64 ((w64 (x583 + v660))))), (240, .ref 2 [] 1 0 (List.length v143.1)), (241, .vw [] (.int .i64 ((List.length v143.1 : Int)))), (242, .vw [] (.int .i64 x584)), (288, .vw [] (.bool x672))], hl [some (.ptr (.agg [.int .i64 v142.1.1, .int .i64 v142.1.2])), some (.ints .i64 v142.2), some (.ints .i64 v143.1)], 3⟩ : St)) ?_ ?_
                                          · rintro x672 o h
                                            unfold laws_FnShapesKeep_j19 at h
                                            refine seqQ_n (?_)
                                            rcases its h with ⟨hc673, h⟩ | ⟨hc673, h⟩
                                            · refine wp_ct rfl hc673 ?_
                                              refine wp_seq ?_
                                              refine wp_reg (nx' := 19) rfl (ev_den (.vw _ _) rfl rfl (ev_nil)) (seqQ_n (?_))
                                              replace h := Option.some.inj h
                                              subst h
                                              exact wp_ret (blkQ_r (gcQ_r (joinQ_r (seqQ_r (gcQ_r (loopQ_r (And.intro rfl (outs_ok (vs := [(.vw _ _)]) rfl (absW_cons rfl rfl (absW_nil)) rfl rfl))))))))
                                            · refine wp_cf rfl hc673 ?_
                                              exact wp_skip (blkQ_n (gcQ_n (gc_to [0, 1, 2] (e := [(1, .vw [] (.ints .u8 p1)), (5, .ptr 0 [] (some 0)), (6, .ref 1 [] 1 0 (List.length v142.2)), (7, .ref 2 [] 1 0 (List.length v143.1)), (19, .vw [] (.int .i64 x663)), (20, .vw [] (.int .i64 ((w64 (x583 + v660))))), (240, .ref 2 [] 1 0 (List.length v143.1)), (241, .vw [] (.int .i64 ((List.length v143.1 : Int)))), (242, .vw [] (.int .i64 x584))]) (ts := [some (.ptr (.agg [.int .i64 v142.1.1, .int .i64 v142.1.2])), some (.ints .i64 v142.2), some (.ints .i64 v143.1)]) (n := 3) rfl rfl rfl rfl) (joinQ_n (x663, (w64 (x583 + v660))) h (gc_to [0, 1, 2] rfl rfl rfl rfl))))
                                          · rcases its h with ⟨hc676, h⟩ | ⟨hc676, h⟩
                                            · exact wp_reg (nx' := 419) rfl (ev_den (.vw _ _) rfl rfl (ev_den (.vw _ _) rfl rfl (ev_den (.vw _ _) rfl rfl (ev_off rfl hc676 (ev_den (.vw _ _) rfl (d_pick_t rfl hc676 rfl) (ev_nil)))))) (joinQ_n true h (gc_to [0, 1, 2] rfl rfl rfl rfl))
                                            · exact wp_reg (nx' := 419) rfl (ev_den (.vw _ _) rfl rfl (ev_den (.vw _ _) rfl rfl (ev_den (.vw _ _) rfl rfl (ev_on rfl hc676 (ev_den (.vw _ _) rfl rfl (ev_den (.vw _ _) rfl (d_pick_f rfl hc676 rfl) (ev_nil))))))) (joinQ_n v670.1 h (gc_to [0, 1, 2] rfl rfl rfl rfl))
                                        · refine wp_cf rfl hc666 ?_
                                          exact wp_skip (blkQ_n (gcQ_n (gc_to [0, 1, 2] (e := [(1, .vw [] (.ints .u8 p1)), (5, .ptr 0 [] (some 0)), (6, .ref 1 [] 1 0 (List.length v142.2)), (7, .ref 2 [] 1 0 (List.length v143.1)), (19, .vw [] (.int .i64 x663)), (20, .vw [] (.int .i64 ((w64 (x583 + v660))))), (240, .ref 2 [] 1 0 (List.length v143.1)), (241, .vw [] (.int .i64 ((List.length v143.1 : Int)))), (242, .vw [] (.int .i64 x584))]) (ts := [some (.ptr (.agg [.int .i64 v142.1.1, .int .i64 v142.1.2])), some (.ints .i64 v142.2), some (.ints .i64 v143.1)]) (n := 3) rfl rfl rfl rfl) (joinQ_n (x663, (w64 (x583 + v660))) h (gc_to [0, 1, 2] rfl rfl rfl rfl))))
                                      · rcases its h with ⟨hc681, h⟩ | ⟨hc681, h⟩
                                        · exact wp_reg (nx' := 179) rfl (ev_den (.vw _ _) rfl rfl (ev_den (.vw _ _) rfl rfl (ev_den (.vw _ _) rfl rfl (ev_den (.vw _ _) rfl rfl (ev_on rfl hc681 (ev_den (.vw _ _) rfl rfl (ev_on rfl hc681 (ev_den (.vw _ _) rfl rfl (ev_den (.vw _ _) rfl (d_pick_t rfl hc681 rfl) (ev_nil)))))))))) (joinQ_n (decide (v660 < (1000 : Int))) h (gc_to [0, 1, 2] rfl rfl rfl rfl))
                                        · exact wp_reg (nx' := 179) rfl (ev_den (.vw _ _) rfl rfl (ev_den (.vw _ _) rfl rfl (ev_den (.vw _ _) rfl rfl (ev_den (.vw _ _) rfl rfl (ev_off rfl hc681 (ev_off rfl hc681 (ev_den (.vw _ _) rfl (d_pick_f rfl hc681 rfl) (ev_nil)))))))) (joinQ_n false h (gc_to [0, 1, 2] rfl rfl rfl rfl))
                                    · refine wp_seq ?_
                                      refine wp_reg (nx' := 147) rfl (ev_den (.vw _ _) rfl rfl (ev_den (.ref 1 _ _ _ _) rfl rfl (ev_den (.vw _ _) rfl rfl (ev_den (.vw _ _) rfl rfl (ev_nil))))) (seqQ_n (?_))
                                      rcases its h with ⟨hc684, h⟩ | ⟨hc684, h⟩
                                      · refine wp_ct rfl hc684 ?_
                                        obtain ⟨v685, hv685, h⟩ := bs h
                                        exact wp_reg (nx' := 259) rfl (ev_den (.vw _ _) rfl rfl (ev_den (.ref 1 _ _ _ _) rfl rfl (ev_den (.vw _ _) rfl rfl (ev_den (.ptr 1 [.e (Int.toNat x584)] none) rfl (d_idx_r (p := []) rfl rfl hv685) (ev_den (.vw _ _) rfl (d_ld_p rfl (rget_of rfl (get_i hv685)) rfl) (ev_den (.vw _ _) rfl rfl (ev_den (.vw _ _) rfl rfl (ev_nil)))))))) (joinQ_n (w64 (x582 + v685)) h (gc_to [0, 1, 2] rfl rfl rfl rfl))
                                      · refine wp_cf rfl hc684 ?_
                                        exact wp_skip (joinQ_n x582 h (gc_to [0, 1, 2] rfl rfl rfl rfl))
                                · refine wp_cf rfl hc626 ?_
                                  replace h := Option.some.inj h
                                  subst h
                                  exact wp_exit (gcQ_e (seqQ_e (gcQ_e (loopQ_e (And.intro rfl (gc_to [] (e := [(1, .vw [] (.ints .u8 p1))]) (ts := []) (n := 0) rfl rfl rfl rfl))))))
                              · intro e st688 hg688
                                rcases w688 with _ | r689
                                · obtain ⟨rfl, hg688⟩ := hg688
                                  exact blkQ_h (gcQ_n hg688 (joinQ_n () h (gc_to [] rfl rfl rfl rfl)))
                                · obtain ⟨rfl, hg688⟩ := hg688
                                  replace h := Option.some.inj h
                                  subst h
                                  exact blkQ_r (gcQ_r (joinQ_r (seqQ_r (qf_r (hg688)))))
                            · refine wp_cf rfl hc524 ?_
                              exact wp_skip (joinQ_n () h (gc_to [] rfl rfl rfl rfl))
                          · rcases its h with ⟨hc690, h⟩ | ⟨hc690, h⟩
                            · obtain ⟨v691, hv691, h⟩ := bs h
                              exact wp_reg (nx' := 115) rfl (ev_den (.ref 2 _ _ _ _) rfl rfl (ev_den (.vw _ _) rfl rfl (ev_den (.vw _ _) rfl rfl (ev_den (.vw _ _) rfl rfl (ev_on rfl hc690 (ev_den (.ref 2 _ _ _ _) rfl rfl (ev_on rfl hc690 (ev_call0 [(.ref 2 _ _ _ _)] rfl (call_ok (rs := []) (rd := [2]) rfl rfl rfl rfl (argL_cons (argT_r (rget_of rfl (get_nil)) sub_i) (argL_nil)) rfl rfl (impl_IsTraffic_ok hv691) rfl rfl rfl rfl rfl) (ev_den (.vw _ _) rfl (d_pick_t rfl hc690 rfl) (ev_nil)))))))))) (joinQ_n v691 h (gc_to [0, 1, 2] rfl rfl rfl rfl))
                            · exact wp_reg (nx' := 115) rfl (ev_den (.ref 2 _ _ _ _) rfl rfl (ev_den (.vw _ _) rfl rfl (ev_den (.vw _ _) rfl rfl (ev_den (.vw _ _) rfl rfl (ev_off rfl hc690 (ev_off rfl hc690 (ev_den (.vw _ _) rfl (d_pick_f rfl hc690 rfl) (ev_nil)))))))) (joinQ_n false h (gc_to [0, 1, 2] rfl rfl rfl rfl))
                        · refine wp_seq ?_
                          obtain ⟨v694, hv694, h⟩ := bs h
                          refine wp_reg (nx' := 35) rfl (ev_den (.ref 2 _ _ _ _) rfl rfl (ev_call0 [(.ref 2 _ _ _ _)] rfl (call_ok (rs := []) (rd := [2]) rfl rfl rfl rfl (argL_cons (argT_r (rget_of rfl (get_nil)) sub_i) (argL_nil)) rfl rfl (impl_IsTraffic_ok hv694) rfl rfl rfl rfl rfl) (ev_nil))) (seqQ_n (?_))
                          rcases its h with ⟨hc695, h⟩ | ⟨hc695, h⟩
                          · refine wp_ct rfl hc695 ?_
                            refine wp_seq ?_
                            obtain ⟨v696, hv696, h⟩ := bs h
                            refine wp_reg (nx' := 163) rfl (ev_den (.agg [(.vw _ _), (.vw _ _)]) rfl (d_ld_os rfl (rget_of rfl (get_nil)) rfl (cells_cons rfl (cells_cons rfl (cells_nil)))) (ev_den (.ref 2 _ _ _ _) rfl rfl (ev_call0 [(.agg [(.vw _ _), (.vw _ _)]), (.ref 2 _ _ _ _)] rfl (call_ok (rs := []) (rd := [2]) rfl rfl rfl rfl (argL_cons (argT_a (argL_cons rfl (argL_cons rfl (argL_nil)))) (argL_cons (argT_r (rget_of rfl (get_nil)) sub_i) (argL_nil))) rfl rfl (impl_KeepsBucket_ok hv696) rfl rfl rfl (bindR_t (bindL_cons rfl (bindL_cons rfl (bindL_nil)))) rfl) (ev_den (.tup [(.vw _ _), (.vw _ _)]) rfl rfl (ev_den (.vw _ _) rfl rfl (ev_den (.vw _ _) rfl rfl (ev_den (.vw _ _) rfl rfl (ev_den (.vw _ _) rfl rfl (ev_nil))))))))) (seqQ_n (?_))
                            refine wp_seq ?_
                            obtain ⟨v697, hv697, h⟩ := bs h
                            refine wp_reg (nx' := 291) rfl (ev_den (.agg [(.vw _ _), (.vw _ _)]) rfl (d_ld_os rfl (rget_of rfl (get_nil)) rfl (cells_cons rfl (cells_cons rfl (cells_nil)))) (ev_den (.ref 2 _ _ _ _) rfl rfl (ev_call0 [(.agg [(.vw _ _), (.vw _ _)]), (.ref 2 _ _ _ _)] rfl (call_ok (rs := []) (rd := [2]) rfl rfl rfl rfl (argL_cons (argT_a (argL_cons rfl (argL_cons rfl (argL_nil)))) (argL_cons (argT_r (rget_of rfl (get_nil)) sub_i) (argL_nil))) rfl rfl (impl_ShapeOf_ok hv697) rfl rfl (by simp [T.open_, T.noSh, noShL, ns_ints, ns_bool, ns_str]) (bindR_t (bindL_cons rfl (bindL_cons rfl (bindL_nil)))) rfl) (ev_den (.tup [(.ref 195 _ _ _ _), (.vw _ _)]) rfl rfl (ev_den (.ref 195 _ _ _ _) rfl rfl (ev_den (.vw _ _) rfl rfl (ev_den (.ref 195 _ _ _ _) rfl rfl (ev_den (.vw _ _) rfl rfl (ev_nil))))))))) (seqQ_n (?_))
                            refine wp_seq ?_
                            refine wp_join (laws_FnShapesKeep_j20 p1 v142 v143) (fun (x702 : Bool) => (⟨al .dead [(1, .vw [] (.ints .u8 p1)), (5, .ptr 0 [] (some 0)), (6, .ref 1 [] 1 0 (List.length v142.2)), (7, .ref 2 [] 1 0 (List.length v143.1)), (232, .vw [] (.bool x702))], hl [some (.ptr (.agg [.int .i64 v142.1.1, .int .i64 v142.1.2])), some (.ints .i64 v142.2), some (.ints .i64 v143.1)], 3⟩ : St)) ?_ ?_
                            · rintro x702 o h
                              unfold laws_FnShapesKeep_j20 at h
                              refine seqQ_n (?_)
                              rcases its h with ⟨hc703, h⟩ | ⟨hc703, h⟩
                              · refine wp_ct rfl hc703 ?_
                                refine wp_seq ?_
                                refine wp_reg (nx' := 19) rfl (ev_den (.vw _ _) rfl rfl (ev_nil)) (seqQ_n (?_))
                                replace h := Option.some.inj h
                                subst h
                                exact wp_ret (joinQ_r (seqQ_r (joinQ_r (seqQ_r (qf_r ((outs_ok (vs := [(.vw _ _)]) rfl (absW_cons rfl rfl (absW_nil)) rfl rfl)))))))
                              · refine wp_cf rfl hc703 ?_
                                exact wp_skip (joinQ_n () h (gc_to [0, 1, 2] rfl rfl rfl rfl))
                            · rcases its h with ⟨hc704, h⟩ | ⟨hc704, h⟩
                              · exact wp_reg (nx' := 547) rfl (ev_den (.vw _ _) rfl rfl (ev_den (.vw _ _) rfl rfl (ev_den (.vw _ _) rfl rfl (ev_off rfl hc704 (ev_off rfl hc704 (ev_den (.vw _ _) rfl (d_pick_t rfl hc704 rfl) (ev_den (.vw _ _) rfl rfl (ev_off rfl rfl (ev_off rfl rfl (ev_den (.vw _ _) rfl (d_pick_t rfl rfl rfl) (ev_den (.vw _ _) rfl rfl (ev_off rfl rfl (ev_off rfl rfl (ev_off rfl rfl (ev_off rfl rfl (ev_den (.vw _ _) rfl (d_pick_t rfl rfl rfl) (ev_nil))))))))))))))))) (joinQ_n true h (gc_to [0, 1, 2] rfl rfl rfl rfl))
                              · rcases its h with ⟨hc706, h⟩ | ⟨hc706, h⟩
                                · exact wp_reg (nx' := 547) rfl (ev_den (.vw _ _) rfl rfl (ev_den (.vw _ _) rfl rfl (ev_den (.vw _ _) rfl rfl (ev_on rfl hc704 (ev_den (.vw _ _) rfl rfl (ev_on rfl hc704 (ev_den (.vw _ _) rfl rfl (ev_den (.vw _ _) rfl (d_pick_f rfl hc704 rfl) (ev_den (.vw _ _) rfl rfl (ev_off rfl hc706 (ev_off rfl hc706 (ev_den (.vw _ _) rfl (d_pick_t rfl hc706 rfl) (ev_den (.vw _ _) rfl rfl (ev_off rfl rfl (ev_off rfl rfl (ev_off rfl rfl (ev_off rfl rfl (ev_den (.vw _ _) rfl (d_pick_t rfl rfl rfl) (ev_nil))))))))))))))))))) (joinQ_n true h (gc_to [0, 1, 2] rfl rfl rfl rfl))
                                · rcases its h with ⟨hc708, h⟩ | ⟨hc708, h⟩
                                  · exact wp_reg (nx' := 547) rfl (ev_den (.vw _ _) rfl rfl (ev_den (.vw _ _) rfl rfl (ev_den (.vw _ _) rfl rfl (ev_on rfl hc704 (ev_den (.vw _ _) rfl rfl (ev_on rfl hc704 (ev_den (.vw _ _) rfl rfl (ev_den (.vw _ _) rfl (d_pick_f rfl hc704 rfl) (ev_den (.vw _ _) rfl rfl (ev_on rfl hc706 (ev_den (.vw _ _) rfl rfl (ev_on rfl hc706 (ev_den (.vw _ _) rfl rfl (ev_den (.vw _ _) rfl (d_pick_f rfl hc706 rfl) (ev_den (.vw _ _) rfl rfl (ev_off rfl hc708 (ev_off rfl hc708 (ev_off rfl hc708 (ev_off rfl hc708 (ev_den (.vw _ _) rfl (d_pick_t rfl hc708 rfl) (ev_nil))))))))))))))))))))) (joinQ_n true h (gc_to [0, 1, 2] rfl rfl rfl rfl))
                                  · obtain ⟨v710, hv710, h⟩ := bs h
                                    exact wp_reg (nx' := 547) rfl (ev_den (.vw _ _) rfl rfl (ev_den (.vw _ _) rfl rfl (ev_den (.vw _ _) rfl rfl (ev_on rfl hc704 (ev_den (.vw _ _) rfl rfl (ev_on rfl hc704 (ev_den (.vw _ _) rfl rfl (ev_den (.vw _ _) rfl (d_pick_f rfl hc704 rfl) (ev_den (.vw _ _) rfl rfl (ev_on rfl hc706 (ev_den (.vw _ _) rfl rfl (ev_on rfl hc706 (ev_den (.vw _ _) rfl rfl (ev_den (.vw _ _) rfl (d_pick_f rfl hc706 rfl) (ev_den (.vw _ _) rfl rfl (ev_on rfl hc708 (ev_den (.ref 195 _ _ _ _) rfl rfl (ev_on rfl hc708 (ev_den (.ref 2 _ _ _ _) rfl rfl (ev_on rfl hc708 (ev_call0 [(.ref 195 _ _ _ _), (.ref 2 _ _ _ _)] rfl (call_ok (rs := []) (rd := [195, 2]) rfl rfl rfl rfl (argL_cons (argT_r (rget_of rfl (get_nil)) sub_i) (argL_cons (argT_r (rget_of rfl (get_nil)) sub_i) (argL_nil))) rfl rfl (laws_kSame_ok hv710) rfl rfl rfl rfl rfl) (ev_on rfl hc708 (ev_den (.vw _ _) rfl rfl (ev_den (.vw _ _) rfl (d_pick_f rfl hc708 rfl) (ev_nil))))))))))))))))))))))))) (joinQ_n (!v710) h (gc_to [0, 1, 2] rfl rfl rfl rfl))
                          · refine wp_cf rfl hc695 ?_
                            exact wp_skip (joinQ_n () h (gc_to [0, 1, 2] rfl rfl rfl rfl))
                    · rcases its h with ⟨hc712, h⟩ | ⟨hc712, h⟩
                      · exact wp_reg (nx' := 435) rfl (ev_den (.vw _ _) rfl rfl (ev_den (.vw _ _) rfl rfl (ev_den (.vw _ _) rfl rfl (ev_den (.vw _ _) rfl rfl (ev_off rfl hc712 (ev_off rfl hc712 (ev_un rfl (ev_un rfl (ev_un rfl (ev_un rfl (ev_off rfl hc712 (ev_den (.vw _ _) rfl (d_pick_t rfl hc712 rfl) (ev_den (.vw _ _) rfl rfl (ev_off rfl rfl (ev_off rfl rfl (ev_off rfl rfl (ev_off rfl rfl (ev_off rfl rfl (ev_den (.vw _ _) rfl (d_pick_t rfl rfl rfl) (ev_nil)))))))))))))))))))) (joinQ_n true h (gc_to [0, 1, 2] rfl rfl rfl rfl))
                      · rcases its h with ⟨hc714, h⟩ | ⟨hc714, h⟩
                        · rcases its h with ⟨hc715, h⟩ | ⟨hc715, h⟩
                          · exact wp_reg (nx' := 435) rfl (ev_den (.vw _ _) rfl rfl (ev_den (.vw _ _) rfl rfl (ev_den (.vw _ _) rfl rfl (ev_den (.vw _ _) rfl rfl (ev_on rfl hc712 (ev_den (.vw _ _) rfl rfl (ev_on rfl hc712 (ev_den (.vw _ _) rfl rfl (ev_on rfl hc714 (ev_den (.vw _ _) rfl rfl (ev_on rfl hc714 (ev_den (.vw _ _) rfl rfl (ev_on rfl hc714 (ev_den (.vw _ _) rfl rfl (ev_on rfl hc714 (ev_den (.vw _ _) rfl rfl (ev_on rfl hc712 (ev_den (.vw _ _) rfl (d_pick_t rfl hc714 rfl) (ev_den (.vw _ _) rfl (d_pick_f rfl hc712 rfl) (ev_den (.vw _ _) rfl rfl (ev_off rfl hc715 (ev_off rfl hc715 (ev_off rfl hc715 (ev_off rfl hc715 (ev_off rfl hc715 (ev_den (.vw _ _) rfl (d_pick_t rfl hc715 rfl) (ev_nil))))))))))))))))))))))))))) (joinQ_n true h (gc_to [0, 1, 2] rfl rfl rfl rfl))
                          · exact wp_reg (nx' := 435) rfl (ev_den (.vw _ _) rfl rfl (ev_den (.vw _ _) rfl rfl (ev_den (.vw _ _) rfl rfl (ev_den (.vw _ _) rfl rfl (ev_on rfl hc712 (ev_den (.vw _ _) rfl rfl (ev_on rfl hc712 (ev_den (.vw _ _) rfl rfl (ev_on rfl hc714 (ev_den (.vw _ _) rfl rfl (ev_on rfl hc714 (ev_den (.vw _ _) rfl rfl (ev_on rfl hc714 (ev_den (.vw _ _) rfl rfl (ev_on rfl hc714 (ev_den (.vw _ _) rfl rfl (ev_on rfl hc712 (ev_den (.vw _ _) rfl (d_pick_t rfl hc714 rfl) (ev_den (.vw _ _) rfl (d_pick_f rfl hc712 rfl) (ev_den (.vw _ _) rfl rfl (ev_on rfl hc715 (ev_den (.vw _ _) rfl rfl (ev_on rfl hc715 (ev_den (.vw _ _) rfl rfl (ev_on rfl hc715 (ev_den (.vw _ _) rfl rfl (ev_on rfl hc715 (ev_den (.vw _ _) rfl rfl (ev_on rfl hc715 (ev_den (.vw _ _) rfl rfl (ev_den (.vw _ _) rfl (d_pick_f rfl hc715 rfl) (ev_nil)))))))))))))))))))))))))))))))) (joinQ_n (!((v147.1 == (0 : Int)) == (v145.1 == (0 : Int)))) h (gc_to [0, 1, 2] rfl rfl rfl rfl))
                        · exact wp_reg (nx' := 435) rfl (ev_den (.vw _ _) rfl rfl (ev_den (.vw _ _) rfl rfl (ev_den (.vw _ _) rfl rfl (ev_den (.vw _ _) rfl rfl (ev_on rfl hc712 (ev_den (.vw _ _) rfl rfl (ev_on rfl hc712 (ev_den (.vw _ _) rfl rfl (ev_off rfl hc714 (ev_off rfl hc714 (ev_off rfl hc714 (ev_off rfl hc714 (ev_on rfl hc712 (ev_den (.vw _ _) rfl (d_pick_f rfl hc714 rfl) (ev_den (.vw _ _) rfl (d_pick_f rfl hc712 rfl) (ev_den (.vw _ _) rfl rfl (ev_on rfl rfl (ev_den (.vw _ _) rfl rfl (ev_on rfl rfl (ev_den (.vw _ _) rfl rfl (ev_on rfl rfl (ev_den (.vw _ _) rfl rfl (ev_on rfl rfl (ev_den (.vw _ _) rfl rfl (ev_on rfl rfl (ev_den (.vw _ _) rfl rfl (ev_den (.vw _ _) rfl (d_pick_f rfl rfl rfl) (ev_nil)))))))))))))))))))))))))))) (joinQ_n (!((v147.1 == (0 : Int)) == (v145.1 == (0 : Int)))) h (gc_to [0, 1, 2] rfl rfl rfl rfl))
                  · obtain ⟨rfl, hg499⟩ := hg499
                    replace h := Option.some.inj h
                    subst h
                    exact blkQ_r (gcQ_r (gcQ_r (seqQ_r (joinQ_r (seqQ_r (qf_r (hg499)))))))
            · obtain ⟨v720, hv720, h⟩ := bs h
              obtain ⟨v721, hv721, h⟩ := bs h
              rcases its h with ⟨hc722, h⟩ | ⟨hc722, h⟩
              · exact wp_reg (nx' := 211) rfl (ev_den (.ref 2 _ _ _ _) rfl rfl (ev_call0 [(.ref 2 _ _ _ _)] rfl (call_ok (rs := []) (rd := [2]) rfl rfl rfl rfl (argL_cons (argT_r (rget_of rfl (get_nil)) sub_i) (argL_nil)) rfl rfl (laws_kSum_ok hv720) rfl rfl rfl rfl rfl) (ev_den (.ref 1 _ _ _ _) rfl rfl (ev_call0 [(.ref 1 _ _ _ _)] rfl (call_ok (rs := []) (rd := [1]) rfl rfl rfl rfl (argL_cons (argT_r (rget_of rfl (get_nil)) sub_i) (argL_nil)) rfl rfl (laws_kSum_ok hv721) rfl rfl rfl rfl rfl) (ev_den (.vw _ _) rfl rfl (ev_den (.vw _ _) rfl rfl (ev_off rfl hc722 (ev_off rfl hc722 (ev_off rfl hc722 (ev_off rfl hc722 (ev_off rfl hc722 (ev_den (.vw _ _) rfl (d_pick_t rfl hc722 rfl) (ev_nil))))))))))))) (joinQ_n true h (gc_to [0, 1, 2] rfl rfl rfl rfl))
              · exact wp_reg (nx' := 211) rfl (ev_den (.ref 2 _ _ _ _) rfl rfl (ev_call0 [(.ref 2 _ _ _ _)] rfl (call_ok (rs := []) (rd := [2]) rfl rfl rfl rfl (argL_cons (argT_r (rget_of rfl (get_nil)) sub_i) (argL_nil)) rfl rfl (laws_kSum_ok hv720) rfl rfl rfl rfl rfl) (ev_den (.ref 1 _ _ _ _) rfl rfl (ev_call0 [(.ref 1 _ _ _ _)] rfl (call_ok (rs := []) (rd := [1]) rfl rfl rfl rfl (argL_cons (argT_r (rget_of rfl (get_nil)) sub_i) (argL_nil)) rfl rfl (laws_kSum_ok hv721) rfl rfl rfl rfl rfl) (ev_den (.vw _ _) rfl rfl (ev_den (.vw _ _) rfl rfl (ev_on rfl hc722 (ev_den (.ref 2 _ _ _ _) rfl rfl (ev_on rfl hc722 (ev_den (.vw _ _) rfl rfl (ev_on rfl hc722 (ev_den (.ref 1 _ _ _ _) rfl rfl (ev_on rfl hc722 (ev_den (.vw _ _) rfl rfl (ev_on rfl hc722 (ev_den (.vw _ _) rfl rfl (ev_den (.vw _ _) rfl (d_pick_f rfl hc722 rfl) (ev_nil)))))))))))))))))) (joinQ_n (decide ((List.length v143.1 : Int) < (List.length v142.2 : Int))) h (gc_to [0, 1, 2] rfl rfl rfl rfl))
          · refine wp_cf rfl hc323 ?_
            exact wp_skip (joinQ_n () h (gc_to [] rfl rfl rfl rfl))
    · rcases its h with ⟨hc725, h⟩ | ⟨hc725, h⟩
      · exact wp_reg (nx' := 1520) rfl (ev_den (.vw _ _) rfl rfl (ev_den (.vw _ _) rfl rfl (ev_den (.vw _ _) rfl rfl (ev_den (.vw _ _) rfl rfl (ev_off rfl hc725 (ev_off rfl hc725 (ev_off rfl hc725 (ev_off rfl hc725 (ev_den (.vw _ _) rfl (d_pick_t rfl hc725 rfl) (ev_den (.vw _ _) rfl rfl (ev_off rfl rfl (ev_off rfl rfl (ev_off rfl rfl (ev_den (.vw _ _) rfl (d_pick_t rfl rfl rfl) (ev_den (.vw _ _) rfl rfl (ev_off rfl rfl (ev_off rfl rfl (ev_off rfl rfl (ev_den (.vw _ _) rfl (d_pick_t rfl rfl rfl) (ev_den (.vw _ _) rfl rfl (ev_off rfl rfl (ev_off rfl rfl (ev_off rfl rfl (ev_den (.vw _ _) rfl (d_pick_t rfl rfl rfl) (ev_den (.vw _ _) rfl rfl (ev_off rfl rfl (ev_off rfl rfl (ev_off rfl rfl (ev_den (.vw _ _) rfl (d_pick_t rfl rfl rfl) (ev_den (.vw _ _) rfl rfl (ev_off rfl rfl (ev_off rfl rfl (ev_off rfl rfl (ev_den (.vw _ _) rfl (d_pick_t rfl rfl rfl) (ev_den (.vw _ _) rfl rfl (ev_off rfl rfl (ev_off rfl rfl (ev_off rfl rfl (ev_den (.vw _ _) rfl (d_pick_t rfl rfl rfl) (ev_nil)))))))))))))))))))))))))))))))))))))))) (joinQ_n true h (gc_to [80, 16, 160] rfl rfl rfl rfl))
      · obtain ⟨v727, hv727, h⟩ := bs h
        rcases its h with ⟨hc728, h⟩ | ⟨hc728, h⟩
        · exact wp_reg (nx' := 1520) rfl (ev_den (.vw _ _) rfl rfl (ev_den (.vw _ _) rfl rfl (ev_den (.vw _ _) rfl rfl (ev_den (.vw _ _) rfl rfl (ev_on rfl hc725 (ev_den (.ref 160 _ _ _ _) rfl rfl (ev_on rfl hc725 (ev_den (.ref 288 _ _ _ _) rfl rfl (ev_on rfl hc725 (ev_call0 [(.ref 160 _ _ _ _), (.ref 288 _ _ _ _)] rfl (call_ok (rs := []) (rd := [160, 288]) rfl rfl rfl rfl (argL_cons (argT_r (rget_of rfl (get_nil)) sub_i) (argL_cons (argT_r (rget_of rfl (get_nil)) sub_i) (argL_nil))) rfl rfl (laws_kSame_ok hv727) rfl rfl rfl rfl rfl) (ev_on rfl hc725 (ev_den (.vw _ _) rfl rfl (ev_den (.vw _ _) rfl (d_pick_f rfl hc725 rfl) (ev_den (.vw _ _) rfl rfl (ev_off rfl hc728 (ev_off rfl hc728 (ev_off rfl hc728 (ev_den (.vw _ _) rfl (d_pick_t rfl hc728 rfl) (ev_den (.vw _ _) rfl rfl (ev_off rfl rfl (ev_off rfl rfl (ev_off rfl rfl (ev_den (.vw _ _) rfl (d_pick_t rfl rfl rfl) (ev_den (.vw _ _) rfl rfl (ev_off rfl rfl (ev_off rfl rfl (ev_off rfl rfl (ev_den (.vw _ _) rfl (d_pick_t rfl rfl rfl) (ev_den (.vw _ _) rfl rfl (ev_off rfl rfl (ev_off rfl rfl (ev_off rfl rfl (ev_den (.vw _ _) rfl (d_pick_t rfl rfl rfl) (ev_den (.vw _ _) rfl rfl (ev_off rfl rfl (ev_off rfl rfl (ev_off rfl rfl (ev_den (.vw _ _) rfl (d_pick_t rfl rfl rfl) (ev_den (.vw _ _) rfl rfl (ev_off rfl rfl (ev_off rfl rfl (ev_off rfl rfl (ev_den (.vw _ _) rfl (d_pick_t rfl rfl rfl) (ev_nil)))))))))))))))))))))))))))))))))))))))))))) (joinQ_n true h (gc_to [80, 16, 160] rfl rfl rfl rfl))
        · rcases its h with ⟨hc730, h⟩ | ⟨hc730, h⟩
          · exact wp_reg (nx' := 1520) rfl (ev_den (.vw _ _) rfl rfl (ev_den (.vw _ _) rfl rfl (ev_den (.vw _ _) rfl rfl (ev_den (.vw _ _) rfl rfl (ev_on rfl hc725 (ev_den (.ref 160 _ _ _ _) rfl rfl (ev_on rfl hc725 (ev_den (.ref 288 _ _ _ _) rfl rfl (ev_on rfl hc725 (ev_call0 [(.ref 160 _ _ _ _), (.ref 288 _ _ _ _)] rfl (call_ok (rs := []) (rd := [160, 288]) rfl rfl rfl rfl (argL_cons (argT_r (rget_of rfl (get_nil)) sub_i) (argL_cons (argT_r (rget_of rfl (get_nil)) sub_i) (argL_nil))) rfl rfl (laws_kSame_ok hv727) rfl rfl rfl rfl rfl) (ev_on rfl hc725 (ev_den (.vw _ _) rfl rfl (ev_den (.vw _ _) rfl (d_pick_f rfl hc725 rfl) (ev_den (.vw _ _) rfl rfl (ev_on rfl hc728 (ev_den (.vw _ _) rfl rfl (ev_on rfl hc728 (ev_den (.vw _ _) rfl rfl (ev_on rfl hc728 (ev_den (.vw _ _) rfl rfl (ev_den (.vw _ _) rfl (d_pick_f rfl hc728 rfl) (ev_den (.vw _ _) rfl rfl (ev_off rfl hc730 (ev_off rfl hc730 (ev_off rfl hc730 (ev_den (.vw _ _) rfl (d_pick_t rfl hc730 rfl) (ev_den (.vw _ _) rfl rfl (ev_off rfl rfl (ev_off rfl rfl (ev_off rfl rfl (ev_den (.vw _ _) rfl (d_pick_t rfl rfl rfl) (ev_den (.vw _ _) rfl rfl (ev_off rfl rfl (ev_off rfl rfl (ev_off rfl rfl (ev_den (.vw _ _) rfl (d_pick_t rfl rfl rfl) (ev_den (.vw _ _) rfl rfl (ev_off rfl rfl (ev_off rfl rfl (ev_off rfl rfl (ev_den (.vw _ _) rfl (d_pick_t rfl rfl rfl) (ev_den (.vw _ _) rfl rfl (ev_off rfl rfl (ev_off rfl rfl (ev_off rfl rfl (ev_den (.vw _ _) rfl (d_pick_t rfl rfl rfl) (ev_nil))))))))))))))))))))))))))))))))))))))))))))))) (joinQ_n true h (gc_to [80, 16, 160] rfl rfl rfl rfl))
          · rcases its h with ⟨hc732, h⟩ | ⟨hc732, h⟩
            · exact wp_reg (nx' := 1520) rfl (ev_den (.vw _ _) rfl rfl (ev_den (.vw _ _) rfl rfl (ev_den (.vw _ _) rfl rfl (ev_den (.vw _ _) rfl rfl (ev_on rfl hc725 (ev_den (.ref 160 _ _ _ _) rfl rfl (ev_on rfl hc725 (ev_den (.ref 288 _ _ _ _) rfl rfl (ev_on rfl hc725 (ev_call0 [(.ref 160 _ _ _ _), (.ref 288 _ _ _ _)] rfl (call_ok (rs := []) (rd := [160, 288]) rfl rfl rfl rfl (argL_cons (argT_r (rget_of rfl (get_nil)) sub_i) (argL_cons (argT_r (rget_of rfl (get_nil)) sub_i) (argL_nil))) rfl rfl (laws_kSame_ok hv727) rfl rfl rfl rfl rfl) (ev_on rfl hc725 (ev_den (.vw _ _) rfl rfl (ev_den (.vw _ _) rfl (d_pick_f rfl hc725 rfl) (ev_den (.vw _ _) rfl rfl (ev_on rfl hc728 (ev_den (.vw _ _) rfl rfl (ev_on rfl hc728 (ev_den (.vw _ _) rfl rfl (ev_on rfl hc728 (ev_den (.vw _ _) rfl rfl (ev_den (.vw _ _) rfl (d_pick_f rfl hc728 rfl) (ev_den (.vw _ _) rfl rfl (ev_on rfl hc730 (ev_den (.vw _ _) rfl rfl (ev_on rfl hc730 (ev_den (.vw _ _) rfl rfl (ev_on rfl hc730 (ev_den (.vw _ _) rfl rfl (ev_den (.vw _ _) rfl (d_pick_f rfl hc730 rfl) (ev_den (.vw _ _) rfl rfl (ev_off rfl hc732 (ev_off rfl hc732 (ev_off rfl hc732 (ev_den (.vw _ _) rfl (d_pick_t rfl hc732 rfl) (ev_den (.vw _ _) rfl rfl (ev_off rfl rfl (ev_off rfl rfl (ev_off rfl rfl (ev_den (.vw _ _) rfl (d_pick_t rfl rfl rfl) (ev_den (.vw _ _) rfl rfl (ev_off rfl rfl (ev_off rfl rfl (ev_off rfl rfl (ev_den (.vw _ _) rfl (d_pick_t rfl rfl rfl) (ev_den (.vw _ _) rfl rfl (ev_off rfl rfl (ev_off rfl rfl (ev_off rfl rfl (ev_den (.vw _ _) rfl (d_pick_t rfl rfl rfl) (ev_nil)))))))))))))))))))))))))))))))))))))))))))))))))) (joinQ_n true h (gc_to [80, 16, 160] rfl rfl rfl rfl))
            · rcases its h with ⟨hc734, h⟩ | ⟨hc734, h⟩
              · exact wp_reg (nx' := 1520) rfl (ev_den (.vw _ _) rfl rfl (ev_den (.vw _ _) rfl rfl (ev_den (.vw _ _) rfl rfl (ev_den (.vw _ _) rfl rfl (ev_on rfl hc725 (ev_den (.ref 160 _ _ _ _) rfl rfl (ev_on rfl hc725 (ev_den (.ref 288 _ _ _ _) rfl rfl (ev_on rfl hc725 (ev_call0 [(.ref 160 _ _ _ _), (.ref 288 _ _ _ _)] rfl (call_ok (rs := []) (rd := [160, 288]) rfl rfl rfl rfl (argL_cons (argT_r (rget_of rfl (get_nil)) sub_i) (argL_cons (argT_r (rget_of rfl (get_nil)) sub_i) (argL_nil))) rfl rfl (laws_kSame_ok hv727) rfl rfl rfl rfl rfl) (ev_on rfl hc725 (ev_den (.vw _ _) rfl rfl (ev_den (.vw _ _) rfl (d_pick_f rfl hc725 rfl) (ev_den (.vw _ _) rfl rfl (ev_on rfl hc728 (ev_den (.vw _ _) rfl rfl (ev_on rfl hc728 (ev_den (.vw _ _) rfl rfl (ev_on rfl hc728 (ev_den (.vw _ _) rfl rfl (ev_den (.vw _ _) rfl (d_pick_f rfl hc728 rfl) (ev_den (.vw _ _) rfl rfl (ev_on rfl hc730 (ev_den (.vw _ _) rfl rfl (ev_on rfl hc730 (ev_den (.vw _ _) rfl rfl (ev_on rfl hc730 (ev_den (.vw _ _) rfl rfl (ev_den (.vw _ _) rfl (d_pick_f rfl hc730 rfl) (ev_den (.vw _ _) rfl rfl (ev_on rfl hc732 (ev_den (.vw _ _) rfl rfl (ev_on rfl hc732 (ev_den (.vw _ _) rfl rfl (ev_on rfl hc732 (ev_den (.vw _ _) rfl rfl (ev_den (.vw _ _) rfl (d_pick_f rfl hc732 rfl) (ev_den (.vw _ _) rfl rfl (ev_off rfl hc734 (ev_off rfl hc734 (ev_off rfl hc734 (ev_den (.vw _ _) rfl (d_pick_t rfl hc734 rfl) (ev_den (.vw _ _) rfl rfl (ev_off rfl rfl (ev_off rfl rfl (ev_off rfl rfl (ev_den (.vw _ _) rfl (d_pick_t rfl rfl rfl) (ev_den (.vw _ _) rfl rfl (ev_off rfl rfl (ev_off rfl rfl (ev_off rfl rfl (ev_den (.vw _ _) rfl (d_pick_t rfl rfl rfl) (ev_nil))))))))))))))))))))))))))))))))))))))))))))))))))))) (joinQ_n true h (gc_to [80, 16, 160] rfl rfl rfl rfl))
              · rcases its h with ⟨hc736, h⟩ | ⟨hc736, h⟩
                · exact wp_reg (nx' := 1520) rfl (ev_den (.vw _ _) rfl rfl (ev_den (.vw _ _) rfl rfl (ev_den (.vw _ _) rfl rfl (ev_den (.vw _ _) rfl rfl (ev_on rfl hc725 (ev_den (.ref 160 _ _ _ _) rfl rfl (ev_on rfl hc725 (ev_den (.ref 288 _ _ _ _) rfl rfl (ev_on rfl hc725 (ev_call0 [(.ref 160 _ _ _ _), (.ref 288 _ _ _ _)] rfl (call_ok (rs := []) (rd := [160, 288]) rfl rfl rfl rfl (argL_cons (argT_r (rget_of rfl (get_nil)) sub_i) (argL_cons (argT_r (rget_of rfl (get_nil)) sub_i) (argL_nil))) rfl rfl (laws_kSame_ok hv727) rfl rfl rfl rfl rfl) (ev_on rfl hc725 (ev_den (.vw _ _) rfl rfl (ev_den (.vw _ _) rfl (d_pick_f rfl hc725 rfl) (ev_den (.vw _ _) rfl rfl (ev_on rfl hc728 (ev_den (.vw _ _) rfl rfl (ev_on rfl hc728 (ev_den (.vw _ _) rfl rfl (ev_on rfl hc728 (ev_den (.vw _ _) rfl rfl (ev_den (.vw _ _) rfl (d_pick_f rfl hc728 rfl) (ev_den (.vw _ _) rfl rfl (ev_on rfl hc730 (ev_den (.vw _ _) rfl rfl (ev_on rfl hc730 (ev_den (.vw _ _) rfl rfl (ev_on rfl hc730 (ev_den (.vw _ _) rfl rfl (ev_den (.vw _ _) rfl (d_pick_f rfl hc730 rfl) (ev_den (.vw _ _) rfl rfl (ev_on rfl hc732 (ev_den (.vw _ _) rfl rfl (ev_on rfl hc732 (ev_den (.vw _ _) rfl rfl (ev_on rfl hc732 (ev_den (.vw _ _) rfl rfl (ev_den (.vw _ _) rfl (d_pick_f rfl hc732 rfl) (ev_den (.vw _ _) rfl rfl (ev_on rfl hc734 (ev_den (.vw _ _) rfl rfl (ev_on rfl hc734 (ev_den (.vw _ _) rfl rfl (ev_on rfl hc734 (ev_den (.vw _ _) rfl rfl (ev_den (.vw _ _) rfl (d_pick_f rfl hc734 rfl) (ev_den (.vw _ _) rfl rfl (ev_off rfl hc736 (ev_off rfl hc736 (ev_off rfl hc736 (ev_den (.vw _ _) rfl (d_pick_t rfl hc736 rfl) (ev_den (.vw _ _) rfl rfl (ev_off rfl rfl (ev_off rfl rfl (ev_off rfl rfl (ev_den (.vw _ _) rfl (d_pick_t rfl rfl rfl) (ev_nil)))))))))))))))))))))))))))))))))))))))))))))))))))))))) (joinQ_n true h (gc_to [80, 16, 160] rfl rfl rfl rfl))
                · rcases its h with ⟨hc738, h⟩ | ⟨hc738, h⟩
                  · exact wp_reg (nx' := 1520) rfl (ev_den (.vw _ _) rfl rfl (ev_den (.vw _ _) rfl rfl (ev_den (.vw _ _) rfl rfl (ev_den (.vw _ _) rfl rfl (ev_on rfl hc725 (ev_den (.ref 160 _ _ _ _) rfl rfl (ev_on rfl hc725 (ev_den (.ref 288 _ _ _ _) rfl rfl (ev_on rfl hc725 (ev_call0 [(.ref 160 _ _ _ _), (.ref 288 _ _ _ _)] rfl (call_ok (rs := []) (rd := [160, 288]) rfl rfl rfl rfl (argL_cons (argT_r (rget_of rfl (get_nil)) sub_i) (argL_cons (argT_r (rget_of rfl (get_nil)) sub_i) (argL_nil))) rfl rfl (laws_kSame_ok hv727) rfl rfl rfl rfl rfl) (ev_on rfl hc725 (ev_den (.vw _ _) rfl rfl (ev_den (.vw _ _) rfl (d_pick_f rfl hc725 rfl) (ev_den (.vw _ _) rfl rfl (ev_on rfl hc728 (ev_den (.vw _ _) rfl rfl (ev_on rfl hc728 (ev_den (.vw _ _) rfl rfl (ev_on rfl hc728 (ev_den (.vw _ _) rfl rfl (ev_den (.vw _ _) rfl (d_pick_f rfl hc728 rfl) (ev_den (.vw _ _) rfl rfl (ev_on rfl hc730 (ev_den (.vw _ _) rfl rfl (ev_on rfl hc730 (ev_den (.vw _ _) rfl rfl (ev_on rfl hc730 (ev_den (.vw _ _) rfl rfl (ev_den (.vw _ _) rfl (d_pick_f rfl hc730 rfl) (ev_den (.vw _ _) rfl rfl (ev_on rfl hc732 (ev_den (.vw _ _) rfl rfl (ev_on rfl hc732 (ev_den (.vw _ _) rfl rfl (ev_on rfl hc732 (ev_den (.vw _ _) rfl rfl (ev_den (.vw _ _) rfl (d_pick_f rfl hc732 rfl) (ev_den (.vw _ _) rfl rfl (ev_on rfl hc734 (ev_den (.vw _ _) rfl rfl (ev_on rfl hc734 (ev_den (.vw _ _) rfl rfl (ev_on rfl hc734 (ev_den (.vw _ _) rfl rfl (ev_den (.vw _ _) rfl (d_pick_f rfl hc734 rfl) (ev_den (.vw _ _) rfl rfl (ev_on rfl hc736 (ev_den (.vw _ _) rfl rfl (ev_on rfl hc736 (ev_den (.vw _ _) rfl rfl (ev_on rfl hc736 (ev_den (.vw _ _) rfl rfl (ev_den (.vw _ _) rfl (d_pick_f rfl hc736 rfl) (ev_den (.vw _ _) rfl rfl (ev_off rfl hc738 (ev_off rfl hc738 (ev_off rfl hc738 (ev_den (.vw _ _) rfl (d_pick_t rfl hc738 rfl) (ev_nil))))))))))))))))))))))))))))))))))))))))))))))))))))))))))) (joinQ_n true h (gc_to [80, 16, 160] rfl rfl rfl rfl))
                  · exact wp_reg (nx' := 1520) rfl (ev_den (.vw _ _) rfl rfl (ev_den (.vw _ _) rfl rfl (ev_den (.vw _ _) rfl rfl (ev_den (.vw _ _) rfl rfl (ev_on rfl hc725 (ev_den (.ref 160 _ _ _ _) rfl rfl (ev_on rfl hc725 (ev_den (.ref 288 _ _ _ _) rfl rfl (ev_on rfl hc725 (ev_call0 [(.ref 160 _ _ _ _), (.ref 288 _ _ _ _)] rfl (call_ok (rs := []) (rd := [160, 288]) rfl rfl rfl rfl (argL_cons (argT_r (rget_of rfl (get_nil)) sub_i) (argL_cons (argT_r (rget_of rfl (get_nil)) sub_i) (argL_nil))) rfl rfl (laws_kSame_ok hv727) rfl rfl rfl rfl rfl) (ev_on rfl hc725 (ev_den (.vw _ _) rfl rfl (ev_den (.vw _ _) rfl (d_pick_f rfl hc725 rfl) (ev_den (.vw _ _) rfl rfl (ev_on rfl hc728 (ev_den (.vw _ _) rfl rfl (ev_on rfl hc728 (ev_den (.vw _ _) rfl rfl (ev_on rfl hc728 (ev_den (.vw _ _) rfl rfl (ev_den (.vw _ _) rfl (d_pick_f rfl hc728 rfl) (ev_den (.vw _ _) rfl rfl (ev_on rfl hc730 (ev_den (.vw _ _) rfl rfl (ev_on rfl hc730 (ev_den (.vw _ _) rfl rfl (ev_on rfl hc730 (ev_den (.vw _ _) rfl rfl (ev_den (.vw _ _) rfl (d_pick_f rfl hc730 rfl) (ev_den (.vw _ _) rfl rfl (ev_on rfl hc732 (ev_den (.vw _ _) rfl rfl (ev_on rfl hc732 (ev_den (.vw _ _) rfl rfl (ev_on rfl hc732 (ev_den (.vw _ _) rfl rfl (ev_den (.vw _ _) rfl (d_pick_f rfl hc732 rfl) (ev_den (.vw _ _) rfl rfl (ev_on rfl hc734 (ev_den (.vw _ _) rfl rfl (ev_on rfl hc734 (ev_den (.vw _ _) rfl rfl (ev_on rfl hc734 (ev_den (.vw _ _) rfl rfl (ev_den (.vw _ _) rfl (d_pick_f rfl hc734 rfl) (ev_den (.vw _ _) rfl rfl (ev_on rfl hc736 (ev_den (.vw _ _) rfl rfl (ev_on rfl hc736 (ev_den (.vw _ _) rfl rfl (ev_on rfl hc736 (ev_den (.vw _ _) rfl rfl (ev_den (.vw _ _) rfl (d_pick_f rfl hc736 rfl) (ev_den (.vw _ _) rfl rfl (ev_on rfl hc738 (ev_den (.vw _ _) rfl rfl (ev_on rfl hc738 (ev_den (.vw _ _) rfl rfl (ev_on rfl hc738 (ev_den (.vw _ _) rfl rfl (ev_den (.vw _ _) rfl (d_pick_f rfl hc738 rfl) (ev_nil)))))))))))))))))))))))))))))))))))))))))))))))))))))))))))))) (joinQ_n (!(v147.2 == v143.2)) h (gc_to [80, 16, 160] rfl rfl rfl rfl))
end Go.Proofs.Ythecknnmfghilaa.Ev.Q3
