/- Contracts of functions of the program and of the reference, printed by a program of this session; no condition but what each theorem names. -/
import Derived.Test.YtkfghiofmamdnaaPA0
import Derived.Test.YtkfghiofmamdnaaPA1
import Derived.Test.YtkfghiofmamdnaaPA7
import Derived.Test.YtkfghiofmamdnaaPA8
import Derived.Test.YtkfghiofmamdnaaPA15
import Derived.Test.YtkfghiofmamdnaaPA26
import Derived.Test.YtkfghiofmamdnaaPA27
import Derived.Test.YtkfghiofmamdnaaPA28
import Derived.Test.YtkfghiofmamdnaaPA29
import Derived.Test.YtkfghiofmamdnaaExTurn
namespace Go.Proofs.Ytkfghiofmamdnaa.PA
open Go.RowKit Go.Proofs.YtkfghiofmamdnaaW.PrintWords Go.Proofs.YtkfghiofmamdnaaW.PrintLast Go.Proofs.YtkfghiofmamdnaaW.PrintMore
attribute [local go_sem] max2_int min2_int max_two min_two max_three min_three max_four min_four   -- for this text's walks alone
set_option linter.unusedVariables false
set_option linter.unusedSimpArgs false

/-! ### laws_FnExactTurnInserted: function 13 -/
mutual
def laws_FnExactTurnInserted.j0 : Nat → List (S70) → Int → List Int → Bool → List (S60) → List Int → Bool → Bool → Int → Int → Bool → Option (Bool)
  | 0, _, _, _, _, _, _, _, _, _, _, _ => none
  | k + 1, x1, x2, x8, x9, x10, x11, x12, x50, x544000, x544001, x544002 => if x50 = true then (some false) else ((laws_toMessageS.f k x1).bind fun t566 => ((laws_eqMessageS.f k x10 t566).bind fun t569 => (if t569 = true then ((laws_markMessageS.f k x10 1).bind fun bt570 => (if bt570.1 < 0 then (laws_FnExactTurnInserted.j1 k x1 x2 x8 x9 x11 true x544000 x544001 x544002) else ((laws_eqIntS.f k x11 x8).bind fun t572 => (if t572 = true then (laws_FnExactTurnInserted.j1 k x1 x2 x8 x9 x11 (x12 != x9) x544000 x544001 x544002) else (laws_FnExactTurnInserted.j1 k x1 x2 x8 x9 x11 true x544000 x544001 x544002))))) else (some false))))
def laws_FnExactTurnInserted.j1 : Nat → List (S70) → Int → List Int → Bool → List Int → Bool → Int → Int → Bool → Option (Bool)
  | 0, _, _, _, _, _, _, _, _, _ => none
  | k + 1, x1, x2, x8, x9, x11, x71, x544000, x544001, x544002 => if x71 = true then (some false) else ((laws_markIntS.f k x11 1).bind fun bt573 => ((laws_heldIntS.f k bt573.2 1).bind fun t575 => (if t575 < 0 then (some false) else (if t575 = bt573.1 then ((laws_toInsertRing.f x544000 x544001 x544002).bind fun bt576 => ((laws_toMessageS.f k x1).bind fun t579 => ((impl_TurnInserted.f bt576.1 bt576.2.1 bt576.2.2 t579 x2).bind fun bt582 => ((laws_eqIntS.f k bt582.1 x8).bind fun t586 => (if t586 = true then (laws_FnExactTurnInserted.j2 k bt573.2 bt573.1 (bt582.2 != x9)) else (laws_FnExactTurnInserted.j2 k bt573.2 bt573.1 true)))))) else (some false)))))
def laws_FnExactTurnInserted.j2 : Nat → List Int → Int → Bool → Option (Bool)
  | 0, _, _, _ => none
  | k + 1, x11, x14, x100 => if x100 = true then (some false) else ((laws_heldIntS.f k x11 1).bind fun t587 => (if t587 < 0 then (some false) else (if t587 = x14 then (some true) else (some false))))
end
def laws_FnExactTurnInserted.f (k : Nat) (a0_0 : Int) (a0_1 : Int) (a0_2 : Bool) (l1 : List (S70)) (a2 : Int) : Option (Bool) := (laws_szMessageS.f l1 1048576).bind fun t544 => (if t544 < 0 then (some true) else ((laws_toInsertRing.f a0_0 a0_1 a0_2).bind fun bt545 => ((laws_toMessageS.f k l1).bind fun t548 => ((spec_TurnInserted.f bt545.1 bt545.2.1 bt545.2.2 t548 a2).bind fun bt551 => ((laws_toMessageS.f k l1).bind fun t555 => ((laws_toInsertRing.f a0_0 a0_1 a0_2).bind fun bt558 => ((impl_TurnInserted.f bt558.1 bt558.2.1 bt558.2.2 t555 a2).bind fun bt561 => ((laws_eqIntS.f k bt561.1 bt551.1).bind fun t565 => (if t565 = true then (laws_FnExactTurnInserted.j0 k l1 a2 bt551.1 bt551.2 t555 bt561.1 bt561.2 (bt561.2 != bt551.2) a0_0 a0_1 a0_2) else (laws_FnExactTurnInserted.j0 k l1 a2 bt551.1 bt551.2 t555 bt561.1 bt561.2 true a0_0 a0_1 a0_2))))))))))
theorem laws_FnExactTurnInserted.mono_l : ∀ k, (∀ y0 y1 y2 y3 y4 y5 y6 y7 y8 y9 y10, LeO (laws_FnExactTurnInserted.j0 k y0 y1 y2 y3 y4 y5 y6 y7 y8 y9 y10) (laws_FnExactTurnInserted.j0 (k + 1) y0 y1 y2 y3 y4 y5 y6 y7 y8 y9 y10)) ∧ (∀ y0 y1 y2 y3 y4 y5 y6 y7 y8, LeO (laws_FnExactTurnInserted.j1 k y0 y1 y2 y3 y4 y5 y6 y7 y8) (laws_FnExactTurnInserted.j1 (k + 1) y0 y1 y2 y3 y4 y5 y6 y7 y8)) ∧ (∀ y0 y1 y2, LeO (laws_FnExactTurnInserted.j2 k y0 y1 y2) (laws_FnExactTurnInserted.j2 (k + 1) y0 y1 y2))
  | 0 => ⟨fun _ _ _ _ _ _ _ _ _ _ _ r h => by simp [laws_FnExactTurnInserted.j0] at h, fun _ _ _ _ _ _ _ _ _ r h => by simp [laws_FnExactTurnInserted.j1] at h, fun _ _ _ r h => by simp [laws_FnExactTurnInserted.j2] at h⟩
  | k + 1 => by
    obtain ⟨ih0, ih1, ih2⟩ := laws_FnExactTurnInserted.mono_l k
    refine ⟨?_, ?_, ?_⟩
    · intro y0 y1 y2 y3 y4 y5 y6 y7 y8 y9 y10
      unfold laws_FnExactTurnInserted.j0
      repeat' first
      | (with_reducible exact ih0 _ _ _ _ _ _ _ _ _ _ _)
      | (with_reducible exact ih1 _ _ _ _ _ _ _ _ _)
      | (with_reducible exact ih2 _ _ _)
      | (with_reducible exact laws_eqIntS.mono _ _ _)
      | (with_reducible exact laws_eqMessageS.mono _ _ _)
      | (with_reducible exact laws_heldIntS.mono _ _ _)
      | (with_reducible exact laws_markIntS.mono _ _ _)
      | (with_reducible exact laws_markMessageS.mono _ _ _)
      | (with_reducible exact laws_toMessageS.mono _ _)
      | (with_reducible exact LeO.refl _)
      | (with_reducible exact LeO.none _)
      | (with_reducible refine LeO.ite ?_ ?_)
      | (with_reducible refine LeO.bind ?_ (fun _ => ?_))
      | exact ih0 _ _ _ _ _ _ _ _ _ _ _
      | exact ih1 _ _ _ _ _ _ _ _ _
      | exact ih2 _ _ _
      | exact laws_eqIntS.mono _ _ _
      | exact laws_eqMessageS.mono _ _ _
      | exact laws_heldIntS.mono _ _ _
      | exact laws_markIntS.mono _ _ _
      | exact laws_markMessageS.mono _ _ _
      | exact laws_toMessageS.mono _ _
      | exact LeO.none _
      | refine LeO.ite ?_ ?_
      | refine LeO.bind ?_ (fun _ => ?_)
    · intro y0 y1 y2 y3 y4 y5 y6 y7 y8
      unfold laws_FnExactTurnInserted.j1
      repeat' first
      | (with_reducible exact ih0 _ _ _ _ _ _ _ _ _ _ _)
      | (with_reducible exact ih1 _ _ _ _ _ _ _ _ _)
      | (with_reducible exact ih2 _ _ _)
      | (with_reducible exact laws_eqIntS.mono _ _ _)
      | (with_reducible exact laws_eqMessageS.mono _ _ _)
      | (with_reducible exact laws_heldIntS.mono _ _ _)
      | (with_reducible exact laws_markIntS.mono _ _ _)
      | (with_reducible exact laws_markMessageS.mono _ _ _)
      | (with_reducible exact laws_toMessageS.mono _ _)
      | (with_reducible exact LeO.refl _)
      | (with_reducible exact LeO.none _)
      | (with_reducible refine LeO.ite ?_ ?_)
      | (with_reducible refine LeO.bind ?_ (fun _ => ?_))
      | exact ih0 _ _ _ _ _ _ _ _ _ _ _
      | exact ih1 _ _ _ _ _ _ _ _ _
      | exact ih2 _ _ _
      | exact laws_eqIntS.mono _ _ _
      | exact laws_eqMessageS.mono _ _ _
      | exact laws_heldIntS.mono _ _ _
      | exact laws_markIntS.mono _ _ _
      | exact laws_markMessageS.mono _ _ _
      | exact laws_toMessageS.mono _ _
      | exact LeO.none _
      | refine LeO.ite ?_ ?_
      | refine LeO.bind ?_ (fun _ => ?_)
    · intro y0 y1 y2
      unfold laws_FnExactTurnInserted.j2
      repeat' first
      | (with_reducible exact ih0 _ _ _ _ _ _ _ _ _ _ _)
      | (with_reducible exact ih1 _ _ _ _ _ _ _ _ _)
      | (with_reducible exact ih2 _ _ _)
      | (with_reducible exact laws_eqIntS.mono _ _ _)
      | (with_reducible exact laws_eqMessageS.mono _ _ _)
      | (with_reducible exact laws_heldIntS.mono _ _ _)
      | (with_reducible exact laws_markIntS.mono _ _ _)
      | (with_reducible exact laws_markMessageS.mono _ _ _)
      | (with_reducible exact laws_toMessageS.mono _ _)
      | (with_reducible exact LeO.refl _)
      | (with_reducible exact LeO.none _)
      | (with_reducible refine LeO.ite ?_ ?_)
      | (with_reducible refine LeO.bind ?_ (fun _ => ?_))
      | exact ih0 _ _ _ _ _ _ _ _ _ _ _
      | exact ih1 _ _ _ _ _ _ _ _ _
      | exact ih2 _ _ _
      | exact laws_eqIntS.mono _ _ _
      | exact laws_eqMessageS.mono _ _ _
      | exact laws_heldIntS.mono _ _ _
      | exact laws_markIntS.mono _ _ _
      | exact laws_markMessageS.mono _ _ _
      | exact laws_toMessageS.mono _ _
      | exact LeO.none _
      | refine LeO.ite ?_ ?_
      | refine LeO.bind ?_ (fun _ => ?_)
theorem laws_FnExactTurnInserted.mono : ∀ a0 a1 a2 a3 a4 k, LeO (laws_FnExactTurnInserted.f k a0 a1 a2 a3 a4) (laws_FnExactTurnInserted.f (k + 1) a0 a1 a2 a3 a4) := by
  intro a0 a1 a2 a3 a4 k
  obtain ⟨ih0, ih1, ih2⟩ := laws_FnExactTurnInserted.mono_l k
  unfold laws_FnExactTurnInserted.f
  repeat' first
      | (with_reducible exact ih0 _ _ _ _ _ _ _ _ _ _ _)
      | (with_reducible exact ih1 _ _ _ _ _ _ _ _ _)
      | (with_reducible exact ih2 _ _ _)
      | (with_reducible exact laws_eqIntS.mono _ _ _)
      | (with_reducible exact laws_eqMessageS.mono _ _ _)
      | (with_reducible exact laws_heldIntS.mono _ _ _)
      | (with_reducible exact laws_markIntS.mono _ _ _)
      | (with_reducible exact laws_markMessageS.mono _ _ _)
      | (with_reducible exact laws_toMessageS.mono _ _)
      | (with_reducible exact LeO.refl _)
      | (with_reducible exact LeO.none _)
      | (with_reducible refine LeO.ite ?_ ?_)
      | (with_reducible refine LeO.bind ?_ (fun _ => ?_))
      | exact ih0 _ _ _ _ _ _ _ _ _ _ _
      | exact ih1 _ _ _ _ _ _ _ _ _
      | exact ih2 _ _ _
      | exact laws_eqIntS.mono _ _ _
      | exact laws_eqMessageS.mono _ _ _
      | exact laws_heldIntS.mono _ _ _
      | exact laws_markIntS.mono _ _ _
      | exact laws_markMessageS.mono _ _ _
      | exact laws_toMessageS.mono _ _
      | exact LeO.none _
      | refine LeO.ite ?_ ?_
      | refine LeO.bind ?_ (fun _ => ?_)
set_option maxHeartbeats 8000000 in
set_option maxRecDepth 100000 in
theorem laws_FnExactTurnInserted.calls (k : Nat) (a0_0 : Int) (a0_1 : Int) (a0_2 : Bool) (A1 : Option Addr) (c1 : Nat) (l1 : List (S70)) (a2 : Int) (w : World) (hr1 : Kd.C k70 w A1 l1.length l1) (hc1 : l1.length ≤ c1) (h : laws_FnExactTurnInserted.f k a0_0 a0_1 a0_2 l1 a2 = some true) :
    Calls Try.prog 13 #[.agg #[.int .i64 a0_0, .int .i64 a0_1, .bool a0_2], .slice A1 l1.length c1, .int .i64 a2] w fun e w' => e = .returned (.bool true) ∧ Below w.heap.size w w' := by
  have hu23 := Try.underlying23
  have HR1 := Aside0.mk hr1
  have HC1 := Aside0.mk hc1
  clear hr1 hc1
  have HB := Aside0.mk (Below.refl w.heap.size w)
  have H : ((laws_szMessageS.f l1 1048576).bind fun t544 => (if t544 < 0 then (some true) else ((laws_toInsertRing.f a0_0 a0_1 a0_2).bind fun bt545 => ((laws_toMessageS.f k l1).bind fun t548 => ((spec_TurnInserted.f bt545.1 bt545.2.1 bt545.2.2 t548 a2).bind fun bt551 => ((laws_toMessageS.f k l1).bind fun t555 => ((laws_toInsertRing.f a0_0 a0_1 a0_2).bind fun bt558 => ((impl_TurnInserted.f bt558.1 bt558.2.1 bt558.2.2 t555 a2).bind fun bt561 => ((laws_eqIntS.f k bt561.1 bt551.1).bind fun t565 => (if t565 = true then (laws_FnExactTurnInserted.j0 k l1 a2 bt551.1 bt551.2 t555 bt561.1 bt561.2 (bt561.2 != bt551.2) a0_0 a0_1 a0_2) else (laws_FnExactTurnInserted.j0 k l1 a2 bt551.1 bt551.2 t555 bt561.1 bt561.2 true a0_0 a0_1 a0_2))))))))))) = some true := h
  clear h
  replace H := Option.bind_eq_some_iff.mp H
  obtain ⟨t544, A40, H⟩ := H
  replace H : (if t544 < 0 then (some true) else ((laws_toInsertRing.f a0_0 a0_1 a0_2).bind fun bt545 => ((laws_toMessageS.f k l1).bind fun t548 => ((spec_TurnInserted.f bt545.1 bt545.2.1 bt545.2.2 t548 a2).bind fun bt551 => ((laws_toMessageS.f k l1).bind fun t555 => ((laws_toInsertRing.f a0_0 a0_1 a0_2).bind fun bt558 => ((impl_TurnInserted.f bt558.1 bt558.2.1 bt558.2.2 t555 a2).bind fun bt561 => ((laws_eqIntS.f k bt561.1 bt551.1).bind fun t565 => (if t565 = true then (laws_FnExactTurnInserted.j0 k l1 a2 bt551.1 bt551.2 t555 bt561.1 bt561.2 (bt561.2 != bt551.2) a0_0 a0_1 a0_2) else (laws_FnExactTurnInserted.j0 k l1 a2 bt551.1 bt551.2 t555 bt561.1 bt561.2 true a0_0 a0_1 a0_2)))))))))) = some true := H
  have A4 := Aside0.mk A40
  clear A40
  by_cases c5 : t544 < 0
  · rw [if_pos c5] at H
    have c5b0 : decide (t544 < 0) = true := decide_eq_true c5
    clear c5
    (have H2_ := Option.some.inj H; clear H)
    go_enter Try.func13, Try.ntmps13
    go_wp2_with (first | ((with_reducible refine gate_dst (N := 3) rfl ?_); refine box_event ?hg (N := 3) ?hd (cs := #[.int .i64 a0_0, .int .i64 a0_1, .bool a0_2]) (t := 23) ?hr ?_; (case hd => rfl); (case hg => rfl); (case hr => first | (go_simp; done) | (go_simp; rfl)); intro gb543 hg w6 hbox hb; have n0_ := Aside0.mk (below_step (by repeat (first | (with_reducible first | exact HB.out | apply below_alloc | apply pw_below_drewN | apply below_drew1) | exact HB.out)) hb); have n1_ := Aside0.mk (hbox); have n2_ := Aside0.mk ((by rw [hg]; exact (below_size (by repeat (first | (with_reducible first | exact HB.out | apply below_alloc | apply pw_below_drewN | apply below_drew1) | exact HB.out))) : w.heap.size ≤ gb543)); have n3_ := Aside0.mk ((by rw [hg]; exact (below_size (by repeat (first | (with_reducible first | exact HB.out | apply below_alloc | apply pw_below_drewN | apply below_drew1) | exact HB.out))) : w.heap.size ≤ gb543)); clear HB; have HB := n0_; have BK543 := n1_; have GW543 := n2_; have GE543 := n3_; clear n0_ n1_ n2_ n3_; clear hb hbox hg) | ((with_reducible refine gate_callee (f := 16) rfl ?_); refine goesL_ (some 20) rfl rfl Try.func16 (by kernel_rfl) rfl #[.slice A1 l1.length c1, .int .i64 1048576] rfl (by (try simp only [List.map_toArray, List.map_cons, List.map_nil]); first | done | rfl | (simp only [List.length_drop, List.length_take]; rfl)) ?_; (with_reducible refine (laws_szMessageS.calls _ _ l1 1048576 t544 _ ?side1 ?side2 A4.out).mono ?_); (case side1 => repeat (first | exact (Kd.C_below HR1.out HB.out) | (with_reducible refine Kd.C_alloc ?_ _) | (with_reducible refine Kd.C_drewN ?_ _) | (with_reducible refine Kd.C_drew ?_))); (case side2 => exact HC1.out); rintro e w' ⟨rfl, ⟨nd, rfl⟩⟩; refine ⟨_, rfl, ?_⟩))
    go_ret
    exact ⟨by first | rfl | (simp [errW_none, errW_some] <;> rfl) | (simp [*, errW_none, errW_some] <;> rfl), by repeat (first | (with_reducible first | exact HB.out | apply below_alloc | apply pw_below_drewN | apply below_drew1 | refine below_set ?_ GE543.out) | exact HB.out)⟩
  · rw [if_neg c5] at H
    have c5b0 : decide (t544 < 0) = false := decide_eq_false c5
    clear c5
    replace H := Option.bind_eq_some_iff.mp H
    obtain ⟨⟨t545, t546, t547⟩, A70, H⟩ := H
    replace H : ((laws_toMessageS.f k l1).bind fun t548 => ((spec_TurnInserted.f t545 t546 t547 t548 a2).bind fun bt551 => ((laws_toMessageS.f k l1).bind fun t555 => ((laws_toInsertRing.f a0_0 a0_1 a0_2).bind fun bt558 => ((impl_TurnInserted.f bt558.1 bt558.2.1 bt558.2.2 t555 a2).bind fun bt561 => ((laws_eqIntS.f k bt561.1 bt551.1).bind fun t565 => (if t565 = true then (laws_FnExactTurnInserted.j0 k l1 a2 bt551.1 bt551.2 t555 bt561.1 bt561.2 (bt561.2 != bt551.2) a0_0 a0_1 a0_2) else (laws_FnExactTurnInserted.j0 k l1 a2 bt551.1 bt551.2 t555 bt561.1 bt561.2 true a0_0 a0_1 a0_2)))))))) = some true := H
    have A7 := Aside0.mk A70
    clear A70
    replace H := Option.bind_eq_some_iff.mp H
    obtain ⟨t548, A80, H⟩ := H
    replace H : ((spec_TurnInserted.f t545 t546 t547 t548 a2).bind fun bt551 => ((laws_toMessageS.f k l1).bind fun t555 => ((laws_toInsertRing.f a0_0 a0_1 a0_2).bind fun bt558 => ((impl_TurnInserted.f bt558.1 bt558.2.1 bt558.2.2 t555 a2).bind fun bt561 => ((laws_eqIntS.f k bt561.1 bt551.1).bind fun t565 => (if t565 = true then (laws_FnExactTurnInserted.j0 k l1 a2 bt551.1 bt551.2 t555 bt561.1 bt561.2 (bt561.2 != bt551.2) a0_0 a0_1 a0_2) else (laws_FnExactTurnInserted.j0 k l1 a2 bt551.1 bt551.2 t555 bt561.1 bt561.2 true a0_0 a0_1 a0_2))))))) = some true := H
    have A8 := Aside0.mk A80
    clear A80
    replace H := Option.bind_eq_some_iff.mp H
    obtain ⟨⟨t551, t554⟩, A90, H⟩ := H
    replace H : ((laws_toMessageS.f k l1).bind fun t555 => ((laws_toInsertRing.f a0_0 a0_1 a0_2).bind fun bt558 => ((impl_TurnInserted.f bt558.1 bt558.2.1 bt558.2.2 t555 a2).bind fun bt561 => ((laws_eqIntS.f k bt561.1 t551).bind fun t565 => (if t565 = true then (laws_FnExactTurnInserted.j0 k l1 a2 t551 t554 t555 bt561.1 bt561.2 (bt561.2 != t554) a0_0 a0_1 a0_2) else (laws_FnExactTurnInserted.j0 k l1 a2 t551 t554 t555 bt561.1 bt561.2 true a0_0 a0_1 a0_2)))))) = some true := H
    have A9 := Aside0.mk A90
    clear A90
    replace H := Option.bind_eq_some_iff.mp H
    obtain ⟨t555, A100, H⟩ := H
    replace H : ((laws_toInsertRing.f a0_0 a0_1 a0_2).bind fun bt558 => ((impl_TurnInserted.f bt558.1 bt558.2.1 bt558.2.2 t555 a2).bind fun bt561 => ((laws_eqIntS.f k bt561.1 t551).bind fun t565 => (if t565 = true then (laws_FnExactTurnInserted.j0 k l1 a2 t551 t554 t555 bt561.1 bt561.2 (bt561.2 != t554) a0_0 a0_1 a0_2) else (laws_FnExactTurnInserted.j0 k l1 a2 t551 t554 t555 bt561.1 bt561.2 true a0_0 a0_1 a0_2))))) = some true := H
    have A10 := Aside0.mk A100
    clear A100
    replace H := Option.bind_eq_some_iff.mp H
    obtain ⟨⟨t558, t559, t560⟩, A110, H⟩ := H
    replace H : ((impl_TurnInserted.f t558 t559 t560 t555 a2).bind fun bt561 => ((laws_eqIntS.f k bt561.1 t551).bind fun t565 => (if t565 = true then (laws_FnExactTurnInserted.j0 k l1 a2 t551 t554 t555 bt561.1 bt561.2 (bt561.2 != t554) a0_0 a0_1 a0_2) else (laws_FnExactTurnInserted.j0 k l1 a2 t551 t554 t555 bt561.1 bt561.2 true a0_0 a0_1 a0_2)))) = some true := H
    have A11 := Aside0.mk A110
    clear A110
    replace H := Option.bind_eq_some_iff.mp H
    obtain ⟨⟨t561, t564⟩, A120, H⟩ := H
    replace H : ((laws_eqIntS.f k t561 t551).bind fun t565 => (if t565 = true then (laws_FnExactTurnInserted.j0 k l1 a2 t551 t554 t555 t561 t564 (t564 != t554) a0_0 a0_1 a0_2) else (laws_FnExactTurnInserted.j0 k l1 a2 t551 t554 t555 t561 t564 true a0_0 a0_1 a0_2))) = some true := H
    have A12 := Aside0.mk A120
    clear A120
    have HC13 := Aside0.mk H
    clear H
    go_enter Try.func13, Try.ntmps13
    go_upto_region 8 with (first | ((with_reducible refine gate_dst (N := 3) rfl ?_); refine box_event ?hg (N := 3) ?hd (cs := #[.int .i64 a0_0, .int .i64 a0_1, .bool a0_2]) (t := 23) ?hr ?_; (case hd => rfl); (case hg => rfl); (case hr => first | (go_simp; done) | (go_simp; rfl)); intro gb543 hg w14 hbox hb; have n0_ := Aside0.mk (below_step (by repeat (first | (with_reducible first | exact HB.out | apply below_alloc | apply pw_below_drewN | apply below_drew1) | exact HB.out)) hb); have n1_ := Aside0.mk (hbox); have n2_ := Aside0.mk ((by rw [hg]; exact (below_size (by repeat (first | (with_reducible first | exact HB.out | apply below_alloc | apply pw_below_drewN | apply below_drew1) | exact HB.out))) : w.heap.size ≤ gb543)); have n3_ := Aside0.mk ((by rw [hg]; exact (below_size (by repeat (first | (with_reducible first | exact HB.out | apply below_alloc | apply pw_below_drewN | apply below_drew1) | exact HB.out))) : w.heap.size ≤ gb543)); clear HB; have HB := n0_; have BK543 := n1_; have GW543 := n2_; have GE543 := n3_; clear n0_ n1_ n2_ n3_; clear hb hbox hg) | ((with_reducible refine gate_callee (f := 16) rfl ?_); refine goesL_ (some 20) rfl rfl Try.func16 (by kernel_rfl) rfl #[.slice A1 l1.length c1, .int .i64 1048576] rfl (by (try simp only [List.map_toArray, List.map_cons, List.map_nil]); first | done | rfl | (simp only [List.length_drop, List.length_take]; rfl)) ?_; (with_reducible refine (laws_szMessageS.calls _ _ l1 1048576 t544 _ ?side1 ?side2 A4.out).mono ?_); (case side1 => repeat (first | exact (Kd.C_below HR1.out HB.out) | (with_reducible refine Kd.C_alloc ?_ _) | (with_reducible refine Kd.C_drewN ?_ _) | (with_reducible refine Kd.C_drew ?_))); (case side2 => exact HC1.out); rintro e w' ⟨rfl, ⟨nd, rfl⟩⟩; refine ⟨_, rfl, ?_⟩; have hcz15_0 : w14.cell? ⟨gb543, 0, none⟩ = some (.int .i64 a0_0) := (blk_cell BK543.out 0).trans rfl; have hcz15_1 : w14.cell? ⟨gb543, 1, none⟩ = some (.int .i64 a0_1) := (blk_cell BK543.out 1).trans rfl; have hcz15_2 : w14.cell? ⟨gb543, 2, none⟩ = some (.bool a0_2) := (blk_cell BK543.out 2).trans rfl; have hfz15_0 := blk_frozen BK543.out 0; have hfz15_1 := blk_frozen BK543.out 1; have hfz15_2 := blk_frozen BK543.out 2) | ((with_reducible refine gate_callee (f := 18) rfl ?_); refine goesL_ (some 25) rfl rfl Try.func18 (by kernel_rfl) rfl #[.agg #[.int .i64 a0_0, .int .i64 a0_1, .bool a0_2]] rfl (by (try simp only [List.map_toArray, List.map_cons, List.map_nil]); first | done | rfl | (simp only [List.length_drop, List.length_take]; rfl)) ?_; (with_reducible refine (laws_toInsertRing.calls a0_0 a0_1 a0_2 t545 t546 t547 _ A7.out).mono ?_); rintro e w16 ⟨rfl, hb⟩; refine ⟨_, rfl, ?_⟩; have n0_ := Aside0.mk (blk_below (g := gb543) (o := .cells #[.int .i64 a0_0, .int .i64 a0_1, .bool a0_2] 23 (0, 0)) (by (with_reducible repeat (first | refine blk_drewN ?_ _ | refine blk_drew ?_ | refine blk_alloc ?_ _)); exact BK543.out) hb); have n1_ := Aside0.mk (below_step (by repeat (first | (with_reducible first | exact HB.out | apply below_alloc | apply pw_below_drewN | apply below_drew1 | refine below_set ?_ GE543.out) | exact HB.out)) hb); clear BK543; clear HB; have BK543 := n0_; have HB := n1_; clear n0_ n1_; (try clear hb); (try clear hb2); (try clear hk); (try clear hi)) | ((with_reducible refine gate_callee (f := 19) rfl ?_); refine goesL_ (some 27) rfl rfl Try.func19 (by kernel_rfl) rfl #[.slice A1 l1.length c1] rfl (by (try simp only [List.map_toArray, List.map_cons, List.map_nil]); first | done | rfl | (simp only [List.length_drop, List.length_take]; rfl)) ?_; (with_reducible refine (laws_toMessageS.calls k _ _ l1 t548 _ ?side1 ?side2 A8.out).mono ?_); (case side1 => repeat (first | exact (Kd.C_below HR1.out HB.out) | (with_reducible refine Kd.C_alloc ?_ _) | (with_reducible refine Kd.C_drewN ?_ _) | (with_reducible refine Kd.C_drew ?_))); (case side2 => exact HC1.out); rintro e w17 ⟨v549, rfl, ho0, hb⟩; refine ⟨_, rfl, ?_⟩; have n0_ := Aside0.mk (Kd.R_lower ho0 (below_size (by repeat (first | (with_reducible first | exact HB.out | apply below_alloc | apply pw_below_drewN | apply below_drew1 | refine below_set ?_ GE543.out) | exact HB.out)))); have n1_ := Aside0.mk (blk_below (g := gb543) (o := .cells #[.int .i64 a0_0, .int .i64 a0_1, .bool a0_2] 23 (0, 0)) (by (with_reducible repeat (first | refine blk_drewN ?_ _ | refine blk_drew ?_ | refine blk_alloc ?_ _)); exact BK543.out) hb); have n2_ := Aside0.mk (below_step (by repeat (first | (with_reducible first | exact HB.out | apply below_alloc | apply pw_below_drewN | apply below_drew1 | refine below_set ?_ GE543.out) | exact HB.out)) hb); clear BK543; clear HB; have HO550 := n0_; have BK543 := n1_; have HB := n2_; clear n0_ n1_ n2_; (try clear hb); (try clear hb2); (try clear hk); (try clear hi); (try clear ho0); obtain ⟨Ao18, co18, eo18⟩ := Kd.R_slice HO550.out; subst eo18) | ((with_reducible refine gate_callee (f := 47) rfl ?_); refine goesL_ (some 29) rfl rfl Try.func47 (by kernel_rfl) rfl #[.agg #[.int .i64 t545, .int .i64 t546, .bool t547], .slice Ao18 t548.length co18, .int .i64 a2] rfl (by (try simp only [List.map_toArray, List.map_cons, List.map_nil]); first | done | rfl | (simp only [List.length_drop, List.length_take]; rfl)) ?_; (with_reducible refine (spec_TurnInserted.calls t545 t546 t547 _ _ t548 a2 t551 t554 _ ?side1 ?side2 A9.out).mono ?_); (case side1 => repeat (first | exact (Kd.R_reads' HO550.out).2.2 | (with_reducible refine Kd.C_alloc ?_ _) | (with_reducible refine Kd.C_drewN ?_ _) | (with_reducible refine Kd.C_drew ?_))); (case side2 => exact (Kd.R_reads' HO550.out).2.1); rintro e w19 ⟨v552, rfl, ho0, hb⟩; refine ⟨_, rfl, ?_⟩; have n0_ := Aside0.mk (Kd.R_below (by (with_reducible repeat (first | apply Kd.R_alloc | apply Kd.R_drewN | apply Kd.R_drew)); exact HO550.out) hb); have n1_ := Aside0.mk (Kd.R_lower ho0 (below_size (by repeat (first | (with_reducible first | exact HB.out | apply below_alloc | apply pw_below_drewN | apply below_drew1 | refine below_set ?_ GE543.out) | exact HB.out)))); have n2_ := Aside0.mk (blk_below (g := gb543) (o := .cells #[.int .i64 a0_0, .int .i64 a0_1, .bool a0_2] 23 (0, 0)) (by (with_reducible repeat (first | refine blk_drewN ?_ _ | refine blk_drew ?_ | refine blk_alloc ?_ _)); exact BK543.out) hb); have n3_ := Aside0.mk (below_step (by repeat (first | (with_reducible first | exact HB.out | apply below_alloc | apply pw_below_drewN | apply below_drew1 | refine below_set ?_ GE543.out) | exact HB.out)) hb); clear HO550; clear BK543; clear HB; have HO550 := n0_; have HO553 := n1_; have BK543 := n2_; have HB := n3_; clear n0_ n1_ n2_ n3_; (try clear hb); (try clear hb2); (try clear hk); (try clear hi); (try clear ho0)) | ((with_reducible refine gate_callee (f := 19) rfl ?_); refine goesL_ (some 33) rfl rfl Try.func19 (by kernel_rfl) rfl #[.slice A1 l1.length c1] rfl (by (try simp only [List.map_toArray, List.map_cons, List.map_nil]); first | done | rfl | (simp only [List.length_drop, List.length_take]; rfl)) ?_; (with_reducible refine (laws_toMessageS.calls k _ _ l1 t555 _ ?side1 ?side2 A10.out).mono ?_); (case side1 => repeat (first | exact (Kd.C_below HR1.out HB.out) | (with_reducible refine Kd.C_alloc ?_ _) | (with_reducible refine Kd.C_drewN ?_ _) | (with_reducible refine Kd.C_drew ?_))); (case side2 => exact HC1.out); rintro e w20 ⟨v556, rfl, ho0, hb⟩; refine ⟨_, rfl, ?_⟩; have n0_ := Aside0.mk (Kd.R_elder' (by (with_reducible repeat (first | apply Kd.R_alloc | apply Kd.R_drewN | apply Kd.R_drew)); exact HO550.out) (Kd.R_base ho0) hb); have n1_ := Aside0.mk (Kd.R_below (by (with_reducible repeat (first | apply Kd.R_alloc | apply Kd.R_drewN | apply Kd.R_drew)); exact HO553.out) hb); have n2_ := Aside0.mk (Kd.R_lower (Kd.R_new' ho0 (Kd.R_lt (by (with_reducible repeat (first | apply Kd.R_alloc | apply Kd.R_drewN | apply Kd.R_drew)); exact HO550.out))) (below_size (by repeat (first | (with_reducible first | exact HB.out | apply below_alloc | apply pw_below_drewN | apply below_drew1 | refine below_set ?_ GE543.out) | exact HB.out)))); have n3_ := Aside0.mk (blk_below (g := gb543) (o := .cells #[.int .i64 a0_0, .int .i64 a0_1, .bool a0_2] 23 (0, 0)) (by (with_reducible repeat (first | refine blk_drewN ?_ _ | refine blk_drew ?_ | refine blk_alloc ?_ _)); exact BK543.out) hb); have n4_ := Aside0.mk (below_step (by repeat (first | (with_reducible first | exact HB.out | apply below_alloc | apply pw_below_drewN | apply below_drew1 | refine below_set ?_ GE543.out) | exact HB.out)) hb); clear HO550; clear HO553; clear BK543; clear HB; have HO550 := n0_; have HO553 := n1_; have HO557 := n2_; have BK543 := n3_; have HB := n4_; clear n0_ n1_ n2_ n3_ n4_; (try clear hb); (try clear hb2); (try clear hk); (try clear hi); (try clear ho0); have hcz21_0 : w20.cell? ⟨gb543, 0, none⟩ = some (.int .i64 a0_0) := (blk_cell BK543.out 0).trans rfl; have hcz21_1 : w20.cell? ⟨gb543, 1, none⟩ = some (.int .i64 a0_1) := (blk_cell BK543.out 1).trans rfl; have hcz21_2 : w20.cell? ⟨gb543, 2, none⟩ = some (.bool a0_2) := (blk_cell BK543.out 2).trans rfl; have hfz21_0 := blk_frozen BK543.out 0; have hfz21_1 := blk_frozen BK543.out 1; have hfz21_2 := blk_frozen BK543.out 2) | ((with_reducible refine gate_callee (f := 18) rfl ?_); refine goesL_ (some 36) rfl rfl Try.func18 (by kernel_rfl) rfl #[.agg #[.int .i64 a0_0, .int .i64 a0_1, .bool a0_2]] rfl (by (try simp only [List.map_toArray, List.map_cons, List.map_nil]); first | done | rfl | (simp only [List.length_drop, List.length_take]; rfl)) ?_; (with_reducible refine (laws_toInsertRing.calls a0_0 a0_1 a0_2 t558 t559 t560 _ A11.out).mono ?_); rintro e w22 ⟨rfl, hb⟩; refine ⟨_, rfl, ?_⟩; have n0_ := Aside0.mk (Kd.R_below (by (with_reducible repeat (first | apply Kd.R_alloc | apply Kd.R_drewN | apply Kd.R_drew)); exact HO550.out) hb); have n1_ := Aside0.mk (Kd.R_below (by (with_reducible repeat (first | apply Kd.R_alloc | apply Kd.R_drewN | apply Kd.R_drew)); exact HO553.out) hb); have n2_ := Aside0.mk (Kd.R_below (by (with_reducible repeat (first | apply Kd.R_alloc | apply Kd.R_drewN | apply Kd.R_drew)); exact HO557.out) hb); have n3_ := Aside0.mk (blk_below (g := gb543) (o := .cells #[.int .i64 a0_0, .int .i64 a0_1, .bool a0_2] 23 (0, 0)) (by (with_reducible repeat (first | refine blk_drewN ?_ _ | refine blk_drew ?_ | refine blk_alloc ?_ _)); exact BK543.out) hb); have n4_ := Aside0.mk (below_step (by repeat (first | (with_reducible first | exact HB.out | apply below_alloc | apply pw_below_drewN | apply below_drew1 | refine below_set ?_ GE543.out) | exact HB.out)) hb); clear HO550; clear HO553; clear HO557; clear BK543; clear HB; have HO550 := n0_; have HO553 := n1_; have HO557 := n2_; have BK543 := n3_; have HB := n4_; clear n0_ n1_ n2_ n3_ n4_; (try clear hb); (try clear hb2); (try clear hk); (try clear hi); obtain ⟨Ao23, co23, eo23⟩ := Kd.R_slice HO557.out; subst eo23) | ((with_reducible refine gate_callee (f := 48) rfl ?_); refine goesL_ (some 39) rfl rfl Try.func48 (by kernel_rfl) rfl #[.agg #[.int .i64 t558, .int .i64 t559, .bool t560], .slice Ao23 t555.length co23, .int .i64 a2] rfl (by (try simp only [List.map_toArray, List.map_cons, List.map_nil]); first | done | rfl | (simp only [List.length_drop, List.length_take]; rfl)) ?_; (with_reducible refine (impl_TurnInserted.calls t558 t559 t560 _ _ t555 a2 t561 t564 _ ?side1 ?side2 A12.out).mono ?_); (case side1 => repeat (first | exact (Kd.R_reads' HO557.out).2.2 | (with_reducible refine Kd.C_alloc ?_ _) | (with_reducible refine Kd.C_drewN ?_ _) | (with_reducible refine Kd.C_drew ?_))); (case side2 => exact (Kd.R_reads' HO557.out).2.1); rintro e w24 ⟨v562, rfl, ho0, hb⟩; refine ⟨_, rfl, ?_⟩; have n0_ := Aside0.mk (Kd.R_below (by (with_reducible repeat (first | apply Kd.R_alloc | apply Kd.R_drewN | apply Kd.R_drew)); exact HO550.out) hb); have n1_ := Aside0.mk (Kd.R_elder' (by (with_reducible repeat (first | apply Kd.R_alloc | apply Kd.R_drewN | apply Kd.R_drew)); exact HO553.out) (Kd.R_base ho0) hb); have n2_ := Aside0.mk (Kd.R_below (by (with_reducible repeat (first | apply Kd.R_alloc | apply Kd.R_drewN | apply Kd.R_drew)); exact HO557.out) hb); have n3_ := Aside0.mk (Kd.R_lower (Kd.R_new' ho0 (Kd.R_lt (by (with_reducible repeat (first | apply Kd.R_alloc | apply Kd.R_drewN | apply Kd.R_drew)); exact HO553.out))) (below_size (by repeat (first | (with_reducible first | exact HB.out | apply below_alloc | apply pw_below_drewN | apply below_drew1 | refine below_set ?_ GE543.out) | exact HB.out)))); have n4_ := Aside0.mk (blk_below (g := gb543) (o := .cells #[.int .i64 a0_0, .int .i64 a0_1, .bool a0_2] 23 (0, 0)) (by (with_reducible repeat (first | refine blk_drewN ?_ _ | refine blk_drew ?_ | refine blk_alloc ?_ _)); exact BK543.out) hb); have n5_ := Aside0.mk (below_step (by repeat (first | (with_reducible first | exact HB.out | apply below_alloc | apply pw_below_drewN | apply below_drew1 | refine below_set ?_ GE543.out) | exact HB.out)) hb); clear HO550; clear HO553; clear HO557; clear BK543; clear HB; have HO550 := n0_; have HO553 := n1_; have HO557 := n2_; have HO563 := n3_; have BK543 := n4_; have HB := n5_; clear n0_ n1_ n2_ n3_ n4_ n5_; (try clear hb); (try clear hb2); (try clear hk); (try clear hi); (try clear ho0)))
    (try simp only [Act.put, List.setIfInBounds_toArray, List.set_cons_zero, List.set_cons_succ])
    go_cut [50] (fun v50 wc => ∃ (kq : Nat) (x50_12 : Bool), v50 = .bool x50_12 ∧ Aside0 (laws_FnExactTurnInserted.j0 kq l1 a2 t551 t554 t555 t561 t564 x50_12 a0_0 a0_1 a0_2 = some true) ∧ Aside0 (kq ≤ k) ∧ Aside0 (Kd.R (Kd.int .i64) 3 wc w.heap.size (fun k_ => some k_ ≠ (v562 : Value).ownBlock) v552 t551) ∧ Aside0 (Kd.R k60 60 wc w.heap.size (fun _ => True) (.slice Ao23 t555.length co23) t555) ∧ Aside0 (Kd.R (Kd.int .i64) 3 wc w.heap.size (fun k_ => some k_ ≠ (v552 : Value).ownBlock) v562 t561) ∧ Aside0 (wc.heap[gb543]? = some (.cells #[.int .i64 a0_0, .int .i64 a0_1, .bool a0_2] 23 (0, 0))) ∧ Aside0 (Below w.heap.size w wc))
    case first =>
      as_aux_lemma =>
      have H := HC13.out
      clear HC13
      replace H := Option.bind_eq_some_iff.mp H
      obtain ⟨t565, A250, H⟩ := H
      replace H : (if t565 = true then (laws_FnExactTurnInserted.j0 k l1 a2 t551 t554 t555 t561 t564 (t564 != t554) a0_0 a0_1 a0_2) else (laws_FnExactTurnInserted.j0 k l1 a2 t551 t554 t555 t561 t564 true a0_0 a0_1 a0_2)) = some true := H
      have A25 := Aside0.mk A250
      clear A250
      by_cases c26 : t565 = true
      · subst c26
        have H1 : (laws_FnExactTurnInserted.j0 k l1 a2 t551 t554 t555 t561 t564 (t564 != t554) a0_0 a0_1 a0_2) = some true := by rw [if_pos rfl] at H; exact H
        clear H
        have H := H1
        clear H1
        have H' := Aside0.mk H
        clear H
        obtain ⟨Ao27, co27, eo27⟩ := Kd.R_slice HO563.out
        subst eo27
        obtain ⟨Ao28, co28, eo28⟩ := Kd.R_slice HO553.out
        subst eo28
        go_wp2_with (first | ((with_reducible refine gate_callee (f := 32) rfl ?_); refine goesL_ (some 44) rfl rfl Try.func32 (by kernel_rfl) rfl #[.slice Ao27 t561.length co27, .slice Ao28 t551.length co28] rfl (by (try simp only [List.map_toArray, List.map_cons, List.map_nil]); first | done | rfl | (simp only [List.length_drop, List.length_take]; rfl)) ?_; (with_reducible refine (laws_eqIntS.calls k _ _ t561 _ _ t551 true _ ?side1 ?side2 ?side3 ?side4 A25.out).mono ?_); (case side1 => repeat (first | exact (Kd.R_reads' HO563.out).2.2 | (with_reducible refine Kd.C_alloc ?_ _) | (with_reducible refine Kd.C_drewN ?_ _) | (with_reducible refine Kd.C_drew ?_))); (case side2 => exact (Kd.R_reads' HO563.out).2.1); (case side3 => repeat (first | exact (Kd.R_reads' HO553.out).2.2 | (with_reducible refine Kd.C_alloc ?_ _) | (with_reducible refine Kd.C_drewN ?_ _) | (with_reducible refine Kd.C_drew ?_))); (case side4 => exact (Kd.R_reads' HO553.out).2.1); rintro e w' ⟨rfl, ⟨nd, rfl⟩⟩; refine ⟨_, rfl, ?_⟩))
        go_meet
        case rel => exact ⟨_, ((t564 != t554)), (by first | rfl | (simp; done) | (simp [*]; done)), H', ⟨by first | omega | exact Nat.le_refl _⟩, ⟨by (with_reducible repeat (first | apply Kd.R_alloc | apply Kd.R_drewN | apply Kd.R_drew)); exact Kd.R_mono HO553.out (fun _ hk => hk.2)⟩, ⟨by (with_reducible repeat (first | apply Kd.R_alloc | apply Kd.R_drewN | apply Kd.R_drew)); exact Kd.R_mono HO557.out (fun _ hk => trivial)⟩, ⟨by (with_reducible repeat (first | apply Kd.R_alloc | apply Kd.R_drewN | apply Kd.R_drew)); exact Kd.R_mono HO563.out (fun _ hk => hk.2)⟩, ⟨by (with_reducible repeat (first | refine blk_drewN ?_ _ | refine blk_drew ?_ | refine blk_alloc ?_ _)); exact BK543.out⟩, ⟨by repeat (first | (with_reducible first | exact HB.out | apply below_alloc | apply pw_below_drewN | apply below_drew1 | refine below_set ?_ GE543.out) | exact HB.out)⟩⟩
      · replace c26 := Bool.eq_false_iff.mpr c26
        subst c26
        have H1 : (laws_FnExactTurnInserted.j0 k l1 a2 t551 t554 t555 t561 t564 true a0_0 a0_1 a0_2) = some true := by rw [if_neg (show ¬ (false = true) by decide)] at H; exact H
        clear H
        have H := H1
        clear H1
        have H' := Aside0.mk H
        clear H
        obtain ⟨Ao29, co29, eo29⟩ := Kd.R_slice HO563.out
        subst eo29
        obtain ⟨Ao30, co30, eo30⟩ := Kd.R_slice HO553.out
        subst eo30
        go_wp2_with (first | ((with_reducible refine gate_callee (f := 32) rfl ?_); refine goesL_ (some 44) rfl rfl Try.func32 (by kernel_rfl) rfl #[.slice Ao29 t561.length co29, .slice Ao30 t551.length co30] rfl (by (try simp only [List.map_toArray, List.map_cons, List.map_nil]); first | done | rfl | (simp only [List.length_drop, List.length_take]; rfl)) ?_; (with_reducible refine (laws_eqIntS.calls k _ _ t561 _ _ t551 false _ ?side1 ?side2 ?side3 ?side4 A25.out).mono ?_); (case side1 => repeat (first | exact (Kd.R_reads' HO563.out).2.2 | (with_reducible refine Kd.C_alloc ?_ _) | (with_reducible refine Kd.C_drewN ?_ _) | (with_reducible refine Kd.C_drew ?_))); (case side2 => exact (Kd.R_reads' HO563.out).2.1); (case side3 => repeat (first | exact (Kd.R_reads' HO553.out).2.2 | (with_reducible refine Kd.C_alloc ?_ _) | (with_reducible refine Kd.C_drewN ?_ _) | (with_reducible refine Kd.C_drew ?_))); (case side4 => exact (Kd.R_reads' HO553.out).2.1); rintro e w' ⟨rfl, ⟨nd, rfl⟩⟩; refine ⟨_, rfl, ?_⟩))
        go_meet
        case rel => exact ⟨_, (true), (by first | rfl | (simp; done) | (simp [*]; done)), H', ⟨by first | omega | exact Nat.le_refl _⟩, ⟨by (with_reducible repeat (first | apply Kd.R_alloc | apply Kd.R_drewN | apply Kd.R_drew)); exact Kd.R_mono HO553.out (fun _ hk => hk.2)⟩, ⟨by (with_reducible repeat (first | apply Kd.R_alloc | apply Kd.R_drewN | apply Kd.R_drew)); exact Kd.R_mono HO557.out (fun _ hk => trivial)⟩, ⟨by (with_reducible repeat (first | apply Kd.R_alloc | apply Kd.R_drewN | apply Kd.R_drew)); exact Kd.R_mono HO563.out (fun _ hk => hk.2)⟩, ⟨by (with_reducible repeat (first | refine blk_drewN ?_ _ | refine blk_drew ?_ | refine blk_alloc ?_ _)); exact BK543.out⟩, ⟨by repeat (first | (with_reducible first | exact HB.out | apply below_alloc | apply pw_below_drewN | apply below_drew1 | refine below_set ?_ GE543.out) | exact HB.out)⟩⟩
    case rest =>
      as_aux_lemma =>
      clear HC13
      try clear c1
      try clear c2
      try clear p2
      try clear c3
      try clear c4
      try clear c5
      try clear c5b0
      try clear c13
      try clear c16
      try clear c18
      try clear c19
      try clear c26
      try clear hcz15_0
      try clear hcz15_1
      try clear hcz15_2
      try clear hcz21_0
      try clear hcz21_1
      try clear hcz21_2
      try clear hfz15_0
      try clear hfz15_1
      try clear hfz15_2
      try clear hfz21_0
      try clear hfz21_1
      try clear hfz21_2
      obtain ⟨kq, x50_12, rfl, HA, HJ12, HO_8, HO_10, HO_11, BK543, HB⟩ := hcut
      cases kq with
      | zero => exact absurd HA.out (by simp [laws_FnExactTurnInserted.j0])
      | succ kj12 =>
        have H := HA.out
        clear HA
        simp only [laws_FnExactTurnInserted.j0] at H
        by_cases c31 : x50_12 = true
        · subst c31
          have H1 : (some false) = some true := by rw [if_pos rfl] at H; exact H
          clear H
          have H := H1
          clear H1
          exact absurd (Option.some.inj H) (by decide)
        · replace c31 := Bool.eq_false_iff.mpr c31
          subst c31
          have H1 : ((laws_toMessageS.f kj12 l1).bind fun t566 => ((laws_eqMessageS.f kj12 t555 t566).bind fun t569 => (if t569 = true then ((laws_markMessageS.f kj12 t555 1).bind fun bt570 => (if bt570.1 < 0 then (laws_FnExactTurnInserted.j1 kj12 l1 a2 t551 t554 t561 true a0_0 a0_1 a0_2) else ((laws_eqIntS.f kj12 t561 t551).bind fun t572 => (if t572 = true then (laws_FnExactTurnInserted.j1 kj12 l1 a2 t551 t554 t561 (t564 != t554) a0_0 a0_1 a0_2) else (laws_FnExactTurnInserted.j1 kj12 l1 a2 t551 t554 t561 true a0_0 a0_1 a0_2))))) else (some false)))) = some true := by rw [if_neg (show ¬ (false = true) by decide)] at H; exact H
          clear H
          have H := H1
          clear H1
          replace H := Option.bind_eq_some_iff.mp H
          obtain ⟨t566, A320, H⟩ := H
          replace H : ((laws_eqMessageS.f kj12 t555 t566).bind fun t569 => (if t569 = true then ((laws_markMessageS.f kj12 t555 1).bind fun bt570 => (if bt570.1 < 0 then (laws_FnExactTurnInserted.j1 kj12 l1 a2 t551 t554 t561 true a0_0 a0_1 a0_2) else ((laws_eqIntS.f kj12 t561 t551).bind fun t572 => (if t572 = true then (laws_FnExactTurnInserted.j1 kj12 l1 a2 t551 t554 t561 (t564 != t554) a0_0 a0_1 a0_2) else (laws_FnExactTurnInserted.j1 kj12 l1 a2 t551 t554 t561 true a0_0 a0_1 a0_2))))) else (some false))) = some true := H
          have A32 := Aside0.mk A320
          clear A320
          replace H := Option.bind_eq_some_iff.mp H
          obtain ⟨t569, A330, H⟩ := H
          replace H : (if t569 = true then ((laws_markMessageS.f kj12 t555 1).bind fun bt570 => (if bt570.1 < 0 then (laws_FnExactTurnInserted.j1 kj12 l1 a2 t551 t554 t561 true a0_0 a0_1 a0_2) else ((laws_eqIntS.f kj12 t561 t551).bind fun t572 => (if t572 = true then (laws_FnExactTurnInserted.j1 kj12 l1 a2 t551 t554 t561 (t564 != t554) a0_0 a0_1 a0_2) else (laws_FnExactTurnInserted.j1 kj12 l1 a2 t551 t554 t561 true a0_0 a0_1 a0_2))))) else (some false)) = some true := H
          have A33 := Aside0.mk A330
          clear A330
          by_cases c34 : t569 = true
          · subst c34
            have H1 : ((laws_markMessageS.f kj12 t555 1).bind fun bt570 => (if bt570.1 < 0 then (laws_FnExactTurnInserted.j1 kj12 l1 a2 t551 t554 t561 true a0_0 a0_1 a0_2) else ((laws_eqIntS.f kj12 t561 t551).bind fun t572 => (if t572 = true then (laws_FnExactTurnInserted.j1 kj12 l1 a2 t551 t554 t561 (t564 != t554) a0_0 a0_1 a0_2) else (laws_FnExactTurnInserted.j1 kj12 l1 a2 t551 t554 t561 true a0_0 a0_1 a0_2))))) = some true := by rw [if_pos rfl] at H; exact H
            clear H
            have H := H1
            clear H1
            replace H := Option.bind_eq_some_iff.mp H
            obtain ⟨⟨t570, t571⟩, A350, H⟩ := H
            replace H : (if t570 < 0 then (laws_FnExactTurnInserted.j1 kj12 l1 a2 t551 t554 t561 true a0_0 a0_1 a0_2) else ((laws_eqIntS.f kj12 t561 t551).bind fun t572 => (if t572 = true then (laws_FnExactTurnInserted.j1 kj12 l1 a2 t551 t554 t561 (t564 != t554) a0_0 a0_1 a0_2) else (laws_FnExactTurnInserted.j1 kj12 l1 a2 t551 t554 t561 true a0_0 a0_1 a0_2)))) = some true := H
            have A35 := Aside0.mk A350
            clear A350
            have HC36 := Aside0.mk H
            clear H
            go_upto_region 14 with (first | ((with_reducible refine gate_callee (f := 19) rfl ?_); refine goesL_ (some 53) rfl rfl Try.func19 (by kernel_rfl) rfl #[.slice A1 l1.length c1] rfl (by (try simp only [List.map_toArray, List.map_cons, List.map_nil]); first | done | rfl | (simp only [List.length_drop, List.length_take]; rfl)) ?_; (with_reducible refine (laws_toMessageS.calls kj12 _ _ l1 t566 _ ?side1 ?side2 A32.out).mono ?_); (case side1 => repeat (first | exact (Kd.C_below HR1.out HB.out) | (with_reducible refine Kd.C_alloc ?_ _) | (with_reducible refine Kd.C_drewN ?_ _) | (with_reducible refine Kd.C_drew ?_))); (case side2 => exact HC1.out); rintro e w37 ⟨v567, rfl, ho0, hb⟩; refine ⟨_, rfl, ?_⟩; have n0_ := Aside0.mk (Kd.R_below (by (with_reducible repeat (first | apply Kd.R_alloc | apply Kd.R_drewN | apply Kd.R_drew)); exact HO_8.out) hb); have n1_ := Aside0.mk (Kd.R_elder' (by (with_reducible repeat (first | apply Kd.R_alloc | apply Kd.R_drewN | apply Kd.R_drew)); exact HO_10.out) (Kd.R_base ho0) hb); have n2_ := Aside0.mk (Kd.R_below (by (with_reducible repeat (first | apply Kd.R_alloc | apply Kd.R_drewN | apply Kd.R_drew)); exact HO_11.out) hb); have n3_ := Aside0.mk (Kd.R_lower (Kd.R_new' ho0 (Kd.R_lt (by (with_reducible repeat (first | apply Kd.R_alloc | apply Kd.R_drewN | apply Kd.R_drew)); exact HO_10.out))) (below_size (by repeat (first | (with_reducible first | exact HB.out | apply below_alloc | apply pw_below_drewN | apply below_drew1 | refine below_set ?_ GE543.out) | exact HB.out)))); have n4_ := Aside0.mk (blk_below (g := gb543) (o := .cells #[.int .i64 a0_0, .int .i64 a0_1, .bool a0_2] 23 (0, 0)) (by (with_reducible repeat (first | refine blk_drewN ?_ _ | refine blk_drew ?_ | refine blk_alloc ?_ _)); exact BK543.out) hb); have n5_ := Aside0.mk (below_step (by repeat (first | (with_reducible first | exact HB.out | apply below_alloc | apply pw_below_drewN | apply below_drew1 | refine below_set ?_ GE543.out) | exact HB.out)) hb); clear HO_8; clear HO_10; clear HO_11; clear BK543; clear HB; have HO_8 := n0_; have HO_10 := n1_; have HO_11 := n2_; have HO568 := n3_; have BK543 := n4_; have HB := n5_; clear n0_ n1_ n2_ n3_ n4_ n5_; (try clear hb); (try clear hb2); (try clear hk); (try clear hi); (try clear ho0); obtain ⟨Ao38, co38, eo38⟩ := Kd.R_slice HO568.out; subst eo38) | ((with_reducible refine gate_callee (f := 21) rfl ?_); refine goesL_ (some 54) rfl rfl Try.func21 (by kernel_rfl) rfl #[.slice Ao23 t555.length co23, .slice Ao38 t566.length co38] rfl (by (try simp only [List.map_toArray, List.map_cons, List.map_nil]); first | done | rfl | (simp only [List.length_drop, List.length_take]; rfl)) ?_; (with_reducible refine (laws_eqMessageS.calls kj12 _ _ t555 _ _ t566 true _ ?side1 ?side2 ?side3 ?side4 A33.out).mono ?_); (case side1 => repeat (first | exact (Kd.R_reads' HO_10.out).2.2 | (with_reducible refine Kd.C_alloc ?_ _) | (with_reducible refine Kd.C_drewN ?_ _) | (with_reducible refine Kd.C_drew ?_))); (case side2 => exact (Kd.R_reads' HO_10.out).2.1); (case side3 => repeat (first | exact (Kd.R_reads' HO568.out).2.2 | (with_reducible refine Kd.C_alloc ?_ _) | (with_reducible refine Kd.C_drewN ?_ _) | (with_reducible refine Kd.C_drew ?_))); (case side4 => exact (Kd.R_reads' HO568.out).2.1); rintro e w39 ⟨rfl, hb⟩; refine ⟨_, rfl, ?_⟩; have n0_ := Aside0.mk (Kd.R_below (by (with_reducible repeat (first | apply Kd.R_alloc | apply Kd.R_drewN | apply Kd.R_drew)); exact HO_8.out) hb); have n1_ := Aside0.mk (Kd.R_below (by (with_reducible repeat (first | apply Kd.R_alloc | apply Kd.R_drewN | apply Kd.R_drew)); exact HO_10.out) hb); have n2_ := Aside0.mk (Kd.R_below (by (with_reducible repeat (first | apply Kd.R_alloc | apply Kd.R_drewN | apply Kd.R_drew)); exact HO_11.out) hb); have n3_ := Aside0.mk (Kd.R_below (by (with_reducible repeat (first | apply Kd.R_alloc | apply Kd.R_drewN | apply Kd.R_drew)); exact HO568.out) hb); have n4_ := Aside0.mk (blk_below (g := gb543) (o := .cells #[.int .i64 a0_0, .int .i64 a0_1, .bool a0_2] 23 (0, 0)) (by (with_reducible repeat (first | refine blk_drewN ?_ _ | refine blk_drew ?_ | refine blk_alloc ?_ _)); exact BK543.out) hb); have n5_ := Aside0.mk (below_step (by repeat (first | (with_reducible first | exact HB.out | apply below_alloc | apply pw_below_drewN | apply below_drew1 | refine below_set ?_ GE543.out) | exact HB.out)) hb); clear HO_8; clear HO_10; clear HO_11; clear HO568; clear BK543; clear HB; have HO_8 := n0_; have HO_10 := n1_; have HO_11 := n2_; have HO568 := n3_; have BK543 := n4_; have HB := n5_; clear n0_ n1_ n2_ n3_ n4_ n5_; (try clear hb); (try clear hb2); (try clear hk); (try clear hi)) | ((with_reducible refine gate_callee (f := 33) rfl ?_); refine goesL_ (some 58) rfl rfl Try.func33 (by kernel_rfl) rfl #[.slice Ao23 t555.length co23, .int .i64 1] rfl (by (try simp only [List.map_toArray, List.map_cons, List.map_nil]); first | done | rfl | (simp only [List.length_drop, List.length_take]; rfl)) ?_; (with_reducible refine (laws_markMessageS.calls kj12 (fun k_ => some k_ = (.slice Ao23 t555.length co23 : Value).ownBlock) (.slice Ao23 t555.length co23) t555 1 t570 t571 w _ ?side1 ?side2 A35.out).mono ?_); (case side1 => repeat (first | (with_reducible first | exact HB.out | apply below_alloc | apply pw_below_drewN | apply below_drew1 | refine below_set ?_ GE543.out) | exact HB.out)); (case side2 => exact Kd.R_tight rfl HO_10.out); rintro e w40 ⟨rfl, hy0, hb, hkp⟩; refine ⟨_, rfl, ?_⟩; have n0_ := Aside0.mk (Kd.R_mono (ok' := fun k_ => some k_ ≠ (v562 : Value).ownBlock) (Kd.R_keptB ((Kd.R_apart' HO_8.out (Kd.R_typed HO_10.out) (by decide))) hkp (fun k_ hk_ hs_ => (hk_.2) hs_)) (fun k_ hk_ => hk_.1.1)); have n1_ := Aside0.mk (Kd.R_reok rfl hy0 (fun k_ e_ => HO_10.out.1 k_ e_)); have n2_ := Aside0.mk (Kd.R_mono (ok' := fun k_ => some k_ ≠ (v552 : Value).ownBlock) (Kd.R_keptB ((Kd.R_apart' HO_11.out (Kd.R_typed HO_10.out) (by decide))) hkp (fun k_ hk_ hs_ => (hk_.2) hs_)) (fun k_ hk_ => hk_.1.1)); have n3_ := Aside0.mk (blk_kept (by (with_reducible repeat (first | refine blk_drewN ?_ _ | refine blk_drew ?_ | refine blk_alloc ?_ _)); exact BK543.out) hkp (fun hs_ => (fun e_ => (Kd.R_ne HO_10.out BK543.out (by decide)) e_) hs_)); have n4_ := Aside0.mk (Kd.R_mono (ok' := fun k_ => some k_ ≠ (.slice Ao23 t555.length co23 : Value).ownBlock) (Kd.R_keptB (HO568.out) hkp (fun k_ hk_ hs_ => (hk_.2) hs_)) (fun k_ hk_ => hk_.1.2)); have n5_ := Aside0.mk (hb); clear HO_8; clear HO_10; clear HO_11; clear BK543; clear HO568; clear HB; have HO_8 := n0_; have HO_10 := n1_; have HO_11 := n2_; have BK543 := n3_; have HO568 := n4_; have HB := n5_; clear n0_ n1_ n2_ n3_ n4_ n5_; (try clear hb); (try clear hkp); (try clear hy0)))
            (try simp only [Act.put, List.setIfInBounds_toArray, List.set_cons_zero, List.set_cons_succ])
            go_cut [71] (fun v71 wc => ∃ (kq : Nat) (x71_35 : Bool), v71 = .bool x71_35 ∧ Aside0 (laws_FnExactTurnInserted.j1 kq l1 a2 t551 t554 t561 x71_35 a0_0 a0_1 a0_2 = some true) ∧ Aside0 (kq ≤ kj12) ∧ Aside0 (Kd.R (Kd.int .i64) 3 wc w.heap.size (fun k_ => some k_ ≠ (v562 : Value).ownBlock) v552 t551) ∧ Aside0 (Kd.R (Kd.int .i64) 3 wc w.heap.size (fun k_ => some k_ ≠ (v552 : Value).ownBlock) v562 t561) ∧ Aside0 (wc.heap[gb543]? = some (.cells #[.int .i64 a0_0, .int .i64 a0_1, .bool a0_2] 23 (0, 0))) ∧ Aside0 (Below w.heap.size w wc))
            case first =>
              as_aux_lemma =>
              have H := HC36.out
              clear HC36
              by_cases c41 : t570 < 0
              · rw [if_pos c41] at H
                have c41b0 : decide (t570 < 0) = true := decide_eq_true c41
                clear c41
                (first | rw [c41b0] | (simp only [i64_w, i32_w]; rw [c41b0]) | skip)
                have H' := Aside0.mk H
                clear H
                go_wp2
                go_meet
                case rel => exact ⟨_, (true), (by first | rfl | (simp; done) | (simp [*]; done)), H', ⟨by have := HJ12.out; first | omega | exact Nat.le_refl _⟩, ⟨by (with_reducible repeat (first | apply Kd.R_alloc | apply Kd.R_drewN | apply Kd.R_drew)); exact HO_8.out⟩, ⟨by (with_reducible repeat (first | apply Kd.R_alloc | apply Kd.R_drewN | apply Kd.R_drew)); exact HO_11.out⟩, ⟨by (with_reducible repeat (first | refine blk_drewN ?_ _ | refine blk_drew ?_ | refine blk_alloc ?_ _)); exact BK543.out⟩, ⟨by repeat (first | (with_reducible first | exact HB.out | apply below_alloc | apply pw_below_drewN | apply below_drew1 | refine below_set ?_ GE543.out) | exact HB.out)⟩⟩
              · rw [if_neg c41] at H
                have c41b0 : decide (t570 < 0) = false := decide_eq_false c41
                clear c41
                (first | rw [c41b0] | (simp only [i64_w, i32_w]; rw [c41b0]) | skip)
                replace H := Option.bind_eq_some_iff.mp H
                obtain ⟨t572, A420, H⟩ := H
                replace H : (if t572 = true then (laws_FnExactTurnInserted.j1 kj12 l1 a2 t551 t554 t561 (t564 != t554) a0_0 a0_1 a0_2) else (laws_FnExactTurnInserted.j1 kj12 l1 a2 t551 t554 t561 true a0_0 a0_1 a0_2)) = some true := H
                have A42 := Aside0.mk A420
                clear A420
                by_cases c43 : t572 = true
                · subst c43
                  have H1 : (laws_FnExactTurnInserted.j1 kj12 l1 a2 t551 t554 t561 (t564 != t554) a0_0 a0_1 a0_2) = some true := by rw [if_pos rfl] at H; exact H
                  clear H
                  have H := H1
                  clear H1
                  have H' := Aside0.mk H
                  clear H
                  obtain ⟨Ao44, co44, eo44⟩ := Kd.R_slice HO_11.out
                  subst eo44
                  obtain ⟨Ao45, co45, eo45⟩ := Kd.R_slice HO_8.out
                  subst eo45
                  go_wp2_with (first | (go_at_call 32; (with_reducible refine (laws_eqIntS.calls kj12 _ _ t561 _ _ t551 true _ ?side1 ?side2 ?side3 ?side4 A42.out).mono ?_); (case side1 => repeat (first | exact (Kd.R_reads' HO_11.out).2.2 | (with_reducible refine Kd.C_alloc ?_ _) | (with_reducible refine Kd.C_drewN ?_ _) | (with_reducible refine Kd.C_drew ?_))); (case side2 => exact (Kd.R_reads' HO_11.out).2.1); (case side3 => repeat (first | exact (Kd.R_reads' HO_8.out).2.2 | (with_reducible refine Kd.C_alloc ?_ _) | (with_reducible refine Kd.C_drewN ?_ _) | (with_reducible refine Kd.C_drew ?_))); (case side4 => exact (Kd.R_reads' HO_8.out).2.1); rintro e w' ⟨rfl, ⟨nd, rfl⟩⟩))
                  go_meet
                  case rel => exact ⟨_, ((t564 != t554)), (by first | rfl | (simp; done) | (simp [*]; done)), H', ⟨by have := HJ12.out; first | omega | exact Nat.le_refl _⟩, ⟨by (with_reducible repeat (first | apply Kd.R_alloc | apply Kd.R_drewN | apply Kd.R_drew)); exact HO_8.out⟩, ⟨by (with_reducible repeat (first | apply Kd.R_alloc | apply Kd.R_drewN | apply Kd.R_drew)); exact HO_11.out⟩, ⟨by (with_reducible repeat (first | refine blk_drewN ?_ _ | refine blk_drew ?_ | refine blk_alloc ?_ _)); exact BK543.out⟩, ⟨by repeat (first | (with_reducible first | exact HB.out | apply below_alloc | apply pw_below_drewN | apply below_drew1 | refine below_set ?_ GE543.out) | exact HB.out)⟩⟩
                · replace c43 := Bool.eq_false_iff.mpr c43
                  subst c43
                  have H1 : (laws_FnExactTurnInserted.j1 kj12 l1 a2 t551 t554 t561 true a0_0 a0_1 a0_2) = some true := by rw [if_neg (show ¬ (false = true) by decide)] at H; exact H
                  clear H
                  have H := H1
                  clear H1
                  have H' := Aside0.mk H
                  clear H
                  obtain ⟨Ao46, co46, eo46⟩ := Kd.R_slice HO_11.out
                  subst eo46
                  obtain ⟨Ao47, co47, eo47⟩ := Kd.R_slice HO_8.out
                  subst eo47
                  go_wp2_with (first | (go_at_call 32; (with_reducible refine (laws_eqIntS.calls kj12 _ _ t561 _ _ t551 false _ ?side1 ?side2 ?side3 ?side4 A42.out).mono ?_); (case side1 => repeat (first | exact (Kd.R_reads' HO_11.out).2.2 | (with_reducible refine Kd.C_alloc ?_ _) | (with_reducible refine Kd.C_drewN ?_ _) | (with_reducible refine Kd.C_drew ?_))); (case side2 => exact (Kd.R_reads' HO_11.out).2.1); (case side3 => repeat (first | exact (Kd.R_reads' HO_8.out).2.2 | (with_reducible refine Kd.C_alloc ?_ _) | (with_reducible refine Kd.C_drewN ?_ _) | (with_reducible refine Kd.C_drew ?_))); (case side4 => exact (Kd.R_reads' HO_8.out).2.1); rintro e w' ⟨rfl, ⟨nd, rfl⟩⟩))
                  go_meet
                  case rel => exact ⟨_, (true), (by first | rfl | (simp; done) | (simp [*]; done)), H', ⟨by have := HJ12.out; first | omega | exact Nat.le_refl _⟩, ⟨by (with_reducible repeat (first | apply Kd.R_alloc | apply Kd.R_drewN | apply Kd.R_drew)); exact HO_8.out⟩, ⟨by (with_reducible repeat (first | apply Kd.R_alloc | apply Kd.R_drewN | apply Kd.R_drew)); exact HO_11.out⟩, ⟨by (with_reducible repeat (first | refine blk_drewN ?_ _ | refine blk_drew ?_ | refine blk_alloc ?_ _)); exact BK543.out⟩, ⟨by repeat (first | (with_reducible first | exact HB.out | apply below_alloc | apply pw_below_drewN | apply below_drew1 | refine below_set ?_ GE543.out) | exact HB.out)⟩⟩
            case rest =>
              as_aux_lemma =>
              clear HC36
              try clear c1
              try clear c2
              try clear p2
              try clear c3
              try clear c4
              try clear c5
              try clear c5b0
              try clear c13
              try clear c16
              try clear c18
              try clear c19
              try clear c21
              try clear c26
              try clear c31
              try clear c32
              try clear c33
              try clear c34
              try clear c41
              try clear c41b0
              try clear c43
              try clear c47
              try clear hcz15_0
              try clear hcz15_1
              try clear hcz15_2
              try clear hcz21_0
              try clear hcz21_1
              try clear hcz21_2
              try clear hfz15_0
              try clear hfz15_1
              try clear hfz15_2
              try clear hfz21_0
              try clear hfz21_1
              try clear hfz21_2
              try clear p2
              obtain ⟨kq, x71_35, rfl, HA, HJ35, HO_8, HO_11, BK543, HB⟩ := hcut
              cases kq with
              | zero => exact absurd HA.out (by simp [laws_FnExactTurnInserted.j1])
              | succ kj35 =>
                have H := HA.out
                clear HA
                simp only [laws_FnExactTurnInserted.j1] at H
                by_cases c48 : x71_35 = true
                · subst c48
                  have H1 : (some false) = some true := by rw [if_pos rfl] at H; exact H
                  clear H
                  have H := H1
                  clear H1
                  exact absurd (Option.some.inj H) (by decide)
                · replace c48 := Bool.eq_false_iff.mpr c48
                  subst c48
                  have H1 : ((laws_markIntS.f kj35 t561 1).bind fun bt573 => ((laws_heldIntS.f kj35 bt573.2 1).bind fun t575 => (if t575 < 0 then (some false) else (if t575 = bt573.1 then ((laws_toInsertRing.f a0_0 a0_1 a0_2).bind fun bt576 => ((laws_toMessageS.f kj35 l1).bind fun t579 => ((impl_TurnInserted.f bt576.1 bt576.2.1 bt576.2.2 t579 a2).bind fun bt582 => ((laws_eqIntS.f kj35 bt582.1 t551).bind fun t586 => (if t586 = true then (laws_FnExactTurnInserted.j2 kj35 bt573.2 bt573.1 (bt582.2 != t554)) else (laws_FnExactTurnInserted.j2 kj35 bt573.2 bt573.1 true)))))) else (some false))))) = some true := by rw [if_neg (show ¬ (false = true) by decide)] at H; exact H
                  clear H
                  have H := H1
                  clear H1
                  replace H := Option.bind_eq_some_iff.mp H
                  obtain ⟨⟨t573, t574⟩, A490, H⟩ := H
                  replace H : ((laws_heldIntS.f kj35 t574 1).bind fun t575 => (if t575 < 0 then (some false) else (if t575 = t573 then ((laws_toInsertRing.f a0_0 a0_1 a0_2).bind fun bt576 => ((laws_toMessageS.f kj35 l1).bind fun t579 => ((impl_TurnInserted.f bt576.1 bt576.2.1 bt576.2.2 t579 a2).bind fun bt582 => ((laws_eqIntS.f kj35 bt582.1 t551).bind fun t586 => (if t586 = true then (laws_FnExactTurnInserted.j2 kj35 t574 t573 (bt582.2 != t554)) else (laws_FnExactTurnInserted.j2 kj35 t574 t573 true)))))) else (some false)))) = some true := H
                  have A49 := Aside0.mk A490
                  clear A490
                  replace H := Option.bind_eq_some_iff.mp H
                  obtain ⟨t575, A500, H⟩ := H
                  replace H : (if t575 < 0 then (some false) else (if t575 = t573 then ((laws_toInsertRing.f a0_0 a0_1 a0_2).bind fun bt576 => ((laws_toMessageS.f kj35 l1).bind fun t579 => ((impl_TurnInserted.f bt576.1 bt576.2.1 bt576.2.2 t579 a2).bind fun bt582 => ((laws_eqIntS.f kj35 bt582.1 t551).bind fun t586 => (if t586 = true then (laws_FnExactTurnInserted.j2 kj35 t574 t573 (bt582.2 != t554)) else (laws_FnExactTurnInserted.j2 kj35 t574 t573 true)))))) else (some false))) = some true := H
                  have A50 := Aside0.mk A500
                  clear A500
                  by_cases c51 : t575 < 0
                  · rw [if_pos c51] at H
                    have c51b0 : decide (t575 < 0) = true := decide_eq_true c51
                    clear c51
                    exact absurd (Option.some.inj H) (by decide)
                  · rw [if_neg c51] at H
                    have c51b0 : decide (t575 < 0) = false := decide_eq_false c51
                    clear c51
                    by_cases c52 : t575 = t573
                    · rw [if_pos c52] at H
                      have c52b0 : (t575 == t573) = true := beq_iff_eq.mpr c52
                      have c52b1 : (t575 != t573) = false := bne_eq_false_iff_eq.mpr c52
                      clear c52
                      replace H := Option.bind_eq_some_iff.mp H
                      obtain ⟨⟨t576, t577, t578⟩, A530, H⟩ := H
                      replace H : ((laws_toMessageS.f kj35 l1).bind fun t579 => ((impl_TurnInserted.f t576 t577 t578 t579 a2).bind fun bt582 => ((laws_eqIntS.f kj35 bt582.1 t551).bind fun t586 => (if t586 = true then (laws_FnExactTurnInserted.j2 kj35 t574 t573 (bt582.2 != t554)) else (laws_FnExactTurnInserted.j2 kj35 t574 t573 true))))) = some true := H
                      have A53 := Aside0.mk A530
                      clear A530
                      replace H := Option.bind_eq_some_iff.mp H
                      obtain ⟨t579, A540, H⟩ := H
                      replace H : ((impl_TurnInserted.f t576 t577 t578 t579 a2).bind fun bt582 => ((laws_eqIntS.f kj35 bt582.1 t551).bind fun t586 => (if t586 = true then (laws_FnExactTurnInserted.j2 kj35 t574 t573 (bt582.2 != t554)) else (laws_FnExactTurnInserted.j2 kj35 t574 t573 true)))) = some true := H
                      have A54 := Aside0.mk A540
                      clear A540
                      replace H := Option.bind_eq_some_iff.mp H
                      obtain ⟨⟨t582, t585⟩, A550, H⟩ := H
                      replace H : ((laws_eqIntS.f kj35 t582 t551).bind fun t586 => (if t586 = true then (laws_FnExactTurnInserted.j2 kj35 t574 t573 (t585 != t554)) else (laws_FnExactTurnInserted.j2 kj35 t574 t573 true))) = some true := H
                      have A55 := Aside0.mk A550
                      clear A550
                      have HC56 := Aside0.mk H
                      clear H
                      obtain ⟨Ao57, co57, eo57⟩ := Kd.R_slice HO_11.out
                      subst eo57
                      go_upto_region 25 with (first | ((with_reducible refine gate_callee (f := 34) rfl ?_); refine goesL_ (some 74) rfl rfl Try.func34 (by kernel_rfl) rfl #[.slice Ao57 t561.length co57, .int .i64 1] rfl (by (try simp only [List.map_toArray, List.map_cons, List.map_nil]); first | done | rfl | (simp only [List.length_drop, List.length_take]; rfl)) ?_; (with_reducible refine (laws_markIntS.calls kj35 (fun k_ => some k_ = (.slice Ao57 t561.length co57 : Value).ownBlock) (.slice Ao57 t561.length co57) t561 1 t573 t574 w _ ?side1 ?side2 A49.out).mono ?_); (case side1 => repeat (first | (with_reducible first | exact HB.out | apply below_alloc | apply pw_below_drewN | apply below_drew1 | refine below_set ?_ GE543.out) | exact HB.out)); (case side2 => exact Kd.R_tight rfl HO_11.out); rintro e w58 ⟨rfl, hy0, hb, hkp⟩; refine ⟨_, rfl, ?_⟩; have n0_ := Aside0.mk (Kd.R_mono (ok' := fun k_ => some k_ ≠ (.slice Ao57 t561.length co57 : Value).ownBlock) (Kd.R_keptB (HO_8.out) hkp (fun k_ hk_ hs_ => (hk_) hs_)) (fun k_ hk_ => hk_.1)); have n1_ := Aside0.mk (Kd.R_reok rfl hy0 (fun k_ e_ => HO_11.out.1 k_ e_)); have n2_ := Aside0.mk (blk_kept (by (with_reducible repeat (first | refine blk_drewN ?_ _ | refine blk_drew ?_ | refine blk_alloc ?_ _)); exact BK543.out) hkp (fun hs_ => (fun e_ => (Kd.R_ne HO_11.out BK543.out (by decide)) e_) hs_)); have n3_ := Aside0.mk (hb); clear HO_8; clear HO_11; clear BK543; clear HB; have HO_8 := n0_; have HO_11 := n1_; have BK543 := n2_; have HB := n3_; clear n0_ n1_ n2_ n3_; (try clear hb); (try clear hkp); (try clear hy0)) | ((with_reducible refine gate_callee (f := 35) rfl ?_); refine goesL_ (some 77) rfl rfl Try.func35 (by kernel_rfl) rfl #[.slice Ao57 t574.length co57, .int .i64 1] rfl (by (try simp only [List.map_toArray, List.map_cons, List.map_nil]); first | done | (rw [show t574.length = t561.length from (Kd.R_reads' HO_11.out).1.symm] <;> rfl) | rfl | (simp only [List.length_drop, List.length_take]; rfl)) ?_; (with_reducible refine (laws_heldIntS.calls kj35 _ _ t574 1 t575 _ ?side1 ?side2 A50.out).mono ?_); (case side1 => repeat (first | exact (Kd.R_reads' HO_11.out).2.2 | (with_reducible refine Kd.C_alloc ?_ _) | (with_reducible refine Kd.C_drewN ?_ _) | (with_reducible refine Kd.C_drew ?_))); (case side2 => rw [show t574.length = t561.length from (Kd.R_reads' HO_11.out).1.symm]; exact (Kd.R_reads' HO_11.out).2.1); rintro e w' ⟨rfl, ⟨nd, rfl⟩⟩; refine ⟨_, rfl, ?_⟩; have hcz59_0 : w58.cell? ⟨gb543, 0, none⟩ = some (.int .i64 a0_0) := (blk_cell BK543.out 0).trans rfl; have hcz59_1 : w58.cell? ⟨gb543, 1, none⟩ = some (.int .i64 a0_1) := (blk_cell BK543.out 1).trans rfl; have hcz59_2 : w58.cell? ⟨gb543, 2, none⟩ = some (.bool a0_2) := (blk_cell BK543.out 2).trans rfl; have hfz59_0 := blk_frozen BK543.out 0; have hfz59_1 := blk_frozen BK543.out 1; have hfz59_2 := blk_frozen BK543.out 2) | ((with_reducible refine gate_callee (f := 18) rfl ?_); refine goesL_ (some 85) rfl rfl Try.func18 (by kernel_rfl) rfl #[.agg #[.int .i64 a0_0, .int .i64 a0_1, .bool a0_2]] rfl (by (try simp only [List.map_toArray, List.map_cons, List.map_nil]); first | done | rfl | (simp only [List.length_drop, List.length_take]; rfl)) ?_; (with_reducible refine (laws_toInsertRing.calls a0_0 a0_1 a0_2 t576 t577 t578 _ A53.out).mono ?_); rintro e w60 ⟨rfl, hb⟩; refine ⟨_, rfl, ?_⟩; have n0_ := Aside0.mk (Kd.R_below (by (with_reducible repeat (first | apply Kd.R_alloc | apply Kd.R_drewN | apply Kd.R_drew)); exact HO_8.out) hb); have n1_ := Aside0.mk (Kd.R_below (by (with_reducible repeat (first | apply Kd.R_alloc | apply Kd.R_drewN | apply Kd.R_drew)); exact HO_11.out) hb); have n2_ := Aside0.mk (blk_below (g := gb543) (o := .cells #[.int .i64 a0_0, .int .i64 a0_1, .bool a0_2] 23 (0, 0)) (by (with_reducible repeat (first | refine blk_drewN ?_ _ | refine blk_drew ?_ | refine blk_alloc ?_ _)); exact BK543.out) hb); have n3_ := Aside0.mk (below_step (by repeat (first | (with_reducible first | exact HB.out | apply below_alloc | apply pw_below_drewN | apply below_drew1 | refine below_set ?_ GE543.out) | exact HB.out)) hb); clear HO_8; clear HO_11; clear BK543; clear HB; have HO_8 := n0_; have HO_11 := n1_; have BK543 := n2_; have HB := n3_; clear n0_ n1_ n2_ n3_; (try clear hb); (try clear hb2); (try clear hk); (try clear hi)) | ((with_reducible refine gate_callee (f := 19) rfl ?_); refine goesL_ (some 87) rfl rfl Try.func19 (by kernel_rfl) rfl #[.slice A1 l1.length c1] rfl (by (try simp only [List.map_toArray, List.map_cons, List.map_nil]); first | done | rfl | (simp only [List.length_drop, List.length_take]; rfl)) ?_; (with_reducible refine (laws_toMessageS.calls kj35 _ _ l1 t579 _ ?side1 ?side2 A54.out).mono ?_); (case side1 => repeat (first | exact (Kd.C_below HR1.out HB.out) | (with_reducible refine Kd.C_alloc ?_ _) | (with_reducible refine Kd.C_drewN ?_ _) | (with_reducible refine Kd.C_drew ?_))); (case side2 => exact HC1.out); rintro e w61 ⟨v580, rfl, ho0, hb⟩; refine ⟨_, rfl, ?_⟩; have n0_ := Aside0.mk (Kd.R_below (by (with_reducible repeat (first | apply Kd.R_alloc | apply Kd.R_drewN | apply Kd.R_drew)); exact HO_8.out) hb); have n1_ := Aside0.mk (Kd.R_below (by (with_reducible repeat (first | apply Kd.R_alloc | apply Kd.R_drewN | apply Kd.R_drew)); exact HO_11.out) hb); have n2_ := Aside0.mk (Kd.R_lower ho0 (below_size (by repeat (first | (with_reducible first | exact HB.out | apply below_alloc | apply pw_below_drewN | apply below_drew1 | refine below_set ?_ GE543.out) | exact HB.out)))); have n3_ := Aside0.mk (blk_below (g := gb543) (o := .cells #[.int .i64 a0_0, .int .i64 a0_1, .bool a0_2] 23 (0, 0)) (by (with_reducible repeat (first | refine blk_drewN ?_ _ | refine blk_drew ?_ | refine blk_alloc ?_ _)); exact BK543.out) hb); have n4_ := Aside0.mk (below_step (by repeat (first | (with_reducible first | exact HB.out | apply below_alloc | apply pw_below_drewN | apply below_drew1 | refine below_set ?_ GE543.out) | exact HB.out)) hb); clear HO_8; clear HO_11; clear BK543; clear HB; have HO_8 := n0_; have HO_11 := n1_; have HO581 := n2_; have BK543 := n3_; have HB := n4_; clear n0_ n1_ n2_ n3_ n4_; (try clear hb); (try clear hb2); (try clear hk); (try clear hi); (try clear ho0); obtain ⟨Ao62, co62, eo62⟩ := Kd.R_slice HO581.out; subst eo62) | ((with_reducible refine gate_callee (f := 48) rfl ?_); refine goesL_ (some 89) rfl rfl Try.func48 (by kernel_rfl) rfl #[.agg #[.int .i64 t576, .int .i64 t577, .bool t578], .slice Ao62 t579.length co62, .int .i64 a2] rfl (by (try simp only [List.map_toArray, List.map_cons, List.map_nil]); first | done | rfl | (simp only [List.length_drop, List.length_take]; rfl)) ?_; (with_reducible refine (impl_TurnInserted.calls t576 t577 t578 _ _ t579 a2 t582 t585 _ ?side1 ?side2 A55.out).mono ?_); (case side1 => repeat (first | exact (Kd.R_reads' HO581.out).2.2 | (with_reducible refine Kd.C_alloc ?_ _) | (with_reducible refine Kd.C_drewN ?_ _) | (with_reducible refine Kd.C_drew ?_))); (case side2 => exact (Kd.R_reads' HO581.out).2.1); rintro e w63 ⟨v583, rfl, ho0, hb⟩; refine ⟨_, rfl, ?_⟩; have n0_ := Aside0.mk (Kd.R_elder' (by (with_reducible repeat (first | apply Kd.R_alloc | apply Kd.R_drewN | apply Kd.R_drew)); exact HO_8.out) (Kd.R_base ho0) hb); have n1_ := Aside0.mk (Kd.R_elder' (by (with_reducible repeat (first | apply Kd.R_alloc | apply Kd.R_drewN | apply Kd.R_drew)); exact HO_11.out) (Kd.R_base ho0) hb); have n2_ := Aside0.mk (Kd.R_below (by (with_reducible repeat (first | apply Kd.R_alloc | apply Kd.R_drewN | apply Kd.R_drew)); exact HO581.out) hb); have n3_ := Aside0.mk (Kd.R_lower (Kd.R_new' (Kd.R_new' ho0 (Kd.R_lt (by (with_reducible repeat (first | apply Kd.R_alloc | apply Kd.R_drewN | apply Kd.R_drew)); exact HO_8.out))) (Kd.R_lt (by (with_reducible repeat (first | apply Kd.R_alloc | apply Kd.R_drewN | apply Kd.R_drew)); exact HO_11.out))) (below_size (by repeat (first | (with_reducible first | exact HB.out | apply below_alloc | apply pw_below_drewN | apply below_drew1 | refine below_set ?_ GE543.out) | exact HB.out)))); have n4_ := Aside0.mk (blk_below (g := gb543) (o := .cells #[.int .i64 a0_0, .int .i64 a0_1, .bool a0_2] 23 (0, 0)) (by (with_reducible repeat (first | refine blk_drewN ?_ _ | refine blk_drew ?_ | refine blk_alloc ?_ _)); exact BK543.out) hb); have n5_ := Aside0.mk (below_step (by repeat (first | (with_reducible first | exact HB.out | apply below_alloc | apply pw_below_drewN | apply below_drew1 | refine below_set ?_ GE543.out) | exact HB.out)) hb); clear HO_8; clear HO_11; clear HO581; clear BK543; clear HB; have HO_8 := n0_; have HO_11 := n1_; have HO581 := n2_; have HO584 := n3_; have BK543 := n4_; have HB := n5_; clear n0_ n1_ n2_ n3_ n4_ n5_; (try clear hb); (try clear hb2); (try clear hk); (try clear hi); (try clear ho0)))
                      (try simp only [Act.put, List.setIfInBounds_toArray, List.set_cons_zero, List.set_cons_succ])
                      go_cut [100] (fun v100 wc => ∃ (kq : Nat) (x100_55 : Bool), v100 = .bool x100_55 ∧ Aside0 (laws_FnExactTurnInserted.j2 kq t574 t573 x100_55 = some true) ∧ Aside0 (kq ≤ kj35) ∧ Aside0 (Kd.R (Kd.int .i64) 3 wc w.heap.size (fun _ => True) (.slice Ao57 t561.length co57) t574) ∧ Aside0 (wc.heap[gb543]? = some (.cells #[.int .i64 a0_0, .int .i64 a0_1, .bool a0_2] 23 (0, 0))) ∧ Aside0 (Below w.heap.size w wc))
                      case first =>
                        as_aux_lemma =>
                        have H := HC56.out
                        clear HC56
                        replace H := Option.bind_eq_some_iff.mp H
                        obtain ⟨t586, A640, H⟩ := H
                        replace H : (if t586 = true then (laws_FnExactTurnInserted.j2 kj35 t574 t573 (t585 != t554)) else (laws_FnExactTurnInserted.j2 kj35 t574 t573 true)) = some true := H
                        have A64 := Aside0.mk A640
                        clear A640
                        by_cases c65 : t586 = true
                        · subst c65
                          have H1 : (laws_FnExactTurnInserted.j2 kj35 t574 t573 (t585 != t554)) = some true := by rw [if_pos rfl] at H; exact H
                          clear H
                          have H := H1
                          clear H1
                          have H' := Aside0.mk H
                          clear H
                          obtain ⟨Ao66, co66, eo66⟩ := Kd.R_slice HO584.out
                          subst eo66
                          obtain ⟨Ao67, co67, eo67⟩ := Kd.R_slice HO_8.out
                          subst eo67
                          go_wp2_with (first | ((with_reducible refine gate_callee (f := 32) rfl ?_); refine goesL_ (some 94) rfl rfl Try.func32 (by kernel_rfl) rfl #[.slice Ao66 t582.length co66, .slice Ao67 t551.length co67] rfl (by (try simp only [List.map_toArray, List.map_cons, List.map_nil]); first | done | rfl | (simp only [List.length_drop, List.length_take]; rfl)) ?_; (with_reducible refine (laws_eqIntS.calls kj35 _ _ t582 _ _ t551 true _ ?side1 ?side2 ?side3 ?side4 A64.out).mono ?_); (case side1 => repeat (first | exact (Kd.R_reads' HO584.out).2.2 | (with_reducible refine Kd.C_alloc ?_ _) | (with_reducible refine Kd.C_drewN ?_ _) | (with_reducible refine Kd.C_drew ?_))); (case side2 => exact (Kd.R_reads' HO584.out).2.1); (case side3 => repeat (first | exact (Kd.R_reads' HO_8.out).2.2 | (with_reducible refine Kd.C_alloc ?_ _) | (with_reducible refine Kd.C_drewN ?_ _) | (with_reducible refine Kd.C_drew ?_))); (case side4 => exact (Kd.R_reads' HO_8.out).2.1); rintro e w' ⟨rfl, ⟨nd, rfl⟩⟩; refine ⟨_, rfl, ?_⟩))
                          go_meet
                          case rel => exact ⟨_, ((t585 != t554)), (by first | rfl | (simp; done) | (simp [*]; done)), H', ⟨by have := HJ12.out; have := HJ35.out; first | omega | exact Nat.le_refl _⟩, ⟨by (with_reducible repeat (first | apply Kd.R_alloc | apply Kd.R_drewN | apply Kd.R_drew)); exact Kd.R_mono HO_11.out (fun _ hk => trivial)⟩, ⟨by (with_reducible repeat (first | refine blk_drewN ?_ _ | refine blk_drew ?_ | refine blk_alloc ?_ _)); exact BK543.out⟩, ⟨by repeat (first | (with_reducible first | exact HB.out | apply below_alloc | apply pw_below_drewN | apply below_drew1 | refine below_set ?_ GE543.out) | exact HB.out)⟩⟩
                        · replace c65 := Bool.eq_false_iff.mpr c65
                          subst c65
                          have H1 : (laws_FnExactTurnInserted.j2 kj35 t574 t573 true) = some true := by rw [if_neg (show ¬ (false = true) by decide)] at H; exact H
                          clear H
                          have H := H1
                          clear H1
                          have H' := Aside0.mk H
                          clear H
                          obtain ⟨Ao68, co68, eo68⟩ := Kd.R_slice HO584.out
                          subst eo68
                          obtain ⟨Ao69, co69, eo69⟩ := Kd.R_slice HO_8.out
                          subst eo69
                          go_wp2_with (first | ((with_reducible refine gate_callee (f := 32) rfl ?_); refine goesL_ (some 94) rfl rfl Try.func32 (by kernel_rfl) rfl #[.slice Ao68 t582.length co68, .slice Ao69 t551.length co69] rfl (by (try simp only [List.map_toArray, List.map_cons, List.map_nil]); first | done | rfl | (simp only [List.length_drop, List.length_take]; rfl)) ?_; (with_reducible refine (laws_eqIntS.calls kj35 _ _ t582 _ _ t551 false _ ?side1 ?side2 ?side3 ?side4 A64.out).mono ?_); (case side1 => repeat (first | exact (Kd.R_reads' HO584.out).2.2 | (with_reducible refine Kd.C_alloc ?_ _) | (with_reducible refine Kd.C_drewN ?_ _) | (with_reducible refine Kd.C_drew ?_))); (case side2 => exact (Kd.R_reads' HO584.out).2.1); (case side3 => repeat (first | exact (Kd.R_reads' HO_8.out).2.2 | (with_reducible refine Kd.C_alloc ?_ _) | (with_reducible refine Kd.C_drewN ?_ _) | (with_reducible refine Kd.C_drew ?_))); (case side4 => exact (Kd.R_reads' HO_8.out).2.1); rintro e w' ⟨rfl, ⟨nd, rfl⟩⟩; refine ⟨_, rfl, ?_⟩))
                          go_meet
                          case rel => exact ⟨_, (true), (by first | rfl | (simp; done) | (simp [*]; done)), H', ⟨by have := HJ12.out; have := HJ35.out; first | omega | exact Nat.le_refl _⟩, ⟨by (with_reducible repeat (first | apply Kd.R_alloc | apply Kd.R_drewN | apply Kd.R_drew)); exact Kd.R_mono HO_11.out (fun _ hk => trivial)⟩, ⟨by (with_reducible repeat (first | refine blk_drewN ?_ _ | refine blk_drew ?_ | refine blk_alloc ?_ _)); exact BK543.out⟩, ⟨by repeat (first | (with_reducible first | exact HB.out | apply below_alloc | apply pw_below_drewN | apply below_drew1 | refine below_set ?_ GE543.out) | exact HB.out)⟩⟩
                      case rest =>
                        as_aux_lemma =>
                        clear HC56
                        try clear c1
                        try clear c2
                        try clear p2
                        try clear c3
                        try clear c4
                        try clear c5
                        try clear c5b0
                        try clear c6
                        try clear c13
                        try clear c16
                        try clear c18
                        try clear c19
                        try clear c21
                        try clear c26
                        try clear c31
                        try clear c32
                        try clear c33
                        try clear c34
                        try clear c35
                        try clear c41
                        try clear c41b0
                        try clear c43
                        try clear c47
                        try clear c48
                        try clear c51
                        try clear c51b0
                        try clear c52
                        try clear c52b0
                        try clear c52b1
                        try clear c65
                        try clear hcz15_0
                        try clear hcz15_1
                        try clear hcz15_2
                        try clear hcz21_0
                        try clear hcz21_1
                        try clear hcz21_2
                        try clear hcz59_0
                        try clear hcz59_1
                        try clear hcz59_2
                        try clear hfz15_0
                        try clear hfz15_1
                        try clear hfz15_2
                        try clear hfz21_0
                        try clear hfz21_1
                        try clear hfz21_2
                        try clear hfz59_0
                        try clear hfz59_1
                        try clear hfz59_2
                        try clear p2
                        obtain ⟨kq, x100_55, rfl, HA, HJ55, HO_11, BK543, HB⟩ := hcut
                        have hl11_55 := (Kd.R_reads' HO_11.out).1
                        rw [hl11_55] at HO_11
                        (try simp only [hl11_55])
                        (try simp only [hl11_55] at BK543)
                        cases kq with
                        | zero => exact absurd HA.out (by simp [laws_FnExactTurnInserted.j2])
                        | succ kj55 =>
                          have H := HA.out
                          clear HA
                          simp only [laws_FnExactTurnInserted.j2] at H
                          by_cases c70 : x100_55 = true
                          · subst c70
                            have H1 : (some false) = some true := by rw [if_pos rfl] at H; exact H
                            clear H
                            have H := H1
                            clear H1
                            exact absurd (Option.some.inj H) (by decide)
                          · replace c70 := Bool.eq_false_iff.mpr c70
                            subst c70
                            have H1 : ((laws_heldIntS.f kj55 t574 1).bind fun t587 => (if t587 < 0 then (some false) else (if t587 = t573 then (some true) else (some false)))) = some true := by rw [if_neg (show ¬ (false = true) by decide)] at H; exact H
                            clear H
                            have H := H1
                            clear H1
                            replace H := Option.bind_eq_some_iff.mp H
                            obtain ⟨t587, A710, H⟩ := H
                            replace H : (if t587 < 0 then (some false) else (if t587 = t573 then (some true) else (some false))) = some true := H
                            have A71 := Aside0.mk A710
                            clear A710
                            by_cases c72 : t587 < 0
                            · rw [if_pos c72] at H
                              have c72b0 : decide (t587 < 0) = true := decide_eq_true c72
                              clear c72
                              exact absurd (Option.some.inj H) (by decide)
                            · rw [if_neg c72] at H
                              have c72b0 : decide (t587 < 0) = false := decide_eq_false c72
                              clear c72
                              by_cases c73 : t587 = t573
                              · rw [if_pos c73] at H
                                have c73b0 : (t587 == t573) = true := beq_iff_eq.mpr c73
                                have c73b1 : (t587 != t573) = false := bne_eq_false_iff_eq.mpr c73
                                clear c73
                                (have H2_ := Option.some.inj H; clear H)
                                go_wp2_with (first | ((with_reducible refine gate_callee (f := 35) rfl ?_); refine goesL_ (some 103) rfl rfl Try.func35 (by kernel_rfl) rfl #[.slice Ao57 t574.length co57, .int .i64 1] rfl (by (try simp only [List.map_toArray, List.map_cons, List.map_nil]); first | done | rfl | (simp only [List.length_drop, List.length_take]; rfl)) ?_; (with_reducible refine (laws_heldIntS.calls kj55 _ _ t574 1 t587 _ ?side1 ?side2 A71.out).mono ?_); (case side1 => repeat (first | exact (Kd.R_reads' HO_11.out).2.2 | (with_reducible refine Kd.C_alloc ?_ _) | (with_reducible refine Kd.C_drewN ?_ _) | (with_reducible refine Kd.C_drew ?_))); (case side2 => exact (Kd.R_reads' HO_11.out).2.1); rintro e w' ⟨rfl, ⟨nd, rfl⟩⟩; refine ⟨_, rfl, ?_⟩))
                                go_ret
                                exact ⟨by first | rfl | (simp [errW_none, errW_some] <;> rfl) | (simp [*, errW_none, errW_some] <;> rfl), by repeat (first | (with_reducible first | exact HB.out | apply below_alloc | apply pw_below_drewN | apply below_drew1 | refine below_set ?_ GE543.out) | exact HB.out)⟩
                              · rw [if_neg c73] at H
                                have c73b0 : (t587 == t573) = false := beq_eq_false_iff_ne.mpr c73
                                have c73b1 : (t587 != t573) = true := bne_iff_ne.mpr c73
                                exact absurd (Option.some.inj H) (by decide)
                    · rw [if_neg c52] at H
                      have c52b0 : (t575 == t573) = false := beq_eq_false_iff_ne.mpr c52
                      have c52b1 : (t575 != t573) = true := bne_iff_ne.mpr c52
                      exact absurd (Option.some.inj H) (by decide)
          · replace c34 := Bool.eq_false_iff.mpr c34
            subst c34
            have H1 : (some false) = some true := by rw [if_neg (show ¬ (false = true) by decide)] at H; exact H
            clear H
            have H := H1
            clear H1
            exact absurd (Option.some.inj H) (by decide)

end Go.Proofs.Ytkfghiofmamdnaa.PA
