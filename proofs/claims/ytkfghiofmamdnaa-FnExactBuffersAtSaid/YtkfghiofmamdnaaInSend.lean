/- A station of an insertion ring sends: what the call comes to; no condition but what each theorem names. -/
import Derived.Test.YtkfghiofmamdnaaInOwn
import Derived.Test.YtkfghiofmamdnaaInWf
import Derived.Deep.RegionHeld3
import Derived.Deep.RegionLaw
import Derived.Deep.AppendLies
namespace Go.Proofs.Ytkfghiofmamdnaa.PA
open Go.RowKit Go.Proofs.YtkfghiofmamdnaaW.PrintWords Go.Proofs.YtkfghiofmamdnaaW.PrintLast Go.Proofs.YtkfghiofmamdnaaW.PrintMore
attribute [local go_sem] max2_int min2_int max_two min_two max_three min_three max_four min_four
set_option linter.unusedVariables false
set_option linter.unusedSimpArgs false
namespace Ins
set_option maxHeartbeats 2000000 in
set_option maxRecDepth 100000 in
theorem send_own (w0 w : World) (g gB cB : Nat) (vL vI vR : Value) (A : Option Addr) (c : Nat) (n room : Int) (ow : Bool) (ms : List S60) (t : Int) (st : St) (own : Int) (K : Nat) (h : Is74 w0 w g gB cB vL vI vR A c n room ow ms t st) (hw : Wf n ms.length K st) (h0 : 0 ≤ own) (h1 : own < n) (hO : ownB room ow t ms st own = true) :
    Calls Try.prog 90 #[.pointer (some ⟨g, 0, none⟩), .int .i64 own] w fun e w' => e = .returned (.int .i64 (sent room ow t ms st own)) ∧ Is74 w0 w' g gB cB vL vI vR A c n room ow ms t (sendS room ow t ms st own) := by
  obtain ⟨f, cur, HC, HG, HM, hc⟩ := h
  obtain ⟨o, rfl⟩ : ∃ o : Nat, own = (o : Int) := ⟨own.toNat, by omega⟩
  have hM1 := hw.M1
  have hb := hw.buf
  have hob : o < st.buf.length := by omega
  have hoc : o < cur.size := by rw [HC.len]; exact hob
  have hbl := hw.bk st.buf[o] (List.getElem_mem hob)
  have hQ := HC.buf o cur[o] st.buf[o] (Array.getElem?_eq_getElem hoc) (List.getElem?_eq_getElem hob)
  have hcurx : cur[o]? = some cur[o] := Array.getElem?_eq_getElem hoc
  have hgd : st.buf.getD o [] = st.buf[o] := by simp [List.getD_eq_getElem?_getD, List.getElem?_eq_getElem hob]
  obtain ⟨gL, cL, rfl, _, _⟩ := Kd.R_form HC.L (by have := hw.links; omega)
  have hcell : 0 ≤ ownC t ms st o := by simp only [ownB, Bool.and_eq_true, decide_eq_true_eq] at hO; exact hO.1
  have hcM : ownC t ms st o < ms.length := by have := ownC_range t ms st o; omega
  have e1 : sent room ow t ms st o = ownC t ms st o + 1 := by rw [sent, if_pos hO]
  have e2 : sendS room ow t ms st o = { st with ins := st.ins.set (ownC t ms st o).toNat t } := by rw [sendS, if_pos hO]
  rw [e1, e2]
  have hown : ∀ W, Below w.heap.size w W → Calls Try.prog 103 #[.pointer (some ⟨g, 0, none⟩), .int .i64 o] W fun e w' => e = .returned (.int .i64 (ownC t ms st o)) ∧ Below W.heap.size W w' := fun W hW =>
    ownCell_calls w0 W g n room ow ms t o st.peak A c _ _ vI vR st.ins _ (blk_below HG hW) (below_then HC.below HC.below.size hW) HM hc (Kd.R_below HC.I hW) hw.ins hM1
  obtain ⟨k, hk⟩ : ∃ k : Nat, ownC t ms st o = (k : Int) := ⟨(ownC t ms st o).toNat, by omega⟩
  have hO2 : (if ow = true then decide ((st.buf[o].length : Int) < room) else st.buf[o].isEmpty) = true := by
    simp only [ownB, Bool.and_eq_true] at hO
    have := hO.2
    rw [Int.toNat_natCast, hgd] at this
    exact this
  rw [hk] at hown hcM e1 ⊢
  obtain ⟨gI, cI, rfl, _, _⟩ := Kd.R_form HC.I (by have := hw.ins; omega)
  have HS := Aside0.mk (fun w1 (hb : Below w.heap.size w w1) => (HC.grow hb).ins_set (k : Int) t)
  simp only [Int.toNat_natCast] at HS ⊢
  have hki : k < st.ins.length := by have := hw.ins; omega
  have HC' := Aside0.mk HC
  have HG' := Aside0.mk HG
  have HM' := Aside0.mk HM
  have hc' := Aside0.mk hc
  have hQ' := Aside0.mk hQ
  have hcx := Aside0.mk hcurx
  have hown' := Aside0.mk hown
  have c5 : w.cell? ⟨g, 5, none⟩ = some (.slice (some ⟨gB, 0, none⟩) st.buf.length cB) := (blk_cell HG 5).trans rfl
  have c1 : w.cell? ⟨g, 1, none⟩ = some (.int .i64 room) := (blk_cell HG 1).trans rfl
  have c2 : w.cell? ⟨g, 2, none⟩ = some (.bool ow) := (blk_cell HG 2).trans rfl
  have c4 : w.cell? ⟨g, 4, none⟩ = some (.int .i64 t) := (blk_cell HG 4).trans rfl
  have c7 : w.cell? ⟨g, 7, none⟩ = some (.slice (some ⟨gI, 0, none⟩) st.ins.length cI) := (blk_cell HG 7).trans rfl
  have cb : w.cell? ⟨gB, o, none⟩ = some cur[o] := (blk_cell HC.blk o).trans hcurx
  obtain ⟨Au, cu, eu, hcu⟩ := Kd.Q_slice hQ
  have hne : g ≠ gI := by
    rintro rfl
    have e1 := HC.I.1 g rfl
    have e2 := HC.fg
    simp only at e1
    omega
  have hne' := Aside0.mk hne
  have hbl' := Aside0.mk hbl
  generalize hbo : st.buf[o] = bo at *
  generalize cur[o] = u at *
  subst eu
  clear hO hcell hcM e1 e2 hk hown HC HG HM hc hQ hcurx hgd hne hbl hcu
  have hret : IntKind.i64.wrap ((k : Int) + 1) = k + 1 := IntWalk.i64_in _ (by have := hw.ins; omega)
  cases ow with
  | true =>
    have hlt : decide ((bo.length : Int) < room) = true := by simpa using hO2
    clear hO2
    go_enter Try.func90, Try.ntmps90
    go_wp2
    go_region_held3 (fun w' => w'.cell? ⟨g, 5, none⟩ = some (.slice (some ⟨gB, 0, none⟩) st.buf.length cB) ∧ w'.cell? ⟨gB, o, none⟩ = some (.slice Au bo.length cu))
      (go_keep)
      ((go_at_call 103; (refine (hown'.out _ (pw_below_drewN (Below.refl _ _) _)).mono ?_); rintro e w1 ⟨rfl, hb1⟩; have hb2 := Aside0.mk (show Below w.heap.size w w1 from ⟨hb1.os, hb1.tape, hb1.output, hb1.size, hb1.block⟩); clear hb1; have s5 := pw_cell_below hb2.out c5; have sb := pw_cell_below hb2.out cb; have s1 := pw_cell_below hb2.out c1; have s2 := pw_cell_below hb2.out c2; have s4 := pw_cell_below hb2.out c4; have s7 := pw_cell_below hb2.out c7; obtain ⟨sI, fI⟩ := Kd.R_celln 0 (HC'.out.grow hb2.out).I (k : Int) (by omega) (by omega); simp only [Int.toNat_natCast] at sI fI))
    go_wp2
    go_region
    all_goals
      go_wp2
      go_ret
      exact ⟨rfl, Is74.drew_ ⟨f, cur, HS.out w1 hb2.out, blk_far (blk_below HG'.out hb2.out) hne'.out _, HM'.out, hc'.out⟩⟩
  | false =>
    have hem : bo = [] := by simpa using hO2
    have hle : bo.length = 0 := by rw [hem]; rfl
    have he0 : ((bo.length : Int) == 0) = true := by simp [hem]
    have hle' := Aside0.mk hle
    clear hO2 hem hle
    go_enter Try.func90, Try.ntmps90
    go_wp2
    go_region_held3 (fun w' => w'.cell? ⟨g, 5, none⟩ = some (.slice (some ⟨gB, 0, none⟩) st.buf.length cB) ∧ w'.cell? ⟨gB, o, none⟩ = some (.slice Au bo.length cu))
      (go_keep)
      ((go_at_call 103; (refine (hown'.out _ (pw_below_drewN (Below.refl _ _) _)).mono ?_); rintro e w1 ⟨rfl, hb1⟩; have hb2 := Aside0.mk (show Below w.heap.size w w1 from ⟨hb1.os, hb1.tape, hb1.output, hb1.size, hb1.block⟩); clear hb1; have s5 := pw_cell_below hb2.out c5; have sb := pw_cell_below hb2.out cb; have s1 := pw_cell_below hb2.out c1; have s2 := pw_cell_below hb2.out c2; have s4 := pw_cell_below hb2.out c4; have s7 := pw_cell_below hb2.out c7; obtain ⟨sI, fI⟩ := Kd.R_celln 0 (HC'.out.grow hb2.out).I (k : Int) (by omega) (by omega); simp only [Int.toNat_natCast] at sI fI))
    go_wp2
    go_region
    all_goals
      go_wp2
      go_ret
      exact ⟨rfl, Is74.drew_ ⟨f, cur, HS.out w1 hb2.out, blk_far (blk_below HG'.out hb2.out) hne'.out _, HM'.out, hc'.out⟩⟩
set_option maxHeartbeats 2000000 in
set_option maxRecDepth 100000 in
theorem send_none (w0 w : World) (g gB cB : Nat) (vL vI vR : Value) (A : Option Addr) (c : Nat) (n room : Int) (ow : Bool) (ms : List S60) (t : Int) (st : St) (own : Int) (K : Nat) (h : Is74 w0 w g gB cB vL vI vR A c n room ow ms t st) (hw : Wf n ms.length K st) (h0 : 0 ≤ own) (h1 : own < n) (hO : ownB room ow t ms st own = false) (hE : st.buf.getD own.toNat [] = []) :
    Calls Try.prog 90 #[.pointer (some ⟨g, 0, none⟩), .int .i64 own] w fun e w' => e = .returned (.int .i64 (sent room ow t ms st own)) ∧ Is74 w0 w' g gB cB vL vI vR A c n room ow ms t (sendS room ow t ms st own) := by
  obtain ⟨f, cur, HC, HG, HM, hc⟩ := h
  obtain ⟨o, rfl⟩ : ∃ o : Nat, own = (o : Int) := ⟨own.toNat, by omega⟩
  have hM1 := hw.M1
  have hb := hw.buf
  have hob : o < st.buf.length := by omega
  have hoc : o < cur.size := by rw [HC.len]; exact hob
  have hbl := hw.bk st.buf[o] (List.getElem_mem hob)
  have hQ := HC.buf o cur[o] st.buf[o] (Array.getElem?_eq_getElem hoc) (List.getElem?_eq_getElem hob)
  have hcurx : cur[o]? = some cur[o] := Array.getElem?_eq_getElem hoc
  have hgd : st.buf.getD o [] = st.buf[o] := by simp [List.getD_eq_getElem?_getD, List.getElem?_eq_getElem hob]
  obtain ⟨gL, cL, rfl, _, _⟩ := Kd.R_form HC.L (by have := hw.links; omega)
  have e1 : sent room ow t ms st o = 0 := by rw [sent, if_neg (by simp [hO]), hE]
  have e2 : sendS room ow t ms st o = { st with buf := st.buf.set o [] } := by rw [sendS, if_neg (by simp [hO]), Int.toNat_natCast, hgd]; rw [Int.toNat_natCast, hgd] at hE; rw [hE]; rfl
  rw [Int.toNat_natCast, hgd] at hE
  have e3 : st.buf.set o [] = st.buf := by rw [← hE, List.set_getElem_self]
  rw [e3] at e2
  rw [e1, e2]
  have hown : ∀ W, Below w.heap.size w W → Calls Try.prog 103 #[.pointer (some ⟨g, 0, none⟩), .int .i64 o] W fun e w' => e = .returned (.int .i64 (ownC t ms st o)) ∧ Below W.heap.size W w' := fun W hW =>
    ownCell_calls w0 W g n room ow ms t o st.peak A c _ _ vI vR st.ins _ (blk_below HG hW) (below_then HC.below HC.below.size hW) HM hc (Kd.R_below HC.I hW) hw.ins hM1
  have hO2 : (decide (0 ≤ ownC t ms st o) && (if ow = true then decide ((st.buf[o].length : Int) < room) else st.buf[o].isEmpty)) = false := by
    simp only [ownB] at hO
    rw [Int.toNat_natCast, hgd] at hO
    exact hO
  generalize hcell : ownC t ms st o = x at *
  have HW := Aside0.mk (show ∀ w1, Below w.heap.size w w1 → Is74 w0 w1 g gB cB (.slice (some ⟨gL, 0, none⟩) st.links.length cL) vI vR A c n room ow ms t st from fun w1 hb => ⟨f, cur, HC.grow hb, blk_below HG hb, HM, hc⟩)
  have hown' := Aside0.mk hown
  have c5 : w.cell? ⟨g, 5, none⟩ = some (.slice (some ⟨gB, 0, none⟩) st.buf.length cB) := (blk_cell HG 5).trans rfl
  have c1 : w.cell? ⟨g, 1, none⟩ = some (.int .i64 room) := (blk_cell HG 1).trans rfl
  have c2 : w.cell? ⟨g, 2, none⟩ = some (.bool ow) := (blk_cell HG 2).trans rfl
  have c4 : w.cell? ⟨g, 4, none⟩ = some (.int .i64 t) := (blk_cell HG 4).trans rfl
  have cb : w.cell? ⟨gB, o, none⟩ = some cur[o] := (blk_cell HC.blk o).trans hcurx
  obtain ⟨Au, cu, eu, hcu⟩ := Kd.Q_slice hQ
  generalize hbo : st.buf[o] = bo at *
  generalize cur[o] = u at *
  subst eu
  have hem := Aside0.mk hE
  have he0 : ((bo.length : Int) == 0) = true := by rw [hE]; rfl
  have hie : bo.isEmpty = true := by rw [hE]; rfl
  rw [hie] at hO2
  clear hO e1 e2 e3 hown HC HG HM hc hQ hcurx hgd hbl hcu hE hie hcell
  have hcc : (0 ≤ x ∧ ow = true ∧ ¬ (bo.length : Int) < room) ∨ x < 0 := by
    by_cases hx : 0 ≤ x
    · refine .inl ⟨hx, ?_⟩
      cases ow <;> simp_all
    · exact .inr (by omega)
  clear hO2
  rcases hcc with ⟨hx, rfl, hr⟩ | hx
  · have d0 : decide (0 ≤ x) = true := decide_eq_true hx
    have dr : decide ((bo.length : Int) < room) = false := decide_eq_false hr
    clear hx hr
    go_enter Try.func90, Try.ntmps90
    go_wp2
    go_region_held3 (fun w' => w'.cell? ⟨g, 5, none⟩ = some (.slice (some ⟨gB, 0, none⟩) st.buf.length cB) ∧ w'.cell? ⟨gB, o, none⟩ = some (.slice Au bo.length cu))
      (go_keep)
      ((go_at_call 103; (refine (hown'.out _ (pw_below_drewN (Below.refl _ _) _)).mono ?_); rintro e w1 ⟨rfl, hb1⟩; have hb2 := Aside0.mk (show Below w.heap.size w w1 from ⟨hb1.os, hb1.tape, hb1.output, hb1.size, hb1.block⟩); clear hb1; have s5 := pw_cell_below hb2.out c5; have sb := pw_cell_below hb2.out cb; have s1 := pw_cell_below hb2.out c1; have s2 := pw_cell_below hb2.out c2; have s4 := pw_cell_below hb2.out c4))
    go_wp2
    go_ret
    exact ⟨rfl, HW.out w1 hb2.out⟩
  · have d0 : decide (0 ≤ x) = false := decide_eq_false (by omega)
    cases ow with
    | true =>
      by_cases hr : (bo.length : Int) < room
      · have dr : decide ((bo.length : Int) < room) = true := decide_eq_true hr
        clear hx hr
        go_enter Try.func90, Try.ntmps90
        go_wp2
        go_region_held3 (fun w' => w'.cell? ⟨g, 5, none⟩ = some (.slice (some ⟨gB, 0, none⟩) st.buf.length cB) ∧ w'.cell? ⟨gB, o, none⟩ = some (.slice Au bo.length cu))
          (go_keep)
          ((go_at_call 103; (refine (hown'.out _ (pw_below_drewN (Below.refl _ _) _)).mono ?_); rintro e w1 ⟨rfl, hb1⟩; have hb2 := Aside0.mk (show Below w.heap.size w w1 from ⟨hb1.os, hb1.tape, hb1.output, hb1.size, hb1.block⟩); clear hb1; have s5 := pw_cell_below hb2.out c5; have sb := pw_cell_below hb2.out cb; have s1 := pw_cell_below hb2.out c1; have s2 := pw_cell_below hb2.out c2; have s4 := pw_cell_below hb2.out c4))
        go_wp2
        go_ret
        exact ⟨rfl, HW.out w1 hb2.out⟩
      · have dr : decide ((bo.length : Int) < room) = false := decide_eq_false hr
        clear hx hr
        go_enter Try.func90, Try.ntmps90
        go_wp2
        go_region_held3 (fun w' => w'.cell? ⟨g, 5, none⟩ = some (.slice (some ⟨gB, 0, none⟩) st.buf.length cB) ∧ w'.cell? ⟨gB, o, none⟩ = some (.slice Au bo.length cu))
          (go_keep)
          ((go_at_call 103; (refine (hown'.out _ (pw_below_drewN (Below.refl _ _) _)).mono ?_); rintro e w1 ⟨rfl, hb1⟩; have hb2 := Aside0.mk (show Below w.heap.size w w1 from ⟨hb1.os, hb1.tape, hb1.output, hb1.size, hb1.block⟩); clear hb1; have s5 := pw_cell_below hb2.out c5; have sb := pw_cell_below hb2.out cb; have s1 := pw_cell_below hb2.out c1; have s2 := pw_cell_below hb2.out c2; have s4 := pw_cell_below hb2.out c4))
        go_wp2
        go_ret
        exact ⟨rfl, HW.out w1 hb2.out⟩
    | false =>
      clear hx
      go_enter Try.func90, Try.ntmps90
      go_wp2
      go_region_held3 (fun w' => w'.cell? ⟨g, 5, none⟩ = some (.slice (some ⟨gB, 0, none⟩) st.buf.length cB) ∧ w'.cell? ⟨gB, o, none⟩ = some (.slice Au bo.length cu))
        (go_keep)
        ((go_at_call 103; (refine (hown'.out _ (pw_below_drewN (Below.refl _ _) _)).mono ?_); rintro e w1 ⟨rfl, hb1⟩; have hb2 := Aside0.mk (show Below w.heap.size w w1 from ⟨hb1.os, hb1.tape, hb1.output, hb1.size, hb1.block⟩); clear hb1; have s5 := pw_cell_below hb2.out c5; have sb := pw_cell_below hb2.out cb; have s1 := pw_cell_below hb2.out c1; have s2 := pw_cell_below hb2.out c2; have s4 := pw_cell_below hb2.out c4))
      go_wp2
      go_ret
      exact ⟨rfl, HW.out w1 hb2.out⟩
set_option maxHeartbeats 2000000 in
set_option maxRecDepth 100000 in
theorem send_pop (w0 w : World) (g gB cB : Nat) (vL vI vR : Value) (A : Option Addr) (c : Nat) (n room : Int) (ow : Bool) (ms : List S60) (t : Int) (st : St) (own : Int) (K : Nat) (h : Is74 w0 w g gB cB vL vI vR A c n room ow ms t st) (hw : Wf n ms.length K st) (h0 : 0 ≤ own) (h1 : own < n) (hO : ownB room ow t ms st own = false) (hE : st.buf.getD own.toNat [] ≠ []) :
    Calls Try.prog 90 #[.pointer (some ⟨g, 0, none⟩), .int .i64 own] w fun e w' => e = .returned (.int .i64 (sent room ow t ms st own)) ∧ Is74 w0 w' g gB cB vL vI vR A c n room ow ms t (sendS room ow t ms st own) := by
  obtain ⟨f, cur, HC, HG, HM, hc⟩ := h
  obtain ⟨o, rfl⟩ : ∃ o : Nat, own = (o : Int) := ⟨own.toNat, by omega⟩
  have hM1 := hw.M1
  have hb := hw.buf
  have hob : o < st.buf.length := by omega
  have hoc : o < cur.size := by rw [HC.len]; exact hob
  have hbl := hw.bk st.buf[o] (List.getElem_mem hob)
  have hQ := HC.buf o cur[o] st.buf[o] (Array.getElem?_eq_getElem hoc) (List.getElem?_eq_getElem hob)
  have hcurx : cur[o]? = some cur[o] := Array.getElem?_eq_getElem hoc
  have hgd : st.buf.getD o [] = st.buf[o] := by simp [List.getD_eq_getElem?_getD, List.getElem?_eq_getElem hob]
  obtain ⟨gL, cL, rfl, _, _⟩ := Kd.R_form HC.L (by have := hw.links; omega)
  rw [Int.toNat_natCast, hgd] at hE
  obtain ⟨y, tl, hyt⟩ : ∃ y tl, st.buf[o] = y :: tl := by
    cases hh : st.buf[o] with
    | nil => exact absurd hh hE
    | cons y tl => exact ⟨y, tl, rfl⟩
  have e1 : sent room ow t ms st o = y + 1 := by rw [sent, if_neg (by simp [hO]), Int.toNat_natCast, hgd, hyt]
  have e2 : sendS room ow t ms st o = { st with buf := st.buf.set o tl } := by rw [sendS, if_neg (by simp [hO]), Int.toNat_natCast, hgd, hyt]; rfl
  rw [e1, e2]
  have hown : ∀ W, Below w.heap.size w W → Calls Try.prog 103 #[.pointer (some ⟨g, 0, none⟩), .int .i64 o] W fun e w' => e = .returned (.int .i64 (ownC t ms st o)) ∧ Below W.heap.size W w' := fun W hW =>
    ownCell_calls w0 W g n room ow ms t o st.peak A c _ _ vI vR st.ins _ (blk_below HG hW) (below_then HC.below HC.below.size hW) HM hc (Kd.R_below HC.I hW) hw.ins hM1
  have hO2 : (decide (0 ≤ ownC t ms st o) && (if ow = true then decide ((st.buf[o].length : Int) < room) else st.buf[o].isEmpty)) = false := by
    simp only [ownB] at hO
    rw [Int.toNat_natCast, hgd] at hO
    exact hO
  generalize hcell : ownC t ms st o = x at *
  have hown' := Aside0.mk hown
  have c5 : w.cell? ⟨g, 5, none⟩ = some (.slice (some ⟨gB, 0, none⟩) st.buf.length cB) := (blk_cell HG 5).trans rfl
  have c1 : w.cell? ⟨g, 1, none⟩ = some (.int .i64 room) := (blk_cell HG 1).trans rfl
  have c2 : w.cell? ⟨g, 2, none⟩ = some (.bool ow) := (blk_cell HG 2).trans rfl
  have c4 : w.cell? ⟨g, 4, none⟩ = some (.int .i64 t) := (blk_cell HG 4).trans rfl
  have cb : w.cell? ⟨gB, o, none⟩ = some cur[o] := (blk_cell HC.blk o).trans hcurx
  rw [hyt] at hQ hbl hO2
  obtain ⟨gq, oq, cu, eu, _, _, _⟩ := Kd.Q_form hQ (by simp)
  have hy0 := hbl.2 y (by simp)
  have hbl' := Aside0.mk hbl
  rw [eu] at hcurx hQ cb
  have hcu : (y :: tl).length ≤ cu := (Kd.Q_reads' hQ).2.1
  obtain ⟨hq0, _⟩ := Kd.Q_cell 0 hQ 0 (by omega) (by simp)
  have hq0' : w.cell? ⟨gq, oq, none⟩ = some (.int .i64 y) := hq0
  clear hq0
  obtain ⟨i3, hi3, hz3⟩ := Option.map_eq_some_iff.1 info3
  simp only [Prod.mk.injEq] at hz3
  have hcut := cut_from (P := Try.prog) 38 3 .i64 Try.underlying38 hi3 1 hz3.2.1 (some ⟨gq, oq, none⟩) (y :: tl).length cu 1 (by omega) (by simp; omega)
  have hqd := fun w1 (hb : Below w.heap.size w w1) => Kd.Q_drop (k := 1) (Kd.Q_below hQ hb) (by simp)
  have hel : (Kd.int IntKind.i64).sz = 1 := rfl
  simp only [hel, List.drop_succ_cons, List.drop_zero] at hqd
  simp only [show (1 : Int).toNat = 1 from rfl] at hcut
  generalize hA1 : (if cu = 1 then some (⟨gq, oq, none⟩ : Addr) else Option.map (fun (x : Addr) => x.add (1 * 1)) (some (⟨gq, oq, none⟩ : Addr))) = A1 at hcut hqd
  have hl1 : (y :: tl).length - 1 = tl.length := by simp
  rw [hl1] at hcut hqd
  have hlc : (y :: tl).length = tl.length + 1 := rfl
  rw [hlc] at hcut cb hcurx
  have HS := Aside0.mk (fun w1 (hb : Below w.heap.size w w1) => (HC.grow hb).buf_put (hqd w1 hb))
  have HC' := Aside0.mk HC
  have HG' := Aside0.mk HG
  have HM' := Aside0.mk HM
  have hc' := Aside0.mk hc
  have hgq : f gq = 6 + o := hQ.1 gq rfl
  have hBg := HC.fB
  have hgg := HC.fg
  have nq1 : ¬ gq = gB := fun e => by rw [e] at hgq; omega
  have nq2 : ¬ gB = gq := fun e => nq1 e.symm
  have ng := Aside0.mk (show g ≠ gB from fun e => by rw [e] at hgg; omega)
  have hfB := Aside0.mk (fun w1 (hb : Below w.heap.size w w1) => blk_frozen (HC.grow hb).blk o)
  have he0 : ((((tl.length : Nat) : Int) + 1) == 0) = false := by simp; omega
  have hie : (y :: tl).isEmpty = false := rfl
  rw [hie, hlc] at hO2
  have hret : IntKind.i64.wrap (y + 1) = y + 1 := IntWalk.i64_in _ (by omega)
  clear hO e1 e2 hown HC HG HM hc hQ hcurx hgd hbl hcu hE hie hcell hqd hA1 hl1 hlc hel eu hgq hBg hgg hi3 hz3
  have hcc : (0 ≤ x ∧ (ow = false ∨ ¬ ((tl.length + 1 : Nat) : Int) < room)) ∨ x < 0 := by
    by_cases hx : 0 ≤ x
    · refine .inl ⟨hx, ?_⟩
      cases ow <;> simp_all
    · exact .inr (by omega)
  clear hO2
  rcases hcc with ⟨hx, rfl | hr⟩ | hx
  · have d0 : decide (0 ≤ x) = true := decide_eq_true hx
    clear hx
    go_enter Try.func90, Try.ntmps90
    go_wp2
    go_region_held3 (fun w' => w'.cell? ⟨g, 5, none⟩ = some (.slice (some ⟨gB, 0, none⟩) st.buf.length cB) ∧ w'.cell? ⟨gB, o, none⟩ = some (.slice (some ⟨gq, oq, none⟩) (tl.length + 1) cu))
      (go_keep)
      ((go_at_call 103; (refine (hown'.out _ (pw_below_drewN (Below.refl _ _) _)).mono ?_); rintro e w1 ⟨rfl, hb1⟩; have hb2 := Aside0.mk (show Below w.heap.size w w1 from ⟨hb1.os, hb1.tape, hb1.output, hb1.size, hb1.block⟩); clear hb1; have s5 := pw_cell_below hb2.out c5; have sb := pw_cell_below hb2.out cb; have s1 := pw_cell_below hb2.out c1; have s2 := pw_cell_below hb2.out c2; have s4 := pw_cell_below hb2.out c4; have sq := pw_cell_below hb2.out hq0'; have fB := hfB.out w1 hb2.out))
    go_wp2
    go_region
    all_goals
      go_wp2
      go_ret
      refine ⟨rfl, Is74.drew_ ⟨f, _, HS.out w1 hb2.out, ?_, HM'.out, hc'.out⟩⟩
      rw [List.length_set]
      exact blk_far (blk_below HG'.out hb2.out) ng.out _
  · have d0 : decide (0 ≤ x) = true := decide_eq_true hx
    have dr : decide ((tl.length : Int) + 1 < room) = false := decide_eq_false hr
    clear hx
    cases ow with
    | true =>
      clear hr
      go_enter Try.func90, Try.ntmps90
      go_wp2
      go_region_held3 (fun w' => w'.cell? ⟨g, 5, none⟩ = some (.slice (some ⟨gB, 0, none⟩) st.buf.length cB) ∧ w'.cell? ⟨gB, o, none⟩ = some (.slice (some ⟨gq, oq, none⟩) (tl.length + 1) cu))
        (go_keep)
        ((go_at_call 103; (refine (hown'.out _ (pw_below_drewN (Below.refl _ _) _)).mono ?_); rintro e w1 ⟨rfl, hb1⟩; have hb2 := Aside0.mk (show Below w.heap.size w w1 from ⟨hb1.os, hb1.tape, hb1.output, hb1.size, hb1.block⟩); clear hb1; have s5 := pw_cell_below hb2.out c5; have sb := pw_cell_below hb2.out cb; have s1 := pw_cell_below hb2.out c1; have s2 := pw_cell_below hb2.out c2; have s4 := pw_cell_below hb2.out c4; have sq := pw_cell_below hb2.out hq0'; have fB := hfB.out w1 hb2.out))
      go_wp2
      go_region
      all_goals
        go_wp2
        go_ret
        refine ⟨rfl, Is74.drew_ ⟨f, _, HS.out w1 hb2.out, ?_, HM'.out, hc'.out⟩⟩
        rw [List.length_set]
        exact blk_far (blk_below HG'.out hb2.out) ng.out _
    | false =>
      clear hr
      go_enter Try.func90, Try.ntmps90
      go_wp2
      go_region_held3 (fun w' => w'.cell? ⟨g, 5, none⟩ = some (.slice (some ⟨gB, 0, none⟩) st.buf.length cB) ∧ w'.cell? ⟨gB, o, none⟩ = some (.slice (some ⟨gq, oq, none⟩) (tl.length + 1) cu))
        (go_keep)
        ((go_at_call 103; (refine (hown'.out _ (pw_below_drewN (Below.refl _ _) _)).mono ?_); rintro e w1 ⟨rfl, hb1⟩; have hb2 := Aside0.mk (show Below w.heap.size w w1 from ⟨hb1.os, hb1.tape, hb1.output, hb1.size, hb1.block⟩); clear hb1; have s5 := pw_cell_below hb2.out c5; have sb := pw_cell_below hb2.out cb; have s1 := pw_cell_below hb2.out c1; have s2 := pw_cell_below hb2.out c2; have s4 := pw_cell_below hb2.out c4; have sq := pw_cell_below hb2.out hq0'; have fB := hfB.out w1 hb2.out))
      go_wp2
      go_region
      all_goals
        go_wp2
        go_ret
        refine ⟨rfl, Is74.drew_ ⟨f, _, HS.out w1 hb2.out, ?_, HM'.out, hc'.out⟩⟩
        rw [List.length_set]
        exact blk_far (blk_below HG'.out hb2.out) ng.out _
  · have d0 : decide (0 ≤ x) = false := decide_eq_false (by omega)
    cases ow with
    | true =>
      by_cases hr : (tl.length : Int) + 1 < room
      · have dr : decide ((tl.length : Int) + 1 < room) = true := decide_eq_true hr
        clear hx hr
        go_enter Try.func90, Try.ntmps90
        go_wp2
        go_region_held3 (fun w' => w'.cell? ⟨g, 5, none⟩ = some (.slice (some ⟨gB, 0, none⟩) st.buf.length cB) ∧ w'.cell? ⟨gB, o, none⟩ = some (.slice (some ⟨gq, oq, none⟩) (tl.length + 1) cu))
          (go_keep)
          ((go_at_call 103; (refine (hown'.out _ (pw_below_drewN (Below.refl _ _) _)).mono ?_); rintro e w1 ⟨rfl, hb1⟩; have hb2 := Aside0.mk (show Below w.heap.size w w1 from ⟨hb1.os, hb1.tape, hb1.output, hb1.size, hb1.block⟩); clear hb1; have s5 := pw_cell_below hb2.out c5; have sb := pw_cell_below hb2.out cb; have s1 := pw_cell_below hb2.out c1; have s2 := pw_cell_below hb2.out c2; have s4 := pw_cell_below hb2.out c4; have sq := pw_cell_below hb2.out hq0'; have fB := hfB.out w1 hb2.out))
        go_wp2
        go_region
        all_goals
          go_wp2
          go_ret
          refine ⟨rfl, Is74.drew_ ⟨f, _, HS.out w1 hb2.out, ?_, HM'.out, hc'.out⟩⟩
          rw [List.length_set]
          exact blk_far (blk_below HG'.out hb2.out) ng.out _
      · have dr : decide ((tl.length : Int) + 1 < room) = false := decide_eq_false hr
        clear hx hr
        go_enter Try.func90, Try.ntmps90
        go_wp2
        go_region_held3 (fun w' => w'.cell? ⟨g, 5, none⟩ = some (.slice (some ⟨gB, 0, none⟩) st.buf.length cB) ∧ w'.cell? ⟨gB, o, none⟩ = some (.slice (some ⟨gq, oq, none⟩) (tl.length + 1) cu))
          (go_keep)
          ((go_at_call 103; (refine (hown'.out _ (pw_below_drewN (Below.refl _ _) _)).mono ?_); rintro e w1 ⟨rfl, hb1⟩; have hb2 := Aside0.mk (show Below w.heap.size w w1 from ⟨hb1.os, hb1.tape, hb1.output, hb1.size, hb1.block⟩); clear hb1; have s5 := pw_cell_below hb2.out c5; have sb := pw_cell_below hb2.out cb; have s1 := pw_cell_below hb2.out c1; have s2 := pw_cell_below hb2.out c2; have s4 := pw_cell_below hb2.out c4; have sq := pw_cell_below hb2.out hq0'; have fB := hfB.out w1 hb2.out))
        go_wp2
        go_region
        all_goals
          go_wp2
          go_ret
          refine ⟨rfl, Is74.drew_ ⟨f, _, HS.out w1 hb2.out, ?_, HM'.out, hc'.out⟩⟩
          rw [List.length_set]
          exact blk_far (blk_below HG'.out hb2.out) ng.out _
    | false =>
      clear hx
      go_enter Try.func90, Try.ntmps90
      go_wp2
      go_region_held3 (fun w' => w'.cell? ⟨g, 5, none⟩ = some (.slice (some ⟨gB, 0, none⟩) st.buf.length cB) ∧ w'.cell? ⟨gB, o, none⟩ = some (.slice (some ⟨gq, oq, none⟩) (tl.length + 1) cu))
        (go_keep)
        ((go_at_call 103; (refine (hown'.out _ (pw_below_drewN (Below.refl _ _) _)).mono ?_); rintro e w1 ⟨rfl, hb1⟩; have hb2 := Aside0.mk (show Below w.heap.size w w1 from ⟨hb1.os, hb1.tape, hb1.output, hb1.size, hb1.block⟩); clear hb1; have s5 := pw_cell_below hb2.out c5; have sb := pw_cell_below hb2.out cb; have s1 := pw_cell_below hb2.out c1; have s2 := pw_cell_below hb2.out c2; have s4 := pw_cell_below hb2.out c4; have sq := pw_cell_below hb2.out hq0'; have fB := hfB.out w1 hb2.out))
      go_wp2
      go_region
      all_goals
        go_wp2
        go_ret
        refine ⟨rfl, Is74.drew_ ⟨f, _, HS.out w1 hb2.out, ?_, HM'.out, hc'.out⟩⟩
        rw [List.length_set]
        exact blk_far (blk_below HG'.out hb2.out) ng.out _
theorem send_calls (w0 w : World) (g gB cB : Nat) (vL vI vR : Value) (A : Option Addr) (c : Nat) (n room : Int) (ow : Bool) (ms : List S60) (t : Int) (st : St) (own : Int) (K : Nat) (h : Is74 w0 w g gB cB vL vI vR A c n room ow ms t st) (hw : Wf n ms.length K st) (h0 : 0 ≤ own) (h1 : own < n) :
    Calls Try.prog 90 #[.pointer (some ⟨g, 0, none⟩), .int .i64 own] w fun e w' => e = .returned (.int .i64 (sent room ow t ms st own)) ∧ Is74 w0 w' g gB cB vL vI vR A c n room ow ms t (sendS room ow t ms st own) := by
  by_cases hO : ownB room ow t ms st own = true
  · exact send_own w0 w g gB cB vL vI vR A c n room ow ms t st own K h hw h0 h1 hO
  · rw [Bool.not_eq_true] at hO
    by_cases hE : st.buf.getD own.toNat [] = []
    · exact send_none w0 w g gB cB vL vI vR A c n room ow ms t st own K h hw h0 h1 hO hE
    · exact send_pop w0 w g gB cB vL vI vR A c n room ow ms t st own K h hw h0 h1 hO hE
end Ins
end Go.Proofs.Ytkfghiofmamdnaa.PA
