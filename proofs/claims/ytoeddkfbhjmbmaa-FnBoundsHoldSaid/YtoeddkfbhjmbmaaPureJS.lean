/- What a server sends, lets wait and holds up: the program and the reference tell the same; no condition but that the list is no longer than memory lets it be. -/
import Derived.Test.YtoeddkfbhjmbmaaPureI
import Derived.Test.YtoeddkfbhjmbmaaPureAll
import Derived.Test.YtoeddkfbhjmbmaaPB10
import Derived.Test.YtoeddkfbhjmbmaaPB6
import Derived.Test.YtoeddkfbhjmbmaaPB12
import Derived.Test.YtoeddkfbhjmbmaaPB3
namespace Go.Proofs.Ytoeddkfbhjmbmaa.PB
open Go.RowKit Go.Proofs.YtoeddkfbhjmbmaaW.PrintWords Go.Proofs.YtoeddkfbhjmbmaaW.PrintLast Go.Proofs.YtoeddkfbhjmbmaaW.PrintMore
def askedB (r lat : Int) (l : List Int) : Bool := (inB 1 100 r && inB 0 20 lat) && (decide ((l.length : Int) ≤ 40) && l.all fun x => inB 0 1000 x)
theorem asked_ok {r lat : Int} {l : List Int} (h : askedB r lat l = true) : Srv.Ok l r := by
  simp only [askedB, inB, Bool.and_eq_true, decide_eq_true_eq, List.all_eq_true] at h
  exact ⟨by omega, h.2.2, by omega⟩
def servedR (r lat : Int) (l : List Int) : List Int × Int × Int × Bool := if askedB r lat l = true then Srv.resI l r lat (Srv.search l r lat 100 0) else ([], 0, 0, false)
theorem asked_tells (r lat : Int) (l : List Int) (hl : l.length < 4611686018427387904) : Tells (fun k => spec_boAsked.f k r lat l) (askedB r lat l) := by
  obtain ⟨K, hK⟩ := l1All_tells 0 1000 l hl
  refine ⟨K, fun k hk => ?_⟩
  simp only [spec_boAsked.f, spec_boServer.f, spec_shRate.f, spec_shTraffic.f, in_tells, hK k hk, Option.bind_some, askedB]
  cases inB 1 100 r <;> cases inB 0 20 lat <;> by_cases c : (l.length : Int) ≤ 40 <;> simp [c]
theorem served_tells (r lat : Int) (l : List Int) (hl : l.length < 4611686018427387904) : Tells (fun k => impl_served.f k r lat l) (servedR r lat l) := by
  simp only [impl_served.f, impl_IsServer.f, impl_isRate.f, impl_IsTraffic.f, within_tells, impl_allWithin.f, if_pos hl, Option.bind_some]
  by_cases h : askedB r lat l = true
  · have hs := Srv.sent_tells (lat := lat) (asked_ok h)
    simp only [servedR, h, if_true]
    simp only [askedB, Bool.and_eq_true, decide_eq_true_eq] at h
    obtain ⟨⟨h1, h2⟩, h3, h4⟩ := h
    simp only [h1, h2, h3, h4, if_true, Option.bind_some]
    exact hs
  · simp only [servedR, h]
    simp only [askedB, Bool.and_eq_true, decide_eq_true_eq] at h
    refine Tells.now fun k => ?_
    cases h4 : (l.all fun x => inB 0 1000 x) <;> cases h1 : inB 1 100 r <;> cases h2 : inB 0 20 lat <;> by_cases c : (l.length : Int) ≤ 40 <;>
      first | (simp [c]; done) | exact absurd ⟨⟨h1, h2⟩, c, h4⟩ h
def servedOf (r lat : Int) (l : List Int) : List Int × Bool := ((servedR r lat l).1, (servedR r lat l).2.2.2)
theorem servedBy_tells (r lat : Int) (l : List Int) (hl : l.length < 4611686018427387904) : Tells (fun k => impl_ServedBy.f k r lat l) (servedOf r lat l) ∧ Tells (fun k => spec_ServedBy.f k r lat l) (servedOf r lat l) := by
  constructor
  · simp only [impl_ServedBy.f]
    exact Tells.bind (served_tells r lat l hl) (Tells.now fun _ => rfl)
  · simp only [spec_ServedBy.f]
    refine Tells.bind (asked_tells r lat l hl) ?_
    by_cases h : askedB r lat l = true
    · simp only [servedOf, servedR, h, if_true]
      refine Tells.bind (Srv.serve_tells (lat := lat) (asked_ok h)) ?_
      cases Srv.search l r lat 100 0 <;> exact Tells.now fun _ => rfl
    · simp only [servedOf, servedR, h]
      exact Tells.now fun _ => rfl
theorem servedOf_len (r lat : Int) (l : List Int) : (servedOf r lat l).1.length ≤ 100 := by
  simp only [servedOf, servedR]
  by_cases h : askedB r lat l = true
  · simp only [h, if_true]
    cases e : Srv.search l r lat 100 0 with
    | none => simp [Srv.resI]
    | some T =>
      have := Srv.search_stop 100 0 T e rfl
      simp only [Srv.resI, Srv.outs_len]
      omega
  · simp [h]
/-- The greatest of a list, and of what came before. -/
theorem backlog_l0 (ok : Bool) (l : List Int) (r lat : Int) (T : Nat) (hT : T ≤ 100) : ∀ (d i : Nat), i + d = T → Tells (fun k => spec_BacklogServed.l0 k ok (Srv.most l r lat i) (Srv.lefts l r lat T) (T : Int) (i : Int)) (Srv.most l r lat T, ok)
  | 0, i, hi => by
    obtain rfl : i = T := by omega
    refine Tells.succ ?_
    simp only [spec_BacklogServed.l0, if_neg (show ¬ (i : Int) < (i : Int) by omega)]
    exact Tells.now fun _ => rfl
  | d + 1, i, hi => by
    refine Tells.succ ?_
    have hrd : rd (Srv.lefts l r lat T) (i : Int) = Srv.B l r lat (i + 1) := by
      rw [rd_at _ _ (by rw [Srv.lefts_len]; omega)]
      simp [Srv.lefts]
    simp only [spec_BacklogServed.l0, Srv.lefts_len, if_pos (show (i : Int) < (T : Int) by omega), if_pos (show (0 : Int) ≤ (i : Int) by omega), hrd, Srv.most_eq, Option.bind_some]
    rw [w64 (x := (i : Int) + 1) (by omega) (by omega)]
    exact backlog_l0 ok l r lat T hT d (i + 1) (by omega)
def backlogOf (r lat : Int) (l : List Int) : Int × Bool := ((servedR r lat l).2.1, (servedR r lat l).2.2.2)
theorem backlog_tells (r lat : Int) (l : List Int) (hl : l.length < 4611686018427387904) : Tells (fun k => impl_BacklogServed.f k r lat l) (backlogOf r lat l) ∧ Tells (fun k => spec_BacklogServed.f k r lat l) (backlogOf r lat l) := by
  constructor
  · simp only [impl_BacklogServed.f]
    exact Tells.bind (served_tells r lat l hl) (Tells.now fun _ => rfl)
  · simp only [spec_BacklogServed.f]
    refine Tells.bind (asked_tells r lat l hl) ?_
    by_cases h : askedB r lat l = true
    · simp only [backlogOf, servedR, h, if_true]
      refine Tells.bind (Srv.serve_tells (lat := lat) (asked_ok h)) ?_
      cases e : Srv.search l r lat 100 0 with
      | none =>
        simp only [Srv.resS, Srv.resI]
        refine Tells.succ ?_
        simp only [spec_BacklogServed.l0]
        exact Tells.now fun _ => rfl
      | some T =>
        have := Srv.search_stop 100 0 T e rfl
        simp only [Srv.resS, Srv.resI, Srv.lefts_len]
        exact backlog_l0 true l r lat T this.2 T 0 (by omega)
    · simp only [backlogOf, servedR, h]
      exact Tells.now fun _ => rfl
def delayOf (r lat : Int) (l : List Int) : Int × Bool := ((servedR r lat l).2.2.1, (servedR r lat l).2.2.2)
theorem delay_tells (r lat : Int) (l : List Int) (hl : l.length < 4611686018427387904) : Tells (fun k => impl_DelayServed.f k r lat l) (delayOf r lat l) ∧ Tells (fun k => spec_DelayServed.f k r lat l) (delayOf r lat l) := by
  constructor
  · simp only [impl_DelayServed.f]
    exact Tells.bind (served_tells r lat l hl) (Tells.now fun _ => rfl)
  · simp only [spec_DelayServed.f]
    refine Tells.bind (asked_tells r lat l hl) ?_
    by_cases h : askedB r lat l = true
    · simp only [delayOf, servedR, h, if_true]
      refine Tells.bind (Srv.serve_tells (lat := lat) (asked_ok h)) ?_
      cases e : Srv.search l r lat 100 0 with
      | none => exact Tells.now fun _ => rfl
      | some T =>
        have := Srv.search_stop 100 0 T e rfl
        simp only [Srv.resS, Srv.resI, if_true]
        exact Tells.bind (Srv.delay_tells (asked_ok h) T this.2 this.1) (Tells.now fun _ => rfl)
    · simp only [delayOf, servedR, h]
      exact Tells.now fun _ => rfl
end Go.Proofs.Ytoeddkfbhjmbmaa.PB
