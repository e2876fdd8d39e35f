/- The laws on ServedBy, BacklogServed and DelayServed come to true; no condition but that the list is no longer than memory lets it be. -/
import Derived.Test.YtoeddkfbhjmbmaaPureI
import Derived.Test.YtoeddkfbhjmbmaaPureF
import Derived.Test.YtoeddkfbhjmbmaaPureMark
import Derived.Test.YtoeddkfbhjmbmaaPureTo
import Derived.Test.YtoeddkfbhjmbmaaPureEq
import Derived.Test.YtoeddkfbhjmbmaaKit
import Derived.Test.YtoeddkfbhjmbmaaPA31
import Derived.Test.YtoeddkfbhjmbmaaPA27
import Derived.Test.YtoeddkfbhjmbmaaPA34
namespace Go.Proofs.Ytoeddkfbhjmbmaa.PA
open Go.RowKit Go.Proofs.YtoeddkfbhjmbmaaW.PrintWords Go.Proofs.YtoeddkfbhjmbmaaW.PrintLast Go.Proofs.YtoeddkfbhjmbmaaW.PrintMore
def askedB (r lat : Int) (l : List Int) : Bool := (inB 1 100 r && inB 0 20 lat) && (decide ((l.length : Int) ≤ 40) && l.all fun x => inB 0 1000 x)
theorem asked_ok {r lat : Int} {l : List Int} (h : askedB r lat l = true) : Srv.Ok l r := by
  simp only [askedB, inB, Bool.and_eq_true, decide_eq_true_eq, List.all_eq_true] at h
  exact ⟨by omega, h.2.2, by omega⟩
def servedR (r lat : Int) (l : List Int) : List Int × Int × Int × Bool := if askedB r lat l = true then Srv.resI l r lat (Srv.search l r lat 100 0) else ([], 0, 0, false)
theorem asked_tells (r lat : Int) (l : List Int) (hl : l.length < 4611686018427387904) : Tells (fun k => spec_boAsked.f k r lat l) (askedB r lat l) := by
  obtain ⟨K, hK⟩ := l1All_tells 0 1000 l hl
  refine ⟨K, fun k hk => ?_⟩
  simp only [spec_boAsked.f, spec_boServer.f, spec_shRate.f, spec_shTraffic.f, in_tells, hK k hk, Option.bind_some, askedB]
  cases inB 1 100 r <;> cases inB 0 20 lat <;> by_cases c : (l.length : Int) ≤ 40 <;> simp [c]
theorem served_tells (r lat : Int) (l : List Int) (hl : l.length < 4611686018427387904) : Tells (fun k => impl_served.f k r lat l) (servedR r lat l) := by
  simp only [impl_served.f, impl_IsServer.f, impl_isRate.f, impl_IsTraffic.f, within_tells, impl_allWithin.f, if_pos hl, Option.bind_some]
  by_cases h : askedB r lat l = true
  · have hs := Srv.sent_tells (lat := lat) (asked_ok h)
    simp only [servedR, h, if_true]
    simp only [askedB, Bool.and_eq_true, decide_eq_true_eq] at h
    obtain ⟨⟨h1, h2⟩, h3, h4⟩ := h
    simp only [h1, h2, h3, h4, if_true, Option.bind_some]
    exact hs
  · simp only [servedR, h]
    simp only [askedB, Bool.and_eq_true, decide_eq_true_eq] at h
    refine Tells.now fun k => ?_
    cases h4 : (l.all fun x => inB 0 1000 x) <;> cases h1 : inB 1 100 r <;> cases h2 : inB 0 20 lat <;> by_cases c : (l.length : Int) ≤ 40 <;>
      first | (simp [c]; done) | exact absurd ⟨⟨h1, h2⟩, c, h4⟩ h
def servedOf (r lat : Int) (l : List Int) : List Int × Bool := ((servedR r lat l).1, (servedR r lat l).2.2.2)
theorem servedBy_tells (r lat : Int) (l : List Int) (hl : l.length < 4611686018427387904) : Tells (fun k => impl_ServedBy.f k r lat l) (servedOf r lat l) ∧ Tells (fun k => spec_ServedBy.f k r lat l) (servedOf r lat l) := by
  constructor
  · simp only [impl_ServedBy.f]
    exact Tells.bind (served_tells r lat l hl) (Tells.now fun _ => rfl)
  · simp only [spec_ServedBy.f]
    refine Tells.bind (asked_tells r lat l hl) ?_
    by_cases h : askedB r lat l = true
    · simp only [servedOf, servedR, h, if_true]
      refine Tells.bind (Srv.serve_tells (lat := lat) (asked_ok h)) ?_
      cases Srv.search l r lat 100 0 <;> exact Tells.now fun _ => rfl
    · simp only [servedOf, servedR, h]
      exact Tells.now fun _ => rfl
theorem servedOf_len (r lat : Int) (l : List Int) : (servedOf r lat l).1.length ≤ 100 := by
  simp only [servedOf, servedR]
  by_cases h : askedB r lat l = true
  · simp only [h, if_true]
    cases e : Srv.search l r lat 100 0 with
    | none => simp [Srv.resI]
    | some T =>
      have := Srv.search_stop 100 0 T e rfl
      simp only [Srv.resI, Srv.outs_len]
      omega
  · simp [h]
/-- The greatest of a list, and of what came before. -/
theorem backlog_l0 (ok : Bool) (l : List Int) (r lat : Int) (T : Nat) (hT : T ≤ 100) : ∀ (d i : Nat), i + d = T → Tells (fun k => spec_BacklogServed.l0 k ok (Srv.most l r lat i) (Srv.lefts l r lat T) (T : Int) (i : Int)) (Srv.most l r lat T, ok)
  | 0, i, hi => by
    obtain rfl : i = T := by omega
    refine Tells.succ ?_
    simp only [spec_BacklogServed.l0, if_neg (show ¬ (i : Int) < (i : Int) by omega)]
    exact Tells.now fun _ => rfl
  | d + 1, i, hi => by
    refine Tells.succ ?_
    have hrd : rd (Srv.lefts l r lat T) (i : Int) = Srv.B l r lat (i + 1) := by
      rw [rd_at _ _ (by rw [Srv.lefts_len]; omega)]
      simp [Srv.lefts]
    simp only [spec_BacklogServed.l0, Srv.lefts_len, if_pos (show (i : Int) < (T : Int) by omega), if_pos (show (0 : Int) ≤ (i : Int) by omega), hrd, Srv.most_eq, Option.bind_some]
    rw [w64 (x := (i : Int) + 1) (by omega) (by omega)]
    exact backlog_l0 ok l r lat T hT d (i + 1) (by omega)
def backlogOf (r lat : Int) (l : List Int) : Int × Bool := ((servedR r lat l).2.1, (servedR r lat l).2.2.2)
theorem backlog_tells (r lat : Int) (l : List Int) (hl : l.length < 4611686018427387904) : Tells (fun k => impl_BacklogServed.f k r lat l) (backlogOf r lat l) ∧ Tells (fun k => spec_BacklogServed.f k r lat l) (backlogOf r lat l) := by
  constructor
  · simp only [impl_BacklogServed.f]
    exact Tells.bind (served_tells r lat l hl) (Tells.now fun _ => rfl)
  · simp only [spec_BacklogServed.f]
    refine Tells.bind (asked_tells r lat l hl) ?_
    by_cases h : askedB r lat l = true
    · simp only [backlogOf, servedR, h, if_true]
      refine Tells.bind (Srv.serve_tells (lat := lat) (asked_ok h)) ?_
      cases e : Srv.search l r lat 100 0 with
      | none =>
        simp only [Srv.resS, Srv.resI]
        refine Tells.succ ?_
        simp only [spec_BacklogServed.l0]
        exact Tells.now fun _ => rfl
      | some T =>
        have := Srv.search_stop 100 0 T e rfl
        simp only [Srv.resS, Srv.resI, Srv.lefts_len]
        exact backlog_l0 true l r lat T this.2 T 0 (by omega)
    · simp only [backlogOf, servedR, h]
      exact Tells.now fun _ => rfl
def delayOf (r lat : Int) (l : List Int) : Int × Bool := ((servedR r lat l).2.2.1, (servedR r lat l).2.2.2)
theorem delay_tells (r lat : Int) (l : List Int) (hl : l.length < 4611686018427387904) : Tells (fun k => impl_DelayServed.f k r lat l) (delayOf r lat l) ∧ Tells (fun k => spec_DelayServed.f k r lat l) (delayOf r lat l) := by
  constructor
  · simp only [impl_DelayServed.f]
    exact Tells.bind (served_tells r lat l hl) (Tells.now fun _ => rfl)
  · simp only [spec_DelayServed.f]
    refine Tells.bind (asked_tells r lat l hl) ?_
    by_cases h : askedB r lat l = true
    · simp only [delayOf, servedR, h, if_true]
      refine Tells.bind (Srv.serve_tells (lat := lat) (asked_ok h)) ?_
      cases e : Srv.search l r lat 100 0 with
      | none => exact Tells.now fun _ => rfl
      | some T =>
        have := Srv.search_stop 100 0 T e rfl
        simp only [Srv.resS, Srv.resI, if_true]
        exact Tells.bind (Srv.delay_tells (asked_ok h) T this.2 this.1) (Tells.now fun _ => rfl)
    · simp only [delayOf, servedR, h]
      exact Tells.now fun _ => rfl
theorem markTo_tells (l : List Int) (hl : l.length < 4611686018427387900) : Tells (fun k => laws_markIntS.f k l 1) (1 + (l.length : Int), marked 1 l.length) := ⟨l.length + 1, fun k hk => markIntS_tells l hl (by omega)⟩
theorem heldTo_tells (n : Nat) (hn : n < 4611686018427387900) : Tells (fun k => laws_heldIntS.f k (marked 1 n) 1) (1 + (n : Int)) := ⟨n + 1, fun k hk => heldIntS_tells n hn (by omega)⟩
theorem backlogServed_pure (r lat : Int) (l : List Int) (hl : l.length ≤ 17592186044416) : ∃ k, laws_FnExactBacklogServed.f k r lat l = some true := by
  refine Tells.at_ ?_
  simp only [laws_FnExactBacklogServed.f]
  by_cases c : (l.length : Int) > 1048576
  · simp only [c, if_true]
    exact Tells.now fun _ => rfl
  simp only [c, if_false, laws_toServer.f, Option.bind_some]
  obtain ⟨h1, h2⟩ := backlog_tells r lat l (by omega)
  refine Tells.bind (toIntS_tells l hl) ?_
  refine Tells.bind h2 ?_
  refine Tells.bind (toIntS_tells l hl) ?_
  refine Tells.bind h1 ?_
  simp only [if_true, bne_self_eq_false]
  refine Tells.succ ?_
  simp only [laws_FnExactBacklogServed.j0, Bool.false_eq_true, if_false]
  refine Tells.bind (toIntS_tells l hl) ?_
  refine Tells.bind (eqIntS_tells l (by omega)) ?_
  exact Tells.now fun _ => rfl
theorem delayServed_pure (r lat : Int) (l : List Int) (hl : l.length ≤ 17592186044416) : ∃ k, laws_FnExactDelayServed.f k r lat l = some true := by
  refine Tells.at_ ?_
  simp only [laws_FnExactDelayServed.f]
  by_cases c : (l.length : Int) > 1048576
  · simp only [c, if_true]
    exact Tells.now fun _ => rfl
  simp only [c, if_false, laws_toServer.f, Option.bind_some]
  obtain ⟨h1, h2⟩ := delay_tells r lat l (by omega)
  refine Tells.bind (toIntS_tells l hl) ?_
  refine Tells.bind h2 ?_
  refine Tells.bind (toIntS_tells l hl) ?_
  refine Tells.bind h1 ?_
  simp only [if_true, bne_self_eq_false]
  refine Tells.succ ?_
  simp only [laws_FnExactDelayServed.j0, Bool.false_eq_true, if_false]
  refine Tells.bind (toIntS_tells l hl) ?_
  refine Tells.bind (eqIntS_tells l (by omega)) ?_
  exact Tells.now fun _ => rfl
theorem servedBy_pure (r lat : Int) (l : List Int) (hl : l.length ≤ 17592186044416) : ∃ k, laws_FnExactServedBy.f k r lat l = some true := by
  refine Tells.at_ ?_
  simp only [laws_FnExactServedBy.f]
  by_cases c : (l.length : Int) > 1048576
  · simp only [c, if_true]
    exact Tells.now fun _ => rfl
  simp only [c, if_false, laws_toServer.f, Option.bind_some]
  obtain ⟨h1, h2⟩ := servedBy_tells r lat l (by omega)
  have hlen := servedOf_len r lat l
  refine Tells.bind (toIntS_tells l hl) ?_
  refine Tells.bind h2 ?_
  refine Tells.bind (toIntS_tells l hl) ?_
  refine Tells.bind h1 ?_
  refine Tells.bind (eqIntS_tells _ (by omega)) ?_
  simp only [if_true, bne_self_eq_false]
  refine Tells.succ ?_
  simp only [laws_FnExactServedBy.j0, Bool.false_eq_true, if_false]
  refine Tells.bind (toIntS_tells l hl) ?_
  refine Tells.bind (eqIntS_tells l (by omega)) ?_
  simp only [if_true]
  refine Tells.bind (markTo_tells l (by omega)) ?_
  simp only [if_neg (show ¬ 1 + (l.length : Int) < 0 by omega)]
  refine Tells.bind (eqIntS_tells _ (by omega)) ?_
  simp only [if_true, bne_self_eq_false]
  refine Tells.succ ?_
  simp only [laws_FnExactServedBy.j1, Bool.false_eq_true, if_false]
  refine Tells.bind (markTo_tells _ (by omega)) ?_
  refine Tells.bind (heldTo_tells _ (by omega)) ?_
  simp only [if_neg (show ¬ 1 + (((servedOf r lat l).1.length : Nat) : Int) < 0 by omega), if_true, laws_toServer.f, Option.bind_some]
  refine Tells.bind (toIntS_tells l hl) ?_
  refine Tells.bind h1 ?_
  refine Tells.bind (eqIntS_tells _ (by omega)) ?_
  simp only [if_true, bne_self_eq_false]
  refine Tells.succ ?_
  simp only [laws_FnExactServedBy.j2, Bool.false_eq_true, if_false]
  refine Tells.bind (heldTo_tells _ (by omega)) ?_
  simp only [if_neg (show ¬ 1 + (((servedOf r lat l).1.length : Nat) : Int) < 0 by omega), if_true]
  exact Tells.now fun _ => rfl
theorem core_FnExactServedBy (r lat : Int) (A : Option Addr) (c : Nat) (l : List Int) (W : World) (_ : (Lit.int .i64 r).wf = true ∧ (Lit.int .i64 lat).wf = true) (h : Kd.C (Kd.int .i64) W A l.length l ∧ l.length ≤ c ∧ l.length ≤ 17592186044416 ∧ ∀ x ∈ l, (Lit.int .i64 x).wf = true) :
    Calls Try.prog 7 #[.agg #[.int .i64 r, .int .i64 lat], .slice A l.length c] W fun e W' => e = .returned (.bool true) ∧ Below W.heap.size W W' := by
  obtain ⟨k, hk⟩ := servedBy_pure r lat l h.2.2.1
  exact laws_FnExactServedBy.calls k r lat A c l W h.1 h.2.1 hk
theorem core_FnExactBacklogServed (r lat : Int) (A : Option Addr) (c : Nat) (l : List Int) (W : World) (_ : (Lit.int .i64 r).wf = true ∧ (Lit.int .i64 lat).wf = true) (h : Kd.C (Kd.int .i64) W A l.length l ∧ l.length ≤ c ∧ l.length ≤ 17592186044416 ∧ ∀ x ∈ l, (Lit.int .i64 x).wf = true) :
    Calls Try.prog 6 #[.agg #[.int .i64 r, .int .i64 lat], .slice A l.length c] W fun e W' => e = .returned (.bool true) ∧ Below W.heap.size W W' := by
  obtain ⟨k, hk⟩ := backlogServed_pure r lat l h.2.2.1
  exact laws_FnExactBacklogServed.calls k r lat A c l W h.1 h.2.1 hk
theorem core_FnExactDelayServed (r lat : Int) (A : Option Addr) (c : Nat) (l : List Int) (W : World) (_ : (Lit.int .i64 r).wf = true ∧ (Lit.int .i64 lat).wf = true) (h : Kd.C (Kd.int .i64) W A l.length l ∧ l.length ≤ c ∧ l.length ≤ 17592186044416 ∧ ∀ x ∈ l, (Lit.int .i64 x).wf = true) :
    Calls Try.prog 8 #[.agg #[.int .i64 r, .int .i64 lat], .slice A l.length c] W fun e W' => e = .returned (.bool true) ∧ Below W.heap.size W W' := by
  obtain ⟨k, hk⟩ := delayServed_pure r lat l h.2.2.1
  exact laws_FnExactDelayServed.calls k r lat A c l W h.1 h.2.1 hk
end Go.Proofs.Ytoeddkfbhjmbmaa.PA
