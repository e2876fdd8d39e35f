/- What a ring's parameters and a list of messages hold, as the rows of the laws ask it; no condition. -/
import Derived.Test.YtkfghiofmamdnaaKit
import Derived.Test.YtkfghiofmamdnaaPA0
namespace Go.Proofs.Ytkfghiofmamdnaa.Kit
open Go.ChangeShapes Go.WideShapes Go.ChangeAt Go.RowKit Go.Joins Go.Deep Go.Proofs.YtkfghiofmamdnaaW.PrintWords
set_option linter.unusedVariables false
theorem opensR_iii {P : Program} {W : World} {t : TypeId} {f0 f1 f2 : Field} (hs : P.underlying t = some (.struct #[f0, f1, f2])) (hone : oneCellFields P #[f0, f1, f2] = true) (hC : P.cellsOf t = 3)
    (i0 : P.underlying f0.type = some (.int .i64)) (i1 : P.underlying f1.type = some (.int .i64)) (i2 : P.underlying f2.type = some (.int .i64)) :
    OpensR P W t (fun cs => ∃ a b d : Int, cs = [.int .i64 a, .int .i64 b, .int .i64 d]) := by
  refine opensR_mono (opensR_struct (R := fun i cs => ∃ a : Int, cs = [.int .i64 a] ∧ (Lit.int .i64 a).wf = true) hs (fun i f hi => ?_)) fun cs ⟨hl, h⟩ => ?_
  · match i, hi with
    | 0, hi => obtain rfl := Option.some.inj (hi : some f0 = some f); exact opensR_int i0
    | 1, hi => obtain rfl := Option.some.inj (hi : some f1 = some f); exact opensR_int i1
    | 2, hi => obtain rfl := Option.some.inj (hi : some f2 = some f); exact opensR_int i2
    | n + 3, hi => simp at hi
  · obtain ⟨o0, k0⟩ := hone_of hone 0 f0 rfl
    obtain ⟨o1, k1⟩ := hone_of hone 1 f1 rfl
    obtain ⟨o2, k2⟩ := hone_of hone 2 f2 rfl
    have h0 := h 0 f0 rfl
    have h1 := h 1 f1 rfl
    have h2 := h 2 f2 rfl
    rw [o0, k0] at h0
    rw [o1, k1] at h1
    rw [o2, k2] at h2
    match cs, hl.trans hC with
    | [c0, c1, c2], _ =>
      obtain ⟨a, e0, _⟩ := h0
      obtain ⟨b, e1, _⟩ := h1
      obtain ⟨d, e2, _⟩ := h2
      simp at e0 e1 e2
      subst e0 e1 e2
      exact ⟨a, b, d, rfl⟩
theorem opensR_iib {P : Program} {W : World} {t : TypeId} {f0 f1 f2 : Field} (hs : P.underlying t = some (.struct #[f0, f1, f2])) (hone : oneCellFields P #[f0, f1, f2] = true) (hC : P.cellsOf t = 3)
    (i0 : P.underlying f0.type = some (.int .i64)) (i1 : P.underlying f1.type = some (.int .i64)) (i2 : P.underlying f2.type = some .bool) :
    OpensR P W t (fun cs => ∃ (a b : Int) (d : Bool), cs = [.int .i64 a, .int .i64 b, .bool d] ∧ True) := by
  refine opensR_mono (opensR_struct (R := fun i cs => match i with
    | 2 => ∃ x, Kd.bool.K W x cs ∧ True
    | _ => ∃ a : Int, cs = [.int .i64 a] ∧ (Lit.int .i64 a).wf = true) hs (fun i f hi => ?_)) fun cs ⟨hl, h⟩ => ?_
  · match i, hi with
    | 0, hi => obtain rfl := Option.some.inj (hi : some f0 = some f); exact opensR_int i0
    | 1, hi => obtain rfl := Option.some.inj (hi : some f1 = some f); exact opensR_int i1
    | 2, hi => obtain rfl := Option.some.inj (hi : some f2 = some f); exact opensR_of (opens_bool i2)
    | n + 3, hi => simp at hi
  · obtain ⟨o0, k0⟩ := hone_of hone 0 f0 rfl
    obtain ⟨o1, k1⟩ := hone_of hone 1 f1 rfl
    obtain ⟨o2, k2⟩ := hone_of hone 2 f2 rfl
    have h0 := h 0 f0 rfl
    have h1 := h 1 f1 rfl
    have h2 := h 2 f2 rfl
    rw [o0, k0] at h0
    rw [o1, k1] at h1
    rw [o2, k2] at h2
    match cs, hl.trans hC with
    | [c0, c1, c2], _ =>
      obtain ⟨a, e0, _⟩ := h0
      obtain ⟨b, e1, _⟩ := h1
      obtain ⟨d, e2, _⟩ := h2
      have e2' : [c2] = [Value.bool d] := e2
      simp at e0 e1 e2'
      subst e0 e1 e2'
      exact ⟨a, b, d, rfl, trivial⟩
open Go.Proofs.Ytkfghiofmamdnaa.PA in
/-- A list of messages. -/
theorem open_lmsg {H : Type} {enc : TypeId × Value → H} {P : Program} {W : World} {base : Nat} {t e : TypeId} {f0 f1 f2 : Field} {v : Value} {d : DataW H} {p : List MemPlace} (ht : P.underlying t = some (.slice e)) (hc : P.cellsOf e = 3) (hB : P.bytesOf e = 24)
    (hs : P.underlying e = some (.struct #[f0, f1, f2])) (hone : oneCellFields P #[f0, f1, f2] = true) (i0 : P.underlying f0.type = some (.int .i64)) (i1 : P.underlying f1.type = some (.int .i64)) (i2 : P.underlying f2.type = some (.int .i64))
    (hv : Value.okWide P W .any base t v) {ts : List TypeId} {ds : List (DataW H)} (hsz : (DataW.weightsEach P ts ds).all (· ≤ reachBytes) = true) {j : Nat} (hj : ts[j]? = some t) (hd : ds[j]? = some d) (h : DataW.Trod enc P W 0 (fun _ => true) true t v d p) :
    ∃ (A : Option Addr) (l : List S70) (c : Nat), v = .slice A l.length c ∧ Kd.C k70 W A l.length l ∧ l.length ≤ c ∧ l.length ≤ 5864062014805 := by
  obtain ⟨a, len, cap, rfl⟩ := okWide_slice ht hv
  obtain ⟨n, hn⟩ := h
  have he : Opens P W e k70 (fun _ => True) := by
    intro H enc n cs y hy hl
    obtain ⟨x, y', z, rfl⟩ := (opensR_iii hs hone hc i0 i1 i2).out H enc n cs y hy hl
    exact ⟨⟨x, y', z⟩, k70_mk W ⟨x, y', z⟩, trivial⟩
  obtain ⟨l, ⟨A, c, hcs, hlc, hC⟩, hl, hok⟩ := opens_slice (k := k70) ht hc.symm hB he enc n _ _ hn (light_of hsz hj hd)
  simp [Value.cells] at hcs
  obtain ⟨rfl, rfl, rfl⟩ := hcs
  exact ⟨a, l, cap, rfl, hC, hlc, by omega⟩
end Go.Proofs.Ytkfghiofmamdnaa.Kit
