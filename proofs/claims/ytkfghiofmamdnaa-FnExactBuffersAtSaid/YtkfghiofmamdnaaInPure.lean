/- An insertion ring at work, step by step, in plain terms; no condition but what each theorem names. -/
import Derived.Test.YtkfghiofmamdnaaInCore
namespace Go.Proofs.Ytkfghiofmamdnaa.PA
open Go.RowKit Go.Proofs.YtkfghiofmamdnaaW.PrintWords Go.Proofs.YtkfghiofmamdnaaW.PrintLast Go.Proofs.YtkfghiofmamdnaaW.PrintMore
set_option linter.unusedVariables false
set_option linter.unusedSimpArgs false
namespace Ins
/-- The cell that comes to a station: 1 more than its index, 0 for none. -/
def inAt (n : Int) (st : St) (own : Int) : Int := rd st.links ((own + n - 1) % n)
/-- A station gets a cell. -/
def get1 (n t : Int) (ms : List S60) (st : St) (own : Int) : St :=
  if inAt n st own - 1 < 0 then st
  else if (rd_T60 ms (inAt n st own - 1)).f2 = own then { st with rdd := st.rdd.set (inAt n st own - 1).toNat t }
  else { st with buf := st.buf.set own.toNat (st.buf.getD own.toNat [] ++ [inAt n st own - 1]) }
/-- The first own cell of a station that waits, from index i on; -1 if there is none. -/
def ownL (s t : Int) (ins : List Int) : List S60 → Nat → Int
  | [], _ => -1
  | m :: ms, i => if m.f1 = s ∧ m.f0 ≤ t ∧ rd ins i < 0 then i else ownL s t ins ms (i + 1)
def ownC (t : Int) (ms : List S60) (st : St) (s : Int) : Int := ownL s t st.ins ms 0
/-- Does a station send its own cell? -/
def ownB (room : Int) (ow : Bool) (t : Int) (ms : List S60) (st : St) (own : Int) : Bool :=
  decide (0 ≤ ownC t ms st own) && (if ow = true then decide (((st.buf.getD own.toNat []).length : Int) < room) else (st.buf.getD own.toNat []).isEmpty)
/-- What a station sends: 1 more than the cell's index, 0 for none; and the ring behind it. -/
def sent (room : Int) (ow : Bool) (t : Int) (ms : List S60) (st : St) (own : Int) : Int :=
  if ownB room ow t ms st own then ownC t ms st own + 1 else match st.buf.getD own.toNat [] with | [] => 0 | x :: _ => x + 1
def sendS (room : Int) (ow : Bool) (t : Int) (ms : List S60) (st : St) (own : Int) : St :=
  if ownB room ow t ms st own then { st with ins := st.ins.set (ownC t ms st own).toNat t } else { st with buf := st.buf.set own.toNat (st.buf.getD own.toNat []).tail }
/-- A station sends, and what it sent is told. -/
def send1 (room : Int) (ow : Bool) (t : Int) (ms : List S60) (st : St) (own : Int) : St :=
  { buf := (sendS room ow t ms st own).buf, ins := (sendS room ow t ms st own).ins, rdd := st.rdd, links := st.links.set own.toNat (sent room ow t ms st own), peak := mx st.peak (((sendS room ow t ms st own).buf.getD own.toNat []).length : Int), idle := if sent room ow t ms st own = 0 then st.idle.set own.toNat (rd st.idle own + 1) else st.idle }
/-- All is of its size. -/
structure Wf (n : Int) (M K : Nat) (st : St) : Prop where
  n0 : 2 ≤ n
  n1 : n ≤ 12
  M1 : M ≤ 20
  K1 : K ≤ 1000000
  buf : (st.buf.length : Int) = n
  links : (st.links.length : Int) = n
  ins : st.ins.length = M
  rdd : st.rdd.length = M
  idle : (st.idle.length : Int) = n
  lk : ∀ x ∈ st.links, 0 ≤ x ∧ x ≤ M
  bk : ∀ b ∈ st.buf, b.length ≤ K ∧ ∀ x ∈ b, 0 ≤ x ∧ x < M
  pk : 0 ≤ st.peak ∧ st.peak ≤ K
  ik : ∀ x ∈ st.idle, 0 ≤ x ∧ x ≤ K
theorem Wf.in_ {n : Int} {M K : Nat} {st : St} (h : Wf n M K st) (own : Int) (h0 : 0 ≤ own) (h1 : own < n) : 0 ≤ inAt n st own ∧ inAt n st own ≤ M := by
  have a0 := Int.emod_nonneg (own + n - 1) (show n ≠ 0 by have := h.n0; omega)
  have a1 := Int.emod_lt_of_pos (own + n - 1) (show 0 < n by have := h.n0; omega)
  have hl := h.links
  unfold inAt rd
  have hlt : ((own + n - 1) % n).toNat < st.links.length := by omega
  rw [List.getD_eq_getElem?_getD, List.getElem?_eq_getElem hlt]
  exact h.lk _ (List.getElem_mem hlt)
/-- The program's insertion ring at work, at block g. -/
def Is74 (w0 w : World) (g gB cB : Nat) (vL vI vR : Value) (A : Option Addr) (c : Nat) (n room : Int) (ow : Bool) (ms : List S60) (t : Int) (st : St) : Prop :=
  ∃ f cur, Core w0 w f g gB cur vL vI vR st ∧ w.heap[g]? = some (.cells #[.int .i64 n, .int .i64 room, .bool ow, .slice A ms.length c, .int .i64 t, .slice (some ⟨gB, 0, none⟩) st.buf.length cB, vL, vI, vR, .int .i64 st.peak] 74 (0, 0)) ∧ Kd.C k60 w0 A ms.length ms ∧ ms.length ≤ c
section
variable {w0 w : World} {g gB cB : Nat} {vL vI vR : Value} {A : Option Addr} {c : Nat} {n room : Int} {ow : Bool} {ms : List S60} {t : Int} {st : St}
theorem Is74.grow {w' : World} (h : Is74 w0 w g gB cB vL vI vR A c n room ow ms t st) (hb : Below w.heap.size w w') : Is74 w0 w' g gB cB vL vI vR A c n room ow ms t st := by
  obtain ⟨f, cur, HC, HG, HM, hc⟩ := h
  exact ⟨f, cur, HC.grow hb, blk_below HG hb, HM, hc⟩
theorem Is74.drew_ (h : Is74 w0 w g gB cB vL vI vR A c n room ow ms t st) : Is74 w0 w.drew g gB cB vL vI vR A c n room ow ms t st := h.grow (below_drew (Below.refl _ _))
theorem Is74.drewN (h : Is74 w0 w g gB cB vL vI vR A c n room ow ms t st) (m : Nat) : Is74 w0 (w.drewN m) g gB cB vL vI vR A c n room ow ms t st := h.grow (pw_below_drewN (Below.refl _ _) m)
theorem Is74.c0 (h : Is74 w0 w g gB cB vL vI vR A c n room ow ms t st) : w.cell? ⟨g, 0, none⟩ = some (.int .i64 n) := by
  obtain ⟨f, cur, HC, HG, HM, hc⟩ := h
  exact (blk_cell HG 0).trans rfl
theorem Is74.c6 (h : Is74 w0 w g gB cB vL vI vR A c n room ow ms t st) : w.cell? ⟨g, 6, none⟩ = some vL := by
  obtain ⟨f, cur, HC, HG, HM, hc⟩ := h
  exact (blk_cell HG 6).trans rfl
theorem Is74.below (h : Is74 w0 w g gB cB vL vI vR A c n room ow ms t st) : Below w0.heap.size w0 w := by
  obtain ⟨f, cur, HC, HG, HM, hc⟩ := h
  exact HC.below
end
end Ins
end Go.Proofs.Ytkfghiofmamdnaa.PA
