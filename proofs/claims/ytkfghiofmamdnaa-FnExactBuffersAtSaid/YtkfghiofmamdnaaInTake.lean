/- The reference takes a cell out of a buffer: what the call comes to; no condition but what each theorem names. -/
import Derived.Test.YtkfghiofmamdnaaInSpec
import Derived.Test.YtkfghiofmamdnaaPA6
import Derived.Deep.RegionHeld3
import Derived.Deep.RegionLaw
namespace Go.Proofs.Ytkfghiofmamdnaa.PA
open Go.RowKit Go.Proofs.YtkfghiofmamdnaaW.PrintWords Go.Proofs.YtkfghiofmamdnaaW.PrintLast Go.Proofs.YtkfghiofmamdnaaW.PrintMore
attribute [local go_sem] max2_int min2_int max_two min_two max_three min_three max_four min_four
set_option linter.unusedVariables false
set_option linter.unusedSimpArgs false
namespace Ins
theorem own_copy (A : Option Addr) (n c : Nat) (l : List Int) (W : World) (hn : n = l.length) (hl : l.length < 17592186044416) (hr : Kd.C (Kd.int .i64) W A l.length l) (hc : l.length ≤ c) :
    Calls Try.prog 105 #[.slice A n c] W fun e w' => ∃ Ac cc, e = .returned (.slice Ac n cc) ∧ Kd.R (Kd.int .i64) 3 w' W.heap.size (fun _ => True) (.slice Ac n cc) l ∧ Below W.heap.size W w' := by
  subst hn
  refine (spec_l1Own.calls A c l l W hr hc (by simp only [spec_l1Own.f, Option.bind_some, List.length_nil]; rw [if_pos (by omega)]; rfl)).mono fun e w' ⟨v, he, hR, hb⟩ => ?_
  obtain ⟨Ac, cc, ev⟩ := Kd.R_slice hR
  subst ev
  exact ⟨Ac, cc, he, hR, hb⟩
set_option maxHeartbeats 2000000 in
set_option maxRecDepth 100000 in
theorem take_calls (w0 w : World) (g gB cB : Nat) (vL vI vR vX : Value) (A : Option Addr) (c : Nat) (n room : Int) (ow : Bool) (ms : List S60) (st : St) (o : Nat) (x : Int) (tl : List Int) (h : Is66 w0 w g gB cB vL vI vR vX A c n room ow ms st) (ho : o < st.buf.length) (hn : st.buf.length ≤ 12) (hb : st.buf.getD o [] = x :: tl) (hl : (x :: tl).length ≤ 1000000) :
    Calls Try.prog 100 #[.pointer (some ⟨g, 0, none⟩), .int .i64 o] w fun e w' => e = .returned (.int .i64 x) ∧ Is66 w0 w' g gB cB vL vI vR vX A c n room ow ms { st with buf := st.buf.set o tl } := by
  have HI := Aside0.mk h
  obtain ⟨c0, c1, c2, c3, c4, c5, c6, c7, c8, c9, f8⟩ := h.cells
  obtain ⟨Ab, cb, db, fb, hcb, hCb, hCt⟩ := h.cut o ho x tl hb
  obtain ⟨ad, eA, hx0⟩ := Kd.at_int hCb 0 (by omega) (by simp)
  subst eA
  have hx0' : w.cell? ad = some (.int .i64 x) := by
    have : ad.add (0 : Int).toNat = ad := by simp [Addr.add]
    rw [this] at hx0
    exact hx0
  obtain ⟨i3, hi3, hz3⟩ := Option.map_eq_some_iff.1 info3
  simp only [Prod.mk.injEq] at hz3
  have hcut := cut_from (P := Try.prog) 38 3 .i64 Try.underlying38 hi3 1 hz3.2.1 (some ad) (tl.length + 1) cb 1 (by omega) (by omega)
  simp only [show (1 : Int).toNat = 1 from rfl] at hcut
  generalize hA1 : (if cb = 1 then some ad else Option.map (fun (x : Addr) => x.add (1 * 1)) (some ad)) = A1 at hcut hCt
  have hlc : (x :: tl).length = tl.length + 1 := rfl
  rw [hlc] at hl
  rw [show tl.length + 1 - 1 = tl.length by omega] at hcut
  have hown := Aside0.mk (fun W (hW : Below w.heap.size w W) => own_copy A1 tl.length (cb - 1) tl W rfl (by omega) (hCt W hW) (by omega))
  have hB := Aside0.mk (fun w1 (hW : Below w.heap.size w w1) => (h.grow hW).bufcell o ho)
  have hbb := Aside0.mk hb
  have ho12 : o < 12 := by omega
  clear h hi3 hz3 hCt hCb hlc hA1 hx0 hcb hb hl
  go_enter Try.func100, Try.ntmps100
  go_wp2
  go_region_law (go_simp; go_at_call 105; (refine (hown.out _ (by repeat (first | exact Below.refl _ _ | apply pw_below_drewN | apply below_drew))).mono ?_); rintro e w1 ⟨Ac, cc, rfl, hR1, hb1⟩; have hb2 := Aside0.mk (show Below w.heap.size w w1 from ⟨hb1.os, hb1.tape, hb1.output, hb1.size, hb1.block⟩); have hR2 := Aside0.mk (show Kd.R (Kd.int .i64) 3 w1 w.heap.size (fun _ => True) (.slice Ac tl.length cc) tl from hR1); clear hb1 hR1; have s4 := pw_cell_below hb2.out c4; obtain ⟨_, _, sB, fB, _, _⟩ := hB.out w1 hb2.out)
  all_goals
    go_wp2
    go_ret
    exact ⟨rfl, (HI.out.buf_new hb2.out o hR2.out)⟩
end Ins
end Go.Proofs.Ytkfghiofmamdnaa.PA
