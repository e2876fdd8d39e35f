/- What an append onto the row of insertions makes of the reference's insertion ring; no condition but what the theorem names. -/
import Derived.Test.YtkfghiofmamdnaaInSpec
namespace Go.Proofs.Ytkfghiofmamdnaa.PA
open Go.RowKit Go.Proofs.YtkfghiofmamdnaaW.PrintWords Go.Proofs.YtkfghiofmamdnaaW.PrintLast Go.Proofs.YtkfghiofmamdnaaW.PrintMore
set_option linter.unusedVariables false
set_option linter.unusedSimpArgs false
namespace Ins
section
variable {w0 w : World} {g gB cB : Nat} {vL vI vR vX : Value} {A : Option Addr} {c : Nat} {n room : Int} {ow : Bool} {ms : List S60} {st : St}
/-- Behind an append onto the row ins. -/
theorem Is66.appendI2 (h : Is66 w0 w g gB cB vL vI vR vX A c n room ow ms st) : ∃ ok : Nat → Prop, Kd.R (Kd.int .i64) 3 w w0.heap.size ok vI st.ins ∧ (∀ k, w.heap.size ≤ k → ok k) ∧
    ∀ m w1 v1 b1, (w.drewN m).grownBy w1 vI.ownBlock → Below w0.heap.size w0 w1 → Kd.R (Kd.int .i64) 3 w1 w0.heap.size ok v1 b1 → (w1.cell? ⟨g, 6, none⟩ = some vI ∧ w1.frozen? ⟨g, 6, none⟩ = false ∧ w1.cell? ⟨g, 7, none⟩ = some vR) ∧ Is66 w0 (w1.setCell ⟨g, 6, none⟩ v1) g gB cB vL v1 vR vX A c n room ow ms { st with ins := b1 } := by
  obtain ⟨f0, cur, HC0, HX0, HG, HM, hc⟩ := h
  obtain ⟨f, hf, hfj⟩ : ∃ f : Nat → Nat, (∀ k, k < w.heap.size → f k = f0 k) ∧ ∀ k, w.heap.size ≤ k → f k = 3 := ⟨fun k => if k < w.heap.size then f0 k else 3, fun k hk => if_pos hk, fun k hk => if_neg (by omega)⟩
  have HC := HC0.recolor hf
  have HX : Kd.R (Kd.int .i64) 3 w w0.heap.size (fun k => f k = 5) vX st.idle := Kd.R_mono (Kd.R_bound HX0) (fun k hk => (hf k hk.2.2.1).trans hk.1)
  clear HC0 HX0 hf
  have hag : ∀ k, vI.ownBlock = some k → f k = 3 := HC.I.1
  have hg0 : f g = 0 := HC.fg
  have hB1 : f gB = 1 := HC.fB
  have hne : ∀ c, c ≠ 3 → ∀ k, f k = c → some k ≠ vI.ownBlock := by
    rintro c h1 k rfl e
    exact h1 (hag k e.symm)
  have hn0 : ∀ c, c ≠ 0 → ∀ k, f k = c → k ≠ (⟨g, 6, none⟩ : Addr).block := by
    rintro c h1 k rfl rfl
    exact h1 hg0
  refine ⟨fun k => f k = 3, HC.I, hfj, fun m w1 v1 b1 hg hb hq => ?_⟩
  have hobj := blk_grown (blk_drewN HG m) hg (hne 0 (by decide) g hg0)
  have hg' : w.grownBy w1 vI.ownBlock := ⟨hg.os, hg.tape, hg.output, hg.size, hg.block⟩
  refine ⟨⟨(blk_cell hobj 6).trans rfl, blk_frozen hobj 6, (blk_cell hobj 7).trans rfl⟩, f, cur, ⟨hb.setCell HC.gg _, hg0, HC.gg, by simpa [World.setCell] using Nat.lt_of_lt_of_le HC.gl hg'.size, hB1, HC.gB0, blk_far (blk_grown HC.blk hg' (hne 1 (by decide) gB hB1)) (hn0 1 (by decide) gB hB1) _, HC.len, fun j u b hu hbb => Kd.Q_far (Kd.Q_grown (HC.buf j u b hu hbb) hg' (hne _ (by omega))) (hn0 _ (by omega)) _, Kd.R_far (Kd.R_grown HC.L hg' (hne 2 (by decide))) (hn0 2 (by decide)) _, Kd.R_far hq (hn0 3 (by decide)) _, Kd.R_far (Kd.R_grown HC.R hg' (hne 4 (by decide))) (hn0 4 (by decide)) _⟩, Kd.R_far (Kd.R_grown HX hg' (hne 5 (by decide))) (hn0 5 (by decide)) _, blk_set hobj 6 v1, HM, hc⟩
end
end Ins
end Go.Proofs.Ytkfghiofmamdnaa.PA
