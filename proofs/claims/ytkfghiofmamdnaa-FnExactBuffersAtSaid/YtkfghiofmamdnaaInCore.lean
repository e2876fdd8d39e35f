/- What lies in memory of an insertion ring at work: rows of its own, told apart by colours of blocks, and what stores and appends make of it; no condition but what each theorem names. -/
import Derived.Test.YtkfghiofmamdnaaPA0
namespace Go.Proofs.Ytkfghiofmamdnaa.PA
open Go.RowKit Go.Proofs.YtkfghiofmamdnaaW.PrintWords Go.Proofs.YtkfghiofmamdnaaW.PrintLast Go.Proofs.YtkfghiofmamdnaaW.PrintMore
set_option linter.unusedVariables false
set_option linter.unusedSimpArgs false
namespace Ins
/-- An insertion ring at work: its buffers, what was sent last (1 more than the index), when cells were sent and read (-1: not yet), the greatest number of cells in a buffer, how often a station was idle. -/
structure St where
  buf : List (List Int)
  links : List Int
  ins : List Int
  rdd : List Int
  peak : Int
  idle : List Int

structure Core (w0 w : World) (f : Nat → Nat) (g gB : Nat) (cur : Array Value) (vL vI vR : Value) (st : St) : Prop where
  below : Below w0.heap.size w0 w
  fg : f g = 0
  gg : w0.heap.size ≤ g
  gl : g < w.heap.size
  fB : f gB = 1
  gB0 : w0.heap.size ≤ gB
  blk : w.heap[gB]? = some (.cells cur 38 (0, 0))
  len : cur.size = st.buf.length
  buf : ∀ (j : Nat) (v : Value) (b : List Int), cur[j]? = some v → st.buf[j]? = some b → Kd.Q (Kd.int .i64) 3 w w0.heap.size (fun k => f k = 6 + j) v b
  L : Kd.R (Kd.int .i64) 3 w w0.heap.size (fun k => f k = 2) vL st.links
  I : Kd.R (Kd.int .i64) 3 w w0.heap.size (fun k => f k = 3) vI st.ins
  R : Kd.R (Kd.int .i64) 3 w w0.heap.size (fun k => f k = 4) vR st.rdd

/-- A store into a block of a colour that no row has. -/
theorem Core.far {w0 w : World} {f : Nat → Nat} {g gB : Nat} {cur : Array Value} {vL vI vR : Value} {st : St} (h : Core w0 w f g gB cur vL vI vR st) {p : Addr} (h0 : w0.heap.size ≤ p.block) (hp : p.block < w.heap.size) (hc : f p.block = 0 ∨ f p.block = 5) (v : Value) :
    Core w0 (w.setCell p v) f g gB cur vL vI vR st := by
  have hne : ∀ c, c ≠ 0 → c ≠ 5 → ∀ k, f k = c → k ≠ p.block := by
    rintro c h1 h2 k rfl rfl
    rcases hc with e | e
    · exact h1 e
    · exact h2 e
  refine ⟨h.below.setCell h0 v, h.fg, h.gg, by simpa [World.setCell] using h.gl, h.fB, h.gB0, ?_, h.len, fun j u b hu hb => Kd.Q_far (h.buf j u b hu hb) (hne _ (by omega) (by omega)) v, Kd.R_far h.L (hne _ (by decide) (by decide)) v, Kd.R_far h.I (hne _ (by decide) (by decide)) v, Kd.R_far h.R (hne _ (by decide) (by decide)) v⟩
  exact blk_far h.blk (hne 1 (by decide) (by decide) gB h.fB) v
/-- New blocks alone have been made. -/
theorem Core.grow {w0 w w' : World} {f : Nat → Nat} {g gB : Nat} {cur : Array Value} {vL vI vR : Value} {st : St} (h : Core w0 w f g gB cur vL vI vR st) (hb : Below w.heap.size w w') : Core w0 w' f g gB cur vL vI vR st :=
  ⟨below_then h.below h.below.size hb, h.fg, h.gg, Nat.lt_of_lt_of_le h.gl hb.size, h.fB, h.gB0, blk_below h.blk hb, h.len, fun j u b hu hb' => Kd.Q_below (h.buf j u b hu hb') hb, Kd.R_below h.L hb, Kd.R_below h.I hb, Kd.R_below h.R hb⟩
/-- Blocks that are to be made get a colour. -/
theorem Core.recolor {w0 w : World} {f f' : Nat → Nat} {g gB : Nat} {cur : Array Value} {vL vI vR : Value} {st : St} (h : Core w0 w f g gB cur vL vI vR st) (hf : ∀ k, k < w.heap.size → f' k = f k) : Core w0 w f' g gB cur vL vI vR st := by
  have hq : ∀ c (v : Value) (xs : List Int), Kd.Q (Kd.int .i64) 3 w w0.heap.size (fun k => f k = c) v xs → Kd.Q (Kd.int .i64) 3 w w0.heap.size (fun k => f' k = c) v xs := fun c v xs hx =>
    Kd.Q_mono (Kd.Q_bound hx) (fun k hk => (hf k hk.2.2.1).trans hk.1)
  have hr : ∀ c (v : Value) (xs : List Int), Kd.R (Kd.int .i64) 3 w w0.heap.size (fun k => f k = c) v xs → Kd.R (Kd.int .i64) 3 w w0.heap.size (fun k => f' k = c) v xs := fun c v xs hx =>
    Kd.R_mono (Kd.R_bound hx) (fun k hk => (hf k hk.2.2.1).trans hk.1)
  exact ⟨h.below, (hf g h.gl).trans h.fg, h.gg, h.gl, (hf gB (blk_lt h.blk)).trans h.fB, h.gB0, h.blk, h.len, fun j u b hu hb => hq _ _ _ (h.buf j u b hu hb), hr _ _ _ h.L, hr _ _ _ h.I, hr _ _ _ h.R⟩
theorem Core.link_set {w0 w : World} {f : Nat → Nat} {g gB : Nat} {cur : Array Value} {gL n c : Nat} {vI vR : Value} {st : St} (h : Core w0 w f g gB cur (.slice (some ⟨gL, 0, none⟩) n c) vI vR st) (i x : Int) :
    Core w0 (w.setCell ⟨gL, i.toNat, none⟩ (.int .i64 x)) f g gB cur (.slice (some ⟨gL, 0, none⟩) n c) vI vR { st with links := st.links.set i.toNat x } := by
  have hc : f gL = 2 := h.L.1 gL rfl
  have hne : ∀ c, c ≠ 2 → ∀ k, f k = c → k ≠ (⟨gL, i.toNat, none⟩ : Addr).block := by
    rintro c h1 k rfl rfl
    exact h1 hc
  have hb : w0.heap.size ≤ gL := Kd.R_base h.L gL rfl
  exact ⟨h.below.setCell hb _, h.fg, h.gg, by simpa [World.setCell] using h.gl, h.fB, h.gB0, blk_far h.blk (hne 1 (by decide) gB h.fB) _, h.len, fun j u b hu hb => Kd.Q_far (h.buf j u b hu hb) (hne _ (by omega)) _, (Kd.R_putg h.L i x).1, Kd.R_far h.I (hne 3 (by decide)) _, Kd.R_far h.R (hne 4 (by decide)) _⟩
theorem Core.ins_set {w0 w : World} {f : Nat → Nat} {g gB : Nat} {cur : Array Value} {gI n c : Nat} {vL vR : Value} {st : St} (h : Core w0 w f g gB cur vL (.slice (some ⟨gI, 0, none⟩) n c) vR st) (i x : Int) :
    Core w0 (w.setCell ⟨gI, i.toNat, none⟩ (.int .i64 x)) f g gB cur vL (.slice (some ⟨gI, 0, none⟩) n c) vR { st with ins := st.ins.set i.toNat x } := by
  have hc : f gI = 3 := h.I.1 gI rfl
  have hne : ∀ c, c ≠ 3 → ∀ k, f k = c → k ≠ (⟨gI, i.toNat, none⟩ : Addr).block := by
    rintro c h1 k rfl rfl
    exact h1 hc
  have hb : w0.heap.size ≤ gI := Kd.R_base h.I gI rfl
  exact ⟨h.below.setCell hb _, h.fg, h.gg, by simpa [World.setCell] using h.gl, h.fB, h.gB0, blk_far h.blk (hne 1 (by decide) gB h.fB) _, h.len, fun j u b hu hb => Kd.Q_far (h.buf j u b hu hb) (hne _ (by omega)) _, Kd.R_far h.L (hne 2 (by decide)) _, (Kd.R_putg h.I i x).1, Kd.R_far h.R (hne 4 (by decide)) _⟩
theorem Core.rd_set {w0 w : World} {f : Nat → Nat} {g gB : Nat} {cur : Array Value} {gR n c : Nat} {vL vI : Value} {st : St} (h : Core w0 w f g gB cur vL vI (.slice (some ⟨gR, 0, none⟩) n c) st) (i x : Int) :
    Core w0 (w.setCell ⟨gR, i.toNat, none⟩ (.int .i64 x)) f g gB cur vL vI (.slice (some ⟨gR, 0, none⟩) n c) { st with rdd := st.rdd.set i.toNat x } := by
  have hc : f gR = 4 := h.R.1 gR rfl
  have hne : ∀ c, c ≠ 4 → ∀ k, f k = c → k ≠ (⟨gR, i.toNat, none⟩ : Addr).block := by
    rintro c h1 k rfl rfl
    exact h1 hc
  have hb : w0.heap.size ≤ gR := Kd.R_base h.R gR rfl
  exact ⟨h.below.setCell hb _, h.fg, h.gg, by simpa [World.setCell] using h.gl, h.fB, h.gB0, blk_far h.blk (hne 1 (by decide) gB h.fB) _, h.len, fun j u b hu hb => Kd.Q_far (h.buf j u b hu hb) (hne _ (by omega)) _, Kd.R_far h.L (hne 2 (by decide)) _, Kd.R_far h.I (hne 3 (by decide)) _, (Kd.R_putg h.R i x).1⟩
/-- Another row is laid in the buffers. -/
theorem Core.buf_put {w0 w : World} {f : Nat → Nat} {g gB : Nat} {cur : Array Value} {vL vI vR : Value} {st : St} (h : Core w0 w f g gB cur vL vI vR st) {j : Nat} {v1 : Value} {b1 : List Int} (hq : Kd.Q (Kd.int .i64) 3 w w0.heap.size (fun k => f k = 6 + j) v1 b1) :
    Core w0 (w.setCell ⟨gB, j, none⟩ v1) f g gB (cur.setIfInBounds j v1) vL vI vR { st with buf := st.buf.set j b1 } := by
  have hne : ∀ c, c ≠ 1 → ∀ k, f k = c → k ≠ (⟨gB, j, none⟩ : Addr).block := by
    rintro c h1 k rfl rfl
    exact h1 h.fB
  refine ⟨h.below.setCell h.gB0 _, h.fg, h.gg, by simpa [World.setCell] using h.gl, h.fB, h.gB0, blk_set h.blk j v1, by simp [h.len], fun i u b hu hb => ?_, Kd.R_far h.L (hne 2 (by decide)) _, Kd.R_far h.I (hne 3 (by decide)) _, Kd.R_far h.R (hne 4 (by decide)) _⟩
  refine Kd.Q_far ?_ (hne _ (by omega)) _
  simp only [List.getElem?_set] at hb
  rw [Array.getElem?_setIfInBounds] at hu
  by_cases hij : j = i
  · subst hij
    have hu' : some v1 = some u := by
      by_cases hlt : j < cur.size
      · rw [if_pos rfl, if_pos hlt] at hu; exact hu
      · rw [if_pos rfl, if_neg hlt] at hu; cases hu
    have hb' : some b1 = some b := by
      by_cases hlt : j < st.buf.length
      · rw [if_pos rfl, if_pos hlt] at hb; exact hb
      · rw [if_pos rfl, if_neg hlt] at hb; cases hb
    obtain rfl := Option.some.inj hu'
    obtain rfl := Option.some.inj hb'
    exact hq
  · rw [if_neg hij] at hb hu
    exact h.buf i u b hu hb
/-- Behind an append onto a buffer: that row alone has been written, or new blocks. -/
theorem Core.appended {w0 w w1 : World} {f : Nat → Nat} {g gB : Nat} {cur : Array Value} {vL vI vR v : Value} {st : St} (h : Core w0 w f g gB cur vL vI vR st) {j : Nat} (hj : j < st.buf.length) (hv : cur[j]? = some v) (hg : w.grownBy w1 v.ownBlock) (hb : Below w0.heap.size w0 w1) (h0 : ∀ k, v.ownBlock = some k → f k = 6 + j) :
    ∀ b1 v1, Kd.Q (Kd.int .i64) 3 w1 w0.heap.size (fun k => f k = 6 + j) v1 b1 → Core w0 (w1.setCell ⟨gB, j, none⟩ v1) f g gB (cur.setIfInBounds j v1) vL vI vR { st with buf := st.buf.set j b1 } := by
  intro b1 v1 hq
  have hne : ∀ c, c ≠ 6 + j → ∀ k, f k = c → some k ≠ v.ownBlock := by
    rintro c h1 k rfl e
    exact h1 (h0 k e.symm)
  have hne1 : ∀ c, c ≠ 1 → ∀ k, f k = c → k ≠ (⟨gB, j, none⟩ : Addr).block := by
    rintro c h1 k rfl rfl
    exact h1 h.fB
  have hblk : w1.heap[gB]? = some (.cells cur 38 (0, 0)) := blk_grown h.blk hg (hne 1 (by omega) gB h.fB)
  refine ⟨hb.setCell h.gB0 _, h.fg, h.gg, by simpa [World.setCell] using Nat.lt_of_lt_of_le h.gl hg.size, h.fB, h.gB0, blk_set hblk j v1, by simp [h.len], fun i u b hu hb => ?_, Kd.R_far (Kd.R_grown h.L hg (hne 2 (by omega))) (hne1 2 (by decide)) _, Kd.R_far (Kd.R_grown h.I hg (hne 3 (by omega))) (hne1 3 (by decide)) _, Kd.R_far (Kd.R_grown h.R hg (hne 4 (by omega))) (hne1 4 (by decide)) _⟩
  refine Kd.Q_far ?_ (hne1 _ (by omega)) _
  simp only [List.getElem?_set] at hb
  rw [Array.getElem?_setIfInBounds] at hu
  by_cases hij : j = i
  · subst hij
    rw [if_pos rfl, if_pos (by rw [h.len]; exact hj)] at hu
    rw [if_pos rfl, if_pos hj] at hb
    obtain rfl := Option.some.inj hu
    obtain rfl := Option.some.inj hb
    exact hq
  · rw [if_neg hij] at hb hu
    exact Kd.Q_grown (h.buf i u b hu hb) hg (hne _ (by omega))
end Ins
end Go.Proofs.Ytkfghiofmamdnaa.PA
