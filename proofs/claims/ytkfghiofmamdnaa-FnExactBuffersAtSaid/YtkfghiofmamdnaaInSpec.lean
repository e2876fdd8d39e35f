/- The reference's insertion ring at work; what stores and appends make of it; no condition but what each theorem names. -/
import Derived.Test.YtkfghiofmamdnaaInWf
namespace Go.Proofs.Ytkfghiofmamdnaa.PA
open Go.RowKit Go.Proofs.YtkfghiofmamdnaaW.PrintWords Go.Proofs.YtkfghiofmamdnaaW.PrintLast Go.Proofs.YtkfghiofmamdnaaW.PrintMore
set_option linter.unusedVariables false
set_option linter.unusedSimpArgs false
namespace Ins
/-- The reference's insertion ring at work, at block g. -/
def Is66 (w0 w : World) (g gB cB : Nat) (vL vI vR vX : Value) (A : Option Addr) (c : Nat) (n room : Int) (ow : Bool) (ms : List S60) (st : St) : Prop :=
  ∃ f cur, Core w0 w f g gB cur vL vI vR st ∧ Kd.R (Kd.int .i64) 3 w w0.heap.size (fun k => f k = 5) vX st.idle ∧ w.heap[g]? = some (.cells #[.int .i64 n, .int .i64 room, .bool ow, .slice A ms.length c, .slice (some ⟨gB, 0, none⟩) st.buf.length cB, vL, vI, vR, .int .i64 st.peak, vX] 66 (0, 0)) ∧ Kd.C k60 w0 A ms.length ms ∧ ms.length ≤ c
section
variable {w0 w : World} {g gB cB : Nat} {vL vI vR vX : Value} {A : Option Addr} {c : Nat} {n room : Int} {ow : Bool} {ms : List S60} {st : St}
theorem Is66.grow {w' : World} (h : Is66 w0 w g gB cB vL vI vR vX A c n room ow ms st) (hb : Below w.heap.size w w') : Is66 w0 w' g gB cB vL vI vR vX A c n room ow ms st := by
  obtain ⟨f, cur, HC, HX, HG, HM, hc⟩ := h
  exact ⟨f, cur, HC.grow hb, Kd.R_below HX hb, blk_below HG hb, HM, hc⟩
theorem Is66.drew_ (h : Is66 w0 w g gB cB vL vI vR vX A c n room ow ms st) : Is66 w0 w.drew g gB cB vL vI vR vX A c n room ow ms st := h.grow (below_drew (Below.refl _ _))
theorem Is66.drewN (h : Is66 w0 w g gB cB vL vI vR vX A c n room ow ms st) (m : Nat) : Is66 w0 (w.drewN m) g gB cB vL vI vR vX A c n room ow ms st := h.grow (pw_below_drewN (Below.refl _ _) m)
theorem Is66.below (h : Is66 w0 w g gB cB vL vI vR vX A c n room ow ms st) : Below w0.heap.size w0 w := by
  obtain ⟨f, cur, HC, HX, HG, HM, hc⟩ := h
  exact HC.below
theorem Is66.cells (h : Is66 w0 w g gB cB vL vI vR vX A c n room ow ms st) : w.cell? ⟨g, 0, none⟩ = some (.int .i64 n) ∧ w.cell? ⟨g, 1, none⟩ = some (.int .i64 room) ∧ w.cell? ⟨g, 2, none⟩ = some (.bool ow) ∧ w.cell? ⟨g, 3, none⟩ = some (.slice A ms.length c) ∧ w.cell? ⟨g, 4, none⟩ = some (.slice (some ⟨gB, 0, none⟩) st.buf.length cB) ∧ w.cell? ⟨g, 5, none⟩ = some vL ∧ w.cell? ⟨g, 6, none⟩ = some vI ∧ w.cell? ⟨g, 7, none⟩ = some vR ∧ w.cell? ⟨g, 8, none⟩ = some (.int .i64 st.peak) ∧ w.cell? ⟨g, 9, none⟩ = some vX ∧ w.frozen? ⟨g, 8, none⟩ = false := by
  obtain ⟨f, cur, HC, HX, HG, HM, hc⟩ := h
  exact ⟨(blk_cell HG 0).trans rfl, (blk_cell HG 1).trans rfl, (blk_cell HG 2).trans rfl, (blk_cell HG 3).trans rfl, (blk_cell HG 4).trans rfl, (blk_cell HG 5).trans rfl, (blk_cell HG 6).trans rfl, (blk_cell HG 7).trans rfl, (blk_cell HG 8).trans rfl, (blk_cell HG 9).trans rfl, blk_frozen HG 8⟩
theorem Is66.msg (h : Is66 w0 w g gB cB vL vI vR vX A c n room ow ms st) (k : Nat) (hk : k < ms.length) : ∃ ad, A = some ad ∧ w.cell? ⟨(ad.add (k * 3)).block, (ad.add (k * 3)).off + 2, none⟩ = some (.int .i64 (rd_T60 ms k).f2) := by
  obtain ⟨f, cur, HC, HX, HG, HM, hc⟩ := h
  obtain ⟨ad, eA, _, _, hm2⟩ := at_T60 HM (k : Int) (by omega) (by omega)
  exact ⟨ad, eA, pw_cell_below HC.below hm2⟩
theorem Is66.peak_set (h : Is66 w0 w g gB cB vL vI vR vX A c n room ow ms st) (x : Int) : Is66 w0 (w.setCell ⟨g, 8, none⟩ (.int .i64 x)) g gB cB vL vI vR vX A c n room ow ms { st with peak := x } := by
  obtain ⟨f, cur, HC, HX, HG, HM, hc⟩ := h
  have h2 := HC.far (p := ⟨g, 8, none⟩) HC.gg HC.gl (.inl HC.fg) (.int .i64 x)
  have hf := HC.fg
  exact ⟨f, cur, ⟨h2.below, h2.fg, h2.gg, h2.gl, h2.fB, h2.gB0, h2.blk, h2.len, h2.buf, h2.L, h2.I, h2.R⟩, Kd.R_far HX (fun k hk e => by rw [e] at hk; exact absurd (hf.symm.trans hk) (by decide)) _, blk_set HG 8 _, HM, hc⟩
theorem Is66.bufcell (h : Is66 w0 w g gB cB vL vI vR vX A c n room ow ms st) (o : Nat) (ho : o < st.buf.length) : ∃ A c, w.cell? ⟨gB, o, none⟩ = some (.slice A (st.buf.getD o []).length c) ∧ w.frozen? ⟨gB, o, none⟩ = false ∧ (st.buf.getD o []).length ≤ c ∧ Kd.C (Kd.int .i64) w A (st.buf.getD o []).length (st.buf.getD o []) := by
  obtain ⟨f, cur, HC, HX, HG, HM, hc⟩ := h
  have hoc : o < cur.size := by rw [HC.len]; exact ho
  have hQ := HC.buf o cur[o] st.buf[o] (Array.getElem?_eq_getElem hoc) (List.getElem?_eq_getElem ho)
  obtain ⟨Au, cu, eu, hcu⟩ := Kd.Q_slice hQ
  refine ⟨Au, cu, ?_⟩
  rw [show st.buf.getD o [] = st.buf[o] by simp [List.getD_eq_getElem?_getD, List.getElem?_eq_getElem ho]]
  rw [eu] at hQ
  refine ⟨?_, blk_frozen HC.blk o, hcu, (Kd.Q_reads' hQ).2.2⟩
  rw [← eu]
  exact (blk_cell HC.blk o).trans (Array.getElem?_eq_getElem hoc)
theorem Is66.cut (h : Is66 w0 w g gB cB vL vI vR vX A c n room ow ms st) (o : Nat) (ho : o < st.buf.length) (x : Int) (tl : List Int) (hb : st.buf.getD o [] = x :: tl) : ∃ Au cu, w.cell? ⟨gB, o, none⟩ = some (.slice Au (tl.length + 1) cu) ∧ w.frozen? ⟨gB, o, none⟩ = false ∧ tl.length + 1 ≤ cu ∧ Kd.C (Kd.int .i64) w Au (x :: tl).length (x :: tl) ∧
    ∀ W, Below w.heap.size w W → Kd.C (Kd.int .i64) W (if cu = 1 then Au else Au.map (·.add (1 * 1))) tl.length tl := by
  obtain ⟨f, cur, HC, HX, HG, HM, hc⟩ := h
  have hoc : o < cur.size := by rw [HC.len]; exact ho
  have hQ := HC.buf o cur[o] st.buf[o] (Array.getElem?_eq_getElem hoc) (List.getElem?_eq_getElem ho)
  rw [show st.buf[o] = x :: tl by rw [← hb]; simp [List.getD_eq_getElem?_getD, List.getElem?_eq_getElem ho]] at hQ
  obtain ⟨Au, cu, eu, hcu⟩ := Kd.Q_slice hQ
  rw [eu] at hQ
  refine ⟨Au, cu, ?_, blk_frozen HC.blk o, hcu, (Kd.Q_reads' hQ).2.2, fun W hW => ?_⟩
  · have e := (blk_cell HC.blk o).trans (Array.getElem?_eq_getElem hoc)
    rw [eu] at e
    exact e
  · have h2 := Kd.Q_drop (k := 1) (Kd.Q_below hQ hW) (by simp)
    exact (Kd.Q_reads' h2).2.2
/-- Another row of new memory is laid in the buffers. -/
theorem Is66.buf_new {w1 : World} (h : Is66 w0 w g gB cB vL vI vR vX A c n room ow ms st) (hb : Below w.heap.size w w1) (o : Nat) {v1 : Value} {b1 : List Int} (hr : Kd.R (Kd.int .i64) 3 w1 w.heap.size (fun _ => True) v1 b1) :
    Is66 w0 (w1.setCell ⟨gB, o, none⟩ v1) g gB cB vL vI vR vX A c n room ow ms { st with buf := st.buf.set o b1 } := by
  obtain ⟨f, cur, HC, HX, HG, HM, hc⟩ := h
  have hle := HC.below.size
  have hf : ∀ k, k < w.heap.size → (fun k => if k < w.heap.size then f k else 6 + o) k = f k := fun k hk => if_pos hk
  have H1 := (HC.recolor hf).grow hb
  have hq : Kd.Q (Kd.int .i64) 3 w1 w0.heap.size (fun k => (if k < w.heap.size then f k else 6 + o) = 6 + o) v1 b1 := Kd.Q_of_R (Kd.R_lower (Kd.R_mono (Kd.R_bound hr) (fun k hk => if_neg (by have := hk.2.1; omega))) hle)
  have hX : Kd.R (Kd.int .i64) 3 w1 w0.heap.size (fun k => (if k < w.heap.size then f k else 6 + o) = 5) vX st.idle := Kd.R_below (Kd.R_mono (Kd.R_bound HX) (fun k hk => by rw [if_pos hk.2.2.1]; exact hk.1)) hb
  have hB1 : (if gB < w.heap.size then f gB else 6 + o) = 1 := by rw [if_pos (blk_lt HC.blk)]; exact HC.fB
  refine ⟨_, _, H1.buf_put hq, Kd.R_far hX (fun k hk e => ?_) _, ?_, HM, hc⟩
  · rw [e] at hk
    exact absurd (hB1.symm.trans hk) (by decide)
  · rw [List.length_set]
    refine blk_far (blk_below HG hb) (fun e => ?_) _
    have := HC.fg
    rw [e, HC.fB] at this
    cases this
theorem Is66.link_set {gL nL cL : Nat} (h : Is66 w0 w g gB cB (.slice (some ⟨gL, 0, none⟩) nL cL) vI vR vX A c n room ow ms st) (i x : Int) : Is66 w0 (w.setCell ⟨gL, i.toNat, none⟩ (.int .i64 x)) g gB cB (.slice (some ⟨gL, 0, none⟩) nL cL) vI vR vX A c n room ow ms { st with links := st.links.set i.toNat x } := by
  obtain ⟨f, cur, HC, HX, HG, HM, hc⟩ := h
  have hf := HC.L.1 gL rfl
  refine ⟨f, cur, HC.link_set i x, Kd.R_far HX (fun k hk e => ?_) _, blk_far HG (fun e => ?_) _, HM, hc⟩
  · rw [e] at hk
    exact absurd (hf.symm.trans hk) (by decide)
  · have := HC.fg
    rw [e] at this
    exact absurd (hf.symm.trans this) (by decide)
theorem Is66.linkcell {gL nL cL : Nat} (h : Is66 w0 w g gB cB (.slice (some ⟨gL, 0, none⟩) nL cL) vI vR vX A c n room ow ms st) (o : Nat) (ho : o < st.links.length) : w.cell? ⟨gL, o, none⟩ = some (.int .i64 (rd st.links o)) ∧ w.frozen? ⟨gL, o, none⟩ = false ∧ nL = st.links.length ∧ g ≠ gL := by
  obtain ⟨f, cur, HC, HX, HG, HM, hc⟩ := h
  have hn := (Kd.R_reads' HC.L).1
  have h2 := Kd.R_celln 0 HC.L (o : Int) (by omega) (by omega)
  simp only [Int.toNat_natCast] at h2
  refine ⟨h2.1, h2.2, hn, ?_⟩
  rintro rfl
  have e1 := HC.L.1 g rfl
  have e2 := HC.fg
  simp only at e1
  omega
theorem Is66.linkform (h : Is66 w0 w g gB cB vL vI vR vX A c n room ow ms st) (hp : 0 < st.links.length) : ∃ gL cL, vL = .slice (some ⟨gL, 0, none⟩) st.links.length cL := by
  obtain ⟨f, cur, HC, HX, HG, HM, hc⟩ := h
  obtain ⟨gL, cL, e, _⟩ := Kd.R_form HC.L hp
  exact ⟨gL, cL, e⟩
theorem Is66.ins_set {gI nL cL : Nat} (h : Is66 w0 w g gB cB vL (.slice (some ⟨gI, 0, none⟩) nL cL) vR vX A c n room ow ms st) (i x : Int) : Is66 w0 (w.setCell ⟨gI, i.toNat, none⟩ (.int .i64 x)) g gB cB vL (.slice (some ⟨gI, 0, none⟩) nL cL) vR vX A c n room ow ms { st with ins := st.ins.set i.toNat x } := by
  obtain ⟨f, cur, HC, HX, HG, HM, hc⟩ := h
  have hf := HC.I.1 gI rfl
  refine ⟨f, cur, HC.ins_set i x, Kd.R_far HX (fun k hk e => ?_) _, blk_far HG (fun e => ?_) _, HM, hc⟩
  · rw [e] at hk
    exact absurd (hf.symm.trans hk) (by decide)
  · have := HC.fg
    rw [e] at this
    exact absurd (hf.symm.trans this) (by decide)
theorem Is66.inscell {gI nL cL : Nat} (h : Is66 w0 w g gB cB vL (.slice (some ⟨gI, 0, none⟩) nL cL) vR vX A c n room ow ms st) (o : Nat) (ho : o < st.ins.length) : w.cell? ⟨gI, o, none⟩ = some (.int .i64 (rd st.ins o)) ∧ w.frozen? ⟨gI, o, none⟩ = false ∧ nL = st.ins.length ∧ g ≠ gI := by
  obtain ⟨f, cur, HC, HX, HG, HM, hc⟩ := h
  have hn := (Kd.R_reads' HC.I).1
  have h2 := Kd.R_celln 0 HC.I (o : Int) (by omega) (by omega)
  simp only [Int.toNat_natCast] at h2
  refine ⟨h2.1, h2.2, hn, ?_⟩
  rintro rfl
  have e1 := HC.I.1 g rfl
  have e2 := HC.fg
  simp only at e1
  omega
theorem Is66.insform (h : Is66 w0 w g gB cB vL vI vR vX A c n room ow ms st) (hp : 0 < st.ins.length) : ∃ gI cL, vI = .slice (some ⟨gI, 0, none⟩) st.ins.length cL := by
  obtain ⟨f, cur, HC, HX, HG, HM, hc⟩ := h
  obtain ⟨gL, cL, e, _⟩ := Kd.R_form HC.I hp
  exact ⟨gL, cL, e⟩
theorem Is66.rd_set {gR nL cL : Nat} (h : Is66 w0 w g gB cB vL vI (.slice (some ⟨gR, 0, none⟩) nL cL) vX A c n room ow ms st) (i x : Int) : Is66 w0 (w.setCell ⟨gR, i.toNat, none⟩ (.int .i64 x)) g gB cB vL vI (.slice (some ⟨gR, 0, none⟩) nL cL) vX A c n room ow ms { st with rdd := st.rdd.set i.toNat x } := by
  obtain ⟨f, cur, HC, HX, HG, HM, hc⟩ := h
  have hf := HC.R.1 gR rfl
  refine ⟨f, cur, HC.rd_set i x, Kd.R_far HX (fun k hk e => ?_) _, blk_far HG (fun e => ?_) _, HM, hc⟩
  · rw [e] at hk
    exact absurd (hf.symm.trans hk) (by decide)
  · have := HC.fg
    rw [e] at this
    exact absurd (hf.symm.trans this) (by decide)
theorem Is66.rdcell {gR nL cL : Nat} (h : Is66 w0 w g gB cB vL vI (.slice (some ⟨gR, 0, none⟩) nL cL) vX A c n room ow ms st) (o : Nat) (ho : o < st.rdd.length) : w.cell? ⟨gR, o, none⟩ = some (.int .i64 (rd st.rdd o)) ∧ w.frozen? ⟨gR, o, none⟩ = false ∧ nL = st.rdd.length ∧ g ≠ gR := by
  obtain ⟨f, cur, HC, HX, HG, HM, hc⟩ := h
  have hn := (Kd.R_reads' HC.R).1
  have h2 := Kd.R_celln 0 HC.R (o : Int) (by omega) (by omega)
  simp only [Int.toNat_natCast] at h2
  refine ⟨h2.1, h2.2, hn, ?_⟩
  rintro rfl
  have e1 := HC.R.1 g rfl
  have e2 := HC.fg
  simp only at e1
  omega
theorem Is66.rdform (h : Is66 w0 w g gB cB vL vI vR vX A c n room ow ms st) (hp : 0 < st.rdd.length) : ∃ gR cL, vR = .slice (some ⟨gR, 0, none⟩) st.rdd.length cL := by
  obtain ⟨f, cur, HC, HX, HG, HM, hc⟩ := h
  obtain ⟨gL, cL, e, _⟩ := Kd.R_form HC.R hp
  exact ⟨gL, cL, e⟩
theorem Is66.idle_set {gX nL cL : Nat} (h : Is66 w0 w g gB cB vL vI vR (.slice (some ⟨gX, 0, none⟩) nL cL) A c n room ow ms st) (i x : Int) : Is66 w0 (w.setCell ⟨gX, i.toNat, none⟩ (.int .i64 x)) g gB cB vL vI vR (.slice (some ⟨gX, 0, none⟩) nL cL) A c n room ow ms { st with idle := st.idle.set i.toNat x } := by
  obtain ⟨f, cur, HC, HX, HG, HM, hc⟩ := h
  have hf : f gX = 5 := HX.1 gX rfl
  have hlt := Kd.R_lt HX gX rfl
  have hge := Kd.R_base HX gX rfl
  have h2 := HC.far (p := ⟨gX, i.toNat, none⟩) hge hlt (.inr hf) (.int .i64 x)
  refine ⟨f, cur, ⟨h2.below, h2.fg, h2.gg, h2.gl, h2.fB, h2.gB0, h2.blk, h2.len, h2.buf, h2.L, h2.I, h2.R⟩, (Kd.R_putg HX i x).1, blk_far HG (fun e => ?_) _, HM, hc⟩
  have := HC.fg
  rw [e] at this
  exact absurd (hf.symm.trans this) (by decide)
theorem Is66.idlecell {gX nL cL : Nat} (h : Is66 w0 w g gB cB vL vI vR (.slice (some ⟨gX, 0, none⟩) nL cL) A c n room ow ms st) (o : Nat) (ho : o < st.idle.length) : w.cell? ⟨gX, o, none⟩ = some (.int .i64 (rd st.idle o)) ∧ w.frozen? ⟨gX, o, none⟩ = false ∧ nL = st.idle.length ∧ g ≠ gX := by
  obtain ⟨f, cur, HC, HX, HG, HM, hc⟩ := h
  have hn := (Kd.R_reads' HX).1
  have h2 := Kd.R_celln 0 HX (o : Int) (by omega) (by omega)
  simp only [Int.toNat_natCast] at h2
  refine ⟨h2.1, h2.2, hn, ?_⟩
  rintro rfl
  have e1 := HX.1 g rfl
  have e2 := HC.fg
  simp only at e1
  omega
theorem Is66.idleform (h : Is66 w0 w g gB cB vL vI vR vX A c n room ow ms st) (hp : 0 < st.idle.length) : ∃ gX cL, vX = .slice (some ⟨gX, 0, none⟩) st.idle.length cL := by
  obtain ⟨f, cur, HC, HX, HG, HM, hc⟩ := h
  obtain ⟨gL, cL, e, _⟩ := Kd.R_form HX hp
  exact ⟨gL, cL, e⟩
/-- Behind an append onto a buffer. -/
theorem Is66.appended (h : Is66 w0 w g gB cB vL vI vR vX A c n room ow ms st) (o : Nat) (ho : o < st.buf.length) : ∃ Au cu, w.cell? ⟨gB, o, none⟩ = some (.slice Au (st.buf.getD o []).length cu) ∧ ∃ ok : Nat → Prop, Kd.Q (Kd.int .i64) 3 w w0.heap.size ok (.slice Au (st.buf.getD o []).length cu) (st.buf.getD o []) ∧ (∀ k, w.heap.size ≤ k → ok k) ∧
    ∀ m w1 v1 b1, (w.drewN m).grownBy w1 (Value.slice Au (st.buf.getD o []).length cu).ownBlock → Below w0.heap.size w0 w1 → Kd.Q (Kd.int .i64) 3 w1 w0.heap.size ok v1 b1 → (w1.cell? ⟨gB, o, none⟩ = some (.slice Au (st.buf.getD o []).length cu) ∧ w1.frozen? ⟨gB, o, none⟩ = false ∧ w1.cell? ⟨g, 4, none⟩ = some (.slice (some ⟨gB, 0, none⟩) st.buf.length cB)) ∧ Is66 w0 (w1.setCell ⟨gB, o, none⟩ v1) g gB cB vL vI vR vX A c n room ow ms { st with buf := st.buf.set o b1 } := by
  obtain ⟨f0, cur, HC0, HX0, HG, HM, hc⟩ := h
  obtain ⟨f, hf, hfj⟩ : ∃ f : Nat → Nat, (∀ k, k < w.heap.size → f k = f0 k) ∧ ∀ k, w.heap.size ≤ k → f k = 6 + o := ⟨fun k => if k < w.heap.size then f0 k else 6 + o, fun k hk => if_pos hk, fun k hk => if_neg (by omega)⟩
  have HC := HC0.recolor hf
  have HX : Kd.R (Kd.int .i64) 3 w w0.heap.size (fun k => f k = 5) vX st.idle := Kd.R_mono (Kd.R_bound HX0) (fun k hk => (hf k hk.2.2.1).trans hk.1)
  clear HC0 HX0 hf
  have hoc : o < cur.size := by rw [HC.len]; exact ho
  have hcurx : cur[o]? = some cur[o] := Array.getElem?_eq_getElem hoc
  have hQ := HC.buf o cur[o] st.buf[o] hcurx (List.getElem?_eq_getElem ho)
  have hgd : st.buf.getD o [] = st.buf[o] := by simp [List.getD_eq_getElem?_getD, List.getElem?_eq_getElem ho]
  rw [hgd]
  obtain ⟨Au, cu, eu, hcu⟩ := Kd.Q_slice hQ
  rw [eu] at hQ hcurx
  have hag : ∀ k, (Value.slice Au st.buf[o].length cu).ownBlock = some k → f k = 6 + o := hQ.1
  have hg0 : f g = 0 := HC.fg
  have hB1 : f gB = 1 := HC.fB
  have ng : some g ≠ (Value.slice Au st.buf[o].length cu).ownBlock := fun e => by have := hag g e.symm; omega
  have nB : some gB ≠ (Value.slice Au st.buf[o].length cu).ownBlock := fun e => by have := hag gB e.symm; omega
  refine ⟨Au, cu, (blk_cell HC.blk o).trans hcurx, fun k => f k = 6 + o, hQ, hfj, fun m w1 v1 b1 hg hb hq => ?_⟩
  have hblk := blk_grown (blk_drewN HC.blk m) hg nB
  have hobj := blk_grown (blk_drewN HG m) hg ng
  have hg' : w.grownBy w1 (Value.slice Au st.buf[o].length cu).ownBlock := ⟨hg.os, hg.tape, hg.output, hg.size, hg.block⟩
  refine ⟨⟨(blk_cell hblk o).trans hcurx, blk_frozen hblk o, (blk_cell hobj 4).trans rfl⟩, f, _, HC.appended ho hcurx hg' hb hQ.1 b1 v1 hq, Kd.R_far (Kd.R_grown HX hg' (fun k hk e => ?_)) (fun k hk e => ?_) _, ?_, HM, hc⟩
  · have h1 := hag k e.symm
    have h2 : f k = 5 := hk
    omega
  · have h2 : f k = 5 := hk
    rw [e] at h2
    exact absurd (hB1.symm.trans h2) (by decide)
  · rw [List.length_set]
    exact blk_far hobj (fun e => by rw [e] at hg0; exact absurd (hg0.symm.trans hB1) (by decide)) _
/-- Behind an append onto the row ins. -/
theorem Is66.appendI (h : Is66 w0 w g gB cB vL vI vR vX A c n room ow ms st) : ∃ ok : Nat → Prop, Kd.R (Kd.int .i64) 3 w w0.heap.size ok vI st.ins ∧ (∀ k, w.heap.size ≤ k → ok k) ∧
    ∀ m w1 v1 b1, (w.drewN m).grownBy w1 vI.ownBlock → Below w0.heap.size w0 w1 → Kd.R (Kd.int .i64) 3 w1 w0.heap.size ok v1 b1 → (w1.cell? ⟨g, 6, none⟩ = some vI ∧ w1.frozen? ⟨g, 6, none⟩ = false) ∧ Is66 w0 (w1.setCell ⟨g, 6, none⟩ v1) g gB cB vL v1 vR vX A c n room ow ms { st with ins := b1 } := by
  obtain ⟨f0, cur, HC0, HX0, HG, HM, hc⟩ := h
  obtain ⟨f, hf, hfj⟩ : ∃ f : Nat → Nat, (∀ k, k < w.heap.size → f k = f0 k) ∧ ∀ k, w.heap.size ≤ k → f k = 3 := ⟨fun k => if k < w.heap.size then f0 k else 3, fun k hk => if_pos hk, fun k hk => if_neg (by omega)⟩
  have HC := HC0.recolor hf
  have HX : Kd.R (Kd.int .i64) 3 w w0.heap.size (fun k => f k = 5) vX st.idle := Kd.R_mono (Kd.R_bound HX0) (fun k hk => (hf k hk.2.2.1).trans hk.1)
  clear HC0 HX0 hf
  have hag : ∀ k, vI.ownBlock = some k → f k = 3 := HC.I.1
  have hg0 : f g = 0 := HC.fg
  have hB1 : f gB = 1 := HC.fB
  have hne : ∀ c, c ≠ 3 → ∀ k, f k = c → some k ≠ vI.ownBlock := by
    rintro c h1 k rfl e
    exact h1 (hag k e.symm)
  have hn0 : ∀ c, c ≠ 0 → ∀ k, f k = c → k ≠ (⟨g, 6, none⟩ : Addr).block := by
    rintro c h1 k rfl rfl
    exact h1 hg0
  refine ⟨fun k => f k = 3, HC.I, hfj, fun m w1 v1 b1 hg hb hq => ?_⟩
  have hobj := blk_grown (blk_drewN HG m) hg (hne 0 (by decide) g hg0)
  have hg' : w.grownBy w1 vI.ownBlock := ⟨hg.os, hg.tape, hg.output, hg.size, hg.block⟩
  refine ⟨⟨(blk_cell hobj 6).trans rfl, blk_frozen hobj 6⟩, f, cur, ⟨hb.setCell HC.gg _, hg0, HC.gg, by simpa [World.setCell] using Nat.lt_of_lt_of_le HC.gl hg'.size, hB1, HC.gB0, blk_far (blk_grown HC.blk hg' (hne 1 (by decide) gB hB1)) (hn0 1 (by decide) gB hB1) _, HC.len, fun j u b hu hbb => Kd.Q_far (Kd.Q_grown (HC.buf j u b hu hbb) hg' (hne _ (by omega))) (hn0 _ (by omega)) _, Kd.R_far (Kd.R_grown HC.L hg' (hne 2 (by decide))) (hn0 2 (by decide)) _, Kd.R_far hq (hn0 3 (by decide)) _, Kd.R_far (Kd.R_grown HC.R hg' (hne 4 (by decide))) (hn0 4 (by decide)) _⟩, Kd.R_far (Kd.R_grown HX hg' (hne 5 (by decide))) (hn0 5 (by decide)) _, blk_set hobj 6 v1, HM, hc⟩
/-- Behind an append onto the row rdd. -/
theorem Is66.appendR (h : Is66 w0 w g gB cB vL vI vR vX A c n room ow ms st) : ∃ ok : Nat → Prop, Kd.R (Kd.int .i64) 3 w w0.heap.size ok vR st.rdd ∧ (∀ k, w.heap.size ≤ k → ok k) ∧
    ∀ m w1 v1 b1, (w.drewN m).grownBy w1 vR.ownBlock → Below w0.heap.size w0 w1 → Kd.R (Kd.int .i64) 3 w1 w0.heap.size ok v1 b1 → (w1.cell? ⟨g, 7, none⟩ = some vR ∧ w1.frozen? ⟨g, 7, none⟩ = false) ∧ Is66 w0 (w1.setCell ⟨g, 7, none⟩ v1) g gB cB vL vI v1 vX A c n room ow ms { st with rdd := b1 } := by
  obtain ⟨f0, cur, HC0, HX0, HG, HM, hc⟩ := h
  obtain ⟨f, hf, hfj⟩ : ∃ f : Nat → Nat, (∀ k, k < w.heap.size → f k = f0 k) ∧ ∀ k, w.heap.size ≤ k → f k = 4 := ⟨fun k => if k < w.heap.size then f0 k else 4, fun k hk => if_pos hk, fun k hk => if_neg (by omega)⟩
  have HC := HC0.recolor hf
  have HX : Kd.R (Kd.int .i64) 3 w w0.heap.size (fun k => f k = 5) vX st.idle := Kd.R_mono (Kd.R_bound HX0) (fun k hk => (hf k hk.2.2.1).trans hk.1)
  clear HC0 HX0 hf
  have hag : ∀ k, vR.ownBlock = some k → f k = 4 := HC.R.1
  have hg0 : f g = 0 := HC.fg
  have hB1 : f gB = 1 := HC.fB
  have hne : ∀ c, c ≠ 4 → ∀ k, f k = c → some k ≠ vR.ownBlock := by
    rintro c h1 k rfl e
    exact h1 (hag k e.symm)
  have hn0 : ∀ c, c ≠ 0 → ∀ k, f k = c → k ≠ (⟨g, 7, none⟩ : Addr).block := by
    rintro c h1 k rfl rfl
    exact h1 hg0
  refine ⟨fun k => f k = 4, HC.R, hfj, fun m w1 v1 b1 hg hb hq => ?_⟩
  have hobj := blk_grown (blk_drewN HG m) hg (hne 0 (by decide) g hg0)
  have hg' : w.grownBy w1 vR.ownBlock := ⟨hg.os, hg.tape, hg.output, hg.size, hg.block⟩
  refine ⟨⟨(blk_cell hobj 7).trans rfl, blk_frozen hobj 7⟩, f, cur, ⟨hb.setCell HC.gg _, hg0, HC.gg, by simpa [World.setCell] using Nat.lt_of_lt_of_le HC.gl hg'.size, hB1, HC.gB0, blk_far (blk_grown HC.blk hg' (hne 1 (by decide) gB hB1)) (hn0 1 (by decide) gB hB1) _, HC.len, fun j u b hu hbb => Kd.Q_far (Kd.Q_grown (HC.buf j u b hu hbb) hg' (hne _ (by omega))) (hn0 _ (by omega)) _, Kd.R_far (Kd.R_grown HC.L hg' (hne 2 (by decide))) (hn0 2 (by decide)) _, Kd.R_far (Kd.R_grown HC.I hg' (hne 3 (by decide))) (hn0 3 (by decide)) _, Kd.R_far hq (hn0 4 (by decide)) _⟩, Kd.R_far (Kd.R_grown HX hg' (hne 5 (by decide))) (hn0 5 (by decide)) _, blk_set hobj 7 v1, HM, hc⟩
end
end Ins
end Go.Proofs.Ytkfghiofmamdnaa.PA
