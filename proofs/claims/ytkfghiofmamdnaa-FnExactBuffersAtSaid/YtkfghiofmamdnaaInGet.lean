/- A station of an insertion ring gets a cell: what the call comes to; no condition but what each theorem names. -/
import Derived.Test.YtkfghiofmamdnaaInPure
import Derived.Deep.RegionHeld3
import Derived.Deep.RegionLaw
import Derived.Deep.AppendLies
namespace Go.Proofs.Ytkfghiofmamdnaa.PA
open Go.RowKit Go.Proofs.YtkfghiofmamdnaaW.PrintWords Go.Proofs.YtkfghiofmamdnaaW.PrintLast Go.Proofs.YtkfghiofmamdnaaW.PrintMore
attribute [local go_sem] max2_int min2_int max_two min_two max_three min_three max_four min_four
set_option linter.unusedVariables false
set_option linter.unusedSimpArgs false
namespace Ins
set_option maxHeartbeats 2000000 in
set_option maxRecDepth 100000 in
theorem get_none (w0 w : World) (g gB cB : Nat) (vL vI vR : Value) (A : Option Addr) (c : Nat) (n room : Int) (ow : Bool) (ms : List S60) (t : Int) (st : St) (own : Int) (K : Nat) (h : Is74 w0 w g gB cB vL vI vR A c n room ow ms t st) (hw : Wf n ms.length K st) (h0 : 0 ≤ own) (h1 : own < n) (hx : inAt n st own - 1 < 0) :
    Calls Try.prog 89 #[.pointer (some ⟨g, 0, none⟩), .int .i64 own] w fun e w' => e = .returned (.tuple #[]) ∧ Drawn0 w w' := by
  obtain ⟨f, cur, HC, HG, HM, hc⟩ := h
  have hn0 := hw.n0
  have hn1 := hw.n1
  have hM1 := hw.M1
  have hl := hw.links
  have hin := hw.in_ own h0 h1
  obtain ⟨gL, cL, rfl, hgL, _⟩ := Kd.R_form HC.L (by omega)
  obtain ⟨hL, _⟩ := Kd.R_celln 0 HC.L ((own + n - 1) % n) (Int.emod_nonneg _ (by omega)) (by rw [hl]; exact Int.emod_lt_of_pos _ (by omega))
  have hL' : w.cell? ⟨gL, ((own + n - 1) % n).toNat, none⟩ = some (.int .i64 (inAt n st own)) := hL
  clear hL
  generalize hgen : inAt n st own = x at *
  have a0 : 0 ≤ (own + n - 1) % n := Int.emod_nonneg _ (by omega)
  have a1 : (own + n - 1) % n < (st.links.length : Int) := by rw [hl]; exact Int.emod_lt_of_pos _ (by omega)
  have e1 : IntKind.i64.wrap (own + n) = own + n := IntWalk.i64_in _ (by omega)
  have e2 : IntKind.i64.wrap (own + n - 1) = own + n - 1 := IntWalk.i64_in _ (by omega)
  have e3 : (own + n - 1).tmod n = (own + n - 1) % n := Int.tmod_eq_emod_of_nonneg (by omega)
  have e4 : IntKind.i64.wrap ((own + n - 1) % n) = (own + n - 1) % n := IntWalk.i64_in _ (by omega)
  have e5 : IntKind.i64.wrap (x - 1) = x - 1 := IntWalk.i64_in _ (by omega)
  have c0 : w.cell? ⟨g, 0, none⟩ = some (.int .i64 n) := (blk_cell HG 0).trans rfl
  have c6 : w.cell? ⟨g, 6, none⟩ = some (.slice (some ⟨gL, 0, none⟩) st.links.length cL) := (blk_cell HG 6).trans rfl
  have p0 : decide (0 ≤ (own + n - 1) % n) = true := decide_eq_true a0
  have p1 : decide ((own + n - 1) % n < (st.links.length : Int)) = true := decide_eq_true a1
  have d0 : decide (x - 1 < 0) = true := decide_eq_true hx
  clear HG HM HC hgL hgen
  go_enter Try.func89, Try.ntmps89
  go_wp2
  go_quiet (fail)
  go_wp2
  go_end0
  exact ⟨rfl, by repeat (first | exact Drawn0.refl _ | apply Drawn0.step)⟩
set_option maxHeartbeats 2000000 in
set_option maxRecDepth 100000 in
theorem get_read (w0 w : World) (g gB cB : Nat) (vL vI vR : Value) (A : Option Addr) (c : Nat) (n room : Int) (ow : Bool) (ms : List S60) (t : Int) (st : St) (own : Int) (K : Nat) (h : Is74 w0 w g gB cB vL vI vR A c n room ow ms t st) (hw : Wf n ms.length K st) (h0 : 0 ≤ own) (h1 : own < n) (hx : ¬ inAt n st own - 1 < 0) (hto : (rd_T60 ms (inAt n st own - 1)).f2 = own) :
    Calls Try.prog 89 #[.pointer (some ⟨g, 0, none⟩), .int .i64 own] w fun e w' => e = .returned (.tuple #[]) ∧ Is74 w0 w' g gB cB vL vI vR A c n room ow ms t (get1 n t ms st own) := by
  obtain ⟨f, cur, HC, HG, HM, hc⟩ := h
  have hn0 := hw.n0
  have hn1 := hw.n1
  have hM1 := hw.M1
  have hl := hw.links
  have hin := hw.in_ own h0 h1
  obtain ⟨gL, cL, rfl, hgL, _⟩ := Kd.R_form HC.L (by omega)
  obtain ⟨hL, _⟩ := Kd.R_celln 0 HC.L ((own + n - 1) % n) (Int.emod_nonneg _ (by omega)) (by rw [hl]; exact Int.emod_lt_of_pos _ (by omega))
  have hL' : w.cell? ⟨gL, ((own + n - 1) % n).toNat, none⟩ = some (.int .i64 (inAt n st own)) := hL
  clear hL
  have hr := hw.rdd
  obtain ⟨gR, cR, rfl, hgR, _⟩ := Kd.R_form HC.R (by omega)
  obtain ⟨k, hk⟩ : ∃ k : Nat, inAt n st own = (k : Int) + 1 := ⟨(inAt n st own - 1).toNat, by omega⟩
  have hk1 : inAt n st own - 1 = (k : Int) := by omega
  rw [hk1] at hto
  obtain ⟨hR, fR⟩ := Kd.R_celln 0 HC.R (k : Int) (by omega) (by omega)
  obtain ⟨ad, eA, _, _, hm2⟩ := at_T60 HM (k : Int) (by omega) (by omega)
  subst eA
  replace hm2 := pw_cell_below HC.below hm2
  rw [hto] at hm2
  have HS := Aside0.mk (HC.rd_set (k : Int) t)
  have hget : get1 n t ms st own = { st with rdd := st.rdd.set (k : Int).toNat t } := by rw [get1, if_neg hx, hk1, if_pos hto]
  rw [hget]
  simp only [Int.toNat_natCast] at hR fR hm2 HS ⊢
  have hkM : k < ms.length := by omega
  rw [hk] at hL'
  have a0 : 0 ≤ (own + n - 1) % n := Int.emod_nonneg _ (by omega)
  have a1 : (own + n - 1) % n < (st.links.length : Int) := by rw [hl]; exact Int.emod_lt_of_pos _ (by omega)
  have e1 : IntKind.i64.wrap (own + n) = own + n := IntWalk.i64_in _ (by omega)
  have e2 : IntKind.i64.wrap (own + n - 1) = own + n - 1 := IntWalk.i64_in _ (by omega)
  have e3 : (own + n - 1).tmod n = (own + n - 1) % n := Int.tmod_eq_emod_of_nonneg (by omega)
  have e4 : IntKind.i64.wrap ((own + n - 1) % n) = (own + n - 1) % n := IntWalk.i64_in _ (by omega)
  have e5 : IntKind.i64.wrap ((k : Int) + 1 - 1) = k := (IntWalk.i64_in _ (by omega)).trans (by omega)
  have c0 : w.cell? ⟨g, 0, none⟩ = some (.int .i64 n) := (blk_cell HG 0).trans rfl
  have c6 : w.cell? ⟨g, 6, none⟩ = some (.slice (some ⟨gL, 0, none⟩) st.links.length cL) := (blk_cell HG 6).trans rfl
  have p0 : decide (0 ≤ (own + n - 1) % n) = true := decide_eq_true a0
  have p1 : decide ((own + n - 1) % n < (st.links.length : Int)) = true := decide_eq_true a1
  have q2 : k < st.rdd.length := by omega
  have c3 : w.cell? ⟨g, 3, none⟩ = some (.slice (some ad) ms.length c) := (blk_cell HG 3).trans rfl
  have c4 : w.cell? ⟨g, 4, none⟩ = some (.int .i64 t) := (blk_cell HG 4).trans rfl
  have c8 : w.cell? ⟨g, 8, none⟩ = some (.slice (some ⟨gR, 0, none⟩) st.rdd.length cR) := (blk_cell HG 8).trans rfl
  have hne : g ≠ gR := by
    rintro rfl
    have e1 := HC.R.1 g rfl
    have e2 := HC.fg
    simp only at e1
    omega
  have HG' := Aside0.mk (blk_far HG (p := ⟨gR, k, none⟩) hne (.int .i64 t))
  have HM' := Aside0.mk HM
  have hc' := Aside0.mk hc
  clear HG HM HC hgL hgR hc hget hto hne hk hk1 hx hin
  go_enter Try.func89, Try.ntmps89
  go_wp2
  go_quiet (fail)
  go_wp2
  go_region
  all_goals (try go_wp2)
  go_end0
  refine ⟨rfl, ?_⟩
  exact Is74.drewN ⟨f, cur, HS.out, HG'.out, HM'.out, hc'.out⟩ _
set_option maxHeartbeats 2000000 in
set_option maxRecDepth 100000 in
theorem get_keep (w0 w : World) (g gB cB : Nat) (vL vI vR : Value) (A : Option Addr) (c : Nat) (n room : Int) (ow : Bool) (ms : List S60) (t : Int) (st : St) (own : Int) (K : Nat) (h : Is74 w0 w g gB cB vL vI vR A c n room ow ms t st) (hw : Wf n ms.length K st) (h0 : 0 ≤ own) (h1 : own < n) (hx : ¬ inAt n st own - 1 < 0) (hto : (rd_T60 ms (inAt n st own - 1)).f2 ≠ own) :
    Calls Try.prog 89 #[.pointer (some ⟨g, 0, none⟩), .int .i64 own] w fun e w' => e = .returned (.tuple #[]) ∧ Is74 w0 w' g gB cB vL vI vR A c n room ow ms t (get1 n t ms st own) := by
  obtain ⟨f0, cur, HC0, HG, HM, hc⟩ := h
  obtain ⟨o, rfl⟩ : ∃ o : Nat, own = (o : Int) := ⟨own.toNat, by omega⟩
  have hn0 := hw.n0
  have hn1 := hw.n1
  have hM1 := hw.M1
  have hK1 := hw.K1
  have hl := hw.links
  have hb := hw.buf
  have hin := hw.in_ o h0 h1
  obtain ⟨f, hf, hfj⟩ : ∃ f : Nat → Nat, (∀ k, k < w.heap.size → f k = f0 k) ∧ ∀ k, w.heap.size ≤ k → f k = 6 + o := ⟨fun k => if k < w.heap.size then f0 k else 6 + o, fun k hk => if_pos hk, fun k hk => if_neg (by omega)⟩
  have HC := HC0.recolor hf
  clear HC0 hf
  obtain ⟨gL, cL, rfl, hgL, _⟩ := Kd.R_form HC.L (by omega)
  obtain ⟨hL, _⟩ := Kd.R_celln 0 HC.L ((o + n - 1) % n) (Int.emod_nonneg _ (by omega)) (by rw [hl]; exact Int.emod_lt_of_pos _ (by omega))
  have hL' : w.cell? ⟨gL, ((o + n - 1) % n).toNat, none⟩ = some (.int .i64 (inAt n st o)) := hL
  clear hL
  obtain ⟨k, hk⟩ : ∃ k : Nat, inAt n st o = (k : Int) + 1 := ⟨(inAt n st o - 1).toNat, by omega⟩
  have hk1 : inAt n st o - 1 = (k : Int) := by omega
  rw [hk1] at hto
  obtain ⟨ad, eA, _, _, hm2⟩ := at_T60 HM (k : Int) (by omega) (by omega)
  subst eA
  replace hm2 := pw_cell_below HC.below hm2
  generalize hy : (rd_T60 ms (k : Int)).f2 = y at hto hm2
  simp only [Int.toNat_natCast] at hm2
  have hkM : k < ms.length := by omega
  rw [hk] at hL'
  have hob : o < st.buf.length := by omega
  have hoc : o < cur.size := by rw [HC.len]; exact hob
  have hbl := hw.bk st.buf[o] (List.getElem_mem hob)
  have hQ := HC.buf o cur[o] st.buf[o] (Array.getElem?_eq_getElem hoc) (List.getElem?_eq_getElem hob)
  have hget : get1 n t ms st o = { st with buf := st.buf.set o (st.buf[o] ++ [(k : Int)]) } := by rw [get1, if_neg hx, hk1, if_neg (by rw [hy]; exact hto)]; simp [List.getD_eq_getElem?_getD, List.getElem?_eq_getElem hob]
  rw [hget]
  have HA := Aside0.mk (fun (m : Nat) (w1 : World) (hg : (w.drewN m).grownBy w1 cur[o].ownBlock) hb' => HC.appended (w1 := w1) hob (Array.getElem?_eq_getElem hoc) ⟨hg.os, hg.tape, hg.output, hg.size, hg.block⟩ hb' hQ.1)
  have cb : w.cell? ⟨gB, o, none⟩ = some cur[o] := (blk_cell HC.blk o).trans (Array.getElem?_eq_getElem hoc)
  have fb : w.frozen? ⟨gB, o, none⟩ = false := blk_frozen HC.blk o
  have hcurx : cur[o]? = some cur[o] := Array.getElem?_eq_getElem hoc
  generalize cur[o] = u at *
  generalize st.buf[o] = bo at *
  have a0 : 0 ≤ (o + n - 1) % n := Int.emod_nonneg _ (by omega)
  have a1 : (o + n - 1) % n < (st.links.length : Int) := by rw [hl]; exact Int.emod_lt_of_pos _ (by omega)
  have e1 : IntKind.i64.wrap (o + n) = o + n := IntWalk.i64_in _ (by omega)
  have e2 : IntKind.i64.wrap (o + n - 1) = o + n - 1 := IntWalk.i64_in _ (by omega)
  have e3 : (o + n - 1).tmod n = (o + n - 1) % n := Int.tmod_eq_emod_of_nonneg (by omega)
  have e4 : IntKind.i64.wrap ((o + n - 1) % n) = (o + n - 1) % n := IntWalk.i64_in _ (by omega)
  have e5 : IntKind.i64.wrap ((k : Int) + 1 - 1) = k := (IntWalk.i64_in _ (by omega)).trans (by omega)
  have c0 : w.cell? ⟨g, 0, none⟩ = some (.int .i64 n) := (blk_cell HG 0).trans rfl
  have c6 : w.cell? ⟨g, 6, none⟩ = some (.slice (some ⟨gL, 0, none⟩) st.links.length cL) := (blk_cell HG 6).trans rfl
  have p0 : decide (0 ≤ (o + n - 1) % n) = true := decide_eq_true a0
  have p1 : decide ((o + n - 1) % n < (st.links.length : Int)) = true := decide_eq_true a1
  have c3 : w.cell? ⟨g, 3, none⟩ = some (.slice (some ad) ms.length c) := (blk_cell HG 3).trans rfl
  have c5 : w.cell? ⟨g, 5, none⟩ = some (.slice (some ⟨gB, 0, none⟩) st.buf.length cB) := (blk_cell HG 5).trans rfl
  have dto : (y == (o : Int)) = false := by simpa using hto
  have hQ' := Aside0.mk hQ
  obtain ⟨Au, cu, rfl, hcu⟩ := Kd.Q_slice hQ
  have hag : ∀ k, (Value.slice Au bo.length cu).ownBlock = some k → f k = 6 + o := hQ.1
  have hgl := HC.gl
  have hBl := blk_lt HC.blk
  have hg0 : f g = 0 := HC.fg
  have hB1 : f gB = 1 := HC.fB
  have hB := Aside0.mk HC.below
  have hbz := HC.below.size
  have hfj' := Aside0.mk hfj
  have hbl' := Aside0.mk hbl.1
  have ng : some g ≠ (Value.slice Au bo.length cu).ownBlock := fun e => by have := hag g e.symm; omega
  have nB : some gB ≠ (Value.slice Au bo.length cu).ownBlock := fun e => by have := hag gB e.symm; omega
  have HG' := Aside0.mk HG
  have HM' := Aside0.mk HM
  have hc' := Aside0.mk hc
  have hag' := Aside0.mk hag
  have ng' := Aside0.mk ng
  have hgB' := Aside0.mk (show g ≠ gB from fun e => by rw [e] at hg0; omega)
  have HBk := Aside0.mk HC.blk
  have y1 : ∀ m cs, ((w.drewN m).alloc (.cells cs 3)).cell? ⟨gB, o, none⟩ = some (.slice Au bo.length cu) := fun m cs => (blk_cell (blk_alloc (blk_drewN HC.blk m) _) o).trans hcurx
  have y2 : ∀ m cs, ((w.drewN m).alloc (.cells cs 3)).cell? ⟨g, 5, none⟩ = some (.slice (some ⟨gB, 0, none⟩) st.buf.length cB) := fun m cs => (blk_cell (blk_alloc (blk_drewN HG m) _) 5).trans rfl
  have hcell := Aside0.mk hcurx
  have nB' := Aside0.mk nB
  clear HG HM HC hgL hc hget hto hk hk1 hx hin hQ hag hfj hbl hcu ng nB hg0 hB1 hcurx
  go_enter Try.func89, Try.ntmps89
  go_wp2
  go_quiet (fail)
  go_wp2
  go_region_law
    ((refine Kd.Q_append_step (Kd.int .i64) (w0 := w0) w0.heap.size (by rfl) (.tmp 37) (.tmp 39) 38 3 (.int .i64 0) 8 rfl Try.underlying38 info3 rfl (by decide) (by omega) (.slice Au bo.length cu) bo (k : Int) [.int .i64 k] (fun k => f k = 6 + o) (fun _ => False) rfl rfl rfl (fun _ hk => hk.elim) hfj'.out (Kd.Q_below hQ'.out (pw_below_drewN (Below.refl _ _) _)) (pw_below_drewN hB.out _) hbz (by have := hbl'.out; omega) ?_; intro v1 w1 hq1 hb1 hgrow hat; have hk1 := blk_grown (blk_drewN HBk.out _) hgrow nB'.out; have s1 : w1.cell? ⟨gB, o, none⟩ = some (.slice Au bo.length cu) := (blk_cell hk1 o).trans hcell.out; have s2 : w1.frozen? ⟨gB, o, none⟩ = false := blk_frozen hk1 o; have s5 : w1.cell? ⟨g, 5, none⟩ = some (.slice (some ⟨gB, 0, none⟩) st.buf.length cB) := (blk_cell (blk_grown (blk_drewN HG'.out _) hgrow ng'.out) 5).trans rfl; clear hk1; obtain ⟨A1, c1, ev, _⟩ := Kd.Q_slice hq1; subst ev))
  all_goals
    go_wp2
    go_end0
    rw [show (bo ++ [(k : Int)]).length = bo.length + 1 from List.length_append ..] at hq1
    refine ⟨rfl, f, _, HA.out _ w1 hgrow hb1 _ _ hq1, ?_, HM'.out, hc'.out⟩
    rw [List.length_set]
    exact blk_far (blk_grown (blk_drewN HG'.out _) hgrow ng'.out) (by rintro rfl; exact hgB'.out rfl) _
theorem get_calls (w0 w : World) (g gB cB : Nat) (vL vI vR : Value) (A : Option Addr) (c : Nat) (n room : Int) (ow : Bool) (ms : List S60) (t : Int) (st : St) (own : Int) (K : Nat) (h : Is74 w0 w g gB cB vL vI vR A c n room ow ms t st) (hw : Wf n ms.length K st) (h0 : 0 ≤ own) (h1 : own < n) :
    Calls Try.prog 89 #[.pointer (some ⟨g, 0, none⟩), .int .i64 own] w fun e w' => e = .returned (.tuple #[]) ∧ Is74 w0 w' g gB cB vL vI vR A c n room ow ms t (get1 n t ms st own) := by
  by_cases hx : inAt n st own - 1 < 0
  · refine (get_none w0 w g gB cB vL vI vR A c n room ow ms t st own K h hw h0 h1 hx).mono fun e w' ⟨he, m, hm⟩ => ⟨he, ?_⟩
    rw [hm, show get1 n t ms st own = st from if_pos hx]
    exact h.drewN m
  · by_cases hto : (rd_T60 ms (inAt n st own - 1)).f2 = own
    · exact get_read w0 w g gB cB vL vI vR A c n room ow ms t st own K h hw h0 h1 hx hto
    · exact get_keep w0 w g gB cB vL vI vR A c n room ow ms t st own K h hw h0 h1 hx hto
end Ins
end Go.Proofs.Ytkfghiofmamdnaa.PA
