/- A tick of the program's insertion ring: what the call comes to; no condition but what each theorem names. -/
import Derived.Test.YtkfghiofmamdnaaInGet
import Derived.Test.YtkfghiofmamdnaaInSend
import Derived.Deep.RegionHeld3
import Derived.Deep.RegionLaw
import Derived.Deep.AppendLies
namespace Go.Proofs.Ytkfghiofmamdnaa.PA
open Go.RowKit Go.Proofs.YtkfghiofmamdnaaW.PrintWords Go.Proofs.YtkfghiofmamdnaaW.PrintLast Go.Proofs.YtkfghiofmamdnaaW.PrintMore
attribute [local go_sem] max2_int min2_int max_two min_two max_three min_three max_four min_four
set_option linter.unusedVariables false
set_option linter.unusedSimpArgs false
namespace Ins
section
variable {w0 w : World} {g gB cB gL nL cL : Nat} {vL vI vR : Value} {A : Option Addr} {c : Nat} {n room : Int} {ow : Bool} {ms : List S60} {t : Int} {st : St}
theorem Is74.link_set (h : Is74 w0 w g gB cB (.slice (some ⟨gL, 0, none⟩) nL cL) vI vR A c n room ow ms t st) (i x : Int) :
    Is74 w0 (w.setCell ⟨gL, i.toNat, none⟩ (.int .i64 x)) g gB cB (.slice (some ⟨gL, 0, none⟩) nL cL) vI vR A c n room ow ms t { st with links := st.links.set i.toNat x } := by
  obtain ⟨f, cur, HC, HG, HM, hc⟩ := h
  refine ⟨f, cur, HC.link_set i x, blk_far HG ?_ _, HM, hc⟩
  rintro rfl
  have e1 := HC.L.1 g rfl
  have e2 := HC.fg
  simp only at e1
  omega
theorem Is74.peak_set (h : Is74 w0 w g gB cB vL vI vR A c n room ow ms t st) (x : Int) : Is74 w0 (w.setCell ⟨g, 9, none⟩ (.int .i64 x)) g gB cB vL vI vR A c n room ow ms t { st with peak := x } := by
  obtain ⟨f, cur, HC, HG, HM, hc⟩ := h
  have h2 := HC.far (p := ⟨g, 9, none⟩) HC.gg HC.gl (.inl HC.fg) (.int .i64 x)
  exact ⟨f, cur, ⟨h2.below, h2.fg, h2.gg, h2.gl, h2.fB, h2.gB0, h2.blk, h2.len, h2.buf, h2.L, h2.I, h2.R⟩, blk_set HG 9 _, HM, hc⟩
theorem Is74.tick_set (h : Is74 w0 w g gB cB vL vI vR A c n room ow ms t st) (x : Int) : Is74 w0 (w.setCell ⟨g, 4, none⟩ (.int .i64 x)) g gB cB vL vI vR A c n room ow ms x st := by
  obtain ⟨f, cur, HC, HG, HM, hc⟩ := h
  exact ⟨f, cur, HC.far (p := ⟨g, 4, none⟩) HC.gg HC.gl (.inl HC.fg) (.int .i64 x), blk_set HG 4 _, HM, hc⟩
theorem Is74.idle_set (h : Is74 w0 w g gB cB vL vI vR A c n room ow ms t st) (x : List Int) : Is74 w0 w g gB cB vL vI vR A c n room ow ms t { st with idle := x } := by
  obtain ⟨f, cur, h2, HG, HM, hc⟩ := h
  exact ⟨f, cur, ⟨h2.below, h2.fg, h2.gg, h2.gl, h2.fB, h2.gB0, h2.blk, h2.len, h2.buf, h2.L, h2.I, h2.R⟩, HG, HM, hc⟩
theorem Is74.cells (h : Is74 w0 w g gB cB vL vI vR A c n room ow ms t st) : w.cell? ⟨g, 4, none⟩ = some (.int .i64 t) ∧ w.cell? ⟨g, 5, none⟩ = some (.slice (some ⟨gB, 0, none⟩) st.buf.length cB) ∧ w.cell? ⟨g, 9, none⟩ = some (.int .i64 st.peak) ∧ ∀ i, w.frozen? ⟨g, i, none⟩ = false := by
  obtain ⟨f, cur, HC, HG, HM, hc⟩ := h
  exact ⟨(blk_cell HG 4).trans rfl, (blk_cell HG 5).trans rfl, (blk_cell HG 9).trans rfl, fun i => blk_frozen HG i⟩
theorem Is74.bufcell (h : Is74 w0 w g gB cB vL vI vR A c n room ow ms t st) (o : Nat) (ho : o < st.buf.length) : ∃ A c, w.cell? ⟨gB, o, none⟩ = some (.slice A (st.buf.getD o []).length c) := by
  obtain ⟨f, cur, HC, HG, HM, hc⟩ := h
  have hoc : o < cur.size := by rw [HC.len]; exact ho
  have hQ := HC.buf o cur[o] st.buf[o] (Array.getElem?_eq_getElem hoc) (List.getElem?_eq_getElem ho)
  obtain ⟨Au, cu, eu, hcu⟩ := Kd.Q_slice hQ
  refine ⟨Au, cu, ?_⟩
  rw [show st.buf.getD o [] = st.buf[o] by simp [List.getD_eq_getElem?_getD, List.getElem?_eq_getElem ho], ← eu]
  exact (blk_cell HC.blk o).trans (Array.getElem?_eq_getElem hoc)
theorem Is74.linkcell (h : Is74 w0 w g gB cB (.slice (some ⟨gL, 0, none⟩) nL cL) vI vR A c n room ow ms t st) (o : Nat) (ho : o < st.links.length) : w.cell? ⟨gL, o, none⟩ = some (.int .i64 (rd st.links o)) ∧ w.frozen? ⟨gL, o, none⟩ = false ∧ nL = st.links.length ∧ g ≠ gL := by
  obtain ⟨f, cur, HC, HG, HM, hc⟩ := h
  have hn := (Kd.R_reads' HC.L).1
  have h2 := Kd.R_celln 0 HC.L (o : Int) (by omega) (by omega)
  simp only [Int.toNat_natCast] at h2
  refine ⟨h2.1, h2.2, hn, ?_⟩
  rintro rfl
  have e1 := HC.L.1 g rfl
  have e2 := HC.fg
  simp only at e1
  omega
theorem Is74.lform (h : Is74 w0 w g gB cB vL vI vR A c n room ow ms t st) (hp : 0 < st.links.length) : ∃ gL cL, vL = .slice (some ⟨gL, 0, none⟩) st.links.length cL := by
  obtain ⟨f, cur, HC, HG, HM, hc⟩ := h
  obtain ⟨gL, cL, e, _⟩ := Kd.R_form HC.L hp
  exact ⟨gL, cL, e⟩
end
theorem sendS_same (room : Int) (ow : Bool) (t : Int) (ms : List S60) (st : St) (own : Int) : (sendS room ow t ms st own).links = st.links ∧ (sendS room ow t ms st own).rdd = st.rdd ∧ (sendS room ow t ms st own).peak = st.peak := by
  unfold sendS
  split <;> exact ⟨rfl, rfl, rfl⟩
theorem Is74.sent1 {w0 w : World} {g gB cB : Nat} {vL vI vR : Value} {A : Option Addr} {c : Nat} {n room : Int} {ow : Bool} {ms : List S60} {t : Int} {st : St} {own : Int}
    (h : Is74 w0 w g gB cB vL vI vR A c n room ow ms t { buf := (sendS room ow t ms st own).buf, links := (sendS room ow t ms st own).links.set own.toNat (sent room ow t ms st own), ins := (sendS room ow t ms st own).ins, rdd := (sendS room ow t ms st own).rdd, peak := mx (sendS room ow t ms st own).peak (((sendS room ow t ms st own).buf.getD own.toNat []).length : Int), idle := (sendS room ow t ms st own).idle }) :
    Is74 w0 w g gB cB vL vI vR A c n room ow ms t (send1 room ow t ms st own) := by
  obtain ⟨e1, e2, e3⟩ := sendS_same room ow t ms st own
  rw [e1, e2, e3] at h
  exact h.idle_set _
set_option maxHeartbeats 2000000 in
set_option maxRecDepth 100000 in
theorem step_calls (w0 w : World) (g gB cB : Nat) (vL vI vR : Value) (A : Option Addr) (c : Nat) (n room : Int) (ow : Bool) (ms : List S60) (t : Int) (st : St) (K : Nat) (h : Is74 w0 w g gB cB vL vI vR A c n room ow ms t st) (hw : Wf n ms.length K st) (hK : K + 24 ≤ 1000000) (ht : -1 ≤ t ∧ t ≤ 1000000) :
    Calls Try.prog 67 #[.pointer (some ⟨g, 0, none⟩)] w fun e w' => e = .returned (.tuple #[]) ∧ Is74 w0 w' g gB cB vL vI vR A c n room ow ms (t + 1) (tick1 n room ow t ms st) := by
  have hn0 := hw.n0
  have hn1 := hw.n1
  obtain ⟨N, rfl⟩ : ∃ N : Nat, n = (N : Int) := ⟨n.toNat, by omega⟩
  obtain ⟨gL, cL, rfl⟩ := h.lform (by have := hw.links; omega)
  have hl := hw.links
  generalize st.links.length = nL at h hl
  have c0 := h.c0
  have H := Aside0.mk h
  have HW := Aside0.mk hw
  have HK := Aside0.mk hK
  clear h hw hK
  have e0 : sends room ow t ms (gets N t ms st N) N = tick1 N room ow t ms st := by rw [tick1, Int.toNat_natCast]
  generalize tick1 N room ow t ms st = R at e0 ⊢
  have HE := Aside0.mk e0
  clear e0
  have ht1 : IntKind.i64.wrap (t + 1) = t + 1 := IntWalk.i64_in _ (by omega)
  go_enter Try.func67, Try.ntmps67
  go_wp2
  go_loopw [9] (fun v9 wr => ∃ j : Nat, v9 = .int .i64 j ∧ j ≤ N ∧ Aside0 (Is74 w0 wr g gB cB (.slice (some ⟨gL, 0, none⟩) nL cL) vI vR A c N room ow ms t (gets N t ms st j))) (fun v _ => N - (intOf v).toNat)
  case atStart => exact ⟨0, rfl, Nat.zero_le _, ⟨by repeat (first | exact H.out | apply Is74.drewN)⟩⟩
  case round =>
    clear H c0
    obtain ⟨j, rfl, hj, HI⟩ := hrel
    by_cases hlt : j < N
    · have hc := Aside0.mk (get_calls w0 wr g gB cB _ vI vR A c N room ow ms t _ j (K + j) HI.out (HW.out.gets (by have := HK.out; omega) t ms j (by omega)) (by omega) (by omega))
      go_wp2_with ((go_at_call 89; (with_reducible refine hc.out.mono ?_); rintro e w1 ⟨rfl, h1⟩; have HI1 := Aside0.mk h1; clear h1))
      go_roundw
      case rel => exact ⟨j + 1, by go_num, by omega, HI1⟩
      case measure => simp [intOf]; omega
    · obtain rfl : j = N := by omega
      have hg := Aside0.mk (HW.out.gets (by have := HK.out; omega) t ms j (by omega))
      have c0 := HI.out.c0
      have hE := HE.out
      clear HE
      generalize gets j t ms st j = s1 at HI hg hE
      have HE := Aside0.mk hE
      clear hE hlt
      obtain ⟨wa, rfl⟩ : ∃ wa : World, wa = wr := ⟨_, rfl⟩
      go_wp2
      go_loopw [21] (fun v21 wr => ∃ i : Nat, v21 = .int .i64 i ∧ i ≤ j ∧ Aside0 (Is74 w0 wr g gB cB (.slice (some ⟨gL, 0, none⟩) nL cL) vI vR A c j room ow ms t (sends room ow t ms s1 i))) (fun v _ => j - (intOf v).toNat)
      case atStart => exact ⟨0, rfl, Nat.zero_le _, ⟨by repeat (first | exact HI.out | apply Is74.drewN)⟩⟩
      case round =>
        clear HI c0
        obtain ⟨i, rfl, hi, HI⟩ := hrel
        by_cases hlt : i < j
        · have hwf := (hg.out.up (K' := K + 12) (by omega) (by have := HK.out; omega)).sends (by have := HK.out; omega) room ow t i (by omega)
          have HSR := Aside0.mk (sent_range hwf room ow t i)
          have hc := Aside0.mk (fun m => send_calls w0 (wr.drewN m) g gB cB _ vI vR A c j room ow ms t _ i _ (HI.out.drewN m) hwf (by omega) (by omega))
          have HN : Aside0 (send1 room ow t ms (sends room ow t ms s1 i) i = sends room ow t ms s1 (i + 1)) := ⟨rfl⟩
          have hbl := Aside0.mk (hwf.buf)
          have hwf2 := Aside0.mk (hwf.sendS room ow t i)
          have c6 := HI.out.c6
          have hw' := Aside0.mk hwf
          clear hwf
          go_wp2
          go_region_held3 (fun w' => w'.cell? ⟨g, 6, none⟩ = some (.slice (some ⟨gL, 0, none⟩) nL cL))
            (go_keep)
            ((go_at_call 90; (refine (hc.out _).mono ?_); rintro e w1 ⟨rfl, h1⟩; have HI1 := Aside0.mk h1; clear h1; have s6 := HI1.out.c6; obtain ⟨sL, fL, eN, neL⟩ := HI1.out.linkcell i (by have := hwf2.out.links; omega); clear eN; have s6' : ∀ x : Int, (w1.setCell ⟨gL, i, none⟩ (.int .i64 x)).cell? ⟨g, 6, none⟩ = some (.slice (some ⟨gL, 0, none⟩) nL cL) := fun x => (HI1.out.link_set (i : Int) x).c6))
          have HI2 := Aside0.mk (show Is74 w0 (w1.setCell ⟨gL, i, none⟩ (.int .i64 (sent room ow t ms (sends room ow t ms s1 i) i))) g gB cB (.slice (some ⟨gL, 0, none⟩) nL cL) vI vR A c j room ow ms t _ from HI1.out.link_set (i : Int) _)
          clear s6 s6' sL fL neL c6
          generalize w1.setCell ⟨gL, i, none⟩ (.int .i64 (sent room ow t ms (sends room ow t ms s1 i) i)) = w2 at *
          obtain ⟨d4, d5, d9, df⟩ := HI2.out.cells
          obtain ⟨Ab, cb, db⟩ := HI2.out.bufcell i (by have := hwf2.out.buf; simp only; omega)
          have df9 := df 9
          clear df d4
          have hbb : i < ({ buf := (sendS room ow t ms (sends room ow t ms s1 i) ↑i).buf, links := (sendS room ow t ms (sends room ow t ms s1 i) ↑i).links.set (↑i : Int).toNat (sent room ow t ms (sends room ow t ms s1 i) ↑i), ins := (sendS room ow t ms (sends room ow t ms s1 i) ↑i).ins, rdd := (sendS room ow t ms (sends room ow t ms s1 i) ↑i).rdd, peak := (sendS room ow t ms (sends room ow t ms s1 i) ↑i).peak, idle := (sendS room ow t ms (sends room ow t ms s1 i) ↑i).idle } : St).buf.length := by have := hwf2.out.buf; simp only; omega
          simp only at d5 d9 db hbb
          obtain ⟨L, hL⟩ : ∃ L : Nat, ((sendS room ow t ms (sends room ow t ms s1 i) ↑i).buf.getD i []).length = L := ⟨_, rfl⟩
          obtain ⟨P, hP⟩ : ∃ P : Int, (sendS room ow t ms (sends room ow t ms s1 i) ↑i).peak = P := ⟨_, rfl⟩
          rw [hL] at db
          rw [hP] at d9
          have HLP := Aside0.mk (And.intro hL hP)
          clear hL hP
          go_wp2
          go_region
          all_goals
            go_wp2
            go_roundw
            case rel => exact ⟨i + 1, by go_num, by omega, ⟨by rw [← HN.out]; have hq := (HI2.out.peak_set (mx P L)).drew_; obtain ⟨hL, hP⟩ := HLP.out; refine Is74.sent1 ?_; rw [Int.toNat_natCast, hL, hP]; exact hq⟩⟩
            case measure => simp [intOf]; omega
        · obtain rfl : i = j := by omega
          rw [HE.out] at HI
          obtain ⟨d4, d5, d9, df⟩ := HI.out.cells
          have df4 := df 4
          clear df d5 d9
          go_wp2
          go_end0
          exact ⟨rfl, HI.out.tick_set _⟩
end Ins
end Go.Proofs.Ytkfghiofmamdnaa.PA
