/- A tick of the reference's insertion ring: what the call comes to; no condition but what each theorem names. -/
import Derived.Test.YtkfghiofmamdnaaInTake
import Derived.Test.YtkfghiofmamdnaaInOwnS
import Derived.Test.YtkfghiofmamdnaaPA4
import Derived.Deep.RegionHeld3
import Derived.Deep.RegionLaw
import Derived.Deep.AppendLies
namespace Go.Proofs.Ytkfghiofmamdnaa.PA
open Go.RowKit Go.Proofs.YtkfghiofmamdnaaW.PrintWords Go.Proofs.YtkfghiofmamdnaaW.PrintLast Go.Proofs.YtkfghiofmamdnaaW.PrintMore
attribute [local go_sem] max2_int min2_int max_two min_two max_three min_three max_four min_four
set_option linter.unusedVariables false
set_option linter.unusedSimpArgs false
namespace Ins
theorem most_tells (a b : Int) : spec_l1Most.f a b = some (mx a b) := by
  unfold spec_l1Most.f mx
  by_cases h : a > b
  · rw [if_pos h, if_neg (by omega)]
  · rw [if_neg h]
    by_cases h2 : a < b
    · rw [if_pos h2]
    · rw [if_neg h2, show a = b by omega]
theorem send1_own {room : Int} {ow : Bool} {t : Int} {ms : List S60} {s : St} {j k : Nat} (hO : ownB room ow t ms s j = true) (hk : ownC t ms s j = (k : Int)) :
    send1 room ow t ms s j = ⟨s.buf, (s.links.set j 0).set j ((k : Int) + 1), s.ins.set k t, s.rdd, mx s.peak ((s.buf.getD j []).length : Int), s.idle⟩ := by
  simp only [send1, sent, sendS, hO, if_true, hk, Int.toNat_natCast, List.set_set]
  rw [if_neg (by omega)]
theorem send1_pop {room : Int} {ow : Bool} {t : Int} {ms : List S60} {s : St} {j : Nat} {x : Int} {tl : List Int} (hO : ownB room ow t ms s j = false) (hb : s.buf.getD j [] = x :: tl) (hx : 0 ≤ x) (hj : j < s.buf.length) :
    send1 room ow t ms s j = ⟨s.buf.set j tl, (s.links.set j 0).set j (x + 1), s.ins, s.rdd, mx s.peak (tl.length : Int), s.idle⟩ := by
  simp only [send1, sent, sendS, hO, Bool.false_eq_true, if_false, Int.toNat_natCast, hb, List.set_set, List.tail_cons]
  rw [if_neg (by omega)]
  simp [List.getD_eq_getElem?_getD, hj]
theorem send1_idle {room : Int} {ow : Bool} {t : Int} {ms : List S60} {s : St} {j : Nat} (hO : ownB room ow t ms s j = false) (hb : s.buf.getD j [] = []) (hj : j < s.buf.length) :
    send1 room ow t ms s j = ⟨s.buf, s.links.set j 0, s.ins, s.rdd, mx s.peak ((s.buf.getD j []).length : Int), s.idle.set j (rd s.idle j + 1)⟩ := by
  have e : s.buf.set j [] = s.buf := by
    have : s.buf[j] = [] := by simpa [List.getD_eq_getElem?_getD, List.getElem?_eq_getElem hj] using hb
    rw [← this, List.set_getElem_self]
  simp only [send1, sent, sendS, hO, Bool.false_eq_true, if_false, Int.toNat_natCast, hb, List.tail_nil, e, if_true]
theorem getD_set_self {l : List (List Int)} {i : Nat} {tl : List Int} (h : i < l.length) : (l.set i tl).getD i [] = tl := by simp [List.getD_eq_getElem?_getD, h]
theorem Is66.incell {w0 w : World} {g gB cB gL nL cL : Nat} {vI vR vX : Value} {A : Option Addr} {c : Nat} {n room : Int} {ow : Bool} {ms : List S60} {st : St} (h : Is66 w0 w g gB cB (.slice (some ⟨gL, 0, none⟩) nL cL) vI vR vX A c n room ow ms st) (own : Int) (h0 : 0 ≤ (own + n - 1) % n) (h1 : (own + n - 1) % n < st.links.length) :
    w.cell? ⟨gL, ((own + n - 1) % n).toNat, none⟩ = some (.int .i64 (inAt n st own)) := by
  have := (h.linkcell ((own + n - 1) % n).toNat (by omega)).1
  rw [Int.toNat_of_nonneg h0] at this
  exact this
set_option maxHeartbeats 8000000 in
set_option maxRecDepth 100000 in
theorem tick_calls (w0 w : World) (g gB cB : Nat) (vL vI vR vX : Value) (A : Option Addr) (c : Nat) (n room : Int) (ow : Bool) (ms : List S60) (t : Int) (st : St) (K : Nat) (h : Is66 w0 w g gB cB vL vI vR vX A c n room ow ms st) (hw : Wf n ms.length K st) (hK : K + 24 ≤ 1000000) (hr : 1 ≤ room) :
    Calls Try.prog 86 #[.pointer (some ⟨g, 0, none⟩), .int .i64 t] w fun e w' => e = .returned (.tuple #[]) ∧ Is66 w0 w' g gB cB vL vI vR vX A c n room ow ms (tick1 n room ow t ms st) := by
  have hn0 := hw.n0
  have hn1 := hw.n1
  obtain ⟨gL, cL, rfl⟩ := h.linkform (by have := hw.links; omega)
  obtain ⟨gX, cX, rfl⟩ := h.idleform (by have := hw.idle; omega)
  have hl := hw.links
  have hlX := hw.idle
  generalize st.links.length = nL at h hl
  generalize st.idle.length = nX at h hlX
  obtain ⟨c0, c1, c2, c3, c4, c5, c6, c7, c8, c9, f8⟩ := h.cells
  have H := Aside0.mk h
  have HW := Aside0.mk hw
  have HK := Aside0.mk hK
  have HR := Aside0.mk hr
  have hb0 := hw.buf
  have e0 : sends room ow t ms (gets n t ms st n.toNat) n.toNat = tick1 n room ow t ms st := rfl
  generalize tick1 n room ow t ms st = R at e0 ⊢
  have HE := Aside0.mk e0
  clear h hw hK hr e0
  have hlen : (st.buf.length : Int) = n := hb0
  generalize st.buf.length = nB at c4 hlen
  have HB := Aside0.mk hlen
  have HL := Aside0.mk hl
  have HX := Aside0.mk hlX
  rw [show n.toNat = nB by omega] at HE
  clear hlen hl hlX hb0
  go_enter Try.func86, Try.ntmps86
  go_wp2
  go_loopw [20] (fun v20 wr => ∃ j : Nat, v20 = .int .i64 j ∧ j ≤ nB ∧ Aside0 (Is66 w0 wr g gB cB (.slice (some ⟨gL, 0, none⟩) nL cL) vI vR (.slice (some ⟨gX, 0, none⟩) nX cX) A c n room ow ms (gets n t ms st j))) (fun v _ => nB - (intOf v).toNat)
  case atStart => exact ⟨0, rfl, Nat.zero_le _, ⟨by repeat (first | exact H.out | apply Is66.drewN)⟩⟩
  case round =>
    clear H c0 c1 c2 c3 c4 c5 c6 c7 c8 c9 f8
    obtain ⟨j, rfl, hj, HI⟩ := hrel
    by_cases hlt : j < nB
    · have hjn : (j : Int) < n := by have := HB.out; omega
      have hwf := HW.out.gets (by have := HK.out; omega) t ms j (by have := HB.out; omega)
      have HN := Aside0.mk (show get1 n t ms (gets n t ms st j) j = gets n t ms st (j + 1) from rfl)
      generalize gets n t ms st j = s at HI hwf HN
      have hin := hwf.in_ j (by omega) hjn
      have hsl := Aside0.mk hwf.links
      have hsb := Aside0.mk (show s.buf.length = nB by have := hwf.buf; have := HB.out; omega)
      have hsr := hwf.rdd
      have hM1 := hwf.M1
      have hrow := hwf.row j
      have a0 : 0 ≤ ((j : Int) + n - 1) % n := Int.emod_nonneg _ (by omega)
      have a1 : ((j : Int) + n - 1) % n < (nL : Int) := by rw [HL.out]; exact Int.emod_lt_of_pos _ (by omega)
      have hL' := HI.out.incell (j : Int) a0 (by have := HL.out; have := hsl.out; omega)
      have e1 : IntKind.i64.wrap ((j : Int) + n) = j + n := IntWalk.i64_in _ (by omega)
      have e2 : IntKind.i64.wrap ((j : Int) + n - 1) = j + n - 1 := IntWalk.i64_in _ (by omega)
      have e3 : ((j : Int) + n - 1).tmod n = (j + n - 1) % n := Int.tmod_eq_emod_of_nonneg (by omega)
      have e4 : IntKind.i64.wrap (((j : Int) + n - 1) % n) = (j + n - 1) % n := IntWalk.i64_in _ (by have := HL.out; omega)
      have p0 : decide (0 ≤ ((j : Int) + n - 1) % n) = true := decide_eq_true a0
      have p1 : decide (((j : Int) + n - 1) % n < (nL : Int)) = true := decide_eq_true a1
      obtain ⟨c0, c1, c2, c3, c4, c5, c6, c7, c8, c9, f8⟩ := HI.out.cells
      clear c0 c1 c2 c6 c8 c9 f8
      by_cases hx : inAt n s j - 1 < 0
      · have hg : get1 n t ms s j = s := if_pos hx
        rw [hg] at HN
        have HG := Aside0.mk hg
        generalize inAt n s j = x at *
        have e5 : IntKind.i64.wrap (x - 1) = x - 1 := IntWalk.i64_in _ (by omega)
        have d0 : decide (x - 1 < 0) = true := decide_eq_true hx
        clear hx hg c3 c4 c7
        go_wp2
        go_quiet (fail)
        go_wp2
        go_roundw
        case rel => exact ⟨j + 1, by go_num, by omega, ⟨by rw [← HN.out]; repeat (first | exact HI.out | apply Is66.drewN)⟩⟩
        case measure => simp [intOf]; omega
      · obtain ⟨k, hk⟩ : ∃ k : Nat, inAt n s j = (k : Int) + 1 := ⟨(inAt n s j - 1).toNat, by omega⟩
        have hk1 : inAt n s j - 1 = (k : Int) := by omega
        have hkM : k < ms.length := by omega
        have e5 : IntKind.i64.wrap ((k : Int) + 1 - 1) = k := (IntWalk.i64_in _ (by omega)).trans (by omega)
        obtain ⟨ad, eA, hm2⟩ := HI.out.msg k hkM
        subst eA
        rw [hk] at hL'
        by_cases hto : (rd_T60 ms (k : Int)).f2 = (j : Int)
        · have hg : get1 n t ms s j = { s with rdd := s.rdd.set k t } := by rw [get1, if_neg hx, hk1, if_pos hto, Int.toNat_natCast]
          rw [hg] at HN
          rw [hto] at hm2
          obtain ⟨gR, cR, rfl⟩ := HI.out.rdform (by omega)
          obtain ⟨hR, fR, en_, _⟩ := HI.out.rdcell k (by omega)
          clear en_
          have q2 : k < s.rdd.length := by omega
          have HI2 := Aside0.mk (HI.out.rd_set (k : Int) t)
          clear hg hto hk hk1 hx c4 hin
          go_wp2
          go_quiet (fail)
          go_wp2
          go_roundw
          case rel => exact ⟨j + 1, by go_num, by omega, ⟨by rw [← HN.out]; exact HI2.out.drewN _⟩⟩
          case measure => simp [intOf]; omega
        · have hg : get1 n t ms s j = { s with buf := s.buf.set j (s.buf.getD j [] ++ [(k : Int)]) } := by rw [get1, if_neg hx, hk1, if_neg hto, Int.toNat_natCast]
          rw [hg] at HN
          obtain ⟨Au, cu, hcell, ok, hQ, hfr, hput⟩ := HI.out.appended j (by rw [hsb.out]; exact hlt)
          have hQ' := Aside0.mk hQ
          have hfr' := Aside0.mk hfr
          have hput' := Aside0.mk hput
          have hbz := HI.out.below.size
          have hB := Aside0.mk HI.out.below
          have hbl' := Aside0.mk hrow.1
          have hob : j < s.buf.length := by rw [hsb.out]; exact hlt
          have hK' := Aside0.mk HK.out
          generalize s.buf.getD j [] = bo at *
          generalize hy : (rd_T60 ms (k : Int)).f2 = y at hto hm2
          have dto : (y == (j : Int)) = false := by simpa using hto
          have y1 : ∀ m cs, ((wr.drewN m).alloc (.cells cs 3)).cell? ⟨gB, j, none⟩ = some (.slice Au bo.length cu) := fun m cs => pw_cell_below (below_alloc (pw_below_drewN (Below.refl _ _) m) _) hcell
          have y2 : ∀ m cs, ((wr.drewN m).alloc (.cells cs 3)).cell? ⟨g, 4, none⟩ = some (.slice (some ⟨gB, 0, none⟩) s.buf.length cB) := fun m cs => pw_cell_below (below_alloc (pw_below_drewN (Below.refl _ _) m) _) c4
          clear hg hto hk hk1 hx hin hQ hfr hput hrow hy c7
          go_wp2
          go_quiet (fail)
          go_wp2
          go_region_law
            ((refine Kd.Q_append_step (Kd.int .i64) (w0 := w0) w0.heap.size (by rfl) (.tmp 66) (.tmp 68) 38 3 (.int .i64 0) 8 rfl Try.underlying38 info3 rfl (by decide) (by omega) (.slice Au bo.length cu) bo (k : Int) [.int .i64 k] ok (fun _ => False) rfl rfl rfl (fun _ hk => hk.elim) hfr'.out (Kd.Q_below hQ'.out (pw_below_drewN (Below.refl _ _) _)) (pw_below_drewN hB.out _) hbz (by have := hbl'.out; have := hK'.out; omega) ?_; intro v1 w1 hq1 hb1 hgrow hat; have hp := hput'.out _ w1 _ _ hgrow hb1 hq1; have s1 := hp.1.1; have s2 := hp.1.2.1; have s5 := hp.1.2.2; have HI2 := Aside0.mk hp.2; clear hp; obtain ⟨A1, c1, ev, _⟩ := Kd.Q_slice hq1; subst ev; clear hq1 hb1 hgrow hat))
          all_goals
            go_wp2
            go_roundw
            case rel => exact ⟨j + 1, by go_num, by omega, ⟨by rw [← HN.out]; have hq := HI2.out; rw [show (bo ++ [(k : Int)]).length = bo.length + 1 from List.length_append ..] at hq; exact hq⟩⟩
            case measure => simp [intOf]; omega
    · obtain rfl : j = nB := by omega
      have hg := Aside0.mk (HW.out.gets (by have := HK.out; omega) t ms j (by have := HB.out; omega))
      have hE := HE.out
      clear HE
      generalize gets n t ms st j = s1 at HI hg hE
      have HE := Aside0.mk hE
      clear hE hlt
      obtain ⟨wa, rfl⟩ : ∃ wa : World, wa = wr := ⟨_, rfl⟩
      obtain ⟨c0, c1, c2, c3, c4, c5, c6, c7, c8, c9, f8⟩ := HI.out.cells
      rw [show s1.buf.length = j by have := hg.out.buf; have := HB.out; omega] at c4
      clear c0 c1 c2 c3 c5 c6 c7 c8 c9 f8
      go_wp2
      go_loopw [77] (fun v77 wr => ∃ i : Nat, v77 = .int .i64 i ∧ i ≤ j ∧ Aside0 (Is66 w0 wr g gB cB (.slice (some ⟨gL, 0, none⟩) nL cL) vI vR (.slice (some ⟨gX, 0, none⟩) nX cX) A c n room ow ms (sends room ow t ms s1 i))) (fun v _ => j - (intOf v).toNat)
      case atStart => exact ⟨0, rfl, Nat.zero_le _, ⟨by repeat (first | exact HI.out | apply Is66.drewN)⟩⟩
      case round =>
        clear HI c4
        obtain ⟨i, rfl, hi, HI⟩ := hrel
        by_cases hlt : i < j
        · have hin : (i : Int) < n := by have := HB.out; omega
          have hwf := (hg.out.up (K' := K + 12) (by have := hg.out.n1; have := HB.out; omega) (by have := HK.out; omega)).sends (by have := HK.out; omega) room ow t i (by omega)
          have HN := Aside0.mk (show send1 room ow t ms (sends room ow t ms s1 i) i = sends room ow t ms s1 (i + 1) from rfl)
          generalize sends room ow t ms s1 i = s at HI hwf HN
          have hsb := Aside0.mk (show s.buf.length = j by have := hwf.buf; have := HB.out; omega)
          have hsl := Aside0.mk (show s.links.length = nL by have := hwf.links; have := HL.out; omega)
          have hsx := Aside0.mk (show s.idle.length = nX by have := hwf.idle; have := HX.out; omega)
          have hM1 := hwf.M1
          have hwf' := Aside0.mk hwf
          have hbl := Aside0.mk (hwf.row i)
          have hiL : i < nL := by have := HL.out; omega
          have hiX : i < nX := by have := HX.out; omega
          have hi0I : (0 : Int) ≤ (i : Int) := by omega
          have hiLI : (i : Int) < (nL : Int) := by omega
          clear hwf
          -- the store of 0
          have HI1 := Aside0.mk (show Is66 w0 (wr.setCell ⟨gL, i, none⟩ (.int .i64 0)) g gB cB (.slice (some ⟨gL, 0, none⟩) nL cL) vI vR (.slice (some ⟨gX, 0, none⟩) nX cX) A c n room ow ms { s with links := s.links.set i 0 } from HI.out.link_set (i : Int) 0)
          obtain ⟨c0, c1, c2, c3, c4, c5, c6, c7, c8, c9, f8⟩ := HI.out.cells
          obtain ⟨sL, fL, en_, _⟩ := HI.out.linkcell i (by rw [hsl.out]; exact hiL)
          clear en_
          clear c0 c1 c2 c3 c4 c6 c7 c8 c9 f8
          have hown := Aside0.mk (fun W (hW : Is66 w0 W g gB cB (.slice (some ⟨gL, 0, none⟩) nL cL) vI vR (.slice (some ⟨gX, 0, none⟩) nX cX) A c n room ow ms { s with links := s.links.set i 0 }) => (show Calls Try.prog 99 #[.pointer (some ⟨g, 0, none⟩), .int .i64 i, .int .i64 t] W fun e w' => e = .returned (.int .i64 (ownC t ms s i)) ∧ Below W.heap.size W w' from by
            obtain ⟨f, cur, HC, HXr, HG, HM, hc⟩ := hW
            exact own_calls w0 W g n room ow ms t i s.peak A c _ _ vI vR _ s.ins _ HG HC.below HM hc HC.I hwf'.out.ins hM1))
          have hrg := ownC_range t ms s i
          have hobd := Aside0.mk (show ownB room ow t ms s i = (decide (0 ≤ ownC t ms s i) && (if ow = true then decide (((s.buf.getD i []).length : Int) < room) else (s.buf.getD i []).isEmpty)) by rw [ownB, Int.toNat_natCast])
          have hisb : i < s.buf.length := by rw [hsb.out]; exact hlt
          rcases hrg with hcv | hcv
          · have d0 : decide (0 ≤ ownC t ms s i) = false := by rw [hcv]; rfl
            have Hcv := Aside0.mk hcv
            generalize hgc : ownC t ms s i = cv at hown d0 Hcv hobd
            clear hcv hgc
            cases hbo : s.buf.getD i [] with
            | nil =>
              have hbd := Aside0.mk hbo
              obtain ⟨L, hL⟩ : ∃ L : Nat, (s.buf.getD i []).length = L := ⟨_, rfl⟩
              have hL0 : L = 0 := by rw [← hL, hbo]; rfl
              have q0 : ((L : Int) == 0) = true := by rw [hL0]; rfl
              have q1 : decide (0 < L) = false := decide_eq_false (by omega)
              have HLn := Aside0.mk hL
              clear hbo hL hL0
              have hO : ownB room ow t ms s i = false := by rw [hobd.out, hbd.out, d0]; rfl
              have hSE := Aside0.mk (send1_idle hO hbd.out hisb)
              clear hO hobd
              have hxi : i < s.idle.length := by rw [hsx.out]; exact hiX
              have hXr : 0 ≤ rd s.idle i ∧ rd s.idle i ≤ 1000000 := by
                have h1 := hwf'.out.ik (rd s.idle i) (by simp only [rd, Int.toNat_natCast, List.getD_eq_getElem?_getD, List.getElem?_eq_getElem hxi, Option.getD_some]; exact List.getElem_mem hxi)
                have := hwf'.out.K1
                omega
              have hret : IntKind.i64.wrap (rd s.idle i + 1) = rd s.idle i + 1 := IntWalk.i64_in _ (by omega)
              go_wp2_with (go_at_call 99; (refine (hown.out _ (by repeat (first | exact HI1.out | apply Is66.drewN))).mono ?_); rintro e w2 ⟨rfl, hb2⟩; have HI2 := Aside0.mk (HI1.out.grow hb2); clear hb2; obtain ⟨z0, z1, z2, z3, z4, z5, z6, z7, z8, z9, zf8⟩ := HI2.out.cells; obtain ⟨Ab, cb, zb, _, _, _⟩ := HI2.out.bufcell i hisb; simp only [HLn.out] at zb; obtain ⟨sX, fX, en_, gnX⟩ := HI2.out.idlecell i hxi; clear en_; simp only at sX; clear z0 z3 z7)
              have HI3 := Aside0.mk (show Is66 w0 (w2.setCell ⟨gX, i, none⟩ (.int .i64 (rd s.idle i + 1))) g gB cB (.slice (some ⟨gL, 0, none⟩) nL cL) vI vR (.slice (some ⟨gX, 0, none⟩) nX cX) A c n room ow ms ⟨s.buf, s.links.set i 0, s.ins, s.rdd, s.peak, s.idle.set i (rd s.idle i + 1)⟩ from HI2.out.idle_set (i : Int) (rd s.idle i + 1))
              clear z1 z2 z4 z5 z6 z8 z9 zf8 zb sX fX gnX
              generalize (w2.setCell ⟨gX, i, none⟩ (.int .i64 (rd s.idle i + 1))) = w3 at *
              obtain ⟨c0, c1, c2, c3, c4, c5, c6, c7, c8, c9, f8⟩ := HI3.out.cells
              obtain ⟨Ab', cb', db, _, _, _⟩ := HI3.out.bufcell i (by exact hisb)
              simp only [HLn.out] at db
              simp only at c4 c8
              have hisb3 : i < s.buf.length := by exact hisb
              obtain ⟨P, hP⟩ : ∃ P : Int, s.peak = P := ⟨_, rfl⟩
              rw [hP] at c8
              have HP := Aside0.mk hP
              clear hP c0 c1 c2 c3 c5 c6 c7 c9
              have hms := Aside0.mk (most_tells P (L : Nat))
              go_wp2
              go_region_law (go_simp; go_at_call 71; (refine (spec_l1Most.calls _ _ _ _ hms.out).mono ?_); rintro e w4 ⟨rfl, ⟨nd, rfl⟩⟩)
              all_goals
                go_wp2
                go_roundw
                case rel =>
                  refine ⟨i + 1, by go_num, by omega, ⟨?_⟩⟩
                  rw [← HN.out, hSE.out, HLn.out, HP.out]
                  have hq := HI3.out.peak_set (mx P (L : Nat))
                  first | exact hq | exact hq.drew_ | exact hq.drewN _ | exact (HI3.out.drew_).peak_set _ | exact (HI3.out.drewN _).peak_set _
                case measure => simp [intOf]; omega
            | cons x tl =>
              have hbd := Aside0.mk hbo
              obtain ⟨L, hL⟩ : ∃ L : Nat, (s.buf.getD i []).length = L := ⟨_, rfl⟩
              have hL1 : L = tl.length + 1 := by rw [← hL, hbo]; rfl
              have q0 : ((L : Int) == 0) = false := by rw [hL1]; simp; omega
              have q1 : decide (0 < L) = true := decide_eq_true (by omega)
              have HLn := Aside0.mk hL
              have HL1 := Aside0.mk hL1
              clear hbo hL hL1
              have hO : ownB room ow t ms s i = false := by rw [hobd.out, hbd.out, d0]; rfl
              have hx0 := (hbl.out.2 x (by rw [hbd.out]; simp))
              have hSE := Aside0.mk (send1_pop hO hbd.out hx0.1 hisb)
              have hret : IntKind.i64.wrap (x + 1) = x + 1 := IntWalk.i64_in _ (by omega)
              have hlim := Aside0.mk (show (x :: tl).length ≤ 1000000 by have := hbl.out.1; rw [hbd.out] at this; have := HK.out; have := hwf'.out.K1; omega)
              have htk := Aside0.mk (fun W (hW : Is66 w0 W g gB cB (.slice (some ⟨gL, 0, none⟩) nL cL) vI vR (.slice (some ⟨gX, 0, none⟩) nX cX) A c n room ow ms { s with links := s.links.set i 0 }) => take_calls w0 W g gB cB _ vI vR _ A c n room ow ms _ i x tl hW hisb (show s.buf.length ≤ 12 by rw [hsb.out]; have := HB.out; omega) hbd.out hlim.out)
              clear hO hobd hx0
              go_wp2_with (go_at_call 99; (refine (hown.out _ (by repeat (first | exact HI1.out | apply Is66.drewN))).mono ?_); rintro e w2 ⟨rfl, hb2⟩; have HI2 := Aside0.mk (HI1.out.grow hb2); clear hb2; obtain ⟨z0, z1, z2, z3, z4, z5, z6, z7, z8, z9, zf8⟩ := HI2.out.cells; obtain ⟨Ab, cb, zb, _, _, _⟩ := HI2.out.bufcell i hisb; simp only [HLn.out] at zb;  clear z0 z3 z7)
              go_region_held3 (fun w' => w'.cell? ⟨g, 5, none⟩ = some (.slice (some ⟨gL, 0, none⟩) nL cL))
                (go_keep)
                ((go_at_call 100; (refine (htk.out _ (by repeat (first | exact HI2.out | apply Is66.drewN | apply Is66.drew_))).mono ?_); rintro e w5 ⟨rfl, h5⟩; have HI5 := Aside0.mk h5; clear h5; have s5 := HI5.out.cells.2.2.2.2.2.1; obtain ⟨sL, fL, en_, gnL⟩ := HI5.out.linkcell i (by show i < (s.links.set i 0).length; rw [List.length_set, hsl.out]; exact hiL); clear en_; have s5' : ∀ x : Int, (w5.setCell ⟨gL, i, none⟩ (.int .i64 x)).cell? ⟨g, 5, none⟩ = some (.slice (some ⟨gL, 0, none⟩) nL cL) := fun x => (HI5.out.link_set (i : Int) x).cells.2.2.2.2.2.1))
              have HI3 := Aside0.mk (show Is66 w0 (w5.setCell ⟨gL, i, none⟩ (.int .i64 (x + 1))) g gB cB (.slice (some ⟨gL, 0, none⟩) nL cL) vI vR (.slice (some ⟨gX, 0, none⟩) nX cX) A c n room ow ms ⟨s.buf.set i tl, (s.links.set i 0).set i (x + 1), s.ins, s.rdd, s.peak, s.idle⟩ from HI5.out.link_set (i : Int) (x + 1))
              clear s5 s5' sL fL gnL
              generalize (w5.setCell ⟨gL, i, none⟩ (.int .i64 (x + 1))) = w3 at *
              obtain ⟨c0, c1, c2, c3, c4, c5, c6, c7, c8, c9, f8⟩ := HI3.out.cells
              obtain ⟨Ab', cb', db, _, _, _⟩ := HI3.out.bufcell i (by show i < (s.buf.set i tl).length; rw [List.length_set]; exact hisb)
              simp only [getD_set_self hisb] at db
              simp only at c4 c8
              have hisb3 : i < (s.buf.set i tl).length := by show i < (s.buf.set i tl).length; rw [List.length_set]; exact hisb
              obtain ⟨P, hP⟩ : ∃ P : Int, s.peak = P := ⟨_, rfl⟩
              rw [hP] at c8
              have HP := Aside0.mk hP
              clear hP c0 c1 c2 c3 c5 c6 c7 c9
              have hms := Aside0.mk (most_tells P (tl.length : Nat))
              go_wp2
              go_region_law (go_simp; go_at_call 71; (refine (spec_l1Most.calls _ _ _ _ hms.out).mono ?_); rintro e w4 ⟨rfl, ⟨nd, rfl⟩⟩)
              all_goals
                go_wp2
                go_roundw
                case rel =>
                  refine ⟨i + 1, by go_num, by omega, ⟨?_⟩⟩
                  rw [← HN.out, hSE.out, HP.out]
                  have hq := HI3.out.peak_set (mx P (tl.length : Nat))
                  first | exact hq | exact hq.drew_ | exact hq.drewN _ | exact (HI3.out.drew_).peak_set _ | exact (HI3.out.drewN _).peak_set _
                case measure => simp [intOf]; omega
          · obtain ⟨k, hk⟩ : ∃ k : Nat, ownC t ms s i = (k : Int) := ⟨(ownC t ms s i).toNat, by omega⟩
            have hkM : k < ms.length := by omega
            have d0 : decide (0 ≤ (k : Int)) = true := by simp
            clear hcv
            cases hbo : s.buf.getD i [] with
            | nil =>
              have hbd := Aside0.mk hbo
              obtain ⟨L, hL⟩ : ∃ L : Nat, (s.buf.getD i []).length = L := ⟨_, rfl⟩
              have hL0 : L = 0 := by rw [← hL, hbo]; rfl
              have q0 : ((L : Int) == 0) = true := by rw [hL0]; rfl
              have q1 : decide (0 < L) = false := decide_eq_false (by omega)
              have HLn := Aside0.mk hL
              clear hbo hL hL0
              have hO : ownB room ow t ms s i = true := by rw [hobd.out, hbd.out, hk]; cases ow <;> simp; have := HR.out; omega
              have hSE := Aside0.mk (send1_own hO hk)
              clear hO hobd
              obtain ⟨gI, cI, rfl⟩ := HI1.out.insform (by show 0 < s.ins.length; have := hwf'.out.ins; omega)
              simp only at HI1
              have hki : k < s.ins.length := by have := hwf'.out.ins; omega
              rw [hk] at hown
              have hret : IntKind.i64.wrap ((k : Int) + 1) = k + 1 := IntWalk.i64_in _ (by omega)
              go_wp2_with (go_at_call 99; (refine (hown.out _ (by repeat (first | exact HI1.out | apply Is66.drewN))).mono ?_); rintro e w2 ⟨rfl, hb2⟩; have HI2 := Aside0.mk (HI1.out.grow hb2); clear hb2; obtain ⟨z0, z1, z2, z3, z4, z5, z6, z7, z8, z9, zf8⟩ := HI2.out.cells; obtain ⟨Ab, cb, zb, _, _, _⟩ := HI2.out.bufcell i hisb; simp only [HLn.out] at zb; obtain ⟨sI, fI, en_, gnI⟩ := HI2.out.inscell k hki; clear en_; have y5 : ∀ x : Int, (w2.setCell ⟨gI, k, none⟩ (.int .i64 x)).cell? ⟨g, 5, none⟩ = some (.slice (some ⟨gL, 0, none⟩) nL cL) := fun x => (HI2.out.ins_set (k : Int) x).cells.2.2.2.2.2.1; have yL : ∀ x : Int, (w2.setCell ⟨gI, k, none⟩ (.int .i64 x)).cell? ⟨gL, i, none⟩ = some (.int .i64 (rd (s.links.set i 0) i)) := fun x => ((HI2.out.ins_set (k : Int) x).linkcell i (by show i < (s.links.set i 0).length; rw [List.length_set, hsl.out]; exact hiL)).1; have yF : ∀ x : Int, (w2.setCell ⟨gI, k, none⟩ (.int .i64 x)).frozen? ⟨gL, i, none⟩ = false := fun x => ((HI2.out.ins_set (k : Int) x).linkcell i (by show i < (s.links.set i 0).length; rw [List.length_set, hsl.out]; exact hiL)).2.1; clear z0 z3 z7)
              have HI3 := Aside0.mk (show Is66 w0 ((w2.setCell ⟨gI, k, none⟩ (.int .i64 t)).setCell ⟨gL, i, none⟩ (.int .i64 ((k : Int) + 1))) g gB cB (.slice (some ⟨gL, 0, none⟩) nL cL) (.slice (some ⟨gI, 0, none⟩) s.ins.length cI) vR (.slice (some ⟨gX, 0, none⟩) nX cX) A c n room ow ms ⟨s.buf, (s.links.set i 0).set i ((k : Int) + 1), s.ins.set k t, s.rdd, s.peak, s.idle⟩ from (HI2.out.ins_set (k : Int) t).link_set (i : Int) ((k : Int) + 1))
              clear z1 z2 z4 z5 z6 z8 z9 zf8 zb sI fI gnI y5 yL yF
              generalize ((w2.setCell ⟨gI, k, none⟩ (.int .i64 t)).setCell ⟨gL, i, none⟩ (.int .i64 ((k : Int) + 1))) = w3 at *
              obtain ⟨c0, c1, c2, c3, c4, c5, c6, c7, c8, c9, f8⟩ := HI3.out.cells
              obtain ⟨Ab', cb', db, _, _, _⟩ := HI3.out.bufcell i (by exact hisb)
              simp only [HLn.out] at db
              simp only at c4 c8
              have hisb3 : i < s.buf.length := by exact hisb
              obtain ⟨P, hP⟩ : ∃ P : Int, s.peak = P := ⟨_, rfl⟩
              rw [hP] at c8
              have HP := Aside0.mk hP
              clear hP c0 c1 c2 c3 c5 c6 c7 c9
              have hms := Aside0.mk (most_tells P (L : Nat))
              go_wp2
              go_region_law (go_simp; go_at_call 71; (refine (spec_l1Most.calls _ _ _ _ hms.out).mono ?_); rintro e w4 ⟨rfl, ⟨nd, rfl⟩⟩)
              all_goals
                go_wp2
                go_roundw
                case rel =>
                  refine ⟨i + 1, by go_num, by omega, ⟨?_⟩⟩
                  rw [← HN.out, hSE.out, HLn.out, HP.out]
                  have hq := HI3.out.peak_set (mx P (L : Nat))
                  first | exact hq | exact hq.drew_ | exact hq.drewN _ | exact (HI3.out.drew_).peak_set _ | exact (HI3.out.drewN _).peak_set _
                case measure => simp [intOf]; omega
            | cons x tl =>
              have hbd := Aside0.mk hbo
              obtain ⟨L, hL⟩ : ∃ L : Nat, (s.buf.getD i []).length = L := ⟨_, rfl⟩
              have hL1 : L = tl.length + 1 := by rw [← hL, hbo]; rfl
              have q0 : ((L : Int) == 0) = false := by rw [hL1]; simp; omega
              have q1 : decide (0 < L) = true := decide_eq_true (by omega)
              have HLn := Aside0.mk hL
              have HL1 := Aside0.mk hL1
              clear hbo hL hL1
              cases ow with
              | true =>
                by_cases hlr : (L : Int) < room
                · have q2 : decide ((L : Int) < room) = true := decide_eq_true hlr
                  have Hlr := Aside0.mk hlr
                  clear hlr
                  have hO : ownB room true t ms s i = true := by rw [hobd.out, hbd.out, hk]; simp; have := Hlr.out; have := HL1.out; omega
                  have hSE := Aside0.mk (send1_own hO hk)
                  clear hO hobd
                  obtain ⟨gI, cI, rfl⟩ := HI1.out.insform (by show 0 < s.ins.length; have := hwf'.out.ins; omega)
                  simp only at HI1
                  have hki : k < s.ins.length := by have := hwf'.out.ins; omega
                  rw [hk] at hown
                  have hret : IntKind.i64.wrap ((k : Int) + 1) = k + 1 := IntWalk.i64_in _ (by omega)
                  go_wp2_with (go_at_call 99; (refine (hown.out _ (by repeat (first | exact HI1.out | apply Is66.drewN))).mono ?_); rintro e w2 ⟨rfl, hb2⟩; have HI2 := Aside0.mk (HI1.out.grow hb2); clear hb2; obtain ⟨z0, z1, z2, z3, z4, z5, z6, z7, z8, z9, zf8⟩ := HI2.out.cells; obtain ⟨Ab, cb, zb, _, _, _⟩ := HI2.out.bufcell i hisb; simp only [HLn.out] at zb; obtain ⟨sI, fI, en_, gnI⟩ := HI2.out.inscell k hki; clear en_; have y5 : ∀ x : Int, (w2.setCell ⟨gI, k, none⟩ (.int .i64 x)).cell? ⟨g, 5, none⟩ = some (.slice (some ⟨gL, 0, none⟩) nL cL) := fun x => (HI2.out.ins_set (k : Int) x).cells.2.2.2.2.2.1; have yL : ∀ x : Int, (w2.setCell ⟨gI, k, none⟩ (.int .i64 x)).cell? ⟨gL, i, none⟩ = some (.int .i64 (rd (s.links.set i 0) i)) := fun x => ((HI2.out.ins_set (k : Int) x).linkcell i (by show i < (s.links.set i 0).length; rw [List.length_set, hsl.out]; exact hiL)).1; have yF : ∀ x : Int, (w2.setCell ⟨gI, k, none⟩ (.int .i64 x)).frozen? ⟨gL, i, none⟩ = false := fun x => ((HI2.out.ins_set (k : Int) x).linkcell i (by show i < (s.links.set i 0).length; rw [List.length_set, hsl.out]; exact hiL)).2.1; clear z0 z3 z7)
                  have HI3 := Aside0.mk (show Is66 w0 ((w2.setCell ⟨gI, k, none⟩ (.int .i64 t)).setCell ⟨gL, i, none⟩ (.int .i64 ((k : Int) + 1))) g gB cB (.slice (some ⟨gL, 0, none⟩) nL cL) (.slice (some ⟨gI, 0, none⟩) s.ins.length cI) vR (.slice (some ⟨gX, 0, none⟩) nX cX) A c n room true ms ⟨s.buf, (s.links.set i 0).set i ((k : Int) + 1), s.ins.set k t, s.rdd, s.peak, s.idle⟩ from (HI2.out.ins_set (k : Int) t).link_set (i : Int) ((k : Int) + 1))
                  clear z1 z2 z4 z5 z6 z8 z9 zf8 zb sI fI gnI y5 yL yF
                  generalize ((w2.setCell ⟨gI, k, none⟩ (.int .i64 t)).setCell ⟨gL, i, none⟩ (.int .i64 ((k : Int) + 1))) = w3 at *
                  obtain ⟨c0, c1, c2, c3, c4, c5, c6, c7, c8, c9, f8⟩ := HI3.out.cells
                  obtain ⟨Ab', cb', db, _, _, _⟩ := HI3.out.bufcell i (by exact hisb)
                  simp only [HLn.out] at db
                  simp only at c4 c8
                  have hisb3 : i < s.buf.length := by exact hisb
                  obtain ⟨P, hP⟩ : ∃ P : Int, s.peak = P := ⟨_, rfl⟩
                  rw [hP] at c8
                  have HP := Aside0.mk hP
                  clear hP c0 c1 c2 c3 c5 c6 c7 c9
                  have hms := Aside0.mk (most_tells P (L : Nat))
                  go_wp2
                  go_region_law (go_simp; go_at_call 71; (refine (spec_l1Most.calls _ _ _ _ hms.out).mono ?_); rintro e w4 ⟨rfl, ⟨nd, rfl⟩⟩)
                  all_goals
                    go_wp2
                    go_roundw
                    case rel =>
                      refine ⟨i + 1, by go_num, by omega, ⟨?_⟩⟩
                      rw [← HN.out, hSE.out, HLn.out, HP.out]
                      have hq := HI3.out.peak_set (mx P (L : Nat))
                      first | exact hq | exact hq.drew_ | exact hq.drewN _ | exact (HI3.out.drew_).peak_set _ | exact (HI3.out.drewN _).peak_set _
                    case measure => simp [intOf]; omega
                · have q2 : decide ((L : Int) < room) = false := decide_eq_false hlr
                  have Hlr := Aside0.mk hlr
                  clear hlr
                  rw [hk] at hown
                  have hO : ownB room true t ms s i = false := by rw [hobd.out, hbd.out, hk]; simp; have := Hlr.out; have := HL1.out; omega
                  have hx0 := (hbl.out.2 x (by rw [hbd.out]; simp))
                  have hSE := Aside0.mk (send1_pop hO hbd.out hx0.1 hisb)
                  have hret : IntKind.i64.wrap (x + 1) = x + 1 := IntWalk.i64_in _ (by omega)
                  have hlim := Aside0.mk (show (x :: tl).length ≤ 1000000 by have := hbl.out.1; rw [hbd.out] at this; have := HK.out; have := hwf'.out.K1; omega)
                  have htk := Aside0.mk (fun W (hW : Is66 w0 W g gB cB (.slice (some ⟨gL, 0, none⟩) nL cL) vI vR (.slice (some ⟨gX, 0, none⟩) nX cX) A c n room true ms { s with links := s.links.set i 0 }) => take_calls w0 W g gB cB _ vI vR _ A c n room true ms _ i x tl hW hisb (show s.buf.length ≤ 12 by rw [hsb.out]; have := HB.out; omega) hbd.out hlim.out)
                  clear hO hobd hx0
                  go_wp2_with (go_at_call 99; (refine (hown.out _ (by repeat (first | exact HI1.out | apply Is66.drewN))).mono ?_); rintro e w2 ⟨rfl, hb2⟩; have HI2 := Aside0.mk (HI1.out.grow hb2); clear hb2; obtain ⟨z0, z1, z2, z3, z4, z5, z6, z7, z8, z9, zf8⟩ := HI2.out.cells; obtain ⟨Ab, cb, zb, _, _, _⟩ := HI2.out.bufcell i hisb; simp only [HLn.out] at zb;  clear z0 z3 z7)
                  go_region_held3 (fun w' => w'.cell? ⟨g, 5, none⟩ = some (.slice (some ⟨gL, 0, none⟩) nL cL))
                    (go_keep)
                    ((go_at_call 100; (refine (htk.out _ (by repeat (first | exact HI2.out | apply Is66.drewN | apply Is66.drew_))).mono ?_); rintro e w5 ⟨rfl, h5⟩; have HI5 := Aside0.mk h5; clear h5; have s5 := HI5.out.cells.2.2.2.2.2.1; obtain ⟨sL, fL, en_, gnL⟩ := HI5.out.linkcell i (by show i < (s.links.set i 0).length; rw [List.length_set, hsl.out]; exact hiL); clear en_; have s5' : ∀ x : Int, (w5.setCell ⟨gL, i, none⟩ (.int .i64 x)).cell? ⟨g, 5, none⟩ = some (.slice (some ⟨gL, 0, none⟩) nL cL) := fun x => (HI5.out.link_set (i : Int) x).cells.2.2.2.2.2.1))
                  have HI3 := Aside0.mk (show Is66 w0 (w5.setCell ⟨gL, i, none⟩ (.int .i64 (x + 1))) g gB cB (.slice (some ⟨gL, 0, none⟩) nL cL) vI vR (.slice (some ⟨gX, 0, none⟩) nX cX) A c n room true ms ⟨s.buf.set i tl, (s.links.set i 0).set i (x + 1), s.ins, s.rdd, s.peak, s.idle⟩ from HI5.out.link_set (i : Int) (x + 1))
                  clear s5 s5' sL fL gnL
                  generalize (w5.setCell ⟨gL, i, none⟩ (.int .i64 (x + 1))) = w3 at *
                  obtain ⟨c0, c1, c2, c3, c4, c5, c6, c7, c8, c9, f8⟩ := HI3.out.cells
                  obtain ⟨Ab', cb', db, _, _, _⟩ := HI3.out.bufcell i (by show i < (s.buf.set i tl).length; rw [List.length_set]; exact hisb)
                  simp only [getD_set_self hisb] at db
                  simp only at c4 c8
                  have hisb3 : i < (s.buf.set i tl).length := by show i < (s.buf.set i tl).length; rw [List.length_set]; exact hisb
                  obtain ⟨P, hP⟩ : ∃ P : Int, s.peak = P := ⟨_, rfl⟩
                  rw [hP] at c8
                  have HP := Aside0.mk hP
                  clear hP c0 c1 c2 c3 c5 c6 c7 c9
                  have hms := Aside0.mk (most_tells P (tl.length : Nat))
                  go_wp2
                  go_region_law (go_simp; go_at_call 71; (refine (spec_l1Most.calls _ _ _ _ hms.out).mono ?_); rintro e w4 ⟨rfl, ⟨nd, rfl⟩⟩)
                  all_goals
                    go_wp2
                    go_roundw
                    case rel =>
                      refine ⟨i + 1, by go_num, by omega, ⟨?_⟩⟩
                      rw [← HN.out, hSE.out, HP.out]
                      have hq := HI3.out.peak_set (mx P (tl.length : Nat))
                      first | exact hq | exact hq.drew_ | exact hq.drewN _ | exact (HI3.out.drew_).peak_set _ | exact (HI3.out.drewN _).peak_set _
                    case measure => simp [intOf]; omega
              | false =>
                rw [hk] at hown
                have hO : ownB room false t ms s i = false := by rw [hobd.out, hbd.out, hk]; simp
                have hx0 := (hbl.out.2 x (by rw [hbd.out]; simp))
                have hSE := Aside0.mk (send1_pop hO hbd.out hx0.1 hisb)
                have hret : IntKind.i64.wrap (x + 1) = x + 1 := IntWalk.i64_in _ (by omega)
                have hlim := Aside0.mk (show (x :: tl).length ≤ 1000000 by have := hbl.out.1; rw [hbd.out] at this; have := HK.out; have := hwf'.out.K1; omega)
                have htk := Aside0.mk (fun W (hW : Is66 w0 W g gB cB (.slice (some ⟨gL, 0, none⟩) nL cL) vI vR (.slice (some ⟨gX, 0, none⟩) nX cX) A c n room false ms { s with links := s.links.set i 0 }) => take_calls w0 W g gB cB _ vI vR _ A c n room false ms _ i x tl hW hisb (show s.buf.length ≤ 12 by rw [hsb.out]; have := HB.out; omega) hbd.out hlim.out)
                clear hO hobd hx0
                go_wp2_with (go_at_call 99; (refine (hown.out _ (by repeat (first | exact HI1.out | apply Is66.drewN))).mono ?_); rintro e w2 ⟨rfl, hb2⟩; have HI2 := Aside0.mk (HI1.out.grow hb2); clear hb2; obtain ⟨z0, z1, z2, z3, z4, z5, z6, z7, z8, z9, zf8⟩ := HI2.out.cells; obtain ⟨Ab, cb, zb, _, _, _⟩ := HI2.out.bufcell i hisb; simp only [HLn.out] at zb;  clear z0 z3 z7)
                go_region_held3 (fun w' => w'.cell? ⟨g, 5, none⟩ = some (.slice (some ⟨gL, 0, none⟩) nL cL))
                  (go_keep)
                  ((go_at_call 100; (refine (htk.out _ (by repeat (first | exact HI2.out | apply Is66.drewN | apply Is66.drew_))).mono ?_); rintro e w5 ⟨rfl, h5⟩; have HI5 := Aside0.mk h5; clear h5; have s5 := HI5.out.cells.2.2.2.2.2.1; obtain ⟨sL, fL, en_, gnL⟩ := HI5.out.linkcell i (by show i < (s.links.set i 0).length; rw [List.length_set, hsl.out]; exact hiL); clear en_; have s5' : ∀ x : Int, (w5.setCell ⟨gL, i, none⟩ (.int .i64 x)).cell? ⟨g, 5, none⟩ = some (.slice (some ⟨gL, 0, none⟩) nL cL) := fun x => (HI5.out.link_set (i : Int) x).cells.2.2.2.2.2.1))
                have HI3 := Aside0.mk (show Is66 w0 (w5.setCell ⟨gL, i, none⟩ (.int .i64 (x + 1))) g gB cB (.slice (some ⟨gL, 0, none⟩) nL cL) vI vR (.slice (some ⟨gX, 0, none⟩) nX cX) A c n room false ms ⟨s.buf.set i tl, (s.links.set i 0).set i (x + 1), s.ins, s.rdd, s.peak, s.idle⟩ from HI5.out.link_set (i : Int) (x + 1))
                clear s5 s5' sL fL gnL
                generalize (w5.setCell ⟨gL, i, none⟩ (.int .i64 (x + 1))) = w3 at *
                obtain ⟨c0, c1, c2, c3, c4, c5, c6, c7, c8, c9, f8⟩ := HI3.out.cells
                obtain ⟨Ab', cb', db, _, _, _⟩ := HI3.out.bufcell i (by show i < (s.buf.set i tl).length; rw [List.length_set]; exact hisb)
                simp only [getD_set_self hisb] at db
                simp only at c4 c8
                have hisb3 : i < (s.buf.set i tl).length := by show i < (s.buf.set i tl).length; rw [List.length_set]; exact hisb
                obtain ⟨P, hP⟩ : ∃ P : Int, s.peak = P := ⟨_, rfl⟩
                rw [hP] at c8
                have HP := Aside0.mk hP
                clear hP c0 c1 c2 c3 c5 c6 c7 c9
                have hms := Aside0.mk (most_tells P (tl.length : Nat))
                go_wp2
                go_region_law (go_simp; go_at_call 71; (refine (spec_l1Most.calls _ _ _ _ hms.out).mono ?_); rintro e w4 ⟨rfl, ⟨nd, rfl⟩⟩)
                all_goals
                  go_wp2
                  go_roundw
                  case rel =>
                    refine ⟨i + 1, by go_num, by omega, ⟨?_⟩⟩
                    rw [← HN.out, hSE.out, HP.out]
                    have hq := HI3.out.peak_set (mx P (tl.length : Nat))
                    first | exact hq | exact hq.drew_ | exact hq.drewN _ | exact (HI3.out.drew_).peak_set _ | exact (HI3.out.drewN _).peak_set _
                  case measure => simp [intOf]; omega
        · obtain rfl : i = j := by omega
          rw [HE.out] at HI
          obtain ⟨c0, c1, c2, c3, c4, c5, c6, c7, c8, c9, f8⟩ := HI.out.cells
          have hRb := Aside0.mk HI.out
          clear c0 c1 c2 c3 c5 c6 c7 c8 c9 f8
          go_wp2
          go_end0
          exact ⟨rfl, by repeat (first | exact HI.out | apply Is66.drewN)⟩
end Ins
end Go.Proofs.Ytkfghiofmamdnaa.PA
