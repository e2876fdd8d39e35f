/- The reference's insertion ring at first: what the call comes to; no condition but what each theorem names. -/
import Derived.Test.YtkfghiofmamdnaaInApp
import Derived.Test.YtkfghiofmamdnaaInNew
namespace Go.Proofs.Ytkfghiofmamdnaa.PA
open Go.RowKit Go.Proofs.YtkfghiofmamdnaaW.PrintWords Go.Proofs.YtkfghiofmamdnaaW.PrintLast Go.Proofs.YtkfghiofmamdnaaW.PrintMore
attribute [local go_sem] max2_int min2_int max_two min_two max_three min_three max_four min_four
set_option linter.unusedVariables false
set_option linter.unusedSimpArgs false
namespace Ins
/-- What the making comes to. -/
def New66 (w0 : World) (n : Nat) (room : Int) (ow : Bool) (A : Option Addr) (c : Nat) (ms : List S60) (st : St) (e : Ending) (w' : World) : Prop :=
  ∃ g gB cB vL vI vR vX, e = .returned (.pointer (some ⟨g, 0, none⟩)) ∧ Is66 w0 w' g gB cB vL vI vR vX A c n room ow ms st ∧ n ≤ cB
def stI (n k : Nat) : St := ⟨List.replicate n [], List.replicate n 0, List.replicate k (-1), List.replicate k (-1), 0, List.replicate n 0⟩
theorem is66_new {w0 w : World} {g gB gL gX n cL cB cX : Nat} {A : Option Addr} {c : Nat} {room : Int} {ow : Bool} {ms : List S60} (hG : w.heap[g]? = some (.cells #[.int .i64 n, .int .i64 room, .bool ow, .slice A ms.length c, .slice (some ⟨gB, 0, none⟩) n cB, .slice (some ⟨gL, 0, none⟩) n cL, .slice none 0 0, .slice none 0 0, .int .i64 0, .slice (some ⟨gX, 0, none⟩) n cX] 66 (0, 0)))
    (hb : Below w0.heap.size w0 w) (hg : w0.heap.size ≤ g) (hgB : w0.heap.size ≤ gB) (hB : w.heap[gB]? = some (.cells (Array.replicate n (Value.slice none 0 0)) 38 (0, 0)))
    (hL : Kd.R (Kd.int .i64) 3 w w0.heap.size (fun _ => True) (.slice (some ⟨gL, 0, none⟩) n cL) (List.replicate n 0)) (hX : Kd.R (Kd.int .i64) 3 w w0.heap.size (fun _ => True) (.slice (some ⟨gX, 0, none⟩) n cX) (List.replicate n 0))
    (n1 : gL ≠ g) (n2 : gX ≠ g) (n3 : gL ≠ gX) (n4 : gB ≠ g) (hC : Kd.C k60 w0 A ms.length ms) (hc : ms.length ≤ c) :
    Is66 w0 w g gB cB (.slice (some ⟨gL, 0, none⟩) n cL) (.slice none 0 0) (.slice none 0 0) (.slice (some ⟨gX, 0, none⟩) n cX) A c n room ow ms (stI n 0) := by
  have eB : gL ≠ gB := fun e => Kd.R_ne hL hB (by decide) (by rw [← e]; rfl)
  have eX : gX ≠ gB := fun e => Kd.R_ne hX hB (by decide) (by rw [← e]; rfl)
  refine ⟨fun k => if k = g then 0 else if k = gB then 1 else if k = gL then 2 else if k = gX then 5 else 4, _, ⟨hb, if_pos rfl, hg, blk_lt hG, by simp [n4], hgB, hB, by simp [stI], fun j v b hv hbb => ?_, recol hL (fun k hk => ?_), Kd.R_nil _ _ _ _ _, Kd.R_nil _ _ _ _ _⟩, recol hX (fun k hk => ?_), by simpa [stI] using hG, hC, hc⟩
  · have hv' : v = .slice none 0 0 := by
      rw [Array.getElem?_replicate] at hv
      split at hv
      · exact (Option.some.inj hv).symm
      · cases hv
    have hb' : b = [] := by
      simp only [stI, List.getElem?_replicate] at hbb
      split at hbb
      · exact (Option.some.inj hbb).symm
      · cases hbb
    subst hv' hb'
    exact Kd.Q_nil _ _ _ _ _
  · have : gL = k := by simpa [Value.ownBlock] using hk
    subst this
    simp [n1, eB]
  · have : gX = k := by simpa [Value.ownBlock] using hk
    subst this
    simp [n2, eX, n3.symm]
theorem is66_new_ex {w0 w : World} {g gB gL gX n cL cB cX : Nat} {A : Option Addr} {c : Nat} {room : Int} {ow : Bool} {ms : List S60} (hG : w.heap[g]? = some (.cells #[.int .i64 n, .int .i64 room, .bool ow, .slice A ms.length c, .slice (some ⟨gB, 0, none⟩) n cB, .slice (some ⟨gL, 0, none⟩) n cL, .slice none 0 0, .slice none 0 0, .int .i64 0, .slice (some ⟨gX, 0, none⟩) n cX] 66 (0, 0)))
    (hb : Below w0.heap.size w0 w) (hg : w0.heap.size ≤ g) (hgB : w0.heap.size ≤ gB) (hB : w.heap[gB]? = some (.cells (Array.replicate n (Value.slice none 0 0)) 38 (0, 0)))
    (hL : Kd.R (Kd.int .i64) 3 w w0.heap.size (fun _ => True) (.slice (some ⟨gL, 0, none⟩) n cL) (List.replicate n 0)) (hX : Kd.R (Kd.int .i64) 3 w w0.heap.size (fun _ => True) (.slice (some ⟨gX, 0, none⟩) n cX) (List.replicate n 0))
    (n1 : gL ≠ g) (n2 : gX ≠ g) (n3 : gL ≠ gX) (n4 : gB ≠ g) (hC : Kd.C k60 w0 A ms.length ms) (hc : ms.length ≤ c) (hcB : n ≤ cB) :
    ∃ gB cB vL vI vR vX, Is66 w0 w g gB cB vL vI vR vX A c n room ow ms (stI n 0) ∧ n ≤ cB := ⟨_, _, _, _, _, _, is66_new hG hb hg hgB hB hL hX n1 n2 n3 n4 hC hc, hcB⟩
theorem setCell_size (w : World) (a : Addr) (v : Value) : (w.setCell a v).heap.size = w.heap.size := by simp [World.setCell]
theorem keepw {F : World → Prop} {w : World} (P : World → Prop) (h : P w) (k : ∀ w', P w' → F w') : F w := k w h
set_option maxHeartbeats 4000000 in
set_option maxRecDepth 100000 in
theorem inNew_calls (w : World) (n : Nat) (room : Int) (ow : Bool) (A : Option Addr) (c : Nat) (ms : List S60) (h2 : 2 ≤ n) (h12 : n ≤ 12) (hM : ms.length ≤ 20) (hC : Kd.C k60 w A ms.length ms) (hc : ms.length ≤ c) :
    Calls Try.prog 85 #[.agg #[.int .i64 n, .int .i64 room, .bool ow], .slice A ms.length c] w (New66 w n room ow A c ms (st0 n ms.length)) := by
  have HC := Aside0.mk hC
  have HM := Aside0.mk hM
  have HN := Aside0.mk (And.intro h2 h12)
  have Hc := Aside0.mk hc
  have mr := make_rows n h12
  have mi := make_ints n h12
  clear hC hM h2 h12 hc
  go_enter Try.func85, Try.ntmps85
  go_wp2_with ((with_reducible refine gate_dst (N := 2) rfl ?_); refine box_event ?hg (N := 2) ?hd (cs := #[.int .i64 n, .int .i64 room, .bool ow]) (t := 28) ?hr ?_; (case hd => rfl); (case hg => rfl); (case hr => first | (go_simp; done) | (go_simp; rfl)); intro gb hgb w1 hbox hb; have HB1 := Aside0.mk hb; have x0 : w1.cell? ⟨gb, 0, none⟩ = some (.int .i64 n) := (blk_cell hbox 0).trans rfl; have x1 : w1.cell? ⟨gb, 1, none⟩ = some (.int .i64 room) := (blk_cell hbox 1).trans rfl; have x2 : w1.cell? ⟨gb, 2, none⟩ = some (.bool ow) := (blk_cell hbox 2).trans rfl; have y0 := World.new_ne w1 _ x0; have y1 : ¬ w1.heap.size + 1 = gb := (by have := blk_lt hbox; omega); have y2 : ¬ w1.heap.size + 1 + 1 = gb := (by have := blk_lt hbox; omega); have y3 : ¬ w1.heap.size + 1 + 1 + 1 = gb := (by have := blk_lt hbox; omega); clear hb hbox hgb)
  go_region_held3 (fun w' => w'.cell? ⟨gb, 0, none⟩ = some (.int .i64 n) ∧ w'.cell? ⟨gb, 1, none⟩ = some (.int .i64 room) ∧ w'.cell? ⟨gb, 2, none⟩ = some (.bool ow))
    (first | exact ⟨pw_cell_below (by repeat (first | exact Below.refl _ _ | apply below_drew | apply pw_below_drewN | apply below_alloc)) x0, pw_cell_below (by repeat (first | exact Below.refl _ _ | apply below_drew | apply pw_below_drewN | apply below_alloc)) x1, pw_cell_below (by repeat (first | exact Below.refl _ _ | apply below_drew | apply pw_below_drewN | apply below_alloc)) x2⟩ | go_keep)
    (fail)
  all_goals
    have hz1 := HB1.out.size
    have hn12 := HN.out.2
    clear mr mi
    go_wp2
    refine keepw (F := fun W => Code.wp _ _ _ _ W) (fun W => ∃ gB cB vL vI vR vX, Is66 w W (w1.heap.size + 1 + 1 + 1) gB cB vL vI vR vX A c n room ow ms (stI n 0) ∧ n ≤ cB) ?_ ?_
    · refine is66_new_ex (blk_new_at _ ?_) ?_ ?_ ?_ ?_ ?_ ?_ ?_ ?_ ?_ ?_ HC.out Hc.out (Nat.le_refl _)
      · simp
      · repeat (first | exact HB1.out | with_reducible refine below_alloc ?_ _ | with_reducible refine below_drew ?_)
      · omega
      · omega
      · repeat (first | ((with_reducible refine blk_new_at _ ?_); focus (simp; done)) | with_reducible refine blk_alloc ?_ _ | with_reducible refine blk_drew ?_)
      · with_reducible refine Kd.R_drew ?_
        with_reducible refine Kd.R_alloc ?_ _
        repeat (first | (refine ints_row_at ?_ ?_ hn12 <;> (first | (simp; done) | (simp only [World.size_alloc]; omega) | omega)) | with_reducible refine Kd.R_alloc ?_ _)
      · with_reducible refine Kd.R_drew ?_
        with_reducible refine Kd.R_alloc ?_ _
        repeat (first | (refine ints_row_at ?_ ?_ hn12 <;> (first | (simp; done) | (simp only [World.size_alloc]; omega) | omega)) | with_reducible refine Kd.R_alloc ?_ _)
      · omega
      · omega
      · omega
      · omega
    · rintro wb ⟨gB, cB, vL, vI, vR, vX, h0, hcB⟩
      have HcB := Aside0.mk hcB
      have H0 := Aside0.mk h0
      clear h0 hcB x0 x1 x2 y0 y1 y2 y3 hz1
      generalize w1.heap.size + 1 + 1 + 1 = g at *
      have hm20 : ms.length ≤ 20 := HM.out
      go_loopw [21] (fun v21 wr => ∃ k : Nat, v21 = .int .i64 k ∧ k ≤ ms.length ∧ Aside0 (∃ vI vR, Is66 w wr g gB cB vL vI vR vX A c n room ow ms (stI n k))) (fun v _ => ms.length - (intOf v).toNat)
      case atStart => exact ⟨0, rfl, Nat.zero_le _, ⟨_, _, H0.out⟩⟩
      case round =>
        clear H0
        obtain ⟨k, rfl, hk, ⟨vI, vR, HI⟩⟩ := hrel
        by_cases hlt : k < ms.length
        · obtain ⟨ok, hR, hfr, hput⟩ := HI.appendI2
          obtain ⟨okR, hRR, _, _⟩ := HI.appendR
          obtain ⟨AR, cR, rfl⟩ := Kd.R_slice hRR
          obtain ⟨c0, c1, c2, c3, c4, c5, c6, c7, c8, c9, f8⟩ := HI.cells
          clear hRR
          have hR' := Aside0.mk hR
          have hfr' := Aside0.mk hfr
          have hput' := Aside0.mk hput
          have hB := Aside0.mk HI.below
          have hbz := HI.below.size
          obtain ⟨AI, cI, rfl⟩ := Kd.R_slice hR
          have hli : (stI n k).ins.length = k := by simp [stI]
          rw [hli] at c6
          clear hR hfr hput HI c0 c1 c2 c3 c4 c5 c7 c8 c9 f8
          have hkk := Aside0.mk hlt
          have hkd : decide (k < ms.length) = true := decide_eq_true hlt
          have hlI : ((stI n k).ins ++ [(-1 : Int)]).length = k + 1 := by simp [stI]
          have HlI := Aside0.mk hlI
          have Hli := Aside0.mk hli
          clear hli hlI hlt
          have hsI : (stI n k).ins = List.replicate k (-1) := rfl
          have HsI := Aside0.mk hsI
          clear hsI
          generalize hst : stI n k = s0 at *
          have Hst := Aside0.mk hst
          clear hst
          have hlR : s0.rdd.length = k := by rw [← Hst.out]; simp [stI]
          have HlR := Aside0.mk hlR
          clear hlR
          go_wp2_with (first
            | ((with_reducible refine gate_builtin (b := .append) (xs := #[.tmp 27, .tmp 28]) rfl ?_); at_builtin; refine Kd.R_append (Kd.int .i64) (w0 := w) w.heap.size rfl (.tmp 27) (.tmp 28) 38 3 (.int .i64 0) 8 rfl Try.underlying38 info3 rfl (by decide) (by omega) (.slice AI s0.ins.length cI) s0.ins (-1) [.int .i64 (-1)] ok (fun _ => False) (by rw [Hli.out]; rfl) rfl rfl (fun _ hk => hk.elim) hfr'.out hR'.out hB.out hbz (by rw [Hli.out]; have := hkk.out; omega) ?_; intro v1 w1 hr1 hb1 hg1 hat; have hp := hput'.out 0 w1 _ _ ⟨hg1.os, hg1.tape, hg1.output, hg1.size, hg1.block⟩ hb1 hr1; obtain ⟨A1, c1, ev⟩ := Kd.R_slice hr1; subst ev; rw [show (s0.ins ++ [(-1 : Int)]).length = s0.ins.length + 1 from List.length_append ..] at hp; have s6 := hp.1.1; have f6 := hp.1.2.1; have z7 := hp.1.2.2; rw [HlR.out] at z7; rw [Hli.out] at s6; have HI2 := Aside0.mk hp.2; obtain ⟨ok2, hR2, hfr2, hput2⟩ := HI2.out.appendR; have HR2 := Aside0.mk hR2; have Hfr2 := Aside0.mk hfr2; have Hput2 := Aside0.mk hput2; have HB2 := Aside0.mk HI2.out.below; have hbz2 := HI2.out.below.size; clear hp hr1 hb1 hg1 hat hR2 hfr2 hput2 HI2)
            | ((with_reducible refine gate_builtin (b := .append) (xs := #[.tmp 36, .tmp 37]) rfl ?_); at_builtin; refine Kd.R_append (Kd.int .i64) (w0 := w) w.heap.size rfl (.tmp 36) (.tmp 37) 38 3 (.int .i64 0) 8 rfl Try.underlying38 info3 rfl (by decide) (by omega) (.slice AR s0.rdd.length cR) s0.rdd (-1) [.int .i64 (-1)] ok2 (fun _ => False) (by rw [HlR.out]; rfl) (by rw [setCell_size]; rfl) rfl (fun _ hk => hk.elim) Hfr2.out HR2.out HB2.out hbz2 (by rw [HlR.out]; have := hkk.out; omega) ?_; intro v2 w2 hr3 hb3 hg3 hat3; have hp := Hput2.out 0 w2 _ _ ⟨hg3.os, hg3.tape, hg3.output, hg3.size, hg3.block⟩ hb3 hr3; obtain ⟨A2, c2, ev⟩ := Kd.R_slice hr3; subst ev; rw [show (s0.rdd ++ [(-1 : Int)]).length = s0.rdd.length + 1 from List.length_append ..] at hp; have t7 := hp.1.1; have g7 := hp.1.2; rw [HlR.out] at t7; have HI3 := Aside0.mk hp.2; clear hp hr3 hb3 hg3 hat3))
          go_roundw
          case rel => exact ⟨k + 1, by go_num, by have := hkk.out; omega, ⟨_, _, by rw [← show (⟨s0.buf, s0.links, s0.ins ++ [-1], s0.rdd ++ [-1], s0.peak, s0.idle⟩ : St) = stI n (k + 1) by rw [← Hst.out]; simp [stI, List.replicate_succ']]; exact HI3.out⟩⟩
          case measure => simp [intOf]; have := hkk.out; omega
        · have e : stI n k = st0 n ms.length := by
            have : k = ms.length := by omega
            rw [this]
            rfl
          rw [e] at HI
          have HF := Aside0.mk HI
          clear HI e
          go_wp2
          go_ret
          exact ⟨g, gB, cB, vL, vI, vR, vX, rfl, HF.out, HcB.out⟩
end Ins
end Go.Proofs.Ytkfghiofmamdnaa.PA
