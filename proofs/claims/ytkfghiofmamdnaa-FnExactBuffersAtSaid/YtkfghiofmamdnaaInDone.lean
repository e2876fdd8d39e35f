/- The reference's insertion ring behind all messages: what the call comes to; no condition but what each theorem names. -/
import Derived.Test.YtkfghiofmamdnaaInEnd
namespace Go.Proofs.Ytkfghiofmamdnaa.PA
open Go.RowKit Go.Proofs.YtkfghiofmamdnaaW.PrintWords Go.Proofs.YtkfghiofmamdnaaW.PrintLast Go.Proofs.YtkfghiofmamdnaaW.PrintMore
attribute [local go_sem] max2_int min2_int max_two min_two max_three min_three max_four min_four
set_option linter.unusedVariables false
set_option linter.unusedSimpArgs false
namespace Ins
def allGe (l : List Int) : Bool := l.all fun x => decide (0 ≤ x)
theorem allGe_snoc (l : List Int) (i : Nat) (h : i < l.length) : allGe (l.take (i + 1)) = (allGe (l.take i) && decide (0 ≤ rd l i)) := by
  simp only [allGe]
  rw [List.take_succ_eq_append_getElem h, List.all_append]
  simp [rd, List.getD_eq_getElem?_getD, List.getElem?_eq_getElem h]
theorem allGe_no {l : List Int} (h : -1 ∈ l) : allGe l = false := by
  simp only [allGe]
  rw [List.all_eq_false]
  exact ⟨-1, h, by simp⟩
theorem allGe_yes {l : List Int} (h : ¬ -1 ∈ l) (hr : ∀ x ∈ l, -1 ≤ x) : allGe l = true := by
  simp only [allGe, List.all_eq_true, decide_eq_true_eq]
  intro x hx
  have := hr x hx
  by_cases e : x = -1
  · exact absurd (e ▸ hx) h
  · omega
set_option maxHeartbeats 4000000 in
set_option maxRecDepth 100000 in
theorem inDone_calls (w : World) (n : Nat) (room : Int) (ow : Bool) (A : Option Addr) (c : Nat) (ms : List S60) (D : Nat) (h2 : 2 ≤ n) (h12 : n ≤ 12) (hr : 1 ≤ room) (hM : ms.length ≤ 20) (hC : Kd.C k60 w A ms.length ms) (hc : ms.length ≤ c) (hD : D ≤ 2000) (hno : ∀ j, j < D → allGe (stAt n room ow ms j).rdd = false) (hyes : allGe (stAt n room ow ms D).rdd = true) :
    Calls Try.prog 69 #[.agg #[.int .i64 n, .int .i64 room, .bool ow], .slice A ms.length c] w fun e w' => ∃ w0, Below w.heap.size w w0 ∧ New66 w0 n room ow A c ms (stAt n room ow ms D) e w' := by
  have HC := Aside0.mk hC
  have HM := Aside0.mk (And.intro hM hc)
  have HN := Aside0.mk (And.intro h2 h12)
  have HR := Aside0.mk hr
  have HO := Aside0.mk hno
  have HY := Aside0.mk hyes
  have HD := Aside0.mk hD
  clear hC hM h2 h12 hc hno hyes hD hr
  go_enter Try.func69, Try.ntmps69
  go_wp2_with (first
    | ((with_reducible refine gate_dst (N := 2) rfl ?_); refine box_event ?hg (N := 2) ?hd (cs := #[.int .i64 n, .int .i64 room, .bool ow]) (t := 28) ?hr ?_; (case hd => rfl); (case hg => rfl); (case hr => first | (go_simp; done) | (go_simp; rfl)); intro gb hgb w1 hbox hb; have HB1 := Aside0.mk hb; have x0 : w1.cell? ⟨gb, 0, none⟩ = some (.int .i64 n) := (blk_cell hbox 0).trans rfl; have x1 : w1.cell? ⟨gb, 1, none⟩ = some (.int .i64 room) := (blk_cell hbox 1).trans rfl; have x2 : w1.cell? ⟨gb, 2, none⟩ = some (.bool ow) := (blk_cell hbox 2).trans rfl; clear hb hbox hgb)
    | (go_at_call 85; (refine (inNew_calls w1 n room ow A c ms HN.out.1 HN.out.2 HM.out.1 (Kd.C_below HC.out HB1.out) HM.out.2).mono ?_); rintro e w2 ⟨g, gB, cB, vL, vI, vR, vX, rfl, h, hcB⟩; have HcB := Aside0.mk hcB; clear hcB; have HI := Aside0.mk h; clear h))
  go_loopg [6] D (fun kq v6 w' => ∃ j : Nat, v6 = .int .i64 j ∧ Aside0 (j + kq = D) ∧ Aside0 (Is66 w1 w' g gB cB vL vI vR vX A c n room ow ms (stAt n room ow ms j)))
  case atStart => exact ⟨0, rfl, ⟨by omega⟩, HI⟩
  case round =>
    clear HI x0 x1 x2
    obtain ⟨j, rfl, HJ, HI⟩ := hrel
    have hj2 : (j : Int) ≤ 2000 := by have := HJ.out; have := HD.out; omega
    have hwf := Aside0.mk (stAt_wf room ow HN.out.1 HN.out.2 HM.out.1 j (by omega))
    have hs := Aside0.mk (fun W (hW : Is66 w1 W g gB cB vL vI vR vX A c n room ow ms (stAt n room ow ms j)) => tick_calls w1 W g gB cB vL vI vR vX A c n room ow ms j _ _ hW hwf.out (by omega) HR.out)
    have hres : allGe (stAt n room ow ms j).rdd = decide (gk = 0) := by
      by_cases e : gk = 0
      · have : j = D := by have := HJ.out; omega
        rw [this, HY.out, e]
        rfl
      · rw [HO.out j (by have := HJ.out; omega), decide_eq_false e]
    have Hres := Aside0.mk hres
    have HST : Aside0 (stAt n room ow ms (j + 1) = tick1 n room ow j ms (stAt n room ow ms j)) := ⟨rfl⟩
    obtain ⟨AR, cR, rfl, hcR, hCR, c7⟩ := HI.out.read_row
    have hlen := Aside0.mk hwf.out.rdd
    have hCR' := Aside0.mk hCR
    clear hres hcR hCR
    generalize hS : stAt n room ow ms j = s at *
    have hS' := Aside0.mk hS
    clear hS
    have hl20 : s.rdd.length ≤ 20 := by rw [hlen.out]; exact HM.out.1
    obtain ⟨wo, rfl⟩ : ∃ wo : World, wo = wr := ⟨_, rfl⟩
    go_wp2
    go_loop [7, 22] (fun v7 v22 => ∃ i : Nat, v22 = .int .i64 i ∧ v7 = .bool (allGe (s.rdd.take i)) ∧ i ≤ s.rdd.length) (fun _ v => s.rdd.length - (intOf v).toNat)
    case atStart => exact ⟨0, rfl, rfl, Nat.zero_le _⟩
    case round =>
      obtain ⟨i, rfl, rfl, hi⟩ := hrel
      by_cases hlt : i < s.rdd.length
      · obtain ⟨ad, eA, hx⟩ := Kd.at_int hCR'.out (i : Int) (by omega) (by omega)
        subst eA
        have hx' : wo.cell? (ad.add i) = some (.int .i64 (rd s.rdd i)) := hx
        have hsn := Aside0.mk (allGe_snoc s.rdd i hlt)
        have hil : decide (i < s.rdd.length) = true := decide_eq_true hlt
        clear hx
        generalize hv : rd s.rdd (i : Int) = v at hx' hsn
        generalize hb : allGe (s.rdd.take i) = b at hsn ⊢
        clear hv hb
        cases b with
        | true =>
          go_wp2
          go_round
          case rel => exact ⟨i + 1, by go_num, by rw [hsn.out]; simp, by omega⟩
          case measure => simp [intOf]; omega
        | false =>
          go_wp2
          go_round
          case rel => exact ⟨i + 1, by go_num, by rw [hsn.out]; simp, by omega⟩
          case measure => simp [intOf]; omega
      · have e : allGe (s.rdd.take i) = decide (gk = 0) := by rw [List.take_of_length_le (by omega)]; exact Hres.out
        rw [e]
        clear e
        cases gk with
        | zero =>
          have hj : j = D := by have := HJ.out; omega
          have HF := Aside0.mk (show Is66 w1 wo g gB cB vL vI (.slice AR s.rdd.length cR) vX A c n room ow ms (stAt n room ow ms D) from by rw [← hj, hS'.out]; exact HI.out)
          clear hj
          go_wp2
          go_ret
          exact ⟨w1, HB1.out, g, gB, cB, vL, vI, _, vX, rfl, (by repeat (first | exact HF.out | apply Is66.drewN)), HcB.out⟩
        | succ k1 =>
          have hg0 : decide (k1 + 1 = 0) = false := decide_eq_false (by omega)
          go_wp2_with (go_at_call 86; (refine (hs.out _ (by repeat (first | exact HI.out | apply Is66.drewN))).mono ?_); rintro e w4 ⟨rfl, h4⟩; have HI4 := Aside0.mk h4; clear h4)
          go_roundg k1
          case measure => omega
          case rel => exact ⟨j + 1, by go_num, ⟨by have := HJ.out; omega⟩, ⟨by rw [HST.out]; exact HI4.out⟩⟩
end Ins
end Go.Proofs.Ytkfghiofmamdnaa.PA
