/- The reference's insertion ring behind so many ticks, and behind all messages: what the calls come to; no condition but what each theorem names. -/
import Derived.Test.YtkfghiofmamdnaaInTick
import Derived.Test.YtkfghiofmamdnaaInNewS
import Derived.Test.YtkfghiofmamdnaaInRun
namespace Go.Proofs.Ytkfghiofmamdnaa.PA
open Go.RowKit Go.Proofs.YtkfghiofmamdnaaW.PrintWords Go.Proofs.YtkfghiofmamdnaaW.PrintLast Go.Proofs.YtkfghiofmamdnaaW.PrintMore
attribute [local go_sem] max2_int min2_int max_two min_two max_three min_three max_four min_four
set_option linter.unusedVariables false
set_option linter.unusedSimpArgs false
namespace Ins
set_option maxHeartbeats 2000000 in
set_option maxRecDepth 100000 in
theorem inEnd_calls (w : World) (n : Nat) (room : Int) (ow : Bool) (A : Option Addr) (c : Nat) (ms : List S60) (T : Nat) (h2 : 2 ≤ n) (h12 : n ≤ 12) (hr : 1 ≤ room) (hM : ms.length ≤ 20) (hC : Kd.C k60 w A ms.length ms) (hc : ms.length ≤ c) (hT : T ≤ 9000) :
    Calls Try.prog 61 #[.agg #[.int .i64 n, .int .i64 room, .bool ow], .slice A ms.length c, .int .i64 T] w fun e w' => ∃ w0, Below w.heap.size w w0 ∧ New66 w0 n room ow A c ms (stAt n room ow ms T) e w' := by
  have HC := Aside0.mk hC
  have HM := Aside0.mk (And.intro hM hc)
  have HN := Aside0.mk (And.intro h2 h12)
  have HR := Aside0.mk hr
  have HT := Aside0.mk hT
  have hT1 : (T : Int) ≤ 9000 := by omega
  clear hC hM h2 h12 hc hT hr
  go_enter Try.func61, Try.ntmps61
  go_wp2_with (first
    | ((with_reducible refine gate_dst (N := 3) rfl ?_); refine box_event ?hg (N := 3) ?hd (cs := #[.int .i64 n, .int .i64 room, .bool ow]) (t := 28) ?hr ?_; (case hd => rfl); (case hg => rfl); (case hr => first | (go_simp; done) | (go_simp; rfl)); intro gb hgb w1 hbox hb; have HB1 := Aside0.mk hb; have x0 : w1.cell? ⟨gb, 0, none⟩ = some (.int .i64 n) := (blk_cell hbox 0).trans rfl; have x1 : w1.cell? ⟨gb, 1, none⟩ = some (.int .i64 room) := (blk_cell hbox 1).trans rfl; have x2 : w1.cell? ⟨gb, 2, none⟩ = some (.bool ow) := (blk_cell hbox 2).trans rfl; clear hb hbox hgb)
    | (go_at_call 85; (refine (inNew_calls w1 n room ow A c ms HN.out.1 HN.out.2 HM.out.1 (Kd.C_below HC.out HB1.out) HM.out.2).mono ?_); rintro e w2 ⟨g, gB, cB, vL, vI, vR, vX, rfl, h, hcB⟩; have HcB := Aside0.mk hcB; have HI := Aside0.mk h; clear h hcB))
  go_loopw [8] (fun v8 w' => ∃ j : Nat, v8 = .int .i64 j ∧ j ≤ T ∧ Aside0 (Is66 w1 w' g gB cB vL vI vR vX A c n room ow ms (stAt n room ow ms j))) (fun v _ => T - (intOf v).toNat)
  case atStart => exact ⟨0, rfl, Nat.zero_le _, HI⟩
  case round =>
    clear HI x0 x1 x2
    obtain ⟨j, rfl, hj, HI⟩ := hrel
    by_cases hlt : j < T
    · have hwf := Aside0.mk (stAt_wf room ow HN.out.1 HN.out.2 HM.out.1 j (by have := HT.out; omega))
      have hs := Aside0.mk (fun W (hW : Is66 w1 W g gB cB vL vI vR vX A c n room ow ms (stAt n room ow ms j)) => tick_calls w1 W g gB cB vL vI vR vX A c n room ow ms j _ _ hW hwf.out (by have := HT.out; omega) HR.out)
      go_wp2_with ((go_at_call 86; (refine (hs.out _ (by repeat (first | exact HI.out | apply Is66.drewN))).mono ?_); rintro e w4 ⟨rfl, h4⟩; have HI4 := Aside0.mk h4; clear h4))
      go_roundw
      case rel => exact ⟨j + 1, by go_num, by omega, HI4⟩
      case measure => simp [intOf]; omega
    · obtain rfl : j = T := by omega
      go_wp2
      go_ret
      exact ⟨w1, HB1.out, g, gB, cB, vL, vI, vR, vX, rfl, (by repeat (first | exact HI.out | apply Is66.drewN)), HcB.out⟩
theorem Is66.read_row {w0 w : World} {g gB cB : Nat} {vL vI vR vX : Value} {A : Option Addr} {c : Nat} {n room : Int} {ow : Bool} {ms : List S60} {st : St} (h : Is66 w0 w g gB cB vL vI vR vX A c n room ow ms st) :
    ∃ AR cR, vR = .slice AR st.rdd.length cR ∧ st.rdd.length ≤ cR ∧ Kd.C (Kd.int .i64) w AR st.rdd.length st.rdd ∧ w.cell? ⟨g, 7, none⟩ = some vR := by
  obtain ⟨f, cur, HC, HX, HG, HM, hc⟩ := h
  obtain ⟨AR, cR, rfl⟩ := Kd.R_slice HC.R
  exact ⟨AR, cR, rfl, (Kd.R_reads' HC.R).2.1, (Kd.R_reads' HC.R).2.2, (blk_cell HG 7).trans rfl⟩
end Ins
end Go.Proofs.Ytkfghiofmamdnaa.PA
