/- The program's insertion ring behind all cells, and behind a tick: what the calls come to; no condition but what each theorem names. -/
import Derived.Test.YtkfghiofmamdnaaInNew
import Derived.Test.YtkfghiofmamdnaaInStep
import Derived.Test.YtkfghiofmamdnaaPA18
namespace Go.Proofs.Ytkfghiofmamdnaa.PA
open Go.RowKit Go.Proofs.YtkfghiofmamdnaaW.PrintWords Go.Proofs.YtkfghiofmamdnaaW.PrintLast Go.Proofs.YtkfghiofmamdnaaW.PrintMore
attribute [local go_sem] max2_int min2_int max_two min_two max_three min_three max_four min_four
set_option linter.unusedVariables false
set_option linter.unusedSimpArgs false
namespace Ins
/-- The ring behind j ticks. -/
def stAt (n : Nat) (room : Int) (ow : Bool) (ms : List S60) : Nat → St
  | 0 => st0 n ms.length
  | j + 1 => tick1 n room ow j ms (stAt n room ow ms j)
theorem stAt_wf {n : Nat} {ms : List S60} (room : Int) (ow : Bool) (h2 : 2 ≤ n) (h12 : n ≤ 12) (hM : ms.length ≤ 20) : ∀ j : Nat, j ≤ 10000 → Wf n ms.length (24 * j) (stAt n room ow ms j)
  | 0, _ => st0_wf n ms.length h2 h12 hM
  | j + 1, hj => ((stAt_wf room ow h2 h12 hM j (by omega)).tick (by omega) room ow j).up (by omega) (by omega)
theorem index_l0 (l : List Int) (a : Int) (hl : l.length < 4611686018427387904) (d : Nat) : ∀ (k i : Nat), i ≤ l.length → l.length - i = d → d < k → ∃ r, slices_Index_int_int.l0 k l a (l.length : Int) (i : Int) = some r ∧ (0 ≤ r ↔ a ∈ l.drop i) := by
  induction d with
  | zero =>
    intro k i h1 hd hk
    obtain ⟨k, rfl⟩ : ∃ m, k = m + 1 := ⟨k - 1, by omega⟩
    refine ⟨-1, ?_, ?_⟩
    · simp only [slices_Index_int_int.l0]
      rw [if_neg (by omega)]
    · rw [List.drop_of_length_le (by omega)]
      simp
  | succ d ih =>
    intro k i h1 hd hk
    obtain ⟨k, rfl⟩ : ∃ m, k = m + 1 := ⟨k - 1, by omega⟩
    have hin : i < l.length := by omega
    have hw : wrap64 ((i : Int) + 1) = ((i + 1 : Nat) : Int) := by unfold wrap64; omega
    have hrd : rd l (i : Int) = l[i] := by simp [rd, List.getD_eq_getElem?_getD, List.getElem?_eq_getElem hin]
    obtain ⟨r, hr, hm⟩ := ih k (i + 1) (by omega) (by omega) (by omega)
    simp only [slices_Index_int_int.l0]
    rw [if_pos (by omega), if_pos (by omega), if_pos (by omega), hw, hrd, List.drop_eq_getElem_cons hin]
    by_cases h : a = l[i]
    · rw [if_pos h]
      exact ⟨i, rfl, ⟨fun _ => by rw [h]; exact List.mem_cons_self .., fun _ => by omega⟩⟩
    · rw [if_neg h]
      exact ⟨r, hr, ⟨fun h' => List.mem_cons_of_mem _ (hm.1 h'), fun h' => hm.2 ((List.mem_cons.1 h').resolve_left h)⟩⟩
theorem contains_tells (l : List Int) (a : Int) (hl : l.length < 4611686018427387904) : slices_Contains_int_int.f (l.length + 1) l a = some (decide (a ∈ l)) := by
  obtain ⟨r, hr, hm⟩ := index_l0 l a hl l.length (l.length + 1) 0 (by omega) (by omega) (by omega)
  simp only [slices_Contains_int_int.f, slices_Index_int_int.f]
  rw [show ((0 : Nat) : Int) = 0 from rfl] at hr
  rw [hr]
  simp only [Option.bind_some, List.drop_zero] at hm ⊢
  congr 1
  rw [decide_eq_decide]
  exact hm
theorem Is74.read_row {w0 w : World} {g gB cB : Nat} {vL vI vR : Value} {A : Option Addr} {c : Nat} {n room : Int} {ow : Bool} {ms : List S60} {t : Int} {st : St} (h : Is74 w0 w g gB cB vL vI vR A c n room ow ms t st) :
    ∃ AR cR, vR = .slice AR st.rdd.length cR ∧ st.rdd.length ≤ cR ∧ Kd.C (Kd.int .i64) w AR st.rdd.length st.rdd ∧ w.cell? ⟨g, 8, none⟩ = some vR := by
  obtain ⟨f, cur, HC, HG, HM, hc⟩ := h
  obtain ⟨AR, cR, rfl⟩ := Kd.R_slice HC.R
  exact ⟨AR, cR, rfl, (Kd.R_reads' HC.R).2.1, (Kd.R_reads' HC.R).2.2, (blk_cell HG 8).trans rfl⟩
/-- The ring at work, at some block. -/
def Now74 (w0 : World) (n : Nat) (room : Int) (ow : Bool) (A : Option Addr) (c : Nat) (ms : List S60) (t : Int) (st : St) (e : Ending) (w' : World) : Prop :=
  ∃ g gB cB vL vI vR, e = .returned (.pointer (some ⟨g, 0, none⟩)) ∧ Is74 w0 w' g gB cB vL vI vR A c n room ow ms t st ∧ Below w0.heap.size w0 w'
set_option maxHeartbeats 2000000 in
set_option maxRecDepth 100000 in
theorem inserted_calls (w : World) (n : Nat) (room : Int) (ow : Bool) (A : Option Addr) (c : Nat) (ms : List S60) (D : Nat) (h2 : 2 ≤ n) (h12 : n ≤ 12) (hM : ms.length ≤ 20) (hC : Kd.C k60 w A ms.length ms) (hc : ms.length ≤ c) (hD : D ≤ 9000) (hno : ∀ j, j < D → -1 ∈ (stAt n room ow ms j).rdd) (hyes : ¬ -1 ∈ (stAt n room ow ms D).rdd) :
    Calls Try.prog 70 #[.agg #[.int .i64 n, .int .i64 room, .bool ow], .slice A ms.length c] w fun e w' => ∃ w0, Below w.heap.size w w0 ∧ Now74 w0 n room ow A c ms D (stAt n room ow ms D) e w' := by
  have HC := Aside0.mk hC
  have HM := Aside0.mk (And.intro hM hc)
  have HN := Aside0.mk (And.intro h2 h12)
  have HO := Aside0.mk hno
  have HY := Aside0.mk hyes
  have HD := Aside0.mk hD
  clear hC hM h2 h12 hc hno hyes hD
  go_enter Try.func70, Try.ntmps70
  go_wp2_with (first
    | ((with_reducible refine gate_dst (N := 2) rfl ?_); refine box_event ?hg (N := 2) ?hd (cs := #[.int .i64 n, .int .i64 room, .bool ow]) (t := 28) ?hr ?_; (case hd => rfl); (case hg => rfl); (case hr => first | (go_simp; done) | (go_simp; rfl)); intro gb hgb w1 hbox hb; have HB1 := Aside0.mk hb; have x0 : w1.cell? ⟨gb, 0, none⟩ = some (.int .i64 n) := (blk_cell hbox 0).trans rfl; have x1 : w1.cell? ⟨gb, 1, none⟩ = some (.int .i64 room) := (blk_cell hbox 1).trans rfl; have x2 : w1.cell? ⟨gb, 2, none⟩ = some (.bool ow) := (blk_cell hbox 2).trans rfl; clear hb hbox hgb)
    | (go_at_call 66; (refine (new_calls w1 n room ow A c ms HN.out.1 HN.out.2 HM.out.1 (Kd.C_below HC.out HB1.out) HM.out.2).mono ?_); rintro e w2 ⟨g, gB, cB, vL, vI, vR, rfl, h⟩; have HI := Aside0.mk h; clear h))
  go_loopg [9] D (fun kq v9 w' => ∃ j : Nat, Aside0 (j + kq = D) ∧ Aside0 (Is74 w1 w' g gB cB vL vI vR A c n room ow ms j (stAt n room ow ms j)))
  case atStart => exact ⟨0, ⟨by omega⟩, HI⟩
  case round =>
    clear HI x0 x1 x2
    obtain ⟨j, HJ, HI⟩ := hrel
    have hwf := Aside0.mk (stAt_wf room ow HN.out.1 HN.out.2 HM.out.1 j (by have := HJ.out; have := HD.out; omega))
    obtain ⟨AR, cR, rfl, hcR, hCR, c8⟩ := HI.out.read_row
    have hCR' := Aside0.mk hCR
    have hcR' := Aside0.mk hcR
    have hlt := Aside0.mk (show (stAt n room ow ms j).rdd.length < 4611686018427387904 by have := hwf.out.rdd; have := HM.out.1; omega)
    have hlt2 := hlt.out
    clear hCR hcR
    cases gk with
    | zero =>
      obtain rfl : j = D := by have := HJ.out; omega
      have ht := Aside0.mk ((contains_tells (stAt n room ow ms j).rdd (-1) hlt.out).trans (by rw [decide_eq_false HY.out]))
      go_wp2_with ((go_at_call 91; (refine (slices_Contains_int_int.calls _ AR cR _ (-1) _ _ (Kd.C_below hCR'.out (by repeat (first | exact Below.refl _ _ | apply pw_below_drewN | apply below_drew))) hcR'.out ht.out).mono ?_); rintro e w3 ⟨rfl, ⟨nd, rfl⟩⟩))
      go_ret
      exact ⟨w1, HB1.out, g, gB, cB, vL, vI, _, rfl, by repeat (first | exact HI.out | apply Is74.drewN), by repeat (first | exact HI.out.below | apply pw_below_drewN)⟩
    | succ k1 =>
      have ht := Aside0.mk ((contains_tells (stAt n room ow ms j).rdd (-1) hlt.out).trans (by rw [decide_eq_true (HO.out j (by have := HJ.out; omega))]))
      have hs := Aside0.mk (fun W (hW : Is74 w1 W g gB cB vL vI (.slice AR (stAt n room ow ms j).rdd.length cR) A c n room ow ms j (stAt n room ow ms j)) => step_calls w1 W g gB cB vL vI _ A c n room ow ms j _ _ hW hwf.out (by have := HJ.out; have := HD.out; omega) (by have := HJ.out; have := HD.out; omega))
      go_wp2_with (first
        | (go_at_call 91; (refine (slices_Contains_int_int.calls _ AR cR _ (-1) _ _ (Kd.C_below hCR'.out (by repeat (first | exact Below.refl _ _ | apply pw_below_drewN | apply below_drew))) hcR'.out ht.out).mono ?_); rintro e w3 ⟨rfl, ⟨nd, rfl⟩⟩)
        | (go_at_call 67; (refine (hs.out _ (by repeat (first | exact HI.out | apply Is74.drewN))).mono ?_); rintro e w4 ⟨rfl, h4⟩; have HI4 := Aside0.mk h4; clear h4))
      go_roundg k1
      case measure => omega
      case rel => exact ⟨j + 1, ⟨by have := HJ.out; omega⟩, HI4⟩
end Ins
end Go.Proofs.Ytkfghiofmamdnaa.PA
