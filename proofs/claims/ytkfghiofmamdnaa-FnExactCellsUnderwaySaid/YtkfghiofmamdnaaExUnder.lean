/- How many cells are underway at a tick, on both sides: what the calls come to; no condition but what each theorem names. -/
import Derived.Test.YtkfghiofmamdnaaExDoneB
import Derived.Test.YtkfghiofmamdnaaExLinks
import Derived.Test.YtkfghiofmamdnaaInWay
namespace Go.Proofs.Ytkfghiofmamdnaa.PA
open Go.RowKit Go.Proofs.YtkfghiofmamdnaaW.PrintWords Go.Proofs.YtkfghiofmamdnaaW.PrintLast Go.Proofs.YtkfghiofmamdnaaW.PrintMore
attribute [local go_sem] max2_int min2_int max_two min_two max_three min_three max_four min_four
set_option linter.unusedVariables false
set_option linter.unusedSimpArgs false
namespace Ins
def cntTo (p : Nat → Bool) : Nat → Int
  | 0 => 0
  | j + 1 => if p j = true then cntTo p j + 1 else cntTo p j
theorem cntTo_range (p : Nat → Bool) : ∀ j : Nat, 0 ≤ cntTo p j ∧ cntTo p j ≤ j
  | 0 => ⟨Int.le_refl _, Int.le_refl _⟩
  | j + 1 => by
    have := cntTo_range p j
    rw [cntTo]
    split <;> omega
theorem cntTo_congr {p q : Nat → Bool} : ∀ j : Nat, (∀ i, i < j → p i = q i) → cntTo p j = cntTo q j
  | 0, _ => rfl
  | j + 1, h => by rw [cntTo, cntTo, cntTo_congr j (fun i hi => h i (by omega)), h j (by omega)]
def undS (st : St) (i : Nat) : Bool := decide (0 ≤ rd st.ins i) && decide (rd st.rdd i < 0)
def undI (st : St) (t : Int) (i : Nat) : Bool := decide (rd st.ins i ≤ t) && decide (t < rd st.rdd i)
theorem und_same {n : Nat} {room : Int} {ms : List S60} (hg : Good n room ms) (ow : Bool) (T : Nat) (hT : T ≤ 600) : cntTo (undI (stAt n room ow ms (doneN n room ow ms)) T) ms.length = cntTo (undS (stAt n room ow ms (T + 1))) ms.length := by
  have hd := done_facts hg ow
  have hb := stAt_bal hg ow (doneN n room ow ms) (by omega)
  have hw := stAt_wf room ow hg.n2 hg.n12 hg.M (doneN n room ow ms) (by omega)
  refine cntTo_congr _ fun i hi => ?_
  have hend : 0 ≤ rd (stAt n room ow ms (doneN n room ow ms)).rdd i := by
    rcases hb.rdd i hi with h1 | h1
    · exfalso
      refine hd.2.1 ?_
      have hl := hw.rdd
      have hlt : i < (stAt n room ow ms (doneN n room ow ms)).rdd.length := by omega
      rw [← h1]
      simp only [rd, Int.toNat_natCast, List.getD_eq_getElem?_getD, List.getElem?_eq_getElem hlt, Option.getD_some]
      exact List.getElem_mem hlt
    · exact h1.1
  obtain ⟨a, b, c⟩ := told_at hg ow (doneN n room ow ms) (T + 1) (by omega) (by omega) i hi hend
  unfold undI undS
  have e1 : decide (rd (stAt n room ow ms (doneN n room ow ms)).ins i ≤ T) = decide (0 ≤ rd (stAt n room ow ms (T + 1)).ins i) := decide_eq_decide.2 (by rw [a]; omega)
  have e2 : decide ((T : Int) < rd (stAt n room ow ms (doneN n room ow ms)).rdd i) = decide (rd (stAt n room ow ms (T + 1)).rdd i < 0) := decide_eq_decide.2 (by
    constructor
    · intro h
      by_cases h2 : 0 ≤ rd (stAt n room ow ms (T + 1)).rdd i
      · have := b.1 h2; omega
      · omega
    · intro h
      by_cases h2 : rd (stAt n room ow ms (doneN n room ow ms)).rdd i < ((T + 1 : Nat) : Int)
      · have := b.2 h2; omega
      · omega)
  rw [e1, e2]
end Ins
/-- What CellsUnderway comes to, on both sides. -/
def cellsUnderwayR (n room : Int) (ow : Bool) (ms : List S60) (t : Int) : Int × Bool :=
  if (Ins.okI n room ms && inB 0 600 t) = true then (Ins.cntTo (Ins.undS (Ins.stAt n.toNat room ow ms (t.toNat + 1))) ms.length, true) else (0, false)
def impl_CellsUnderway.f (n room : Int) (ow : Bool) (ms : List S60) (t : Int) : Option (Int × Bool) := if ms.length < 4611686018427387904 then some (cellsUnderwayR n room ow ms t) else none
def spec_CellsUnderway.f (n room : Int) (ow : Bool) (ms : List S60) (t : Int) : Option (Int × Bool) := if ms.length < 4611686018427387904 then some (cellsUnderwayR n room ow ms t) else none
set_option maxHeartbeats 2000000 in
set_option maxRecDepth 100000 in
theorem impl_CellsUnderway.calls (n room : Int) (ow : Bool) (A1 : Option Addr) (c1 : Nat) (ms : List S60) (t : Int) (r1 : Int) (r2 : Bool) (w : World) (hr1 : Kd.C k60 w A1 ms.length ms) (hc1 : ms.length ≤ c1) (h : impl_CellsUnderway.f n room ow ms t = some (r1, r2)) :
    Calls Try.prog 25 #[.agg #[.int .i64 n, .int .i64 room, .bool ow], .slice A1 ms.length c1, .int .i64 t] w fun e w' => e = .returned (.tuple #[.int .i64 r1, .bool r2]) ∧ Below w.heap.size w w' := by
  have hlen : ms.length < 4611686018427387904 := by
    by_cases hl : ms.length < 4611686018427387904
    · exact hl
    · simp [impl_CellsUnderway.f, hl] at h
  rw [impl_CellsUnderway.f, if_pos hlen, cellsUnderwayR] at h
  have h1 := Ins.isInserted_tells n room ow ms hlen
  have h3 := (Ins.tick_tells t).1
  have HC := Aside0.mk hr1
  have Hc := Aside0.mk hc1
  clear hr1 hc1 hlen
  have hok : Ins.okI n room ms = true → 2 ≤ n ∧ n ≤ 12 ∧ 1 ≤ room ∧ ms.length ≤ 20 := fun h => by have := Ins.okI_facts h; exact ⟨this.1.1, this.1.2, this.2.1.1, this.2.2.1⟩
  have hgood : Ins.okI n room ms = true → Aside0 (Ins.Good n.toNat room ms) := fun h => ⟨Ins.good_of (by have := (Ins.okI_facts h).1; rw [Int.toNat_of_nonneg (by omega)]; exact h)⟩
  generalize Ins.okI n room ms = b1 at *
  have hit : inB 0 600 t = true → 0 ≤ t ∧ t ≤ 600 := fun h => by simpa [inB] using h
  generalize inB 0 600 t = b3 at *
  have HT1 := Aside0.mk h1
  have HT3 := Aside0.mk h3
  clear h1 h3
  cases b1 with
  | false =>
    rw [if_neg (by simp)] at h
    simp only [Option.some.injEq, Prod.mk.injEq] at h
    obtain ⟨rfl, rfl⟩ := h
    clear hok hit hgood
    go_enter Try.func25, Try.ntmps25
    go_wp2_with (first
      | ((with_reducible refine gate_dst (N := 3) rfl ?_); refine box_event ?hg (N := 3) ?hd (cs := #[.int .i64 n, .int .i64 room, .bool ow]) (t := 28) ?hr ?_; (case hd => rfl); (case hg => rfl); (case hr => first | (go_simp; done) | (go_simp; rfl)); intro gb hgb w1 hbox hb; have HB1 := Aside0.mk hb; have x0 : w1.cell? ⟨gb, 0, none⟩ = some (.int .i64 n) := (blk_cell hbox 0).trans rfl; have x1 : w1.cell? ⟨gb, 1, none⟩ = some (.int .i64 room) := (blk_cell hbox 1).trans rfl; have x2 : w1.cell? ⟨gb, 2, none⟩ = some (.bool ow) := (blk_cell hbox 2).trans rfl; have Hbx := Aside0.mk hbox; clear hb hbox hgb)
      | (go_at_call 63; (refine (impl_isInserted.calls _ n room ow A1 c1 ms _ w1 (Kd.C_below HC.out HB1.out) Hc.out HT1.out).mono ?_); rintro e w2 ⟨rfl, hb2⟩; have HB2 := Aside0.mk hb2; have x3 := pw_cell_below hb2 x0; have x4 := pw_cell_below hb2 x1; have x5 := pw_cell_below hb2 x2; clear hb2)
      | (go_at_call 65; (refine (impl_isInsertTick.calls t _ _ HT3.out).mono ?_); rintro e w' ⟨rfl, ⟨nd3, rfl⟩⟩))
    go_ret2
    exact ⟨rfl, (by repeat (first | exact below_then HB1.out HB1.out.size HB2.out | apply pw_below_drewN | apply below_drew))⟩
  | true =>
    obtain ⟨hn0, hn1, hr, hM⟩ := hok rfl
    have hgd := hgood rfl
    cases b3 with
    | false =>
      rw [if_neg (by simp)] at h
      simp only [Option.some.injEq, Prod.mk.injEq] at h
      obtain ⟨rfl, rfl⟩ := h
      clear hok hit hgood hn0 hn1 hgd hr hM
      go_enter Try.func25, Try.ntmps25
      go_wp2_with (first
        | ((with_reducible refine gate_dst (N := 3) rfl ?_); refine box_event ?hg (N := 3) ?hd (cs := #[.int .i64 n, .int .i64 room, .bool ow]) (t := 28) ?hr ?_; (case hd => rfl); (case hg => rfl); (case hr => first | (go_simp; done) | (go_simp; rfl)); intro gb hgb w1 hbox hb; have HB1 := Aside0.mk hb; have x0 : w1.cell? ⟨gb, 0, none⟩ = some (.int .i64 n) := (blk_cell hbox 0).trans rfl; have x1 : w1.cell? ⟨gb, 1, none⟩ = some (.int .i64 room) := (blk_cell hbox 1).trans rfl; have x2 : w1.cell? ⟨gb, 2, none⟩ = some (.bool ow) := (blk_cell hbox 2).trans rfl; have Hbx := Aside0.mk hbox; clear hb hbox hgb)
        | (go_at_call 63; (refine (impl_isInserted.calls _ n room ow A1 c1 ms _ w1 (Kd.C_below HC.out HB1.out) Hc.out HT1.out).mono ?_); rintro e w2 ⟨rfl, hb2⟩; have HB2 := Aside0.mk hb2; have x3 := pw_cell_below hb2 x0; have x4 := pw_cell_below hb2 x1; have x5 := pw_cell_below hb2 x2; clear hb2)
        | (go_at_call 65; (refine (impl_isInsertTick.calls t _ _ HT3.out).mono ?_); rintro e w' ⟨rfl, ⟨nd3, rfl⟩⟩))
      go_ret2
      exact ⟨rfl, (by repeat (first | exact below_then HB1.out HB1.out.size HB2.out | apply pw_below_drewN | apply below_drew))⟩
    | true =>
      have ht := hit rfl
      rw [if_pos (by simp)] at h
      simp only [Option.some.injEq, Prod.mk.injEq] at h
      obtain ⟨rfl, rfl⟩ := h
      clear hok hit hgood
      obtain ⟨N, rfl⟩ : ∃ N : Nat, n = (N : Int) := ⟨n.toNat, by omega⟩
      obtain ⟨T, rfl⟩ : ∃ T : Nat, t = (T : Int) := ⟨t.toNat, by omega⟩
      simp only [Int.toNat_natCast] at hgd ⊢
      have HM := Aside0.mk hM
      have HR := Aside0.mk hr
      have hN2 := Aside0.mk (show 2 ≤ N ∧ N ≤ 12 by omega)
      have hT600 : (T : Int) ≤ 600 := by omega
      have hTn := Aside0.mk (show T ≤ 600 by omega)
      have hTn' := Aside0.mk (show T ≤ 8000 by omega)
      have e1 : IntKind.i64.wrap ((T : Int) + 1) = ((T + 1 : Nat) : Int) := (IntWalk.i64_in _ (by omega)).trans (by omega)
      clear hn0 hn1 ht hM hr
      have Hl := Aside0.mk (Ins.end_sizes hgd.out ow)
      have HU := Aside0.mk (Ins.und_same hgd.out ow T hTn.out)
      generalize hst : Ins.stAt N room ow ms (Ins.doneN N room ow ms) = st at *
      have Hst := Aside0.mk hst
      clear hst e1
      go_enter Try.func25, Try.ntmps25
      go_wp2_with (first
        | ((with_reducible refine gate_dst (N := 3) rfl ?_); refine box_event ?hg (N := 3) ?hd (cs := #[.int .i64 (N : Int), .int .i64 room, .bool ow]) (t := 28) ?hr ?_; (case hd => rfl); (case hg => rfl); (case hr => first | (go_simp; done) | (go_simp; rfl)); intro gb hgb w1 hbox hb; have HB1 := Aside0.mk hb; have x0 : w1.cell? ⟨gb, 0, none⟩ = some (.int .i64 (N : Int)) := (blk_cell hbox 0).trans rfl; have x1 : w1.cell? ⟨gb, 1, none⟩ = some (.int .i64 room) := (blk_cell hbox 1).trans rfl; have x2 : w1.cell? ⟨gb, 2, none⟩ = some (.bool ow) := (blk_cell hbox 2).trans rfl; have Hbx := Aside0.mk hbox; clear hb hbox hgb)
        | (go_at_call 63; (refine (impl_isInserted.calls _ (N : Int) room ow A1 c1 ms _ w1 (Kd.C_below HC.out HB1.out) Hc.out HT1.out).mono ?_); rintro e w2 ⟨rfl, hb2⟩; have HB2 := Aside0.mk hb2; have x3 := pw_cell_below hb2 x0; have x4 := pw_cell_below hb2 x1; have x5 := pw_cell_below hb2 x2; clear hb2)
        | (go_at_call 65; (refine (impl_isInsertTick.calls (T : Int) _ _ HT3.out).mono ?_); rintro e w' ⟨rfl, ⟨nd3, rfl⟩⟩)
        | (go_at_call 70; (refine (Ins.endI_calls _ N room ow A1 c1 ms hgd.out (Kd.C_below HC.out (by repeat (first | exact below_then HB1.out HB1.out.size HB2.out | apply pw_below_drewN | apply below_drew))) Hc.out).mono ?_); rintro e w3 ⟨w0, hb0, g, gB, cB, vL, vI, vR, rfl, h, hbl⟩; rw [Hst.out] at h; have HI := Aside0.mk h; have Hb3 := Aside0.mk (Ins.below_chain3 (show Below w.heap.size w w0 from Ins.below_chain3 (by repeat (first | exact below_then HB1.out HB1.out.size HB2.out | apply pw_below_drewN | apply below_drew)) hb0) h.below); clear h hb0 hbl; obtain ⟨Ardd, crdd, rfl, yrdd, hLrdd⟩ := HI.out.rdd_row; have Crdd := Aside0.mk (Kd.R_reads' hLrdd).2.2; clear hLrdd; obtain ⟨Ains, cins, rfl, yins, hLins⟩ := HI.out.ins_row; have Cins := Aside0.mk (Kd.R_reads' hLins).2.2; clear hLins))
      go_loopg [9, 25] (ms.length) (fun kq v9 v31 w' => ∃ j : Nat, v9 = .int .i64 (Ins.cntTo (Ins.undI st T) j) ∧ v31 = .int .i64 j ∧ Aside0 (j + kq = ms.length) ∧ Aside0 (Below w3.heap.size w3 w'))
      case atStart => exact ⟨0, rfl, rfl, ⟨by omega⟩, ⟨by repeat (first | exact Below.refl _ _ | apply pw_below_drewN | apply below_drew)⟩⟩
      case round =>
        obtain ⟨j, rfl, rfl, HJ, HW⟩ := hrel
        have hcr := Ins.cntTo_range (Ins.undI st T) j
        cases gk with
        | zero =>
          have hd : decide (j < ms.length) = false := decide_eq_false (by have := HJ.out; omega)
          have hdS : decide (j < st.ins.length) = false := decide_eq_false (by have := HJ.out; have := Hl.out; omega)
          have hm : Ins.cntTo (Ins.undI st T) j = Ins.cntTo (Ins.undI st T) ms.length := by rw [show j = ms.length by have := HJ.out; omega]
          have Hm := Aside0.mk hm
          clear hm yins yrdd hcr
          generalize Ins.cntTo (Ins.undI st T) j = m at *
          go_wp2
          go_ret2
          exact ⟨by rw [Hm.out, HU.out]; rfl, by repeat (first | exact Ins.below_chain3 Hb3.out HW.out | apply pw_below_drewN | apply below_drew)⟩
        | succ k1 =>
          have hj : j < ms.length := by have := HJ.out; omega
          have hl20 : ms.length ≤ 20 := by have := Hl.out; omega
          have hl1 : st.ins.length = ms.length := Hl.out.1
          have hl2 : st.rdd.length = ms.length := Hl.out.2.1
          have hj1 : j < st.ins.length := by omega
          have hj2 : j < st.rdd.length := by omega
          have hd : decide (j < ms.length) = true := decide_eq_true hj
          have hdS : decide (j < st.ins.length) = true := decide_eq_true hj1
          obtain ⟨ai, eA, hxi⟩ := Kd.at_int Cins.out (j : Int) (by omega) (by omega)
          subst eA
          obtain ⟨ar, eB, hxr⟩ := Kd.at_int Crdd.out (j : Int) (by omega) (by omega)
          subst eB
          have hxi' : wr.cell? (ai.add j) = some (.int .i64 (rd st.ins j)) := pw_cell_below HW.out hxi
          have hxr' : wr.cell? (ar.add j) = some (.int .i64 (rd st.rdd j)) := pw_cell_below HW.out hxr
          have hyi := pw_cell_below HW.out yins
          have hyr := pw_cell_below HW.out yrdd
          have hs : Ins.cntTo (Ins.undI st T) (j + 1) = if Ins.undI st T j = true then Ins.cntTo (Ins.undI st T) j + 1 else Ins.cntTo (Ins.undI st T) j := rfl
          have hp : Ins.undI st T j = (decide (rd st.ins j ≤ (T : Int)) && decide ((T : Int) < rd st.rdd j)) := rfl
          clear hxi hxr yins yrdd hl1 hl2
          generalize rd st.ins (j : Int) = xi at *
          generalize rd st.rdd (j : Int) = xr at *
          generalize Ins.undI st T j = pj at *
          generalize Ins.cntTo (Ins.undI st T) j = m at *
          have e2 : IntKind.i64.wrap (m + 1) = m + 1 := IntWalk.i64_in _ (by omega)
          by_cases h1 : xi ≤ (T : Int)
          · have d1 : decide (xi ≤ (T : Int)) = true := decide_eq_true h1
            by_cases h2 : (T : Int) < xr
            · have d2 : decide ((T : Int) < xr) = true := decide_eq_true h2
              rw [hp, d1, d2, Bool.and_true, if_pos rfl] at hs
              have HS := Aside0.mk hs
              clear hs hp
              go_wp2
              go_roundg k1
              case measure => have := HJ.out; omega
              case rel => exact ⟨j + 1, by rw [HS.out], by go_num, ⟨by have := HJ.out; omega⟩, ⟨by repeat (first | exact HW.out | apply pw_below_drewN | apply below_drew)⟩⟩
            · have d2 : decide ((T : Int) < xr) = false := decide_eq_false h2
              rw [hp, d1, d2, if_neg (by simp)] at hs
              have HS := Aside0.mk hs
              clear hs hp
              go_wp2
              go_roundg k1
              case measure => have := HJ.out; omega
              case rel => exact ⟨j + 1, by rw [HS.out], by go_num, ⟨by have := HJ.out; omega⟩, ⟨by repeat (first | exact HW.out | apply pw_below_drewN | apply below_drew)⟩⟩
          · have d1 : decide (xi ≤ (T : Int)) = false := decide_eq_false h1
            rw [hp, d1, if_neg (by simp)] at hs
            have HS := Aside0.mk hs
            clear hs hp
            go_wp2
            go_roundg k1
            case measure => have := HJ.out; omega
            case rel => exact ⟨j + 1, by rw [HS.out], by go_num, ⟨by have := HJ.out; omega⟩, ⟨by repeat (first | exact HW.out | apply pw_below_drewN | apply below_drew)⟩⟩
set_option maxHeartbeats 2000000 in
set_option maxRecDepth 100000 in
theorem spec_CellsUnderway.calls (n room : Int) (ow : Bool) (A1 : Option Addr) (c1 : Nat) (ms : List S60) (t : Int) (r1 : Int) (r2 : Bool) (w : World) (hr1 : Kd.C k60 w A1 ms.length ms) (hc1 : ms.length ≤ c1) (h : spec_CellsUnderway.f n room ow ms t = some (r1, r2)) :
    Calls Try.prog 24 #[.agg #[.int .i64 n, .int .i64 room, .bool ow], .slice A1 ms.length c1, .int .i64 t] w fun e w' => e = .returned (.tuple #[.int .i64 r1, .bool r2]) ∧ Below w.heap.size w w' := by
  have hlen : ms.length < 4611686018427387904 := by
    by_cases hl : ms.length < 4611686018427387904
    · exact hl
    · simp [spec_CellsUnderway.f, hl] at h
  rw [spec_CellsUnderway.f, if_pos hlen, cellsUnderwayR] at h
  have h1 := Ins.inAll_tells n room ow ms hlen
  have h3 := (Ins.tick_tells t).2
  have HC := Aside0.mk hr1
  have Hc := Aside0.mk hc1
  clear hr1 hc1 hlen
  have hok : Ins.okI n room ms = true → 2 ≤ n ∧ n ≤ 12 ∧ 1 ≤ room ∧ ms.length ≤ 20 := fun h => by have := Ins.okI_facts h; exact ⟨this.1.1, this.1.2, this.2.1.1, this.2.2.1⟩
  have hgood : Ins.okI n room ms = true → Aside0 (Ins.Good n.toNat room ms) := fun h => ⟨Ins.good_of (by have := (Ins.okI_facts h).1; rw [Int.toNat_of_nonneg (by omega)]; exact h)⟩
  generalize Ins.okI n room ms = b1 at *
  have hit : inB 0 600 t = true → 0 ≤ t ∧ t ≤ 600 := fun h => by simpa [inB] using h
  generalize inB 0 600 t = b3 at *
  have HT1 := Aside0.mk h1
  have HT3 := Aside0.mk h3
  clear h1 h3
  cases b1 with
  | false =>
    rw [if_neg (by simp)] at h
    simp only [Option.some.injEq, Prod.mk.injEq] at h
    obtain ⟨rfl, rfl⟩ := h
    clear hok hit hgood
    go_enter Try.func24, Try.ntmps24
    go_wp2_with (first
      | ((with_reducible refine gate_dst (N := 3) rfl ?_); refine box_event ?hg (N := 3) ?hd (cs := #[.int .i64 n, .int .i64 room, .bool ow]) (t := 28) ?hr ?_; (case hd => rfl); (case hg => rfl); (case hr => first | (go_simp; done) | (go_simp; rfl)); intro gb hgb w1 hbox hb; have HB1 := Aside0.mk hb; have x0 : w1.cell? ⟨gb, 0, none⟩ = some (.int .i64 n) := (blk_cell hbox 0).trans rfl; have x1 : w1.cell? ⟨gb, 1, none⟩ = some (.int .i64 room) := (blk_cell hbox 1).trans rfl; have x2 : w1.cell? ⟨gb, 2, none⟩ = some (.bool ow) := (blk_cell hbox 2).trans rfl; have Hbx := Aside0.mk hbox; clear hb hbox hgb)
      | (go_at_call 58; (refine (spec_inAll.calls _ n room ow A1 c1 ms _ w1 (Kd.C_below HC.out HB1.out) Hc.out HT1.out).mono ?_); rintro e w2 ⟨rfl, hb2⟩; have HB2 := Aside0.mk hb2; have x3 := pw_cell_below hb2 x0; have x4 := pw_cell_below hb2 x1; have x5 := pw_cell_below hb2 x2; clear hb2)
      | (go_at_call 60; (refine (spec_inTick.calls t _ _ HT3.out).mono ?_); rintro e w' ⟨rfl, ⟨nd3, rfl⟩⟩))
    go_ret2
    exact ⟨rfl, (by repeat (first | exact below_then HB1.out HB1.out.size HB2.out | apply pw_below_drewN | apply below_drew))⟩
  | true =>
    obtain ⟨hn0, hn1, hr, hM⟩ := hok rfl
    have hgd := hgood rfl
    cases b3 with
    | false =>
      rw [if_neg (by simp)] at h
      simp only [Option.some.injEq, Prod.mk.injEq] at h
      obtain ⟨rfl, rfl⟩ := h
      clear hok hit hgood hn0 hn1 hgd hr hM
      go_enter Try.func24, Try.ntmps24
      go_wp2_with (first
        | ((with_reducible refine gate_dst (N := 3) rfl ?_); refine box_event ?hg (N := 3) ?hd (cs := #[.int .i64 n, .int .i64 room, .bool ow]) (t := 28) ?hr ?_; (case hd => rfl); (case hg => rfl); (case hr => first | (go_simp; done) | (go_simp; rfl)); intro gb hgb w1 hbox hb; have HB1 := Aside0.mk hb; have x0 : w1.cell? ⟨gb, 0, none⟩ = some (.int .i64 n) := (blk_cell hbox 0).trans rfl; have x1 : w1.cell? ⟨gb, 1, none⟩ = some (.int .i64 room) := (blk_cell hbox 1).trans rfl; have x2 : w1.cell? ⟨gb, 2, none⟩ = some (.bool ow) := (blk_cell hbox 2).trans rfl; have Hbx := Aside0.mk hbox; clear hb hbox hgb)
        | (go_at_call 58; (refine (spec_inAll.calls _ n room ow A1 c1 ms _ w1 (Kd.C_below HC.out HB1.out) Hc.out HT1.out).mono ?_); rintro e w2 ⟨rfl, hb2⟩; have HB2 := Aside0.mk hb2; have x3 := pw_cell_below hb2 x0; have x4 := pw_cell_below hb2 x1; have x5 := pw_cell_below hb2 x2; clear hb2)
        | (go_at_call 60; (refine (spec_inTick.calls t _ _ HT3.out).mono ?_); rintro e w' ⟨rfl, ⟨nd3, rfl⟩⟩))
      go_ret2
      exact ⟨rfl, (by repeat (first | exact below_then HB1.out HB1.out.size HB2.out | apply pw_below_drewN | apply below_drew))⟩
    | true =>
      have ht := hit rfl
      rw [if_pos (by simp)] at h
      simp only [Option.some.injEq, Prod.mk.injEq] at h
      obtain ⟨rfl, rfl⟩ := h
      clear hok hit hgood
      obtain ⟨N, rfl⟩ : ∃ N : Nat, n = (N : Int) := ⟨n.toNat, by omega⟩
      obtain ⟨T, rfl⟩ : ∃ T : Nat, t = (T : Int) := ⟨t.toNat, by omega⟩
      simp only [Int.toNat_natCast] at hgd ⊢
      have HM := Aside0.mk hM
      have HR := Aside0.mk hr
      have hN2 := Aside0.mk (show 2 ≤ N ∧ N ≤ 12 by omega)
      have hT600 : (T : Int) ≤ 600 := by omega
      have hTn := Aside0.mk (show T ≤ 600 by omega)
      have hTn' := Aside0.mk (show T + 1 ≤ 9000 by omega)
      have e1 : IntKind.i64.wrap ((T : Int) + 1) = ((T + 1 : Nat) : Int) := (IntWalk.i64_in _ (by omega)).trans (by omega)
      clear hn0 hn1 ht hM hr
      have Hl := Aside0.mk (show (Ins.stAt N room ow ms (T + 1)).ins.length = ms.length ∧ (Ins.stAt N room ow ms (T + 1)).rdd.length = ms.length ∧ ms.length ≤ 20 from by have hw := Ins.stAt_wf room ow hN2.out.1 hN2.out.2 HM.out (T + 1) (by have := hTn.out; omega); exact ⟨hw.ins, hw.rdd, HM.out⟩)
      generalize hst : Ins.stAt N room ow ms (T + 1) = st at *
      have Hst := Aside0.mk hst
      clear hst
      go_enter Try.func24, Try.ntmps24
      go_wp2_with (first
        | ((with_reducible refine gate_dst (N := 3) rfl ?_); refine box_event ?hg (N := 3) ?hd (cs := #[.int .i64 (N : Int), .int .i64 room, .bool ow]) (t := 28) ?hr ?_; (case hd => rfl); (case hg => rfl); (case hr => first | (go_simp; done) | (go_simp; rfl)); intro gb hgb w1 hbox hb; have HB1 := Aside0.mk hb; have x0 : w1.cell? ⟨gb, 0, none⟩ = some (.int .i64 (N : Int)) := (blk_cell hbox 0).trans rfl; have x1 : w1.cell? ⟨gb, 1, none⟩ = some (.int .i64 room) := (blk_cell hbox 1).trans rfl; have x2 : w1.cell? ⟨gb, 2, none⟩ = some (.bool ow) := (blk_cell hbox 2).trans rfl; have Hbx := Aside0.mk hbox; clear hb hbox hgb)
        | (go_at_call 58; (refine (spec_inAll.calls _ (N : Int) room ow A1 c1 ms _ w1 (Kd.C_below HC.out HB1.out) Hc.out HT1.out).mono ?_); rintro e w2 ⟨rfl, hb2⟩; have HB2 := Aside0.mk hb2; have x3 := pw_cell_below hb2 x0; have x4 := pw_cell_below hb2 x1; have x5 := pw_cell_below hb2 x2; clear hb2)
        | (go_at_call 60; (refine (spec_inTick.calls (T : Int) _ _ HT3.out).mono ?_); rintro e w' ⟨rfl, ⟨nd3, rfl⟩⟩)
        | (go_at_call 61; (refine (Ins.inEnd_calls _ N room ow A1 c1 ms (T + 1) hN2.out.1 hN2.out.2 HR.out HM.out (Kd.C_below HC.out (by repeat (first | exact below_then HB1.out HB1.out.size HB2.out | apply pw_below_drewN | apply below_drew))) Hc.out hTn'.out).mono ?_); rintro e w3 ⟨w0, hb0, g, gB, cB, vL, vI, vR, vX, rfl, h⟩; rw [Hst.out] at h; have HI := Aside0.mk h; have Hb3 := Aside0.mk (Ins.below_chain3 (show Below w.heap.size w w0 from Ins.below_chain3 (by repeat (first | exact below_then HB1.out HB1.out.size HB2.out | apply pw_below_drewN | apply below_drew)) hb0) h.below); clear h hb0; obtain ⟨Ardd, crdd, rfl, yrdd, hLrdd⟩ := HI.out.rdd_row; have Crdd := Aside0.mk (Kd.R_reads' hLrdd).2.2; clear hLrdd; obtain ⟨Ains, cins, rfl, yins, hLins⟩ := HI.out.ins_row; have Cins := Aside0.mk (Kd.R_reads' hLins).2.2; clear hLins))
      go_loopg [9, 31] (ms.length) (fun kq v9 v31 w' => ∃ j : Nat, v9 = .int .i64 (Ins.cntTo (Ins.undS st) j) ∧ v31 = .int .i64 j ∧ Aside0 (j + kq = ms.length) ∧ Aside0 (Below w3.heap.size w3 w'))
      case atStart => exact ⟨0, rfl, rfl, ⟨by omega⟩, ⟨by repeat (first | exact Below.refl _ _ | apply pw_below_drewN | apply below_drew)⟩⟩
      case round =>
        obtain ⟨j, rfl, rfl, HJ, HW⟩ := hrel
        have hcr := Ins.cntTo_range (Ins.undS st) j
        cases gk with
        | zero =>
          have hd : decide (j < ms.length) = false := decide_eq_false (by have := HJ.out; omega)
          have hdS : decide (j < st.ins.length) = false := decide_eq_false (by have := HJ.out; have := Hl.out; omega)
          have hm : Ins.cntTo (Ins.undS st) j = Ins.cntTo (Ins.undS st) ms.length := by rw [show j = ms.length by have := HJ.out; omega]
          have Hm := Aside0.mk hm
          clear hm yins yrdd hcr
          generalize Ins.cntTo (Ins.undS st) j = m at *
          go_wp2
          go_ret2
          exact ⟨by rw [Hm.out]; rfl, by repeat (first | exact Ins.below_chain3 Hb3.out HW.out | apply pw_below_drewN | apply below_drew)⟩
        | succ k1 =>
          have hj : j < ms.length := by have := HJ.out; omega
          have hl20 : ms.length ≤ 20 := by have := Hl.out; omega
          have hl1 : st.ins.length = ms.length := Hl.out.1
          have hl2 : st.rdd.length = ms.length := Hl.out.2.1
          have hj1 : j < st.ins.length := by omega
          have hj2 : j < st.rdd.length := by omega
          have hd : decide (j < ms.length) = true := decide_eq_true hj
          have hdS : decide (j < st.ins.length) = true := decide_eq_true hj1
          obtain ⟨ai, eA, hxi⟩ := Kd.at_int Cins.out (j : Int) (by omega) (by omega)
          subst eA
          obtain ⟨ar, eB, hxr⟩ := Kd.at_int Crdd.out (j : Int) (by omega) (by omega)
          subst eB
          have hxi' : wr.cell? (ai.add j) = some (.int .i64 (rd st.ins j)) := pw_cell_below HW.out hxi
          have hxr' : wr.cell? (ar.add j) = some (.int .i64 (rd st.rdd j)) := pw_cell_below HW.out hxr
          have hyi := pw_cell_below HW.out yins
          have hyr := pw_cell_below HW.out yrdd
          have hs : Ins.cntTo (Ins.undS st) (j + 1) = if Ins.undS st j = true then Ins.cntTo (Ins.undS st) j + 1 else Ins.cntTo (Ins.undS st) j := rfl
          have hp : Ins.undS st j = (decide (0 ≤ rd st.ins j) && decide (rd st.rdd j < 0)) := rfl
          clear hxi hxr yins yrdd hl1 hl2
          generalize rd st.ins (j : Int) = xi at *
          generalize rd st.rdd (j : Int) = xr at *
          generalize Ins.undS st j = pj at *
          generalize Ins.cntTo (Ins.undS st) j = m at *
          have e2 : IntKind.i64.wrap (m + 1) = m + 1 := IntWalk.i64_in _ (by omega)
          by_cases h1 : 0 ≤ xi
          · have d1 : decide (0 ≤ xi) = true := decide_eq_true h1
            by_cases h2 : xr < 0
            · have d2 : decide (xr < 0) = true := decide_eq_true h2
              rw [hp, d1, d2, Bool.and_true, if_pos rfl] at hs
              have HS := Aside0.mk hs
              clear hs hp
              go_wp2
              go_roundg k1
              case measure => have := HJ.out; omega
              case rel => exact ⟨j + 1, by rw [HS.out], by go_num, ⟨by have := HJ.out; omega⟩, ⟨by repeat (first | exact HW.out | apply pw_below_drewN | apply below_drew)⟩⟩
            · have d2 : decide (xr < 0) = false := decide_eq_false h2
              rw [hp, d1, d2, if_neg (by simp)] at hs
              have HS := Aside0.mk hs
              clear hs hp
              go_wp2
              go_roundg k1
              case measure => have := HJ.out; omega
              case rel => exact ⟨j + 1, by rw [HS.out], by go_num, ⟨by have := HJ.out; omega⟩, ⟨by repeat (first | exact HW.out | apply pw_below_drewN | apply below_drew)⟩⟩
          · have d1 : decide (0 ≤ xi) = false := decide_eq_false h1
            rw [hp, d1, if_neg (by simp)] at hs
            have HS := Aside0.mk hs
            clear hs hp
            go_wp2
            go_roundg k1
            case measure => have := HJ.out; omega
            case rel => exact ⟨j + 1, by rw [HS.out], by go_num, ⟨by have := HJ.out; omega⟩, ⟨by repeat (first | exact HW.out | apply pw_below_drewN | apply below_drew)⟩⟩
end Go.Proofs.Ytkfghiofmamdnaa.PA
