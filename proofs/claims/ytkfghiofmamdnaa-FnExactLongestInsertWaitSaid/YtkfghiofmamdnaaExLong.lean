/- The greatest wait of a cell, of the reference: what the call comes to; no condition but what each theorem names. -/
import Derived.Test.YtkfghiofmamdnaaExDoneB
import Derived.Test.YtkfghiofmamdnaaPA4
namespace Go.Proofs.Ytkfghiofmamdnaa.PA
open Go.RowKit Go.Proofs.YtkfghiofmamdnaaW.PrintWords Go.Proofs.YtkfghiofmamdnaaW.PrintLast Go.Proofs.YtkfghiofmamdnaaW.PrintMore
attribute [local go_sem] max2_int min2_int max_two min_two max_three min_three max_four min_four
set_option linter.unusedVariables false
set_option linter.unusedSimpArgs false
namespace Ins
def longTo (l : List Int) (ms : List S60) : Nat → Int
  | 0 => 0
  | j + 1 => mx (longTo l ms j) (wrap64 (rd l j - (rd_T60 ms j).f0))
theorem l1Most_tells2 (a b : Int) : spec_l1Most.f a b = some (mx a b) := by
  unfold spec_l1Most.f mx
  by_cases h : a < b
  · rw [if_neg (by omega), if_pos h]
  · rw [if_neg h]
    by_cases h2 : a > b
    · rw [if_pos h2]
    · rw [if_neg h2, show b = a by omega]
end Ins
/-- What LongestInsertWait comes to, on both sides. -/
def longestInsertWaitR (n room : Int) (ow : Bool) (ms : List S60) : Int × Bool :=
  if Ins.okI n room ms = true then (Ins.longTo (Ins.stAt n.toNat room ow ms (Ins.doneN n.toNat room ow ms)).ins ms ms.length, true) else (0, false)
def spec_LongestInsertWait.f (n room : Int) (ow : Bool) (ms : List S60) : Option (Int × Bool) := if ms.length < 4611686018427387904 then some (longestInsertWaitR n room ow ms) else none
set_option maxHeartbeats 2000000 in
set_option maxRecDepth 100000 in
theorem spec_LongestInsertWait.calls (n room : Int) (ow : Bool) (A1 : Option Addr) (c1 : Nat) (ms : List S60) (r1 : Int) (r2 : Bool) (w : World) (hr1 : Kd.C k60 w A1 ms.length ms) (hc1 : ms.length ≤ c1) (h : spec_LongestInsertWait.f n room ow ms = some (r1, r2)) :
    Calls Try.prog 26 #[.agg #[.int .i64 n, .int .i64 room, .bool ow], .slice A1 ms.length c1] w fun e w' => e = .returned (.tuple #[.int .i64 r1, .bool r2]) ∧ Below w.heap.size w w' := by
  have hlen : ms.length < 4611686018427387904 := by
    by_cases hl : ms.length < 4611686018427387904
    · exact hl
    · simp [spec_LongestInsertWait.f, hl] at h
  rw [spec_LongestInsertWait.f, if_pos hlen, longestInsertWaitR] at h
  have h1 := Ins.inAll_tells n room ow ms hlen
  have HC := Aside0.mk hr1
  have Hc := Aside0.mk hc1
  clear hr1 hc1 hlen
  have hok : Ins.okI n room ms = true → 2 ≤ n ∧ n ≤ 12 := fun h => (Ins.okI_facts h).1
  have Hb : Aside0 (Ins.okI n room ms = Ins.okI n room ms) := ⟨rfl⟩
  generalize hbb : Ins.okI n room ms = b1 at h h1 hok
  have HT1 := Aside0.mk h1
  clear h1 Hb
  cases b1 with
  | false =>
    rw [if_neg (by simp)] at h
    simp only [Option.some.injEq, Prod.mk.injEq] at h
    obtain ⟨rfl, rfl⟩ := h
    clear hok hbb
    go_enter Try.func26, Try.ntmps26
    go_wp2_with (first
      | ((with_reducible refine gate_dst (N := 2) rfl ?_); refine box_event ?hg (N := 2) ?hd (cs := #[.int .i64 n, .int .i64 room, .bool ow]) (t := 28) ?hr ?_; (case hd => rfl); (case hg => rfl); (case hr => first | (go_simp; done) | (go_simp; rfl)); intro gb hgb w1 hbox hb; have HB1 := Aside0.mk hb; have x0 : w1.cell? ⟨gb, 0, none⟩ = some (.int .i64 n) := (blk_cell hbox 0).trans rfl; have x1 : w1.cell? ⟨gb, 1, none⟩ = some (.int .i64 room) := (blk_cell hbox 1).trans rfl; have x2 : w1.cell? ⟨gb, 2, none⟩ = some (.bool ow) := (blk_cell hbox 2).trans rfl; have Hbx := Aside0.mk hbox; clear hb hbox hgb)
      | (go_at_call 58; (refine (spec_inAll.calls _ n room ow A1 c1 ms _ w1 (Kd.C_below HC.out HB1.out) Hc.out HT1.out).mono ?_); rintro e w2 ⟨rfl, hb2⟩; have HB2 := Aside0.mk hb2; have x3 := pw_cell_below hb2 x0; have x4 := pw_cell_below hb2 x1; have x5 := pw_cell_below hb2 x2; clear hb2))
    go_ret2
    exact ⟨rfl, (by repeat (first | exact below_then HB1.out HB1.out.size HB2.out | apply pw_below_drewN | apply below_drew))⟩
  | true =>
    have hn := hok rfl
    have Hb := Aside0.mk hbb
    rw [if_pos rfl] at h
    simp only [Option.some.injEq, Prod.mk.injEq] at h
    obtain ⟨rfl, rfl⟩ := h
    clear hok hbb
    obtain ⟨N, rfl⟩ : ∃ N : Nat, n = (N : Int) := ⟨n.toNat, by omega⟩
    simp only [Int.toNat_natCast]
    have hgd := Aside0.mk (Ins.good_of Hb.out)
    clear hn
    have Hl := Aside0.mk (Ins.end_sizes hgd.out ow)
    generalize hst : Ins.stAt N room ow ms (Ins.doneN N room ow ms) = st at *
    have Hst := Aside0.mk hst
    clear hst
    go_enter Try.func26, Try.ntmps26
    go_wp2_with (first
      | ((with_reducible refine gate_dst (N := 2) rfl ?_); refine box_event ?hg (N := 2) ?hd (cs := #[.int .i64 (N : Int), .int .i64 room, .bool ow]) (t := 28) ?hr ?_; (case hd => rfl); (case hg => rfl); (case hr => first | (go_simp; done) | (go_simp; rfl)); intro gb hgb w1 hbox hb; have HB1 := Aside0.mk hb; have x0 : w1.cell? ⟨gb, 0, none⟩ = some (.int .i64 (N : Int)) := (blk_cell hbox 0).trans rfl; have x1 : w1.cell? ⟨gb, 1, none⟩ = some (.int .i64 room) := (blk_cell hbox 1).trans rfl; have x2 : w1.cell? ⟨gb, 2, none⟩ = some (.bool ow) := (blk_cell hbox 2).trans rfl; have Hbx := Aside0.mk hbox; clear hb hbox hgb)
      | (go_at_call 58; (refine (spec_inAll.calls _ (N : Int) room ow A1 c1 ms _ w1 (Kd.C_below HC.out HB1.out) Hc.out HT1.out).mono ?_); rintro e w2 ⟨rfl, hb2⟩; have HB2 := Aside0.mk hb2; have x3 := pw_cell_below hb2 x0; have x4 := pw_cell_below hb2 x1; have x5 := pw_cell_below hb2 x2; clear hb2)
      | (go_at_call 69; (refine (Ins.endS_calls _ N room ow A1 c1 ms hgd.out (Kd.C_below HC.out (by repeat (first | exact below_then HB1.out HB1.out.size HB2.out | apply pw_below_drewN | apply below_drew))) Hc.out).mono ?_); rintro e w3 ⟨w0, hb0, g, gB, cB, vL, vI, vR, vX, rfl, h⟩; rw [Hst.out] at h; have HI := Aside0.mk h; have Hb3 := Aside0.mk (Ins.below_chain3 (show Below w.heap.size w w0 from Ins.below_chain3 (by repeat (first | exact below_then HB1.out HB1.out.size HB2.out | apply pw_below_drewN | apply below_drew)) hb0) h.below); clear h hb0; obtain ⟨Ains, cins, rfl, yins, hLins⟩ := HI.out.ins_row; have Cins := Aside0.mk (Kd.R_reads' hLins).2.2; clear hLins))
    go_loopg [7, 19] (ms.length) (fun kq v7 v19 w' => ∃ j : Nat, v7 = .int .i64 (Ins.longTo st.ins ms j) ∧ v19 = .int .i64 j ∧ Aside0 (j + kq = ms.length) ∧ Aside0 (Below w3.heap.size w3 w'))
    case atStart => exact ⟨0, rfl, rfl, ⟨by omega⟩, ⟨by repeat (first | exact Below.refl _ _ | apply pw_below_drewN | apply below_drew)⟩⟩
    case round =>
      obtain ⟨j, rfl, rfl, HJ, HW⟩ := hrel
      cases gk with
      | zero =>
        have hd : decide (j < ms.length) = false := decide_eq_false (by have := HJ.out; omega)
        have hm : Ins.longTo st.ins ms j = Ins.longTo st.ins ms ms.length := by rw [show j = ms.length by have := HJ.out; omega]
        have Hm := Aside0.mk hm
        clear hm yins
        generalize Ins.longTo st.ins ms j = m at *
        go_wp2
        go_ret2
        exact ⟨by rw [Hm.out]; rfl, by repeat (first | exact Ins.below_chain3 Hb3.out HW.out | apply pw_below_drewN | apply below_drew)⟩
      | succ k1 =>
        have hj : j < ms.length := by have := HJ.out; omega
        have hl20 : ms.length ≤ 20 := by have := Hl.out; omega
        have hli : st.ins.length = ms.length := by have := Hl.out; omega
        have hj2 : j < st.ins.length := by omega
        have hd : decide (j < ms.length) = true := decide_eq_true hj
        obtain ⟨ad, eA, hx⟩ := Kd.at_int Cins.out (j : Int) (by omega) (by omega)
        subst eA
        have hx' : wr.cell? (ad.add j) = some (.int .i64 (rd st.ins j)) := pw_cell_below HW.out hx
        obtain ⟨am, eM, hm0, hm1, hm2⟩ := at_T60 HC.out (j : Int) (by omega) (by omega)
        subst eM
        have hw := Ins.below_chain3 Hb3.out HW.out
        have hm0' := pw_cell_below hw hm0
        have hm1' := pw_cell_below hw hm1
        have hm2' := pw_cell_below hw hm2
        rw [Int.toNat_natCast] at hm0' hm1' hm2'
        have hy := pw_cell_below HW.out yins
        have e1 := Ins.l1Most_tells2 (Ins.longTo st.ins ms j) (wrap64 (rd st.ins j - (rd_T60 ms j).f0))
        have hs : Aside0 (Ins.longTo st.ins ms (j + 1) = mx (Ins.longTo st.ins ms j) (wrap64 (rd st.ins j - (rd_T60 ms j).f0))) := ⟨rfl⟩
        have HT := Aside0.mk e1
        have lg := Aside0.mk (World.block_lt_of_cell? _ _ hy)
        have la := Aside0.mk (show (ad.add j).block < wr.heap.size from World.block_lt_of_cell? _ _ hx')
        have Hw := Aside0.mk hw
        clear hx e1 hm0 hm1 hm2 hw yins
        generalize rd st.ins (j : Int) = x at *
        generalize (rd_T60 ms (j : Int)).f0 = m0 at *
        generalize (rd_T60 ms (j : Int)).f1 = m1 at *
        generalize (rd_T60 ms (j : Int)).f2 = m2 at *
        generalize Ins.longTo st.ins ms j = m at *
        obtain ⟨y, hy64⟩ : ∃ y : Int, wrap64 (x - m0) = y := ⟨_, rfl⟩
        have e2 : IntKind.i64.wrap (x - m0) = y := (IntWalk.i64_left _).trans hy64
        rw [hy64] at HT hs
        clear hy64
        go_wp2
        generalize hW4 : wr.alloc _ = w4
        have hb4 : Below wr.heap.size wr w4 := hW4 ▸ below_alloc (Below.refl _ _) _
        have hbox : w4.heap[wr.heap.size]? = _ := hW4 ▸ blk_new wr _
        have ub := Aside0.mk hb4
        have x0 : w4.cell? ⟨wr.heap.size, 0, none⟩ = some (.int .i64 m0) := (blk_cell hbox 0).trans rfl
        have x1 : w4.cell? ⟨wr.heap.size, 1, none⟩ = some (.int .i64 m1) := (blk_cell hbox 1).trans rfl
        have x2 : w4.cell? ⟨wr.heap.size, 2, none⟩ = some (.int .i64 m2) := (blk_cell hbox 2).trans rfl
        have zy := pw_cell_below hb4 hy
        have zI := pw_cell_below hb4 hx'
        clear hbox hb4 hW4 hy hx' hm0' hm1' hm2'
        repeat (go_quiet ((go_at_call 71; refine Calls.quiet_of (v := .int .i64 (mx m y)) ((spec_l1Most.calls m y _ _ HT.out).mono ?_); rintro e w' ⟨rfl, ⟨nd, rfl⟩⟩; exact ⟨rfl, nd, rfl⟩)); try go_wp2)
        go_roundg k1
        case measure => have := HJ.out; omega
        case rel => exact ⟨j + 1, by rw [hs.out], by go_num, ⟨by have := HJ.out; omega⟩, ⟨by repeat (first | exact below_then HW.out HW.out.size ub.out | apply pw_below_drewN | apply below_drew)⟩⟩
end Go.Proofs.Ytkfghiofmamdnaa.PA
