/- The first own cell of a station that waits: what the call comes to; no condition but what each theorem names. -/
import Derived.Test.YtkfghiofmamdnaaInOwn
namespace Go.Proofs.Ytkfghiofmamdnaa.PA
open Go.RowKit Go.Proofs.YtkfghiofmamdnaaW.PrintWords Go.Proofs.YtkfghiofmamdnaaW.PrintLast Go.Proofs.YtkfghiofmamdnaaW.PrintMore
attribute [local go_sem] max2_int min2_int max_two min_two max_three min_three max_four min_four
set_option linter.unusedVariables false
set_option linter.unusedSimpArgs false
namespace Ins
set_option maxHeartbeats 2000000 in
set_option maxRecDepth 100000 in
theorem own_calls (w0 w : World) (g : Nat) (n room : Int) (ow : Bool) (ms : List S60) (t s pk : Int) (A : Option Addr) (c : Nat) (vB vL vI vR vX : Value) (ins : List Int) (ok : Nat → Prop)
    (hG : w.heap[g]? = some (.cells #[.int .i64 n, .int .i64 room, .bool ow, .slice A ms.length c, vB, vL, vI, vR, .int .i64 pk, vX] 66 (0, 0))) (hB0 : Below w0.heap.size w0 w) (hM : Kd.C k60 w0 A ms.length ms) (hc : ms.length ≤ c) (hI : Kd.R (Kd.int .i64) 3 w w0.heap.size ok vI ins) (hl : ins.length = ms.length) (hM1 : ms.length ≤ 20) :
    Calls Try.prog 99 #[.pointer (some ⟨g, 0, none⟩), .int .i64 s, .int .i64 t] w fun e w' => e = .returned (.int .i64 (ownL s t ins ms 0)) ∧ Below w.heap.size w w' := by
  have HG := Aside0.mk hG
  have HM := Aside0.mk hM
  have HI := Aside0.mk hI
  have HB0 := Aside0.mk hB0
  have HE := Aside0.mk (show ownL s t ins (ms.drop 0) 0 = ownL s t ins ms 0 by rw [List.drop_zero])
  have HL := Aside0.mk hl
  generalize ownL s t ins ms 0 = r at HE ⊢
  have c3 : w.cell? ⟨g, 3, none⟩ = some (.slice A ms.length c) := (blk_cell hG 3).trans rfl
  have hc' := Aside0.mk hc
  clear hG hM hI hB0 hl hc
  go_enter Try.func99, Try.ntmps99
  go_wp2
  repeat (go_quiet (fail); try go_wp2)
  go_loopw [14] (fun v14 wr => ∃ i : Nat, v14 = .int .i64 i ∧ i ≤ ms.length ∧ Aside0 (ownL s t ins (ms.drop i) i = r) ∧ Aside0 (Below w.heap.size w wr)) (fun v _ => ms.length - (intOf v).toNat)
  case atStart => exact ⟨0, rfl, Nat.zero_le _, HE, ⟨by repeat (first | exact Below.refl _ _ | apply pw_below_drewN | apply below_drew)⟩⟩
  case round =>
    clear HE c3
    obtain ⟨i, rfl, hi, HE, HB⟩ := hrel
    by_cases hlt : i < ms.length
    · have hG := blk_below HG.out HB.out
      have hI := Kd.R_below HI.out HB.out
      obtain ⟨gI, cI, rfl, _, _⟩ := Kd.R_form hI (by rw [HL.out]; omega)
      have c7 : wr.cell? ⟨g, 6, none⟩ = some (.slice (some ⟨gI, 0, none⟩) ins.length cI) := (blk_cell hG 6).trans rfl
      obtain ⟨cI', _⟩ := Kd.R_celln 0 hI (i : Int) (by omega) (by rw [HL.out]; omega)
      have cI2 : wr.cell? ⟨gI, i, none⟩ = some (.int .i64 (rd ins i)) := cI'
      clear cI'
      obtain ⟨ad, eA, m0, m1, m2⟩ := at_T60 HM.out (i : Int) (by omega) (by omega)
      subst eA
      replace m0 := pw_cell_below HB.out (pw_cell_below HB0.out m0)
      replace m1 := pw_cell_below HB.out (pw_cell_below HB0.out m1)
      replace m2 := pw_cell_below HB.out (pw_cell_below HB0.out m2)
      have hil : i < ins.length := by rw [HL.out]; exact hlt
      have hE := HE.out
      clear HE
      rw [ownL_step s t ins ms i hlt] at hE
      have HB1 := Aside0.mk (HB.out)
      simp only [Int.toNat_natCast] at m0 m1 m2
      generalize rd ins (i : Int) = y at *
      generalize rd_T60 ms (i : Int) = m at *
      obtain ⟨mt, mf, mo⟩ := m
      simp only at m0 m1 m2 hE
      have fI := Aside0.mk hI
      have hG' := Aside0.mk hG
      have hgI := Aside0.mk (show gI < wr.heap.size from Kd.R_lt hI gI rfl)
      clear hG hI
      have hlen := Aside0.mk HL.out
      by_cases k1 : mf = s
      · have b1 : (mf == s) = true := by simpa using k1
        by_cases k2 : mt ≤ t
        · have b2 : decide (mt ≤ t) = true := decide_eq_true k2
          by_cases k3 : y < 0
          · have b3 : decide (y < 0) = true := decide_eq_true k3
            rw [if_pos ⟨k1, k2, k3⟩] at hE
            have HE := Aside0.mk hE
            clear hE k1 k2 k3
            go_wp2_with ((with_reducible refine gate_dst (N := 8) rfl ?_); refine box_event ?hg (N := 8) ?hd (cs := #[.int .i64 0, .int .i64 0, .int .i64 0]) (t := 60) ?hr ?_; (case hd => rfl); (case hg => rfl); (case hr => first | (go_simp; done) | (go_simp; rfl)); intro gb hgb w1 hbox hb; have ub := Aside0.mk hb; have uge := Aside0.mk (show w.heap.size ≤ gb by have := HB.out.size; omega); have xb := Aside0.mk hbox; have n1 : ¬ g = gb := (by have := blk_lt hG'.out; omega); have n2 : ¬ gb = g := (by omega); have n3 : ¬ gI = gb := (by have := hgI.out; omega); have n4 : ¬ gb = gI := (by omega); have z7 : w1.cell? ⟨g, 6, none⟩ = some (.slice (some ⟨gI, 0, none⟩) ins.length cI) := pw_cell_below hb c7; have zI : w1.cell? ⟨gI, i, none⟩ = some (.int .i64 y) := pw_cell_below hb cI2; have x0 : w1.cell? ⟨gb, 0, none⟩ = some (.int .i64 0) := (blk_cell hbox 0).trans rfl; have x1 : w1.cell? ⟨gb, 1, none⟩ = some (.int .i64 0) := (blk_cell hbox 1).trans rfl; have x2 : w1.cell? ⟨gb, 2, none⟩ = some (.int .i64 0) := (blk_cell hbox 2).trans rfl; have f0 : w1.frozen? ⟨gb, 0, none⟩ = false := blk_frozen hbox 0; have f1 : w1.frozen? ⟨gb, 1, none⟩ = false := blk_frozen hbox 1; have f2 : w1.frozen? ⟨gb, 2, none⟩ = false := blk_frozen hbox 2; clear hbox hb hgb)
            repeat (go_quiet (fail); try go_wp2)
            go_ret
            exact ⟨by (try rw [HE.out]); rfl, (by repeat (first | exact below_then HB.out HB.out.size ub.out | apply pw_below_drewN | refine below_set ?_ uge.out | apply below_drew))⟩
          · have b3 : decide (y < 0) = false := decide_eq_false k3
            rw [if_neg (fun h => k3 h.2.2)] at hE
            have HE := Aside0.mk hE
            clear hE k1 k2 k3
            go_wp2_with ((with_reducible refine gate_dst (N := 8) rfl ?_); refine box_event ?hg (N := 8) ?hd (cs := #[.int .i64 0, .int .i64 0, .int .i64 0]) (t := 60) ?hr ?_; (case hd => rfl); (case hg => rfl); (case hr => first | (go_simp; done) | (go_simp; rfl)); intro gb hgb w1 hbox hb; have ub := Aside0.mk hb; have uge := Aside0.mk (show w.heap.size ≤ gb by have := HB.out.size; omega); have xb := Aside0.mk hbox; have n1 : ¬ g = gb := (by have := blk_lt hG'.out; omega); have n2 : ¬ gb = g := (by omega); have n3 : ¬ gI = gb := (by have := hgI.out; omega); have n4 : ¬ gb = gI := (by omega); have z7 : w1.cell? ⟨g, 6, none⟩ = some (.slice (some ⟨gI, 0, none⟩) ins.length cI) := pw_cell_below hb c7; have zI : w1.cell? ⟨gI, i, none⟩ = some (.int .i64 y) := pw_cell_below hb cI2; have x0 : w1.cell? ⟨gb, 0, none⟩ = some (.int .i64 0) := (blk_cell hbox 0).trans rfl; have x1 : w1.cell? ⟨gb, 1, none⟩ = some (.int .i64 0) := (blk_cell hbox 1).trans rfl; have x2 : w1.cell? ⟨gb, 2, none⟩ = some (.int .i64 0) := (blk_cell hbox 2).trans rfl; have f0 : w1.frozen? ⟨gb, 0, none⟩ = false := blk_frozen hbox 0; have f1 : w1.frozen? ⟨gb, 1, none⟩ = false := blk_frozen hbox 1; have f2 : w1.frozen? ⟨gb, 2, none⟩ = false := blk_frozen hbox 2; clear hbox hb hgb)
            repeat (go_quiet (fail); try go_wp2)
            go_roundw
            case rel => exact ⟨i + 1, by go_num, by omega, HE, ⟨(by repeat (first | exact below_then HB.out HB.out.size ub.out | apply pw_below_drewN | refine below_set ?_ uge.out | apply below_drew))⟩⟩
            case measure => simp [intOf]; omega
        · have b2 : decide (mt ≤ t) = false := decide_eq_false k2
          rw [if_neg (fun h => k2 h.2.1)] at hE
          have HE := Aside0.mk hE
          clear hE k1 k2
          go_wp2_with ((with_reducible refine gate_dst (N := 8) rfl ?_); refine box_event ?hg (N := 8) ?hd (cs := #[.int .i64 0, .int .i64 0, .int .i64 0]) (t := 60) ?hr ?_; (case hd => rfl); (case hg => rfl); (case hr => first | (go_simp; done) | (go_simp; rfl)); intro gb hgb w1 hbox hb; have ub := Aside0.mk hb; have uge := Aside0.mk (show w.heap.size ≤ gb by have := HB.out.size; omega); have xb := Aside0.mk hbox; have n1 : ¬ g = gb := (by have := blk_lt hG'.out; omega); have n2 : ¬ gb = g := (by omega); have n3 : ¬ gI = gb := (by have := hgI.out; omega); have n4 : ¬ gb = gI := (by omega); have z7 : w1.cell? ⟨g, 6, none⟩ = some (.slice (some ⟨gI, 0, none⟩) ins.length cI) := pw_cell_below hb c7; have zI : w1.cell? ⟨gI, i, none⟩ = some (.int .i64 y) := pw_cell_below hb cI2; have x0 : w1.cell? ⟨gb, 0, none⟩ = some (.int .i64 0) := (blk_cell hbox 0).trans rfl; have x1 : w1.cell? ⟨gb, 1, none⟩ = some (.int .i64 0) := (blk_cell hbox 1).trans rfl; have x2 : w1.cell? ⟨gb, 2, none⟩ = some (.int .i64 0) := (blk_cell hbox 2).trans rfl; have f0 : w1.frozen? ⟨gb, 0, none⟩ = false := blk_frozen hbox 0; have f1 : w1.frozen? ⟨gb, 1, none⟩ = false := blk_frozen hbox 1; have f2 : w1.frozen? ⟨gb, 2, none⟩ = false := blk_frozen hbox 2; clear hbox hb hgb)
          repeat (go_quiet (fail); try go_wp2)
          go_roundw
          case rel => exact ⟨i + 1, by go_num, by omega, HE, ⟨(by repeat (first | exact below_then HB.out HB.out.size ub.out | apply pw_below_drewN | refine below_set ?_ uge.out | apply below_drew))⟩⟩
          case measure => simp [intOf]; omega
      · have b1 : (mf == s) = false := by simpa using k1
        rw [if_neg (fun h => k1 h.1)] at hE
        have HE := Aside0.mk hE
        clear hE k1
        go_wp2_with ((with_reducible refine gate_dst (N := 8) rfl ?_); refine box_event ?hg (N := 8) ?hd (cs := #[.int .i64 0, .int .i64 0, .int .i64 0]) (t := 60) ?hr ?_; (case hd => rfl); (case hg => rfl); (case hr => first | (go_simp; done) | (go_simp; rfl)); intro gb hgb w1 hbox hb; have ub := Aside0.mk hb; have uge := Aside0.mk (show w.heap.size ≤ gb by have := HB.out.size; omega); have xb := Aside0.mk hbox; have n1 : ¬ g = gb := (by have := blk_lt hG'.out; omega); have n2 : ¬ gb = g := (by omega); have n3 : ¬ gI = gb := (by have := hgI.out; omega); have n4 : ¬ gb = gI := (by omega); have z7 : w1.cell? ⟨g, 6, none⟩ = some (.slice (some ⟨gI, 0, none⟩) ins.length cI) := pw_cell_below hb c7; have zI : w1.cell? ⟨gI, i, none⟩ = some (.int .i64 y) := pw_cell_below hb cI2; have x0 : w1.cell? ⟨gb, 0, none⟩ = some (.int .i64 0) := (blk_cell hbox 0).trans rfl; have x1 : w1.cell? ⟨gb, 1, none⟩ = some (.int .i64 0) := (blk_cell hbox 1).trans rfl; have x2 : w1.cell? ⟨gb, 2, none⟩ = some (.int .i64 0) := (blk_cell hbox 2).trans rfl; have f0 : w1.frozen? ⟨gb, 0, none⟩ = false := blk_frozen hbox 0; have f1 : w1.frozen? ⟨gb, 1, none⟩ = false := blk_frozen hbox 1; have f2 : w1.frozen? ⟨gb, 2, none⟩ = false := blk_frozen hbox 2; clear hbox hb hgb)
        repeat (go_quiet (fail); try go_wp2)
        go_roundw
        case rel => exact ⟨i + 1, by go_num, by omega, HE, ⟨(by repeat (first | exact below_then HB.out HB.out.size ub.out | apply pw_below_drewN | refine below_set ?_ uge.out | apply below_drew))⟩⟩
        case measure => simp [intOf]; omega
    · have hE := HE.out
      clear HE
      rw [ownL_end s t ins ms i (by omega)] at hE
      have HE := Aside0.mk hE
      clear hE
      go_wp2
      go_ret
      exact ⟨by (try rw [HE.out]); rfl, by repeat (first | exact HB.out | apply pw_below_drewN | apply below_drew)⟩
end Ins
end Go.Proofs.Ytkfghiofmamdnaa.PA
