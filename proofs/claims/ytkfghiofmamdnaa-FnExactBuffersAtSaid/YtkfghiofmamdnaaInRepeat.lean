/- The row of one -1 repeated: what the call comes to, for no more than 20; no other condition but what each theorem names. -/
import Derived.Test.YtkfghiofmamdnaaPA0
import Derived.Test.YtkfghiofmamdnaaPA11
import Derived.Laws.CopyOwn
import Derived.Deep.RegionLaw
namespace Go.Proofs.Ytkfghiofmamdnaa.PA
open Go.RowKit Go.Proofs.YtkfghiofmamdnaaW.PrintWords Go.Proofs.YtkfghiofmamdnaaW.PrintLast Go.Proofs.YtkfghiofmamdnaaW.PrintMore
attribute [local go_sem] max2_int min2_int max_two min_two max_three min_three max_four min_four
set_option linter.unusedVariables false
set_option linter.unusedSimpArgs false
namespace Ins
theorem mul_small : ∀ m : Nat, m < 21 → bits_Mul.f 1 (m : Int) = some (0, (m : Int)) := by decide +kernel
/-- The first p of a row are -1. -/
def Filled (cur : List Value) (p M : Nat) : Prop := cur.length = M ∧ p ≤ M ∧ ∀ j, j < p → cur[j]? = some (.int .i64 (-1))
theorem Filled.splice {cur : List Value} {p M : Nat} (h : Filled cur p M) (m : Nat) (hm : p + m ≤ M) : Filled (splice cur p (List.replicate m (.int .i64 (-1)))) (p + m) M := by
  obtain ⟨h1, h2, h3⟩ := h
  refine ⟨by rw [length_splice _ _ _ (by simp; omega)]; exact h1, hm, fun j hj => ?_⟩
  unfold Go.splice
  by_cases hp : j < p
  · rw [List.getElem?_append_left (by rw [List.length_take]; omega), List.getElem?_take, if_pos hp]
    exact h3 j hp
  · rw [List.getElem?_append_right (by rw [List.length_take]; omega), List.getElem?_append_left (by rw [List.length_take, List.length_replicate]; omega), List.getElem?_replicate, if_pos (by rw [List.length_take]; omega)]
set_option maxHeartbeats 400000 in
set_option maxRecDepth 100000 in
theorem repeat_calls (M gx : Nat) (w : World) (hM : M ≤ 20) (hx : w.cell? ⟨gx, 0, none⟩ = some (.int .i64 (-1))) :
    Calls Try.prog 88 #[.slice (some ⟨gx, 0, none⟩) 1 1, .int .i64 M] w fun e w' => ∃ g, e = .returned (.slice (some ⟨g, 0, none⟩) M M) ∧ Kd.R (Kd.int .i64) 3 w' w.heap.size (fun _ => True) (.slice (some ⟨g, 0, none⟩) M M) (List.replicate M (-1)) ∧ Below w.heap.size w w' := by
  have HM := Aside0.mk (mul_small M (by omega))
  have hmk := print_make (P := Try.prog) 38 3 .i64 8 Try.underlying38 info3 (by omega) M (by omega)
  have hsz : (Try.prog.info? 3).map (·.size) = some 1 := by kernel_rfl
  have hmc : (madeCells #[Value.int .i64 0] M) = (List.replicate M (Value.int .i64 0)).toArray := by
    apply Array.ext
    · simp [size_madeCells]
    · intro i h1 h2
      simp [madeCells, Nat.mod_one]
  have hnew := Aside0.mk (fun nd => (show ((w.drewN nd).alloc (.cells (madeCells #[Value.int .i64 0] M) 3)).heap[w.heap.size]? = some (.cells (List.replicate M (Value.int .i64 0)).toArray 3 (0, 0)) by rw [← hmc]; exact blk_new (w.drewN nd) _))
  have hnb := Aside0.mk (fun nd => (show Below w.heap.size w ((w.drewN nd).alloc (.cells (madeCells #[Value.int .i64 0] M) 3)) from below_alloc (pw_below_drewN (Below.refl _ _) nd) _))
  have hnx := Aside0.mk (fun nd => (show ((w.drewN nd).alloc (.cells (madeCells #[Value.int .i64 0] M) 3)).cell? ⟨gx, 0, none⟩ = some (.int .i64 (-1)) from pw_cell_below (hnb.out nd) hx))
  have hsz' := Aside0.mk hsz
  have hpos := Aside0.mk (show ∀ nd j v, (List.replicate (min 1 M) (Value.int .i64 (-1)))[j]? = some v → ((w.drewN nd).alloc (.cells (madeCells #[Value.int .i64 0] M) 3)).cell? ((⟨gx, 0, none⟩ : Addr).add j) = some v from fun nd j v hj => by
    rw [List.getElem?_replicate] at hj
    split at hj
    · obtain rfl : j = 0 := by omega
      obtain rfl := Option.some.inj hj
      exact hnx.out _
    · cases hj)
  have hone := Aside0.mk (show ∀ v ∈ List.replicate (min 1 M) (Value.int .i64 (-1)), v.oneCell' = true from fun v hv => by rw [List.eq_of_mem_replicate hv]; rfl)
  have hM' := Aside0.mk hM
  have hwr : IntKind.u64.wrap (M : Int) = M := IntWalk.u64_in _ (by omega)
  have hM20 : (M : Int) ≤ 20 := by omega
  clear hx hmc hsz hM
  go_enter Try.func88, Try.ntmps88
  go_wp2_with (first
    | ((go_at_call 102; (with_reducible refine (bits_Mul.calls 1 M _ _ _ HM.out).mono ?_); rintro e w1 ⟨rfl, ⟨nd, rfl⟩⟩))
    | (with_reducible refine wpList_copy_splice (o := ⟨some 33, _, _, _, _, _⟩) rfl (.tmp 31) (.tmp 32) 38 38 rfl 3 Try.underlying38 hsz'.out (some ⟨w.heap.size, 0, none⟩) (some ⟨gx, 0, none⟩) M M 1 1 rfl rfl w.heap.size 0 (List.replicate M (.int .i64 0)) 3 (hnew.out _) (List.replicate (min 1 M) (.int .i64 (-1))) (by simp) (fun _ => ⟨rfl, ⟨gx, 0, none⟩, rfl, hpos.out _⟩) (by simp; omega) hone.out w.heap.size w (hnb.out _) (Nat.le_refl _) ?_; intro w2 hw2 hb2))
  go_loopw [8] (fun v8 wr => ∃ (p : Nat) (cur : List Value), v8 = .int .i64 p ∧ p ≤ M ∧ Aside0 (0 < M → 1 ≤ p) ∧ Aside0 (Filled cur p M) ∧ Aside0 (wr.heap[w.heap.size]? = some (.cells cur.toArray 3 (0, 0))) ∧ Aside0 (Below w.heap.size w wr)) (fun v _ => M - (intOf v).toNat)
  case atStart =>
    have hf : Filled (splice (List.replicate M (Value.int .i64 0)) 0 (List.replicate (min 1 M) (Value.int .i64 (-1)))) (0 + min 1 M) M := Filled.splice ⟨by simp, Nat.zero_le _, fun j hj => by omega⟩ (min 1 M) (by omega)
    rw [Nat.zero_add] at hf
    exact ⟨min 1 M, _, by simp [goInt], by omega, ⟨by omega⟩, ⟨hf⟩, ⟨hw2⟩, ⟨hb2⟩⟩
  case round =>
    clear hw2 hb2 hpos hone hnx hnb hnew hmk
    obtain ⟨p, cur, rfl, hp, hp1, HF, HH, HB⟩ := hrel
    by_cases hlt : p < M
    · obtain ⟨i3, hi3, hz3⟩ := Option.map_eq_some_iff.1 info3
      simp only [Prod.mk.injEq] at hz3
      have hc1 := cut_from (P := Try.prog) 38 3 .i64 Try.underlying38 hi3 1 hz3.2.1 (some ⟨w.heap.size, 0, none⟩) M M (p : Int) (by omega) (by omega)
      have hc2 := cut_to (P := Try.prog) 38 3 .i64 Try.underlying38 hi3 (some ⟨w.heap.size, 0, none⟩) M M (p : Int) (by omega) (by omega) (Nat.le_refl _)
      simp only [Int.toNat_natCast, if_neg (show ¬ M = p by omega), Option.map_some, Nat.mul_one, add_plain] at hc1 hc2
      have hsrc := Aside0.mk (show ∀ j v, (List.replicate (min p (M - p)) (Value.int .i64 (-1)))[j]? = some v → wr.cell? ((⟨w.heap.size, 0, none⟩ : Addr).add j) = some v from fun j v hj => by
        rw [List.getElem?_replicate] at hj
        split at hj
        · obtain rfl := Option.some.inj hj
          rw [add_plain]
          refine (blk_cell HH.out j).trans ?_
          rw [List.getElem?_toArray]
          exact HF.out.2.2 j (by omega)
        · cases hj)
      have hone := Aside0.mk (show ∀ v ∈ List.replicate (min p (M - p)) (Value.int .i64 (-1)), v.oneCell' = true from fun v hv => by rw [List.eq_of_mem_replicate hv]; rfl)
      have hps := Aside0.mk (fun (W : World) => (show 0 < (List.replicate (min p (M - p)) (Value.int .i64 (-1))).length → (some (⟨w.heap.size, p, none⟩ : Addr)) = some ⟨w.heap.size, p, none⟩ ∧ ∃ ad, (some (⟨w.heap.size, 0, none⟩ : Addr)) = some ad ∧ ∀ j v, (List.replicate (min p (M - p)) (Value.int .i64 (-1)))[j]? = some v → wr.drew.cell? (ad.add j) = some v from fun _ => ⟨rfl, ⟨w.heap.size, 0, none⟩, rfl, hsrc.out⟩))
      have hfit := Aside0.mk (show p + (List.replicate (min p (M - p)) (Value.int .i64 (-1))).length ≤ cur.length by rw [HF.out.1]; simp; omega)
      have hsum : IntKind.i64.wrap ((p : Int) + ((min p (M - p) : Nat) : Int)) = ((p + min p (M - p) : Nat) : Int) := (IntWalk.i64_in _ (by omega)).trans (by omega)
      clear hi3 hz3
      go_wp2
      go_region_law (refine step_copy_splice rfl (.tmp 41) (.tmp 44) 38 38 rfl 3 Try.underlying38 hsz'.out (some ⟨w.heap.size, p, none⟩) (some ⟨w.heap.size, 0, none⟩) (M - p) (M - p) p M (by simp [Act.eval, Act.put]; done) (by simp [Act.eval, Act.put]; done) w.heap.size p cur 3 (blk_drew HH.out) (List.replicate (min p (M - p)) (.int .i64 (-1))) (by simp) (fun _ => ⟨rfl, ⟨w.heap.size, 0, none⟩, rfl, hsrc.out⟩) hfit.out hone.out w.heap.size w (below_drew HB.out) (Nat.le_refl _) ?_; intro w2 hw2 hb2)
      all_goals
        go_wp2
        simp only [Act.put, List.getElem!_toArray, List.getElem_toArray, List.getElem!_cons_succ, List.getElem!_cons_zero, List.getElem_cons_succ, List.getElem_cons_zero, List.setIfInBounds_toArray, List.set_cons_succ, List.set_cons_zero]
        go_roundw
        case rel => exact ⟨p + min p (M - p), _, by simp [goInt], by omega, ⟨by have := hp1.out; omega⟩, ⟨HF.out.splice (min p (M - p)) (by omega)⟩, ⟨hw2⟩, ⟨hb2⟩⟩
        case measure => simp [intOf, goInt]; have := hp1.out; omega
    · obtain rfl : p = M := by omega
      have hf := HF.out
      have hcur : cur = List.replicate p (Value.int .i64 (-1)) := by
        apply List.ext_getElem?
        intro j
        rw [List.getElem?_replicate]
        by_cases hj : j < p
        · rw [if_pos hj]
          exact hf.2.2 j hj
        · rw [if_neg hj]
          exact List.getElem?_eq_none (by rw [hf.1]; omega)
      have HR := Aside0.mk (show Kd.R (Kd.int .i64) 3 wr w.heap.size (fun _ => True) (.slice (some ⟨w.heap.size, 0, none⟩) p p) (List.replicate p (-1)) from by
        refine Kd.R_of_own (enc := Value.int .i64) ⟨by simp [encs], .inr ⟨w.heap.size, p, cur.toArray, by simp, Nat.le_refl _, HH.out, by simp, by simp only [maxLen]; omega, by simp [hf.1], ?_⟩⟩ (fun _ _ => trivial)
        simp [hcur, encs])
      clear hf hcur
      go_wp2
      go_ret
      exact ⟨w.heap.size, rfl, HR.out, HB.out⟩
end Ins
end Go.Proofs.Ytkfghiofmamdnaa.PA
