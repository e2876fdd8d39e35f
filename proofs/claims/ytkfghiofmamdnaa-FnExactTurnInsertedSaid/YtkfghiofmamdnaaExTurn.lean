/- The ticks of insertions with other names of stations, on both sides: what the calls come to; no condition but what each theorem names. -/
import Derived.Test.YtkfghiofmamdnaaExDoneB
import Derived.Test.YtkfghiofmamdnaaInPath
import Derived.Test.YtkfghiofmamdnaaPA36
import Derived.Test.YtkfghiofmamdnaaPA35
import Derived.Test.YtkfghiofmamdnaaPA1
namespace Go.Proofs.Ytkfghiofmamdnaa.PA
open Go.RowKit Go.Proofs.YtkfghiofmamdnaaW.PrintWords Go.Proofs.YtkfghiofmamdnaaW.PrintLast Go.Proofs.YtkfghiofmamdnaaW.PrintMore
attribute [local go_sem] max2_int min2_int max_two min_two max_three min_three max_four min_four
set_option linter.unusedVariables false
set_option linter.unusedSimpArgs false
namespace Ins
theorem rot_num {n b : Nat} (n12 : n ≤ 12) (hb : b < n) {x : Int} (hx : 0 ≤ x ∧ x < n) : Int.tmod (wrap64 (x + b)) n = (x + b) % n := by
  rw [w64 (by omega) (by omega), Int.tmod_eq_emod_of_nonneg (by omega)]
theorem turned_l0 {n b : Nat} {room : Int} {ms : List S60} (hg : Good n room ms) (hb : b < n) (d : Nat) : ∀ (k i : Nat) (x : List S60), i ≤ ms.length → ms.length - i = d → d < k → x = rotMs n b (ms.take i) →
    impl_turnedMessages.l0 k n b x ms (ms.length : Int) (i : Int) = some (rotMs n b ms) := by
  have hM := hg.M
  induction d with
  | zero =>
    intro k i x h1 hd hk hx
    obtain ⟨k, rfl⟩ : ∃ m, k = m + 1 := ⟨k - 1, by omega⟩
    simp only [impl_turnedMessages.l0]
    rw [if_neg (by omega), hx, List.take_of_length_le (by omega)]
  | succ d ih =>
    intro k i x h1 hd hk hx
    obtain ⟨k, rfl⟩ : ∃ m, k = m + 1 := ⟨k - 1, by omega⟩
    have hi : i < ms.length := by omega
    have hm := hg.m i hi
    have hn2 := hg.n2
    have hl : x.length = i := by rw [hx]; simp [rotMs]; omega
    simp only [impl_turnedMessages.l0]
    rw [if_pos (by omega), if_pos (by omega), if_pos (by omega), if_neg (show ¬ (n : Int) = 0 by omega), if_pos (by omega), w64 (x := (i : Int) + 1) (by omega) (by omega), rot_num hg.n12 hb hm.2.1, rot_num hg.n12 hb hm.2.2.1]
    refine ih k (i + 1) _ (by omega) (by omega) (by omega) ?_
    rw [hx, List.take_succ_eq_append_getElem hi, rotMs, rotMs, List.map_append]
    congr 1
    simp [rotM, rd_T60, List.getD_eq_getElem?_getD, List.getElem?_eq_getElem hi]
theorem turned_tells {n b : Nat} {room : Int} {ms : List S60} (hg : Good n room ms) (hb : b < n) : impl_turnedMessages.f (ms.length + 1) n ms b = some (rotMs n b ms) := turned_l0 hg hb ms.length _ 0 _ (by omega) (by omega) (by omega) rfl
theorem turn_l0 {n b : Nat} {room : Int} {ms : List S60} (hg : Good n room ms) (hb : b < n) (fr : Bool) (d : Nat) : ∀ (k i : Nat) (x : List S60), i ≤ ms.length → ms.length - i = d → d < k → x = rotMs n b (ms.take i) →
    spec_TurnMessages.l0 k b x ms (ms.length : Int) (i : Int) n fr = some (rotMs n b ms, true) := by
  have hM := hg.M
  induction d with
  | zero =>
    intro k i x h1 hd hk hx
    obtain ⟨k, rfl⟩ : ∃ m, k = m + 1 := ⟨k - 1, by omega⟩
    simp only [spec_TurnMessages.l0]
    rw [if_neg (by omega), hx, List.take_of_length_le (by omega)]
  | succ d ih =>
    intro k i x h1 hd hk hx
    obtain ⟨k, rfl⟩ : ∃ m, k = m + 1 := ⟨k - 1, by omega⟩
    have hi : i < ms.length := by omega
    have hm := hg.m i hi
    have hn2 := hg.n2
    have hl : x.length = i := by rw [hx]; simp [rotMs]; omega
    simp only [spec_TurnMessages.l0]
    rw [if_pos (by omega), if_pos (by omega), if_pos (by omega), if_neg (show ¬ (n : Int) = 0 by omega), if_pos (by omega), w64 (x := (i : Int) + 1) (by omega) (by omega), rot_num hg.n12 hb hm.2.1, rot_num hg.n12 hb hm.2.2.1]
    refine ih k (i + 1) _ (by omega) (by omega) (by omega) ?_
    rw [hx, List.take_succ_eq_append_getElem hi, rotMs, rotMs, List.map_append]
    congr 1
    simp [rotM, rd_T60, List.getD_eq_getElem?_getD, List.getElem?_eq_getElem hi]
theorem turn_tells {n b : Nat} {room : Int} {ms : List S60} (hok : okI n room ms = true) (hb : b < n) (fr : Bool) : spec_TurnMessages.f (ms.length + 3) n fr ms b = some (rotMs n b ms, true) := by
  have hg := good_of hok
  have hM := hg.M
  have h2 := hg.n2
  have h12 := hg.n12
  have hs := slAll_tells n fr ms (by omega)
  have hall : (inB 2 12 n && okMs n ms && decide (ms.length ≤ 20)) = true := by
    simp only [okI, Bool.and_eq_true] at hok ⊢
    exact ⟨⟨hok.1.1.1, hok.1.2⟩, hok.2⟩
  rw [hall] at hs
  simp only [spec_TurnMessages.f, hs, Option.bind_some, if_true, l1In_tells]
  rw [w64 (by omega) (by omega), show inB 0 ((n : Int) - 1) b = true by simp [inB]; omega]
  simp only [spec_TurnMessages.j0, Bool.not_true, Bool.false_eq_true, if_false]
  exact turn_l0 hg hb fr ms.length _ 0 _ (by omega) (by omega) (by omega) rfl
theorem end_rot {n b : Nat} {room : Int} {ms : List S60} (hg : Good n room ms) (hb : b < n) (ow : Bool) : (stAt n room ow (rotMs n b ms) (doneN n room ow (rotMs n b ms))).ins = (stAt n room ow ms (doneN n room ow ms)).ins := by
  rw [rot_done hg hb]
  exact (rot_rows hg hb ow _ (by have := (done_facts hg ow).1; omega)).1
theorem rotMs_len (n b : Nat) (ms : List S60) : (rotMs n b ms).length = ms.length := by simp [rotMs]
end Ins
/-- What TurnInserted comes to, on both sides. -/
def turnInsertedR (n room : Int) (ow : Bool) (ms : List S60) (t : Int) : List Int × Bool :=
  if (Ins.okI n room ms && inB 0 (n - 1) t) = true then ((Ins.stAt n.toNat room ow ms (Ins.doneN n.toNat room ow ms)).ins, true) else ([], false)
def impl_TurnInserted.f (n room : Int) (ow : Bool) (ms : List S60) (t : Int) : Option (List Int × Bool) := if ms.length < 4611686018427387904 then some (turnInsertedR n room ow ms t) else none
def spec_TurnInserted.f (n room : Int) (ow : Bool) (ms : List S60) (t : Int) : Option (List Int × Bool) := if ms.length < 4611686018427387904 then some (turnInsertedR n room ow ms t) else none
set_option maxHeartbeats 2000000 in
set_option maxRecDepth 100000 in
theorem impl_TurnInserted.calls (n room : Int) (ow : Bool) (A1 : Option Addr) (c1 : Nat) (ms : List S60) (t : Int) (r1 : List Int) (r2 : Bool) (w : World) (hr1 : Kd.C k60 w A1 ms.length ms) (hc1 : ms.length ≤ c1) (h : impl_TurnInserted.f n room ow ms t = some (r1, r2)) :
    Calls Try.prog 48 #[.agg #[.int .i64 n, .int .i64 room, .bool ow], .slice A1 ms.length c1, .int .i64 t] w fun e w' => ∃ v0_ : Value, e = .returned (.tuple #[v0_, .bool r2]) ∧ Kd.R (Kd.int .i64) 3 w' w.heap.size (fun _ => True) v0_ r1 ∧ Below w.heap.size w w' := by
  have hlen : ms.length < 4611686018427387904 := by
    by_cases hl : ms.length < 4611686018427387904
    · exact hl
    · simp [impl_TurnInserted.f, hl] at h
  rw [impl_TurnInserted.f, if_pos hlen, turnInsertedR] at h
  have h1 := Ins.isInserted_tells n room ow ms hlen
  have h3 := within_tells t 0 (n - 1)
  have HC := Aside0.mk hr1
  have Hc := Aside0.mk hc1
  clear hr1 hc1 hlen
  have hok : Ins.okI n room ms = true → 2 ≤ n ∧ n ≤ 12 := fun h => (Ins.okI_facts h).1
  have hgood : Ins.okI n room ms = true → Aside0 (Ins.Good n.toNat room ms) := fun h => ⟨Ins.good_of (by have := (Ins.okI_facts h).1; rw [Int.toNat_of_nonneg (by omega)]; exact h)⟩
  have hokk : Ins.okI n room ms = true → Aside0 (Ins.okI n room ms = true) := fun h => ⟨h⟩
  generalize hbb : Ins.okI n room ms = b1 at h h1 hok hgood
  have hit : inB 0 (n - 1) t = true → 0 ≤ t ∧ t ≤ n - 1 := fun h => by simpa [inB] using h
  generalize inB 0 (n - 1) t = b3 at *
  have HT1 := Aside0.mk h1
  have HT3 := Aside0.mk h3
  clear h1 h3
  cases b1 with
  | false =>
    rw [if_neg (by simp)] at h
    simp only [Option.some.injEq, Prod.mk.injEq] at h
    obtain ⟨rfl, rfl⟩ := h
    clear hok hit hgood hokk hbb
    go_enter Try.func48, Try.ntmps48
    go_wp2_with (first
      | ((with_reducible refine gate_dst (N := 3) rfl ?_); refine box_event ?hg (N := 3) ?hd (cs := #[.int .i64 n, .int .i64 room, .bool ow]) (t := 28) ?hr ?_; (case hd => rfl); (case hg => rfl); (case hr => first | (go_simp; done) | (go_simp; rfl)); intro gb hgb w1 hbox hb; have HB1 := Aside0.mk hb; have x0 : w1.cell? ⟨gb, 0, none⟩ = some (.int .i64 n) := (blk_cell hbox 0).trans rfl; have x1 : w1.cell? ⟨gb, 1, none⟩ = some (.int .i64 room) := (blk_cell hbox 1).trans rfl; have x2 : w1.cell? ⟨gb, 2, none⟩ = some (.bool ow) := (blk_cell hbox 2).trans rfl; have Hbx := Aside0.mk hbox; clear hb hbox hgb)
      | (go_at_call 63; (refine (impl_isInserted.calls _ n room ow A1 c1 ms _ w1 (Kd.C_below HC.out HB1.out) Hc.out HT1.out).mono ?_); rintro e w2 ⟨rfl, hb2⟩; have HB2 := Aside0.mk hb2; have x3 := pw_cell_below hb2 x0; have x4 := pw_cell_below hb2 x1; have x5 := pw_cell_below hb2 x2; clear hb2))
    go_ret2
    exact ⟨_, rfl, Kd.R_nil _ _ _ _ _, (by repeat (first | exact below_then HB1.out HB1.out.size HB2.out | apply pw_below_drewN | apply below_drew))⟩
  | true =>
    have hn := hok rfl
    have hgd := hgood rfl
    have hokN := hokk hbb
    have hw1 : IntKind.i64.wrap (n - 1) = n - 1 := IntWalk.i64_in _ (by omega)
    cases b3 with
    | false =>
      rw [if_neg (by simp)] at h
      simp only [Option.some.injEq, Prod.mk.injEq] at h
      obtain ⟨rfl, rfl⟩ := h
      clear hok hit hgood hgd hokN hokk hbb
      have hn1 := hn.1
      have hn2 := hn.2
      clear hn
      go_enter Try.func48, Try.ntmps48
      go_wp2_with (first
        | ((with_reducible refine gate_dst (N := 3) rfl ?_); refine box_event ?hg (N := 3) ?hd (cs := #[.int .i64 n, .int .i64 room, .bool ow]) (t := 28) ?hr ?_; (case hd => rfl); (case hg => rfl); (case hr => first | (go_simp; done) | (go_simp; rfl)); intro gb hgb w1 hbox hb; have HB1 := Aside0.mk hb; have x0 : w1.cell? ⟨gb, 0, none⟩ = some (.int .i64 n) := (blk_cell hbox 0).trans rfl; have x1 : w1.cell? ⟨gb, 1, none⟩ = some (.int .i64 room) := (blk_cell hbox 1).trans rfl; have x2 : w1.cell? ⟨gb, 2, none⟩ = some (.bool ow) := (blk_cell hbox 2).trans rfl; have Hbx := Aside0.mk hbox; clear hb hbox hgb)
        | (go_at_call 63; (refine (impl_isInserted.calls _ n room ow A1 c1 ms _ w1 (Kd.C_below HC.out HB1.out) Hc.out HT1.out).mono ?_); rintro e w2 ⟨rfl, hb2⟩; have HB2 := Aside0.mk hb2; have x3 := pw_cell_below hb2 x0; have x4 := pw_cell_below hb2 x1; have x5 := pw_cell_below hb2 x2; clear hb2)
        | (go_at_call 64; (refine (impl_within.calls t 0 (n - 1) _ _ HT3.out).mono ?_); rintro e w' ⟨rfl, ⟨nd3, rfl⟩⟩))
      go_ret2
      exact ⟨_, rfl, Kd.R_nil _ _ _ _ _, (by repeat (first | exact below_then HB1.out HB1.out.size HB2.out | apply pw_below_drewN | apply below_drew))⟩
    | true =>
      have ht := hit rfl
      rw [if_pos (by simp)] at h
      simp only [Option.some.injEq, Prod.mk.injEq] at h
      obtain ⟨rfl, rfl⟩ := h
      clear hok hit hgood hokk hbb
      obtain ⟨N, rfl⟩ : ∃ N : Nat, n = (N : Int) := ⟨n.toNat, by omega⟩
      obtain ⟨b, rfl⟩ : ∃ b : Nat, t = (b : Int) := ⟨t.toNat, by omega⟩
      simp only [Int.toNat_natCast] at hgd ⊢
      have hbN := Aside0.mk (show b < N by omega)
      have hn1 := hn.1
      have hn2 := hn.2
      clear hn ht
      have HTM := Aside0.mk (Ins.turned_tells hgd.out hbN.out)
      have hgr := Aside0.mk (Ins.rot_good (b := b) hgd.out)
      have HE := Aside0.mk (Ins.end_rot (b := b) hgd.out hbN.out ow)
      have HLN := Aside0.mk (Ins.rotMs_len N b ms)
      clear hw1
      go_enter Try.func48, Try.ntmps48
      go_wp2_with (first
        | ((with_reducible refine gate_dst (N := 3) rfl ?_); refine box_event ?hg (N := 3) ?hd (cs := #[.int .i64 (N : Int), .int .i64 room, .bool ow]) (t := 28) ?hr ?_; (case hd => rfl); (case hg => rfl); (case hr => first | (go_simp; done) | (go_simp; rfl)); intro gb hgb w1 hbox hb; have HB1 := Aside0.mk hb; have x0 : w1.cell? ⟨gb, 0, none⟩ = some (.int .i64 (N : Int)) := (blk_cell hbox 0).trans rfl; have x1 : w1.cell? ⟨gb, 1, none⟩ = some (.int .i64 room) := (blk_cell hbox 1).trans rfl; have x2 : w1.cell? ⟨gb, 2, none⟩ = some (.bool ow) := (blk_cell hbox 2).trans rfl; have Hbx := Aside0.mk hbox; clear hb hbox hgb)
        | (go_at_call 63; (refine (impl_isInserted.calls _ (N : Int) room ow A1 c1 ms _ w1 (Kd.C_below HC.out HB1.out) Hc.out HT1.out).mono ?_); rintro e w2 ⟨rfl, hb2⟩; have HB2 := Aside0.mk hb2; have x3 := pw_cell_below hb2 x0; have x4 := pw_cell_below hb2 x1; have x5 := pw_cell_below hb2 x2; clear hb2)
        | (go_at_call 64; (refine (impl_within.calls (b : Int) 0 ((N : Int) - 1) _ _ HT3.out).mono ?_); rintro e w' ⟨rfl, ⟨nd3, rfl⟩⟩))
      go_region_with
        ((first
          | (go_at_call 77; (refine (impl_turnedMessages.calls _ (N : Int) A1 c1 ms (b : Int) _ _ (Kd.C_below HC.out (by repeat (first | exact below_then HB1.out HB1.out.size HB2.out | apply pw_below_drewN | apply below_drew))) Hc.out HTM.out).mono ?_); rintro e w5 ⟨v5, rfl, hR5, hb5⟩; obtain ⟨A5, c5, rfl⟩ := Kd.R_slice hR5; have hB5 : Below w.heap.size w w5 := Ins.below_chain3 (by repeat (first | exact below_then HB1.out HB1.out.size HB2.out | apply pw_below_drewN | apply below_drew)) hb5; have q0 := pw_cell_below (show Below w2.heap.size w2 w5 from below_then (by repeat (first | exact Below.refl _ _ | apply pw_below_drewN | apply below_drew)) (by simp) hb5) x3; have q1 := pw_cell_below (show Below w2.heap.size w2 w5 from below_then (by repeat (first | exact Below.refl _ _ | apply pw_below_drewN | apply below_drew)) (by simp) hb5) x4; have q2 := pw_cell_below (show Below w2.heap.size w2 w5 from below_then (by repeat (first | exact Below.refl _ _ | apply pw_below_drewN | apply below_drew)) (by simp) hb5) x5; have HB5 := Aside0.mk hB5; have C5 := Aside0.mk (Kd.R_reads' hR5); clear hR5 hb5 hB5)
          | (go_at_call 70; (refine (Ins.endI_calls _ N room ow A5 c5 (Ins.rotMs N b ms) hgr.out (Kd.C_below C5.out.2.2 (by repeat (first | exact Below.refl _ _ | apply pw_below_drewN | apply below_drew))) C5.out.2.1).mono ?_); rintro e w3 ⟨w0, hb0, g, gB, cB, vL, vI, vR, rfl, h, hbl⟩; have HI := Aside0.mk h; have hw3 := Ins.below_chain3 (show Below w5.heap.size w5 w0 from below_then (by repeat (first | exact Below.refl _ _ | apply pw_below_drewN | apply below_drew)) (by simp) hb0) h.below; have s0 := pw_cell_below hw3 q0; have s1 := pw_cell_below hw3 q1; have s2 := pw_cell_below hw3 q2; clear hw3; have Hb0 := Aside0.mk (show Below w.heap.size w w0 from Ins.below_chain3 (by repeat (first | exact HB5.out | apply pw_below_drewN | apply below_drew)) hb0); have Hbl := Aside0.mk h.below; clear h hb0 hbl; obtain ⟨AL, cL, rfl, y6, hLr⟩ := HI.out.ins_row; rw [HE.out] at hLr y6; have HLr := Aside0.mk hLr; clear hLr)))
      all_goals
        go_wp2
        go_ret2
        exact ⟨_, rfl, by repeat (first | exact Kd.R_lower HLr.out Hb0.out.size | apply Kd.R_drewN | apply Kd.R_drew), by repeat (first | exact Ins.below_chain3 Hb0.out Hbl.out | apply pw_below_drewN | apply below_drew)⟩
set_option maxHeartbeats 2000000 in
set_option maxRecDepth 100000 in
theorem spec_TurnInserted.calls (n room : Int) (ow : Bool) (A1 : Option Addr) (c1 : Nat) (ms : List S60) (t : Int) (r1 : List Int) (r2 : Bool) (w : World) (hr1 : Kd.C k60 w A1 ms.length ms) (hc1 : ms.length ≤ c1) (h : spec_TurnInserted.f n room ow ms t = some (r1, r2)) :
    Calls Try.prog 47 #[.agg #[.int .i64 n, .int .i64 room, .bool ow], .slice A1 ms.length c1, .int .i64 t] w fun e w' => ∃ v0_ : Value, e = .returned (.tuple #[v0_, .bool r2]) ∧ Kd.R (Kd.int .i64) 3 w' w.heap.size (fun _ => True) v0_ r1 ∧ Below w.heap.size w w' := by
  have hlen : ms.length < 4611686018427387904 := by
    by_cases hl : ms.length < 4611686018427387904
    · exact hl
    · simp [spec_TurnInserted.f, hl] at h
  rw [spec_TurnInserted.f, if_pos hlen, turnInsertedR] at h
  have h1 := Ins.inAll_tells n room ow ms hlen
  have h3 := Ins.l1In_tells t 0 (n - 1)
  have HC := Aside0.mk hr1
  have Hc := Aside0.mk hc1
  clear hr1 hc1 hlen
  have hok : Ins.okI n room ms = true → 2 ≤ n ∧ n ≤ 12 := fun h => (Ins.okI_facts h).1
  have hgood : Ins.okI n room ms = true → Aside0 (Ins.Good n.toNat room ms) := fun h => ⟨Ins.good_of (by have := (Ins.okI_facts h).1; rw [Int.toNat_of_nonneg (by omega)]; exact h)⟩
  have hokk : Ins.okI n room ms = true → Aside0 (Ins.okI n room ms = true) := fun h => ⟨h⟩
  generalize hbb : Ins.okI n room ms = b1 at h h1 hok hgood
  have hit : inB 0 (n - 1) t = true → 0 ≤ t ∧ t ≤ n - 1 := fun h => by simpa [inB] using h
  generalize inB 0 (n - 1) t = b3 at *
  have HT1 := Aside0.mk h1
  have HT3 := Aside0.mk h3
  clear h1 h3
  cases b1 with
  | false =>
    rw [if_neg (by simp)] at h
    simp only [Option.some.injEq, Prod.mk.injEq] at h
    obtain ⟨rfl, rfl⟩ := h
    clear hok hit hgood hokk hbb
    go_enter Try.func47, Try.ntmps47
    go_wp2_with (first
      | ((with_reducible refine gate_dst (N := 3) rfl ?_); refine box_event ?hg (N := 3) ?hd (cs := #[.int .i64 n, .int .i64 room, .bool ow]) (t := 28) ?hr ?_; (case hd => rfl); (case hg => rfl); (case hr => first | (go_simp; done) | (go_simp; rfl)); intro gb hgb w1 hbox hb; have HB1 := Aside0.mk hb; have x0 : w1.cell? ⟨gb, 0, none⟩ = some (.int .i64 n) := (blk_cell hbox 0).trans rfl; have x1 : w1.cell? ⟨gb, 1, none⟩ = some (.int .i64 room) := (blk_cell hbox 1).trans rfl; have x2 : w1.cell? ⟨gb, 2, none⟩ = some (.bool ow) := (blk_cell hbox 2).trans rfl; have Hbx := Aside0.mk hbox; clear hb hbox hgb)
      | (go_at_call 58; (refine (spec_inAll.calls _ n room ow A1 c1 ms _ w1 (Kd.C_below HC.out HB1.out) Hc.out HT1.out).mono ?_); rintro e w2 ⟨rfl, hb2⟩; have HB2 := Aside0.mk hb2; have x3 := pw_cell_below hb2 x0; have x4 := pw_cell_below hb2 x1; have x5 := pw_cell_below hb2 x2; clear hb2))
    go_ret2
    exact ⟨_, rfl, Kd.R_nil _ _ _ _ _, (by repeat (first | exact below_then HB1.out HB1.out.size HB2.out | apply pw_below_drewN | apply below_drew))⟩
  | true =>
    have hn := hok rfl
    have hgd := hgood rfl
    have hokN := hokk hbb
    have hw1 : IntKind.i64.wrap (n - 1) = n - 1 := IntWalk.i64_in _ (by omega)
    cases b3 with
    | false =>
      rw [if_neg (by simp)] at h
      simp only [Option.some.injEq, Prod.mk.injEq] at h
      obtain ⟨rfl, rfl⟩ := h
      clear hok hit hgood hgd hokN hokk hbb
      have hn1 := hn.1
      have hn2 := hn.2
      clear hn
      go_enter Try.func47, Try.ntmps47
      go_wp2_with (first
        | ((with_reducible refine gate_dst (N := 3) rfl ?_); refine box_event ?hg (N := 3) ?hd (cs := #[.int .i64 n, .int .i64 room, .bool ow]) (t := 28) ?hr ?_; (case hd => rfl); (case hg => rfl); (case hr => first | (go_simp; done) | (go_simp; rfl)); intro gb hgb w1 hbox hb; have HB1 := Aside0.mk hb; have x0 : w1.cell? ⟨gb, 0, none⟩ = some (.int .i64 n) := (blk_cell hbox 0).trans rfl; have x1 : w1.cell? ⟨gb, 1, none⟩ = some (.int .i64 room) := (blk_cell hbox 1).trans rfl; have x2 : w1.cell? ⟨gb, 2, none⟩ = some (.bool ow) := (blk_cell hbox 2).trans rfl; have Hbx := Aside0.mk hbox; clear hb hbox hgb)
        | (go_at_call 58; (refine (spec_inAll.calls _ n room ow A1 c1 ms _ w1 (Kd.C_below HC.out HB1.out) Hc.out HT1.out).mono ?_); rintro e w2 ⟨rfl, hb2⟩; have HB2 := Aside0.mk hb2; have x3 := pw_cell_below hb2 x0; have x4 := pw_cell_below hb2 x1; have x5 := pw_cell_below hb2 x2; clear hb2)
        | (go_at_call 59; (refine (spec_l1In.calls t 0 (n - 1) _ _ HT3.out).mono ?_); rintro e w' ⟨rfl, ⟨nd3, rfl⟩⟩))
      go_ret2
      exact ⟨_, rfl, Kd.R_nil _ _ _ _ _, (by repeat (first | exact below_then HB1.out HB1.out.size HB2.out | apply pw_below_drewN | apply below_drew))⟩
    | true =>
      have ht := hit rfl
      rw [if_pos (by simp)] at h
      simp only [Option.some.injEq, Prod.mk.injEq] at h
      obtain ⟨rfl, rfl⟩ := h
      clear hok hit hgood hokk hbb
      obtain ⟨N, rfl⟩ : ∃ N : Nat, n = (N : Int) := ⟨n.toNat, by omega⟩
      obtain ⟨b, rfl⟩ : ∃ b : Nat, t = (b : Int) := ⟨t.toNat, by omega⟩
      simp only [Int.toNat_natCast] at hgd ⊢
      have hbN := Aside0.mk (show b < N by omega)
      have hn1 := hn.1
      have hn2 := hn.2
      clear hn ht
      have HTM := Aside0.mk (Ins.turn_tells hokN.out hbN.out false)
      have hgr := Aside0.mk (Ins.rot_good (b := b) hgd.out)
      have HE := Aside0.mk (Ins.end_rot (b := b) hgd.out hbN.out ow)
      have HLN := Aside0.mk (Ins.rotMs_len N b ms)
      clear hw1
      go_enter Try.func47, Try.ntmps47
      go_wp2_with (first
        | ((with_reducible refine gate_dst (N := 3) rfl ?_); refine box_event ?hg (N := 3) ?hd (cs := #[.int .i64 (N : Int), .int .i64 room, .bool ow]) (t := 28) ?hr ?_; (case hd => rfl); (case hg => rfl); (case hr => first | (go_simp; done) | (go_simp; rfl)); intro gb hgb w1 hbox hb; have HB1 := Aside0.mk hb; have x0 : w1.cell? ⟨gb, 0, none⟩ = some (.int .i64 (N : Int)) := (blk_cell hbox 0).trans rfl; have x1 : w1.cell? ⟨gb, 1, none⟩ = some (.int .i64 room) := (blk_cell hbox 1).trans rfl; have x2 : w1.cell? ⟨gb, 2, none⟩ = some (.bool ow) := (blk_cell hbox 2).trans rfl; have Hbx := Aside0.mk hbox; clear hb hbox hgb)
        | (go_at_call 58; (refine (spec_inAll.calls _ (N : Int) room ow A1 c1 ms _ w1 (Kd.C_below HC.out HB1.out) Hc.out HT1.out).mono ?_); rintro e w2 ⟨rfl, hb2⟩; have HB2 := Aside0.mk hb2; have x3 := pw_cell_below hb2 x0; have x4 := pw_cell_below hb2 x1; have x5 := pw_cell_below hb2 x2; clear hb2)
        | (go_at_call 59; (refine (spec_l1In.calls (b : Int) 0 ((N : Int) - 1) _ _ HT3.out).mono ?_); rintro e w' ⟨rfl, ⟨nd3, rfl⟩⟩)
        | (go_at_call 76; (refine (spec_TurnMessages.calls _ (N : Int) false A1 c1 ms (b : Int) _ _ _ (Kd.C_below HC.out (by repeat (first | exact below_then HB1.out HB1.out.size HB2.out | apply pw_below_drewN | apply below_drew))) Hc.out HTM.out).mono ?_); rintro e w5 ⟨v5, rfl, hR5, hb5⟩; obtain ⟨A5, c5, rfl⟩ := Kd.R_slice hR5; have hB5 : Below w.heap.size w w5 := Ins.below_chain3 (by repeat (first | exact below_then HB1.out HB1.out.size HB2.out | apply pw_below_drewN | apply below_drew)) hb5; have q0 := pw_cell_below (show Below w2.heap.size w2 w5 from below_then (by repeat (first | exact Below.refl _ _ | apply pw_below_drewN | apply below_drew)) (by simp) hb5) x3; have q1 := pw_cell_below (show Below w2.heap.size w2 w5 from below_then (by repeat (first | exact Below.refl _ _ | apply pw_below_drewN | apply below_drew)) (by simp) hb5) x4; have q2 := pw_cell_below (show Below w2.heap.size w2 w5 from below_then (by repeat (first | exact Below.refl _ _ | apply pw_below_drewN | apply below_drew)) (by simp) hb5) x5; have HB5 := Aside0.mk hB5; have C5 := Aside0.mk (Kd.R_reads' hR5); clear hR5 hb5 hB5)
        | (go_at_call 69; (refine (Ins.endS_calls _ N room ow A5 c5 (Ins.rotMs N b ms) hgr.out (Kd.C_below C5.out.2.2 (by repeat (first | exact Below.refl _ _ | apply pw_below_drewN | apply below_drew))) C5.out.2.1).mono ?_); rintro e w3 ⟨w0, hb0, g, gB, cB, vL, vI, vR, vX, rfl, h⟩; have HI := Aside0.mk h; have Hb0 := Aside0.mk (show Below w.heap.size w w0 from Ins.below_chain3 (by repeat (first | exact HB5.out | apply pw_below_drewN | apply below_drew)) hb0); have Hbl := Aside0.mk h.below; clear h hb0; obtain ⟨AL, cL, rfl, y6, hLr⟩ := HI.out.ins_row; rw [HE.out] at hLr y6; have HLr := Aside0.mk hLr; clear hLr))
      go_ret2
      exact ⟨_, rfl, by repeat (first | exact Kd.R_lower HLr.out Hb0.out.size | apply Kd.R_drewN | apply Kd.R_drew), by repeat (first | exact Ins.below_chain3 Hb0.out Hbl.out | apply pw_below_drewN | apply below_drew)⟩
end Go.Proofs.Ytkfghiofmamdnaa.PA
