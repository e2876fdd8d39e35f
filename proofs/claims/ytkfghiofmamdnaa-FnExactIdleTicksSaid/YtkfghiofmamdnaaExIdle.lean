/- The ticks at which a station is idle, of the program and of the reference: what the calls come to; no condition but what each theorem names. -/
import Derived.Test.YtkfghiofmamdnaaInEnd
import Derived.Test.YtkfghiofmamdnaaInOk
namespace Go.Proofs.Ytkfghiofmamdnaa.PA
open Go.RowKit Go.Proofs.YtkfghiofmamdnaaW.PrintWords Go.Proofs.YtkfghiofmamdnaaW.PrintLast Go.Proofs.YtkfghiofmamdnaaW.PrintMore
attribute [local go_sem] max2_int min2_int max_two min_two max_three min_three max_four min_four
set_option linter.unusedVariables false
set_option linter.unusedSimpArgs false
namespace Ins
theorem rd_set (l : List Int) (i s : Nat) (x : Int) (hi : i < l.length) : rd (l.set i x) (s : Int) = if s = i then x else rd l (s : Int) := by
  simp only [rd, Int.toNat_natCast, List.getD_eq_getElem?_getD, List.getElem?_set]
  by_cases h : s = i
  · rw [if_pos h, h, if_pos rfl, if_pos hi]
    rfl
  · rw [if_neg h, if_neg (fun e => h e.symm)]
theorem rd_rep (N S : Nat) : rd (List.replicate N 0) (S : Int) = 0 := by
  simp only [rd, Int.toNat_natCast, List.getD_eq_getElem?_getD, List.getElem?_replicate]
  split <;> rfl
theorem below_chain {w W w1 : World} (h : Below w.heap.size w W) (k : Below W.heap.size W w1) : Below w.heap.size w w1 := below_then h h.size k
theorem gets_same (n t : Int) (ms : List S60) (st : St) : ∀ j : Nat, (gets n t ms st j).links = st.links ∧ (gets n t ms st j).idle = st.idle
  | 0 => ⟨rfl, rfl⟩
  | j + 1 => by
    have ih := gets_same n t ms st j
    simp only [gets, get1]
    split
    · exact ih
    split <;> exact ih
theorem sends_idle (room : Int) (ow : Bool) (t : Int) (ms : List S60) (st : St) (N s : Nat) (hl : st.links.length = N) (hi : st.idle.length = N) (hs : s < N) : ∀ j : Nat, j ≤ N → (sends room ow t ms st j).links.length = N ∧ (sends room ow t ms st j).idle.length = N ∧
    rd (sends room ow t ms st j).idle s = rd st.idle s + (if s < j ∧ rd (sends room ow t ms st j).links s = 0 then 1 else 0)
  | 0, _ => ⟨hl, hi, by simp [sends]⟩
  | j + 1, hj => by
    obtain ⟨h1, h2, h3⟩ := sends_idle room ow t ms st N s hl hi hs j (by omega)
    generalize hS : sends room ow t ms st j = S at h1 h2 h3
    have e : sends room ow t ms st (j + 1) = send1 room ow t ms S j := by rw [sends, hS]
    rw [e]
    refine ⟨by simp [send1, h1], by simp only [send1]; split <;> simp [h2], ?_⟩
    have hL : (send1 room ow t ms S j).links = S.links.set j (sent room ow t ms S j) := by simp [send1]
    have hI : (send1 room ow t ms S j).idle = if sent room ow t ms S j = 0 then S.idle.set j (rd S.idle j + 1) else S.idle := by simp [send1]
    rw [hL, hI, rd_set _ _ _ _ (by omega)]
    by_cases hsj : s = j
    · subst hsj
      rw [if_pos rfl]
      rw [if_neg (by omega)] at h3
      by_cases hz : sent room ow t ms S s = 0
      · rw [if_pos hz, rd_set _ _ _ _ (by omega), if_pos rfl, if_pos ⟨by omega, hz⟩, h3]
        omega
      · rw [if_neg hz, if_neg (fun h => hz h.2), h3]
    · rw [if_neg hsj]
      have hk : rd (if sent room ow t ms S j = 0 then S.idle.set j (rd S.idle j + 1) else S.idle) (s : Int) = rd S.idle s := by
        split
        · rw [rd_set _ _ _ _ (by omega), if_neg hsj]
        · rfl
      rw [hk, h3]
      congr 1
      by_cases hz : rd S.links (s : Int) = 0
      · by_cases hlt : s < j
        · rw [if_pos ⟨hlt, hz⟩, if_pos ⟨by omega, hz⟩]
        · rw [if_neg (fun h => hlt h.1), if_neg (fun h => by omega)]
      · rw [if_neg (fun h => hz h.2), if_neg (fun h => hz h.2)]
theorem idle_step (n : Nat) (room : Int) (ow : Bool) (ms : List S60) (h2 : 2 ≤ n) (h12 : n ≤ 12) (hM : ms.length ≤ 20) (s j : Nat) (hs : s < n) (hj : j ≤ 9000) :
    rd (stAt n room ow ms (j + 1)).idle s = rd (stAt n room ow ms j).idle s + (if rd (stAt n room ow ms (j + 1)).links s = 0 then 1 else 0) := by
  have hw := stAt_wf room ow h2 h12 hM j (by omega)
  have hl := hw.links
  have hi := hw.idle
  have hg := gets_same (n : Int) (j : Int) ms (stAt n room ow ms j) n
  have h := (sends_idle room ow (j : Int) ms (gets n j ms (stAt n room ow ms j) n) n s (by rw [hg.1]; omega) (by rw [hg.2]; omega) hs n (Nat.le_refl _)).2.2
  rw [hg.2] at h
  have e : stAt n room ow ms (j + 1) = sends room ow (j : Int) ms (gets n j ms (stAt n room ow ms j) n) n := by rw [stAt, tick1, Int.toNat_natCast]
  rw [e, h]
  congr 1
  by_cases hz : rd (sends room ow (j : Int) ms (gets n j ms (stAt n room ow ms j) n) n).links (s : Int) = 0
  · rw [if_pos ⟨hs, hz⟩, if_pos hz]
  · rw [if_neg (fun h => hz h.2), if_neg hz]
end Ins
/-- What IdleTicks comes to, on both sides. -/
def idleTicksR (n room : Int) (ow : Bool) (ms : List S60) (s t : Int) : Int × Bool :=
  if (Ins.okI n room ms && inB 0 (n - 1) s && inB 0 600 t) = true then (rd (Ins.stAt n.toNat room ow ms t.toNat).idle s, true) else (0, false)
def impl_IdleTicks.f (n room : Int) (ow : Bool) (ms : List S60) (s t : Int) : Option (Int × Bool) := if ms.length < 4611686018427387904 then some (idleTicksR n room ow ms s t) else none
def spec_IdleTicks.f (n room : Int) (ow : Bool) (ms : List S60) (s t : Int) : Option (Int × Bool) := if ms.length < 4611686018427387904 then some (idleTicksR n room ow ms s t) else none
set_option maxHeartbeats 2000000 in
set_option maxRecDepth 100000 in
theorem impl_IdleTicks.calls (n room : Int) (ow : Bool) (A1 : Option Addr) (c1 : Nat) (ms : List S60) (s t : Int) (r1 : Int) (r2 : Bool) (w : World) (hr1 : Kd.C k60 w A1 ms.length ms) (hc1 : ms.length ≤ c1) (h : impl_IdleTicks.f n room ow ms s t = some (r1, r2)) :
    Calls Try.prog 20 #[.agg #[.int .i64 n, .int .i64 room, .bool ow], .slice A1 ms.length c1, .int .i64 s, .int .i64 t] w fun e w' => e = .returned (.tuple #[.int .i64 r1, .bool r2]) ∧ Below w.heap.size w w' := by
  have hlen : ms.length < 4611686018427387904 := by
    by_cases hl : ms.length < 4611686018427387904
    · exact hl
    · simp [impl_IdleTicks.f, hl] at h
  rw [impl_IdleTicks.f, if_pos hlen, idleTicksR] at h
  have h1 := Ins.isInserted_tells n room ow ms hlen
  have h2 : impl_within.f s 0 (n - 1) = some (inB 0 (n - 1) s) := within_tells s 0 (n - 1)
  have h3 := (Ins.tick_tells t).1
  have HC := Aside0.mk hr1
  have Hc := Aside0.mk hc1
  clear hr1 hc1 hlen
  have hok : Ins.okI n room ms = true → 2 ≤ n ∧ n ≤ 12 ∧ 1 ≤ room ∧ ms.length ≤ 20 := fun h => by have := Ins.okI_facts h; exact ⟨this.1.1, this.1.2, this.2.1.1, this.2.2.1⟩
  generalize Ins.okI n room ms = b1 at *
  have hin : inB 0 (n - 1) s = true → 0 ≤ s ∧ s ≤ n - 1 := fun h => by simpa [inB] using h
  generalize inB 0 (n - 1) s = b2 at *
  have hit : inB 0 600 t = true → 0 ≤ t ∧ t ≤ 600 := fun h => by simpa [inB] using h
  generalize inB 0 600 t = b3 at *
  have HT1 := Aside0.mk h1
  have HT2 := Aside0.mk h2
  have HT3 := Aside0.mk h3
  clear h1 h2 h3
  cases b1 with
  | false =>
    rw [if_neg (by simp)] at h
    simp only [Option.some.injEq, Prod.mk.injEq] at h
    obtain ⟨rfl, rfl⟩ := h
    clear hok hin hit
    go_enter Try.func20, Try.ntmps20
    go_wp2_with (first
      | ((with_reducible refine gate_dst (N := 4) rfl ?_); refine box_event ?hg (N := 4) ?hd (cs := #[.int .i64 n, .int .i64 room, .bool ow]) (t := 28) ?hr ?_; (case hd => rfl); (case hg => rfl); (case hr => first | (go_simp; done) | (go_simp; rfl)); intro gb hgb w1 hbox hb; have HB1 := Aside0.mk hb; have x0 : w1.cell? ⟨gb, 0, none⟩ = some (.int .i64 n) := (blk_cell hbox 0).trans rfl; have x1 : w1.cell? ⟨gb, 1, none⟩ = some (.int .i64 room) := (blk_cell hbox 1).trans rfl; have x2 : w1.cell? ⟨gb, 2, none⟩ = some (.bool ow) := (blk_cell hbox 2).trans rfl; have Hbx := Aside0.mk hbox; clear hb hbox hgb)
      | (go_at_call 63; (refine (impl_isInserted.calls _ n room ow A1 c1 ms _ w1 (Kd.C_below HC.out HB1.out) Hc.out HT1.out).mono ?_); rintro e w2 ⟨rfl, hb2⟩; have HB2 := Aside0.mk hb2; have x3 := pw_cell_below hb2 x0; have x4 := pw_cell_below hb2 x1; have x5 := pw_cell_below hb2 x2; clear hb2)
      | (go_at_call 64; (refine (impl_within.calls s 0 (n - 1) _ _ HT2.out).mono ?_); rintro e w' ⟨rfl, ⟨nd, rfl⟩⟩)
      | (go_at_call 65; (refine (impl_isInsertTick.calls t _ _ HT3.out).mono ?_); rintro e w' ⟨rfl, ⟨nd3, rfl⟩⟩))
    go_ret2
    exact ⟨rfl, (by repeat (first | exact below_then HB1.out HB1.out.size HB2.out | apply pw_below_drewN | apply below_drew))⟩
  | true =>
    obtain ⟨hn0, hn1, hr, hM⟩ := hok rfl
    have hn : 2 ≤ n ∧ n ≤ 12 := ⟨hn0, hn1⟩
    have e1 : IntKind.i64.wrap (n - 1) = n - 1 := IntWalk.i64_in _ (by omega)
    cases b2 with
    | false =>
      rw [if_neg (by simp)] at h
      simp only [Option.some.injEq, Prod.mk.injEq] at h
      obtain ⟨rfl, rfl⟩ := h
      clear hok hin hit hn
      go_enter Try.func20, Try.ntmps20
      go_wp2_with (first
        | ((with_reducible refine gate_dst (N := 4) rfl ?_); refine box_event ?hg (N := 4) ?hd (cs := #[.int .i64 n, .int .i64 room, .bool ow]) (t := 28) ?hr ?_; (case hd => rfl); (case hg => rfl); (case hr => first | (go_simp; done) | (go_simp; rfl)); intro gb hgb w1 hbox hb; have HB1 := Aside0.mk hb; have x0 : w1.cell? ⟨gb, 0, none⟩ = some (.int .i64 n) := (blk_cell hbox 0).trans rfl; have x1 : w1.cell? ⟨gb, 1, none⟩ = some (.int .i64 room) := (blk_cell hbox 1).trans rfl; have x2 : w1.cell? ⟨gb, 2, none⟩ = some (.bool ow) := (blk_cell hbox 2).trans rfl; have Hbx := Aside0.mk hbox; clear hb hbox hgb)
        | (go_at_call 63; (refine (impl_isInserted.calls _ n room ow A1 c1 ms _ w1 (Kd.C_below HC.out HB1.out) Hc.out HT1.out).mono ?_); rintro e w2 ⟨rfl, hb2⟩; have HB2 := Aside0.mk hb2; have x3 := pw_cell_below hb2 x0; have x4 := pw_cell_below hb2 x1; have x5 := pw_cell_below hb2 x2; clear hb2)
        | (go_at_call 64; (refine (impl_within.calls s 0 (n - 1) _ _ HT2.out).mono ?_); rintro e w' ⟨rfl, ⟨nd, rfl⟩⟩)
        | (go_at_call 65; (refine (impl_isInsertTick.calls t _ _ HT3.out).mono ?_); rintro e w' ⟨rfl, ⟨nd3, rfl⟩⟩))
      go_ret2
      exact ⟨rfl, (by repeat (first | exact below_then HB1.out HB1.out.size HB2.out | apply pw_below_drewN | apply below_drew))⟩
    | true =>
      have hs := hin rfl
      cases b3 with
      | false =>
        rw [if_neg (by simp)] at h
        simp only [Option.some.injEq, Prod.mk.injEq] at h
        obtain ⟨rfl, rfl⟩ := h
        clear hok hin hit hn hs
        go_enter Try.func20, Try.ntmps20
        go_wp2_with (first
          | ((with_reducible refine gate_dst (N := 4) rfl ?_); refine box_event ?hg (N := 4) ?hd (cs := #[.int .i64 n, .int .i64 room, .bool ow]) (t := 28) ?hr ?_; (case hd => rfl); (case hg => rfl); (case hr => first | (go_simp; done) | (go_simp; rfl)); intro gb hgb w1 hbox hb; have HB1 := Aside0.mk hb; have x0 : w1.cell? ⟨gb, 0, none⟩ = some (.int .i64 n) := (blk_cell hbox 0).trans rfl; have x1 : w1.cell? ⟨gb, 1, none⟩ = some (.int .i64 room) := (blk_cell hbox 1).trans rfl; have x2 : w1.cell? ⟨gb, 2, none⟩ = some (.bool ow) := (blk_cell hbox 2).trans rfl; have Hbx := Aside0.mk hbox; clear hb hbox hgb)
          | (go_at_call 63; (refine (impl_isInserted.calls _ n room ow A1 c1 ms _ w1 (Kd.C_below HC.out HB1.out) Hc.out HT1.out).mono ?_); rintro e w2 ⟨rfl, hb2⟩; have HB2 := Aside0.mk hb2; have x3 := pw_cell_below hb2 x0; have x4 := pw_cell_below hb2 x1; have x5 := pw_cell_below hb2 x2; clear hb2)
          | (go_at_call 64; (refine (impl_within.calls s 0 (n - 1) _ _ HT2.out).mono ?_); rintro e w' ⟨rfl, ⟨nd, rfl⟩⟩)
          | (go_at_call 65; (refine (impl_isInsertTick.calls t _ _ HT3.out).mono ?_); rintro e w' ⟨rfl, ⟨nd3, rfl⟩⟩))
        go_ret2
        exact ⟨rfl, (by repeat (first | exact below_then HB1.out HB1.out.size HB2.out | apply pw_below_drewN | apply below_drew))⟩
      | true =>
        have ht := hit rfl
        rw [if_pos (by simp)] at h
        simp only [Option.some.injEq, Prod.mk.injEq] at h
        obtain ⟨rfl, rfl⟩ := h
        clear hok hin hit hn0 hn1 e1
        obtain ⟨N, rfl⟩ : ∃ N : Nat, n = (N : Int) := ⟨n.toNat, by omega⟩
        obtain ⟨S, rfl⟩ : ∃ S : Nat, s = (S : Int) := ⟨s.toNat, by omega⟩
        obtain ⟨T, rfl⟩ : ∃ T : Nat, t = (T : Int) := ⟨t.toNat, by omega⟩
        simp only [Int.toNat_natCast]
        have HF := Aside0.mk (And.intro hn (And.intro hs ht))
        have HM := Aside0.mk hM
        have hN2 := Aside0.mk (show 2 ≤ N ∧ N ≤ 12 by omega)
        have e1 : IntKind.i64.wrap ((N : Int) - 1) = N - 1 := IntWalk.i64_in _ (by omega)
        have hT600 : (T : Int) ≤ 600 := by omega
        clear hn hs ht hM hr
        go_enter Try.func20, Try.ntmps20
        go_wp2_with (first
          | ((with_reducible refine gate_dst (N := 4) rfl ?_); refine box_event ?hg (N := 4) ?hd (cs := #[.int .i64 (N : Int), .int .i64 room, .bool ow]) (t := 28) ?hr ?_; (case hd => rfl); (case hg => rfl); (case hr => first | (go_simp; done) | (go_simp; rfl)); intro gb hgb w1 hbox hb; have HB1 := Aside0.mk hb; have x0 : w1.cell? ⟨gb, 0, none⟩ = some (.int .i64 (N : Int)) := (blk_cell hbox 0).trans rfl; have x1 : w1.cell? ⟨gb, 1, none⟩ = some (.int .i64 room) := (blk_cell hbox 1).trans rfl; have x2 : w1.cell? ⟨gb, 2, none⟩ = some (.bool ow) := (blk_cell hbox 2).trans rfl; have Hbx := Aside0.mk hbox; clear hb hbox hgb)
          | (go_at_call 63; (refine (impl_isInserted.calls _ (N : Int) room ow A1 c1 ms _ w1 (Kd.C_below HC.out HB1.out) Hc.out HT1.out).mono ?_); rintro e w2 ⟨rfl, hb2⟩; have HB2 := Aside0.mk hb2; have x3 := pw_cell_below hb2 x0; have x4 := pw_cell_below hb2 x1; have x5 := pw_cell_below hb2 x2; clear hb2)
          | (go_at_call 64; (refine (impl_within.calls (S : Int) 0 ((N : Int) - 1) _ _ HT2.out).mono ?_); rintro e w' ⟨rfl, ⟨nd, rfl⟩⟩)
          | (go_at_call 65; (refine (impl_isInsertTick.calls (T : Int) _ _ HT3.out).mono ?_); rintro e w' ⟨rfl, ⟨nd3, rfl⟩⟩)
          | (go_at_call 66; (refine (Ins.new_calls _ N room ow A1 c1 ms hN2.out.1 hN2.out.2 HM.out (Kd.C_below HC.out (by repeat (first | exact below_then HB1.out HB1.out.size HB2.out | apply pw_below_drewN | apply below_drew))) Hc.out).mono ?_); rintro e w3 ⟨g, gB, cB, vL, vI, vR, rfl, h⟩; have HI := Aside0.mk h; clear h))
        have HBW := Aside0.mk (show Below w.heap.size w w2 from below_then HB1.out HB1.out.size HB2.out)
        go_loopw [11, 33] (fun v11 v33 wr => ∃ j : Nat, v33 = .int .i64 j ∧ v11 = .int .i64 (rd (Ins.stAt N room ow ms j).idle S) ∧ j ≤ T ∧ Aside0 (∃ w0, Below w.heap.size w w0 ∧ Ins.Is74 w0 wr g gB cB vL vI vR A1 c1 N room ow ms j (Ins.stAt N room ow ms j))) (fun _ v _ => T - (intOf v).toNat)
        case atStart => exact ⟨0, rfl, by rw [show rd (Ins.stAt N room ow ms 0).idle (S : Int) = 0 from Ins.rd_rep N S], Nat.zero_le _, ⟨_, by repeat (first | exact HBW.out | apply pw_below_drewN | apply below_drew), HI.out⟩⟩
        case round =>
          clear HI x0 x1 x2 x3 x4 x5
          obtain ⟨j, rfl, rfl, hj, ⟨w0, hb0, HI⟩⟩ := hrel
          have hwf := Aside0.mk (Ins.stAt_wf room ow hN2.out.1 hN2.out.2 HM.out j (by omega))
          have Hb0 := Aside0.mk hb0
          have HI' := Aside0.mk HI
          clear hb0 HI
          by_cases hlt : j < T
          · have hwf1 := Aside0.mk (Ins.stAt_wf room ow hN2.out.1 hN2.out.2 HM.out (j + 1) (by omega))
            obtain ⟨gL, cL, rfl⟩ := HI'.out.lform (by have := hwf.out.links; have := hN2.out.1; omega)
            have hstp := Aside0.mk (Ins.step_calls w0 wr g gB cB _ vI vR A1 c1 N room ow ms j _ _ HI'.out hwf.out (by omega) (by omega))
            have hid := Aside0.mk (Ins.idle_step N room ow ms hN2.out.1 hN2.out.2 HM.out S j (by have := HF.out; omega) (by omega))
            have hbd : 0 ≤ rd (Ins.stAt N room ow ms j).idle S ∧ rd (Ins.stAt N room ow ms j).idle S ≤ 1000000 := by
              have hlt2 : S < (Ins.stAt N room ow ms j).idle.length := by have := hwf.out.idle; have := HF.out; omega
              have h1 := hwf.out.ik (rd (Ins.stAt N room ow ms j).idle S) (by simp only [rd, Int.toNat_natCast, List.getD_eq_getElem?_getD, List.getElem?_eq_getElem hlt2, Option.getD_some]; exact List.getElem_mem hlt2)
              have := hwf.out.K1
              omega
            have hlen1 : (Ins.stAt N room ow ms j).links.length = N := by have := hwf.out.links; omega
            have hSN : S < N := by have := HF.out; omega
            have he := Aside0.mk (show Ins.tick1 N room ow j ms (Ins.stAt N room ow ms j) = Ins.stAt N room ow ms (j + 1) from rfl)
            rw [he.out] at hstp
            have hl1 := Aside0.mk (show S < (Ins.stAt N room ow ms (j + 1)).links.length by have := hwf1.out.links; omega)
            have hSL : S < (Ins.stAt N room ow ms j).links.length := by rw [hlen1]; exact hSN
            clear hlen1
            generalize hv : rd (Ins.stAt N room ow ms j).idle S = v at hid hbd ⊢
            generalize hS1 : Ins.stAt N room ow ms (j + 1) = S1 at hstp hid hl1
            have hret : IntKind.i64.wrap (v + 1) = v + 1 := IntWalk.i64_in _ (by omega)
            have HS1 := Aside0.mk hS1
            clear hv hS1
            by_cases hz : rd S1.links (S : Int) = 0
            · have hz0 : (rd S1.links (S : Int) == 0) = true := by simp [hz]
              have hid2 := Aside0.mk (show rd S1.idle (S : Int) = v + 1 by rw [hid.out, if_pos hz])
              clear hz
              go_wp2_with ((go_at_call 67; (refine hstp.out.mono ?_); rintro e w4 ⟨rfl, h4⟩; have HI4 := Aside0.mk h4; have y6 := h4.c6; obtain ⟨yL, _, en_, _⟩ := h4.linkcell S hl1.out; clear h4 en_))
              go_roundw
              case rel => exact ⟨j + 1, by go_num, by rw [HS1.out, hid2.out], by omega, ⟨w0, Hb0.out, by rw [HS1.out]; repeat (first | exact HI4.out | apply Ins.Is74.drewN)⟩⟩
              case measure => simp [intOf]; omega
            · have hz0 : (rd S1.links (S : Int) == 0) = false := by simp [hz]
              have hid2 := Aside0.mk (show rd S1.idle (S : Int) = v by rw [hid.out, if_neg hz]; omega)
              clear hz
              go_wp2_with ((go_at_call 67; (refine hstp.out.mono ?_); rintro e w4 ⟨rfl, h4⟩; have HI4 := Aside0.mk h4; have y6 := h4.c6; obtain ⟨yL, _, en_, _⟩ := h4.linkcell S hl1.out; clear h4 en_))
              go_roundw
              case rel => exact ⟨j + 1, by go_num, by rw [HS1.out, hid2.out], by omega, ⟨w0, Hb0.out, by rw [HS1.out]; repeat (first | exact HI4.out | apply Ins.Is74.drewN)⟩⟩
              case measure => simp [intOf]; omega
          · obtain rfl : j = T := by omega
            have hbl := Aside0.mk (show Below w.heap.size w wr from below_then Hb0.out Hb0.out.size HI'.out.below)
            go_wp2
            go_ret2
            exact ⟨rfl, by repeat (first | exact hbl.out | apply pw_below_drewN | apply below_drew)⟩
set_option maxHeartbeats 2000000 in
set_option maxRecDepth 100000 in
theorem spec_IdleTicks.calls (n room : Int) (ow : Bool) (A1 : Option Addr) (c1 : Nat) (ms : List S60) (s t : Int) (r1 : Int) (r2 : Bool) (w : World) (hr1 : Kd.C k60 w A1 ms.length ms) (hc1 : ms.length ≤ c1) (h : spec_IdleTicks.f n room ow ms s t = some (r1, r2)) :
    Calls Try.prog 17 #[.agg #[.int .i64 n, .int .i64 room, .bool ow], .slice A1 ms.length c1, .int .i64 s, .int .i64 t] w fun e w' => e = .returned (.tuple #[.int .i64 r1, .bool r2]) ∧ Below w.heap.size w w' := by
  have hlen : ms.length < 4611686018427387904 := by
    by_cases hl : ms.length < 4611686018427387904
    · exact hl
    · simp [spec_IdleTicks.f, hl] at h
  rw [spec_IdleTicks.f, if_pos hlen, idleTicksR] at h
  have h1 := Ins.inAll_tells n room ow ms hlen
  have h2 : spec_l1In.f s 0 (n - 1) = some (inB 0 (n - 1) s) := Ins.l1In_tells s 0 (n - 1)
  have h3 := (Ins.tick_tells t).2
  have HC := Aside0.mk hr1
  have Hc := Aside0.mk hc1
  clear hr1 hc1 hlen
  have hok : Ins.okI n room ms = true → 2 ≤ n ∧ n ≤ 12 ∧ 1 ≤ room ∧ ms.length ≤ 20 := fun h => by have := Ins.okI_facts h; exact ⟨this.1.1, this.1.2, this.2.1.1, this.2.2.1⟩
  generalize Ins.okI n room ms = b1 at *
  have hin : inB 0 (n - 1) s = true → 0 ≤ s ∧ s ≤ n - 1 := fun h => by simpa [inB] using h
  generalize inB 0 (n - 1) s = b2 at *
  have hit : inB 0 600 t = true → 0 ≤ t ∧ t ≤ 600 := fun h => by simpa [inB] using h
  generalize inB 0 600 t = b3 at *
  have HT1 := Aside0.mk h1
  have HT2 := Aside0.mk h2
  have HT3 := Aside0.mk h3
  clear h1 h2 h3
  cases b1 with
  | false =>
    rw [if_neg (by simp)] at h
    simp only [Option.some.injEq, Prod.mk.injEq] at h
    obtain ⟨rfl, rfl⟩ := h
    clear hok hin hit
    go_enter Try.func17, Try.ntmps17
    go_wp2_with (first
      | ((with_reducible refine gate_dst (N := 4) rfl ?_); refine box_event ?hg (N := 4) ?hd (cs := #[.int .i64 n, .int .i64 room, .bool ow]) (t := 28) ?hr ?_; (case hd => rfl); (case hg => rfl); (case hr => first | (go_simp; done) | (go_simp; rfl)); intro gb hgb w1 hbox hb; have HB1 := Aside0.mk hb; have x0 : w1.cell? ⟨gb, 0, none⟩ = some (.int .i64 n) := (blk_cell hbox 0).trans rfl; have x1 : w1.cell? ⟨gb, 1, none⟩ = some (.int .i64 room) := (blk_cell hbox 1).trans rfl; have x2 : w1.cell? ⟨gb, 2, none⟩ = some (.bool ow) := (blk_cell hbox 2).trans rfl; have Hbx := Aside0.mk hbox; clear hb hbox hgb)
      | (go_at_call 58; (refine (spec_inAll.calls _ n room ow A1 c1 ms _ w1 (Kd.C_below HC.out HB1.out) Hc.out HT1.out).mono ?_); rintro e w2 ⟨rfl, hb2⟩; have HB2 := Aside0.mk hb2; have x3 := pw_cell_below hb2 x0; have x4 := pw_cell_below hb2 x1; have x5 := pw_cell_below hb2 x2; clear hb2)
      | (go_at_call 59; (refine (spec_l1In.calls s 0 (n - 1) _ _ HT2.out).mono ?_); rintro e w' ⟨rfl, ⟨nd, rfl⟩⟩)
      | (go_at_call 60; (refine (spec_inTick.calls t _ _ HT3.out).mono ?_); rintro e w' ⟨rfl, ⟨nd3, rfl⟩⟩))
    go_ret2
    exact ⟨rfl, (by repeat (first | exact below_then HB1.out HB1.out.size HB2.out | apply pw_below_drewN | apply below_drew))⟩
  | true =>
    obtain ⟨hn0, hn1, hr, hM⟩ := hok rfl
    have hn : 2 ≤ n ∧ n ≤ 12 := ⟨hn0, hn1⟩
    have e1 : IntKind.i64.wrap (n - 1) = n - 1 := IntWalk.i64_in _ (by omega)
    cases b2 with
    | false =>
      rw [if_neg (by simp)] at h
      simp only [Option.some.injEq, Prod.mk.injEq] at h
      obtain ⟨rfl, rfl⟩ := h
      clear hok hin hit hn
      go_enter Try.func17, Try.ntmps17
      go_wp2_with (first
        | ((with_reducible refine gate_dst (N := 4) rfl ?_); refine box_event ?hg (N := 4) ?hd (cs := #[.int .i64 n, .int .i64 room, .bool ow]) (t := 28) ?hr ?_; (case hd => rfl); (case hg => rfl); (case hr => first | (go_simp; done) | (go_simp; rfl)); intro gb hgb w1 hbox hb; have HB1 := Aside0.mk hb; have x0 : w1.cell? ⟨gb, 0, none⟩ = some (.int .i64 n) := (blk_cell hbox 0).trans rfl; have x1 : w1.cell? ⟨gb, 1, none⟩ = some (.int .i64 room) := (blk_cell hbox 1).trans rfl; have x2 : w1.cell? ⟨gb, 2, none⟩ = some (.bool ow) := (blk_cell hbox 2).trans rfl; have Hbx := Aside0.mk hbox; clear hb hbox hgb)
        | (go_at_call 58; (refine (spec_inAll.calls _ n room ow A1 c1 ms _ w1 (Kd.C_below HC.out HB1.out) Hc.out HT1.out).mono ?_); rintro e w2 ⟨rfl, hb2⟩; have HB2 := Aside0.mk hb2; have x3 := pw_cell_below hb2 x0; have x4 := pw_cell_below hb2 x1; have x5 := pw_cell_below hb2 x2; clear hb2)
        | (go_at_call 59; (refine (spec_l1In.calls s 0 (n - 1) _ _ HT2.out).mono ?_); rintro e w' ⟨rfl, ⟨nd, rfl⟩⟩)
        | (go_at_call 60; (refine (spec_inTick.calls t _ _ HT3.out).mono ?_); rintro e w' ⟨rfl, ⟨nd3, rfl⟩⟩))
      go_ret2
      exact ⟨rfl, (by repeat (first | exact below_then HB1.out HB1.out.size HB2.out | apply pw_below_drewN | apply below_drew))⟩
    | true =>
      have hs := hin rfl
      cases b3 with
      | false =>
        rw [if_neg (by simp)] at h
        simp only [Option.some.injEq, Prod.mk.injEq] at h
        obtain ⟨rfl, rfl⟩ := h
        clear hok hin hit hn hs
        go_enter Try.func17, Try.ntmps17
        go_wp2_with (first
          | ((with_reducible refine gate_dst (N := 4) rfl ?_); refine box_event ?hg (N := 4) ?hd (cs := #[.int .i64 n, .int .i64 room, .bool ow]) (t := 28) ?hr ?_; (case hd => rfl); (case hg => rfl); (case hr => first | (go_simp; done) | (go_simp; rfl)); intro gb hgb w1 hbox hb; have HB1 := Aside0.mk hb; have x0 : w1.cell? ⟨gb, 0, none⟩ = some (.int .i64 n) := (blk_cell hbox 0).trans rfl; have x1 : w1.cell? ⟨gb, 1, none⟩ = some (.int .i64 room) := (blk_cell hbox 1).trans rfl; have x2 : w1.cell? ⟨gb, 2, none⟩ = some (.bool ow) := (blk_cell hbox 2).trans rfl; have Hbx := Aside0.mk hbox; clear hb hbox hgb)
          | (go_at_call 58; (refine (spec_inAll.calls _ n room ow A1 c1 ms _ w1 (Kd.C_below HC.out HB1.out) Hc.out HT1.out).mono ?_); rintro e w2 ⟨rfl, hb2⟩; have HB2 := Aside0.mk hb2; have x3 := pw_cell_below hb2 x0; have x4 := pw_cell_below hb2 x1; have x5 := pw_cell_below hb2 x2; clear hb2)
          | (go_at_call 59; (refine (spec_l1In.calls s 0 (n - 1) _ _ HT2.out).mono ?_); rintro e w' ⟨rfl, ⟨nd, rfl⟩⟩)
          | (go_at_call 60; (refine (spec_inTick.calls t _ _ HT3.out).mono ?_); rintro e w' ⟨rfl, ⟨nd3, rfl⟩⟩))
        go_ret2
        exact ⟨rfl, (by repeat (first | exact below_then HB1.out HB1.out.size HB2.out | apply pw_below_drewN | apply below_drew))⟩
      | true =>
        have ht := hit rfl
        rw [if_pos (by simp)] at h
        simp only [Option.some.injEq, Prod.mk.injEq] at h
        obtain ⟨rfl, rfl⟩ := h
        clear hok hin hit hn0 hn1 e1
        obtain ⟨N, rfl⟩ : ∃ N : Nat, n = (N : Int) := ⟨n.toNat, by omega⟩
        obtain ⟨S, rfl⟩ : ∃ S : Nat, s = (S : Int) := ⟨s.toNat, by omega⟩
        obtain ⟨T, rfl⟩ : ∃ T : Nat, t = (T : Int) := ⟨t.toNat, by omega⟩
        simp only [Int.toNat_natCast]
        have HF := Aside0.mk (And.intro hn (And.intro hs ht))
        have HM := Aside0.mk hM
        have HR := Aside0.mk hr
        have hN2 := Aside0.mk (show 2 ≤ N ∧ N ≤ 12 by omega)
        have e1 : IntKind.i64.wrap ((N : Int) - 1) = N - 1 := IntWalk.i64_in _ (by omega)
        have hT600 : (T : Int) ≤ 600 := by omega
        have hTn : T ≤ 9000 := by omega
        have hwf := Aside0.mk (Ins.stAt_wf room ow hN2.out.1 hN2.out.2 HM.out T (by omega))
        have hSN := Aside0.mk (show S < (Ins.stAt N room ow ms T).idle.length by have := hwf.out.idle; omega)
        have hTn' := Aside0.mk hTn
        clear hn hs ht hM hr hTn
        generalize hst : Ins.stAt N room ow ms T = st at hwf hSN ⊢
        have Hst := Aside0.mk hst
        clear hst
        have hSl : S < st.idle.length := hSN.out
        go_enter Try.func17, Try.ntmps17
        go_wp2_with (first
          | ((with_reducible refine gate_dst (N := 4) rfl ?_); refine box_event ?hg (N := 4) ?hd (cs := #[.int .i64 (N : Int), .int .i64 room, .bool ow]) (t := 28) ?hr ?_; (case hd => rfl); (case hg => rfl); (case hr => first | (go_simp; done) | (go_simp; rfl)); intro gb hgb w1 hbox hb; have HB1 := Aside0.mk hb; have x0 : w1.cell? ⟨gb, 0, none⟩ = some (.int .i64 (N : Int)) := (blk_cell hbox 0).trans rfl; have x1 : w1.cell? ⟨gb, 1, none⟩ = some (.int .i64 room) := (blk_cell hbox 1).trans rfl; have x2 : w1.cell? ⟨gb, 2, none⟩ = some (.bool ow) := (blk_cell hbox 2).trans rfl; have Hbx := Aside0.mk hbox; clear hb hbox hgb)
          | (go_at_call 58; (refine (spec_inAll.calls _ (N : Int) room ow A1 c1 ms _ w1 (Kd.C_below HC.out HB1.out) Hc.out HT1.out).mono ?_); rintro e w2 ⟨rfl, hb2⟩; have HB2 := Aside0.mk hb2; have x3 := pw_cell_below hb2 x0; have x4 := pw_cell_below hb2 x1; have x5 := pw_cell_below hb2 x2; clear hb2)
          | (go_at_call 59; (refine (spec_l1In.calls (S : Int) 0 ((N : Int) - 1) _ _ HT2.out).mono ?_); rintro e w' ⟨rfl, ⟨nd, rfl⟩⟩)
          | (go_at_call 60; (refine (spec_inTick.calls (T : Int) _ _ HT3.out).mono ?_); rintro e w' ⟨rfl, ⟨nd3, rfl⟩⟩)
          | (go_at_call 61; (refine (Ins.inEnd_calls _ N room ow A1 c1 ms T hN2.out.1 hN2.out.2 HR.out HM.out (Kd.C_below HC.out (by repeat (first | exact below_then HB1.out HB1.out.size HB2.out | apply pw_below_drewN | apply below_drew))) Hc.out hTn'.out).mono ?_); rintro e w3 ⟨w0, hb0, g, gB, cB, vL, vI, vR, vX, rfl, h⟩; rw [Hst.out] at h; have HI := Aside0.mk h; have Hb0 := Aside0.mk (show Below w.heap.size w w0 from Ins.below_chain (by repeat (first | exact below_then HB1.out HB1.out.size HB2.out | apply pw_below_drewN | apply below_drew)) hb0); clear h hb0; obtain ⟨gX, cX, rfl⟩ := HI.out.idleform (by have := hSN.out; omega); obtain ⟨yX, _, en_, _⟩ := HI.out.idlecell S hSN.out; clear en_; have y9 := HI.out.cells.2.2.2.2.2.2.2.2.2.1))
        have HBW := Aside0.mk (show Below w.heap.size w w2 from below_then HB1.out HB1.out.size HB2.out)
        go_ret2
        exact ⟨rfl, by repeat (first | exact Ins.below_chain Hb0.out HI.out.below | apply pw_below_drewN | apply below_drew)⟩
end Go.Proofs.Ytkfghiofmamdnaa.PA
