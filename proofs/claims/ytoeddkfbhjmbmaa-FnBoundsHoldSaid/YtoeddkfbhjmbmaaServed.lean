/- What 'served' of the program comes to, out of what 'sent' comes to with its two functions; the list is read as it lies; no other condition. -/
import Derived.Test.YtoeddkfbhjmbmaaFn
import Derived.Test.YtoeddkfbhjmbmaaPB9
import Derived.Test.YtoeddkfbhjmbmaaPB7
import Derived.Test.YtoeddkfbhjmbmaaPB8
namespace Go.Proofs.Ytoeddkfbhjmbmaa.PB
open Go.RowKit Go.Proofs.YtoeddkfbhjmbmaaW.PrintWords Go.Proofs.YtoeddkfbhjmbmaaW.PrintLast Go.Proofs.YtoeddkfbhjmbmaaW.PrintMore
set_option linter.unusedVariables false
set_option linter.unusedSimpArgs false

/-- What a server lets go at a tick. -/
def letsOf (rate lat : Int) (t : Int) : Option Int := if t < lat then some 0 else some rate
set_option maxHeartbeats 400000 in
theorem lets_ok (rate lat : Int) (b : Nat) (w : World) (h0 : w.cell? ⟨b, 0, none⟩ = some (.int .i64 rate)) (h1 : w.cell? ⟨b, 1, none⟩ = some (.int .i64 lat)) (hb : b < w.heap.size) :
    FnOki_i Try.prog w 111 #[.pointer (some ⟨b, 0, none⟩)] (letsOf rate lat) := by
  refine ⟨⟨_, Try.func111, by kernel_rfl, rfl⟩, fun x r W hB h => ?_⟩
  have c0 : W.cell? ⟨b, 0, none⟩ = some (.int .i64 rate) := (hB.cell (p := ⟨b, 0, none⟩) hb).trans h0
  have c1 : W.cell? ⟨b, 1, none⟩ = some (.int .i64 lat) := (hB.cell (p := ⟨b, 1, none⟩) hb).trans h1
  clear hB h0 h1 hb
  unfold letsOf at h
  by_cases c : x < lat
  · rw [if_pos c] at h
    obtain rfl := Option.some.inj h
    clear h
    have cb : decide (x < lat) = true := decide_eq_true c
    go_enter Try.func111, Try.ntmps111
    go_wp2
    go_ret
    exact ⟨rfl, by repeat (first | exact Below.refl _ _ | apply pw_below_drewN | apply below_drew1)⟩
  · rw [if_neg c] at h
    obtain rfl := Option.some.inj h
    clear h
    have cb : decide (x < lat) = false := decide_eq_false c
    go_enter Try.func111, Try.ntmps111
    go_wp2
    go_ret
    exact ⟨rfl, by repeat (first | exact Below.refl _ _ | apply pw_below_drewN | apply below_drew1)⟩
theorem told_ok (w : World) : FnOki_ Try.prog w 112 #[] (fun _ => some ()) := by
  refine ⟨⟨_, Try.func112, by kernel_rfl, rfl⟩, fun x W hB u h => ?_⟩
  go_enter Try.func112, Try.ntmps112
  go_wp2
  first | go_end0 | ((try simp only [Exit.inBlock, Exit.then]); refine bodyPost_ret (results_none rfl _ _ _) rfl ?_)
  exact ⟨rfl, Below.refl _ _⟩

def impl_served.f (k : Nat) (rate lat : Int) (l : List Int) : Option (List Int × Int × Int × Bool) :=
  (impl_IsServer.f rate lat).bind fun a => if a = true then ((impl_IsTraffic.f l).bind fun b => if b = true then impl_sent.f k l (letsOf rate lat) (fun _ => some ()) else some ([], 0, 0, false)) else some ([], 0, 0, false)
theorem impl_served.mono : ∀ a0 a1 a2 k, LeO (impl_served.f k a0 a1 a2) (impl_served.f (k + 1) a0 a1 a2) := by
  intro a0 a1 a2 k
  unfold impl_served.f
  repeat' first
      | (with_reducible exact impl_sent.mono _ _ _ _)
      | (with_reducible exact LeO.refl _)
      | (with_reducible refine LeO.ite ?_ ?_)
      | (with_reducible refine LeO.bind ?_ (fun _ => ?_))
set_option maxHeartbeats 4000000 in
set_option maxRecDepth 100000 in
theorem impl_served.calls (k : Nat) (a0_0 : Int) (a0_1 : Int) (A1 : Option Addr) (c1 : Nat) (l1 : List Int) (r1 : List Int) (r2 : Int) (r3 : Int) (r4 : Bool) (w : World) (hr1 : Kd.C (Kd.int .i64) w A1 l1.length l1) (hc1 : l1.length ≤ c1) (h : impl_served.f k a0_0 a0_1 l1 = some (r1, r2, r3, r4)) :
    Calls Try.prog 80 #[.agg #[.int .i64 a0_0, .int .i64 a0_1], .slice A1 l1.length c1] w fun e w' => ∃ v0_ : Value, e = .returned (.tuple #[.agg #[v0_, .int .i64 r2, .int .i64 r3], .bool r4]) ∧ Kd.R (Kd.int .i64) 3 w' w.heap.size (fun _ => True) v0_ r1 ∧ Below w.heap.size w w' := by
  have hu1 := Try.underlying91
  have HR1 := Aside0.mk hr1
  have HC1 := Aside0.mk hc1
  clear hr1 hc1
  have HB := Aside0.mk (Below.refl w.heap.size w)
  unfold impl_served.f at h
  obtain ⟨a, ha, h⟩ := Option.bind_eq_some_iff.mp h
  have HA := Aside0.mk ha
  clear ha
  -- the blocks of the argument and of the result
  have key : ∀ w1, Below ((w.alloc (.cells #[.int .i64 a0_0, .int .i64 a0_1] 37)).alloc (.cells #[.slice none 0 0, .int .i64 0, .int .i64 0] 91)).heap.size ((w.alloc (.cells #[.int .i64 a0_0, .int .i64 a0_1] 37)).alloc (.cells #[.slice none 0 0, .int .i64 0, .int .i64 0] 91)) w1 →
      w1.heap[w.heap.size]? = some (.cells #[.int .i64 a0_0, .int .i64 a0_1] 37 (0, 0)) ∧ w1.heap[w.heap.size + 1]? = some (.cells #[.slice none 0 0, .int .i64 0, .int .i64 0] 91 (0, 0)) ∧ Below w.heap.size w w1 := by
    intro w1 hb
    refine ⟨blk_below (blk_alloc (blk_new w _) _) hb, blk_below (g := w.heap.size + 1) ?_ hb, below_then (((Below.refl _ _).alloc (Nat.le_refl _) _).alloc (by simp) _) (by simp; omega) hb⟩
    have := blk_new (w.alloc (.cells #[.int .i64 a0_0, .int .i64 a0_1] 37)) (.cells #[.slice none 0 0, .int .i64 0, .int .i64 0] 91)
    simpa using this
  have KEY := Aside0.mk key
  clear key
  cases a
  case false =>
    have e : (([] : List Int), (0 : Int), (0 : Int), false) = (r1, r2, r3, r4) := Option.some.inj (by simpa using h)
    simp only [Prod.mk.injEq] at e
    obtain ⟨rfl, rfl, rfl, rfl⟩ := e
    clear h
    go_enter Try.func80, Try.ntmps80
    go_wp2_with (go_at_call 54; (with_reducible refine (impl_IsServer.calls a0_0 a0_1 _ _ HA.out).mono ?_); rintro e w1 ⟨rfl, hb1⟩; obtain ⟨q1, q2, q3⟩ := KEY.out w1 hb1; have Q1 := Aside0.mk q1; have Q2 := Aside0.mk q2; have Q3 := Aside0.mk q3; have k0 := blk_cell q2 0; have k1 := blk_cell q2 1; have k2 := blk_cell q2 2; have f0 := blk_frozen q2 0; have f1 := blk_frozen q2 1; have f2 := blk_frozen q2 2; simp only [List.getElem?_toArray, List.getElem?_cons_zero, List.getElem?_cons_succ] at k0 k1 k2; clear q1 q2 q3 hb1)
    refine bodyPost_ret (results_ct rfl _ _ (w.heap.size + 1) 91 #[.slice none 0 0, .int .i64 0, .int .i64 0] (0, 0) _ rfl ?_ hu1 rfl (by kernel_rfl)) rfl ?_
    · exact blk_set (blk_set (blk_set Q2.out 0 _) 1 _) 2 _
    · exact ⟨_, rfl, Kd.R_nil _ _ _ _ _, below_set (below_set (below_set Q3.out (by omega)) (by omega)) (by omega)⟩
  case true =>
  rw [if_pos rfl] at h
  obtain ⟨b, hb, h⟩ := Option.bind_eq_some_iff.mp h
  have HB2 := Aside0.mk hb
  clear hb
  cases b
  case false =>
    have e : (([] : List Int), (0 : Int), (0 : Int), false) = (r1, r2, r3, r4) := Option.some.inj (by simpa using h)
    simp only [Prod.mk.injEq] at e
    obtain ⟨rfl, rfl, rfl, rfl⟩ := e
    clear h
    go_enter Try.func80, Try.ntmps80
    go_wp2_with (first | (go_at_call 54; (with_reducible refine (impl_IsServer.calls a0_0 a0_1 _ _ HA.out).mono ?_); rintro e w1 ⟨rfl, hb1⟩; obtain ⟨q1, q2, q3⟩ := KEY.out w1 hb1; have Q1 := Aside0.mk q1; have Q2 := Aside0.mk q2; have Q3 := Aside0.mk q3; have k0 := blk_cell q2 0; have k1 := blk_cell q2 1; have k2 := blk_cell q2 2; have f0 := blk_frozen q2 0; have f1 := blk_frozen q2 1; have f2 := blk_frozen q2 2; simp only [List.getElem?_toArray, List.getElem?_cons_zero, List.getElem?_cons_succ] at k0 k1 k2; clear q1 q2 q3 hb1) | (go_at_call 61; have hq := impl_IsTraffic.calls A1 c1 l1 _ w1 (Kd.C_below HR1.out Q3.out) HC1.out HB2.out; (with_reducible refine hq.mono ?_); clear hq; rintro e w2 ⟨rfl, hb2⟩; have P1 := Aside0.mk (blk_below Q1.out hb2); have q2 := blk_below Q2.out hb2; have P3 := Aside0.mk (below_then Q3.out (below_size Q3.out) hb2); clear k0 k1 k2 f0 f1 f2; have P2 := Aside0.mk q2; have k0 := blk_cell q2 0; have k1 := blk_cell q2 1; have k2 := blk_cell q2 2; have f0 := blk_frozen q2 0; have f1 := blk_frozen q2 1; have f2 := blk_frozen q2 2; simp only [List.getElem?_toArray, List.getElem?_cons_zero, List.getElem?_cons_succ] at k0 k1 k2; clear q2 hb2))
    refine bodyPost_ret (results_ct rfl _ _ (w.heap.size + 1) 91 #[.slice none 0 0, .int .i64 0, .int .i64 0] (0, 0) _ rfl ?_ hu1 rfl (by kernel_rfl)) rfl ?_
    · exact blk_set (blk_set (blk_set P2.out 0 _) 1 _) 2 _
    · exact ⟨_, rfl, Kd.R_nil _ _ _ _ _, below_set (below_set (below_set P3.out (by omega)) (by omega)) (by omega)⟩
  case true =>
    rw [if_pos rfl] at h
    have HS := Aside0.mk h
    clear h
    go_enter Try.func80, Try.ntmps80
    go_wp2_with (first | (go_at_call 54; (with_reducible refine (impl_IsServer.calls a0_0 a0_1 _ _ HA.out).mono ?_); rintro e w1 ⟨rfl, hb1⟩; obtain ⟨q1, q2, q3⟩ := KEY.out w1 hb1; have Q1 := Aside0.mk q1; have Q2 := Aside0.mk q2; have Q3 := Aside0.mk q3; have k0 := blk_cell q2 0; have k1 := blk_cell q2 1; have k2 := blk_cell q2 2; have f0 := blk_frozen q2 0; have f1 := blk_frozen q2 1; have f2 := blk_frozen q2 2; simp only [List.getElem?_toArray, List.getElem?_cons_zero, List.getElem?_cons_succ] at k0 k1 k2; clear q1 q2 q3 hb1) | (go_at_call 61; have hq := impl_IsTraffic.calls A1 c1 l1 _ w1 (Kd.C_below HR1.out Q3.out) HC1.out HB2.out; (with_reducible refine hq.mono ?_); clear hq; rintro e w2 ⟨rfl, hb2⟩; have P1 := Aside0.mk (blk_below Q1.out hb2); have q2 := blk_below Q2.out hb2; have P3 := Aside0.mk (below_then Q3.out (below_size Q3.out) hb2); clear k0 k1 k2 f0 f1 f2; have P2 := Aside0.mk q2; have k0 := blk_cell q2 0; have k1 := blk_cell q2 1; have k2 := blk_cell q2 2; have f0 := blk_frozen q2 0; have f1 := blk_frozen q2 1; have f2 := blk_frozen q2 2; simp only [List.getElem?_toArray, List.getElem?_cons_zero, List.getElem?_cons_succ] at k0 k1 k2; clear q2 hb2) | (go_at_call 110; have hq := impl_sent.calls k A1 c1 l1 (letsOf a0_0 a0_1) (fun _ => some ()) r1 r2 r3 r4 _ _ _ _ w2 (lets_ok a0_0 a0_1 w.heap.size w2 ((blk_cell P1.out 0).trans rfl) ((blk_cell P1.out 1).trans rfl) (blk_lt P1.out)) (told_ok w2) (Kd.C_below HR1.out P3.out) HC1.out HS.out; (with_reducible refine hq.mono ?_); clear hq; rintro e w3 ⟨v0, rfl, ho, hb3⟩; obtain ⟨as_, cs_, es_⟩ := Kd.R_slice ho; subst es_; have q2 := blk_below P2.out hb3; have R2 := Aside0.mk q2; have R3 := Aside0.mk (below_then P3.out (below_size P3.out) hb3); have RO := Aside0.mk (Kd.R_mono (ok' := fun k => k ≠ w.heap.size + 1) (Kd.R_lower (Kd.R_bound ho) (below_size P3.out)) (fun k hk => by have h1 := hk.2.1; have h2 := blk_lt P2.out; omega)); clear k0 k1 k2 f0 f1 f2; have k0 := blk_cell q2 0; have k1 := blk_cell q2 1; have k2 := blk_cell q2 2; have f0 := blk_frozen q2 0; have f1 := blk_frozen q2 1; have f2 := blk_frozen q2 2; simp only [List.getElem?_toArray, List.getElem?_cons_zero, List.getElem?_cons_succ] at k0 k1 k2; clear q2 hb3))
    refine bodyPost_ret (results_ct rfl _ _ (w.heap.size + 1) 91 #[.slice as_ r1.length cs_, .int .i64 r2, .int .i64 r3] (0, 0) _ rfl ?_ hu1 rfl (by kernel_rfl)) rfl ?_
    · exact blk_set (blk_set (blk_set R2.out 0 _) 1 _) 2 _
    · refine ⟨_, rfl, ?_, below_set (below_set (below_set R3.out (by omega)) (by omega)) (by omega)⟩
      exact Kd.R_mono (Kd.R_far (Kd.R_far (Kd.R_far RO.out (fun k hk => hk) _) (fun k hk => hk) _) (fun k hk => hk) _) (fun _ _ => trivial)
end Go.Proofs.Ytoeddkfbhjmbmaa.PB
