/- The law on BuffersAt holds for all rings, messages and ticks; no condition. -/
import Derived.Test.YtkfghiofmamdnaaPureMsg
import Derived.Test.YtkfghiofmamdnaaPA27
import Derived.Test.YtkfghiofmamdnaaPureEq
import Derived.Test.YtkfghiofmamdnaaPureMark
import Derived.Test.YtkfghiofmamdnaaMarkSS
import Derived.Test.YtkfghiofmamdnaaPA35
import Derived.Test.YtkfghiofmamdnaaPA36
import Derived.Test.YtkfghiofmamdnaaPA0
import Derived.Test.YtkfghiofmamdnaaExBuf
import Derived.Test.YtkfghiofmamdnaaKit
import Derived.Test.YtkfghiofmamdnaaRowMsg
namespace Go.Proofs.Ytkfghiofmamdnaa.PA
open Go.RowKit Go.Proofs.YtkfghiofmamdnaaW.PrintWords Go.Proofs.YtkfghiofmamdnaaW.PrintLast Go.Proofs.YtkfghiofmamdnaaW.PrintMore
theorem markMessageS_l0 (d : Nat) : ∀ (k i : Nat) (x : List S60) (v : Int), i ≤ x.length → x.length - i = d → d < k → 0 ≤ v → v ≤ 1 + 3 * (i : Int) → x.length < 1000000000000 →
    ∃ r, laws_markMessageS.l0 k x v (i : Int) = some r ∧ 0 ≤ r.1 := by
  induction d with
  | zero =>
    intro k i x v h1 hd hk h0 hv hl
    obtain ⟨k, rfl⟩ : ∃ m, k = m + 1 := ⟨k - 1, by omega⟩
    simp only [laws_markMessageS.l0]
    rw [if_neg (by omega)]
    exact ⟨_, rfl, h0⟩
  | succ d ih =>
    intro k i x v h1 hd hk h0 hv hl
    obtain ⟨k, rfl⟩ : ∃ m, k = m + 1 := ⟨k - 1, by omega⟩
    simp only [laws_markMessageS.l0, Option.bind_some]
    rw [if_pos (by omega), if_pos (by omega), w64 (x := v + 1) (by omega) (by omega), w64 (x := v + 1 + 1) (by omega) (by omega), w64 (x := v + 1 + 1 + 1) (by omega) (by omega), w64 (x := (i : Int) + 1) (by omega) (by omega)]
    exact ih k (i + 1) _ _ (by simp only [List.length_set]; omega) (by simp only [List.length_set]; omega) (by omega) (by omega) (by omega) (by simp only [List.length_set]; omega)
theorem markMessageS_tells (l : List S60) (hl : l.length < 1000000000000) {k : Nat} (hk : l.length < k) : ∃ r, laws_markMessageS.f k l 1 = some r ∧ 0 ≤ r.1 := markMessageS_l0 l.length k 0 l 1 (by omega) (by omega) hk (by omega) (by omega) hl
end Go.Proofs.Ytkfghiofmamdnaa.PA
namespace Go.Proofs.Ytkfghiofmamdnaa.PA
open Go.RowKit Go.Proofs.YtkfghiofmamdnaaW.PrintWords Go.Proofs.YtkfghiofmamdnaaW.PrintLast Go.Proofs.YtkfghiofmamdnaaW.PrintMore
theorem rdl_at (x : List (List Int)) (i : Nat) (h : i < x.length) : rd_L3 x (i : Int) = x[i] := by
  unfold rd_L3
  simp [List.getD, h]
theorem eqSS_self (x : List (List Int)) (h1 : x.length < 1000000000) (h2 : ∀ r ∈ x, r.length < 1000000000) : Tells (fun k => laws_eqIntSS.f k x x) true := by
  have key := for_rule (fun k i (_ : Unit) => laws_eqIntSS.l0 k x x (i : Int)) x.length (fun _ _ => True) (fun r => r = true)
    (fun i v hi _ => by
      obtain ⟨K, hK⟩ := eqIntS_tells x[i] (by have := h2 _ (List.getElem_mem hi); omega)
      refine .inl ⟨(), ⟨K, fun k hk => ?_⟩, trivial⟩
      simp only [laws_eqIntSS.l0]
      have e2 := hK k hk
      simp only at e2
      rw [if_pos (by omega), if_pos (by omega), if_pos (by omega), rdl_at x i hi, e2]
      simp only [Option.bind_some, if_true]
      rw [w64 (x := (i : Int) + 1) (by omega) (by omega)]
      rfl)
    (fun v _ => ⟨true, Tells.succ (Tells.now fun k => by
      simp only [laws_eqIntSS.l0]
      rw [if_neg (by omega)]), rfl⟩)
  obtain ⟨q, hq, rfl⟩ := key 0 () (by omega) trivial
  simp only [laws_eqIntSS.f, if_true]
  exact hq
/-- What marking rows leaves, and how far the marks have come. -/
def markedSS (v : Int) : List (List Int) → List (List Int)
  | [] => []
  | r :: x => marked v r.length :: markedSS (v + r.length) x
def sizeSS : List (List Int) → Nat
  | [] => 0
  | r :: x => r.length + sizeSS x
theorem markedSS_len (x : List (List Int)) : ∀ v, (markedSS v x).length = x.length := by
  induction x with
  | nil => intro v; rfl
  | cons r x ih => intro v; simp [markedSS, ih]
theorem sizeSS_le (x : List (List Int)) (h2 : ∀ r ∈ x, r.length < 1000000000) : sizeSS x ≤ x.length * 1000000000 := by
  induction x with
  | nil => simp [sizeSS]
  | cons r x ih =>
    have h := h2 r (by simp)
    have h3 := ih (fun q hq => h2 q (by simp [hq]))
    simp only [sizeSS, List.length_cons]
    omega
theorem markIntS_at (l : List Int) (v : Int) (h0 : 0 ≤ v) (h : v + l.length < 1000000000000000) {k : Nat} (hk : l.length < k) : laws_markIntS.f k l v = some (v + (l.length : Int), marked v l.length) := by
  unfold laws_markIntS.f
  have h := markIntS_l0 l.length k 0 l v (by omega) (by omega) hk h0 (by omega) (by omega)
  simpa using h
theorem heldIntS_at (n : Nat) (v : Int) (h0 : 0 ≤ v) (h : v + n < 1000000000000000) {k : Nat} (hk : n < k) : laws_heldIntS.f k (marked v n) v = some (v + (n : Int)) := by
  unfold laws_heldIntS.f
  have h := heldIntS_l0 (marked v n) v h0 (by rw [marked_length]; omega) (fun i hi => marked_get n v i (by rwa [marked_length] at hi)) n k 0 (by omega) (by rw [marked_length]; omega) hk
  rw [marked_length] at h
  simpa using h
theorem markSS_l0 (B : Nat) (pre : List (List Int)) : ∀ (x : List (List Int)) (v : Int) (k : Nat), (∀ r ∈ x, r.length ≤ B) → 0 ≤ v → v + sizeSS x < 100000000000000 → (pre ++ x).length < 1000000000 → x.length + B < k →
    ∀ done : List (List Int), done.length = pre.length → laws_markIntSS.l0 k (done ++ x) v (pre.length : Int) = some (v + sizeSS x, done ++ markedSS v x) := by
  intro x
  induction x generalizing pre with
  | nil =>
    intro v k h2 h0 hv hl hk done hd
    obtain ⟨k, rfl⟩ : ∃ m, k = m + 1 := ⟨k - 1, by omega⟩
    simp only [laws_markIntSS.l0]
    rw [if_neg (by simp; omega)]
    simp [sizeSS, markedSS]
  | cons r x ih =>
    intro v k h2 h0 hv hl hk done hd
    obtain ⟨k, rfl⟩ : ∃ m, k = m + 1 := ⟨k - 1, by omega⟩
    simp only [sizeSS] at hv
    simp only [List.length_append, List.length_cons] at hl hk
    have hr := h2 r (by simp)
    simp only [laws_markIntSS.l0]
    have hg : (done ++ r :: x).getD (pre.length : Int).toNat [] = r := by
      rw [Int.toNat_natCast, ← hd, List.getD_eq_getElem?_getD, List.getElem?_append_right (Nat.le_refl _)]
      simp
    rw [if_pos (by simp; omega), if_pos (by omega), hg, markIntS_at r v h0 (by omega) (by omega)]
    simp only [Option.bind_some]
    have hs : (done ++ r :: x).set (pre.length : Int).toNat (marked v r.length) = (done ++ [marked v r.length]) ++ x := by
      rw [Int.toNat_natCast, ← hd, List.set_append_right _ _ (Nat.le_refl _)]
      simp
    rw [hs, w64 (by omega) (by omega), show ((pre.length : Int) + 1) = ((pre ++ [r]).length : Int) by simp]
    rw [ih (pre ++ [r]) (v + r.length) k (fun q hq => h2 q (by simp [hq])) (by omega) (by omega) (by simp; omega) (by omega) (done ++ [marked v r.length]) (by simp [hd])]
    simp only [sizeSS, markedSS, List.append_assoc, List.singleton_append, Option.some.injEq, Prod.mk.injEq, and_true]
    omega
theorem markSS_tells (x : List (List Int)) (B : Nat) (hB : B < 1000000) (h1 : x.length < 1000000) (h2 : ∀ r ∈ x, r.length ≤ B) : Tells (fun k => laws_markIntSS.f k x 1) (1 + (sizeSS x : Int), markedSS 1 x) := by
  refine ⟨x.length + B + 1, fun k hk => ?_⟩
  have hs : sizeSS x ≤ x.length * 1000000 := by
    clear hk h1
    induction x with
    | nil => simp [sizeSS]
    | cons r x ih =>
      have h := h2 r (by simp)
      have h3 := ih (fun q hq => h2 q (by simp [hq]))
      simp only [sizeSS, List.length_cons]
      omega
  have := markSS_l0 B [] x 1 k h2 (by omega) (by omega) (by simp; omega) (by omega) [] rfl
  simpa [laws_markIntSS.f] using this
theorem heldSS_l0 (B : Nat) (done : List (List Int)) : ∀ (x : List (List Int)) (v : Int) (k : Nat), (∀ r ∈ x, r.length ≤ B) → 0 ≤ v → v + sizeSS x < 100000000000000 → (done ++ x).length < 1000000000 → x.length + B < k →
    laws_heldIntSS.l0 k (done ++ markedSS v x) v (done.length : Int) = some (v + sizeSS x) := by
  intro x
  induction x generalizing done with
  | nil =>
    intro v k h2 h0 hv hl hk
    obtain ⟨k, rfl⟩ : ∃ m, k = m + 1 := ⟨k - 1, by omega⟩
    simp only [laws_heldIntSS.l0]
    rw [if_neg (by simp [markedSS])]
    simp [sizeSS]
  | cons r x ih =>
    intro v k h2 h0 hv hl hk
    obtain ⟨k, rfl⟩ : ∃ m, k = m + 1 := ⟨k - 1, by omega⟩
    simp only [sizeSS] at hv
    simp only [List.length_append, List.length_cons] at hl hk
    have hr := h2 r (by simp)
    have hml := markedSS_len x (v + r.length)
    rw [show markedSS v (r :: x) = marked v r.length :: markedSS (v + r.length) x from rfl]
    simp only [laws_heldIntSS.l0]
    have hg : rd_L3 (done ++ marked v r.length :: markedSS (v + r.length) x) (done.length : Int) = marked v r.length := by
      rw [rdl_at _ _ (by simp)]
      simp
    rw [if_pos (by simp only [List.length_append, List.length_cons]; omega), if_pos (by omega), hg, heldIntS_at r.length v h0 (by omega) (by omega)]
    simp only [Option.bind_some]
    rw [if_neg (by omega), w64 (by omega) (by omega), show ((done.length : Int) + 1) = ((done ++ [marked v r.length]).length : Int) by simp]
    have := ih (done ++ [marked v r.length]) (v + r.length) k (fun q hq => h2 q (by simp [hq])) (by omega) (by omega) (by simp; omega) (by omega)
    rw [List.append_assoc, List.singleton_append] at this
    rw [this]
    simp only [sizeSS, Option.some.injEq]
    omega
theorem heldSS_tells (x : List (List Int)) (B : Nat) (hB : B < 1000000) (h1 : x.length < 1000000) (h2 : ∀ r ∈ x, r.length ≤ B) : Tells (fun k => laws_heldIntSS.f k (markedSS 1 x) 1) (1 + (sizeSS x : Int)) := by
  refine ⟨x.length + B + 1, fun k hk => ?_⟩
  have hs : sizeSS x ≤ x.length * 1000000 := by
    clear hk h1
    induction x with
    | nil => simp [sizeSS]
    | cons r x ih =>
      have h := h2 r (by simp)
      have h3 := ih (fun q hq => h2 q (by simp [hq]))
      simp only [sizeSS, List.length_cons]
      omega
  have := heldSS_l0 B [] x 1 k h2 (by omega) (by omega) (by simp; omega) (by omega)
  simpa [laws_heldIntSS.f] using this
theorem marked_lens (x : List (List Int)) (B : Nat) (h2 : ∀ r ∈ x, r.length ≤ B) : ∀ v, ∀ r ∈ markedSS v x, r.length ≤ B := by
  induction x with
  | nil => intro v r hr; simp [markedSS] at hr
  | cons q x ih =>
    intro v r hr
    simp only [markedSS, List.mem_cons] at hr
    rcases hr with rfl | hr
    · rw [marked_length]; exact h2 q (by simp)
    · exact ih (fun q hq => h2 q (by simp [hq])) _ r hr
end Go.Proofs.Ytkfghiofmamdnaa.PA
namespace Go.Proofs.Ytkfghiofmamdnaa.PA
open Go.RowKit Go.Proofs.YtkfghiofmamdnaaW.PrintWords Go.Proofs.YtkfghiofmamdnaaW.PrintLast Go.Proofs.YtkfghiofmamdnaaW.PrintMore
theorem lw_then {w W w1 : World} (h : Below w.heap.size w W) (k : Below W.heap.size W w1) : Below w.heap.size w w1 := below_then h h.size k
end Go.Proofs.Ytkfghiofmamdnaa.PA
namespace Go.Proofs.Ytkfghiofmamdnaa.PA
open Go.RowKit Go.Proofs.YtkfghiofmamdnaaW.PrintWords Go.Proofs.YtkfghiofmamdnaaW.PrintLast Go.Proofs.YtkfghiofmamdnaaW.PrintMore
set_option linter.unusedVariables false
set_option linter.unusedSimpArgs false
theorem buffersAtR_len (n room : Int) (ow : Bool) (ms : List S60) (t : Int) : (buffersAtR n room ow ms t).1.length ≤ 12 ∧ ∀ r ∈ (buffersAtR n room ow ms t).1, r.length ≤ 100000 := by
  unfold buffersAtR
  split
  · rename_i h
    simp only [Bool.and_eq_true] at h
    have hf := Ins.okI_facts h.1
    have ht : 0 ≤ t ∧ t ≤ 600 := by simpa [inB] using h.2
    have hw := Ins.stAt_wf (n := n.toNat) room ow (by omega) (by omega) hf.2.2.1 (t.toNat + 1) (by omega)
    have h1 := hw.buf
    simp only
    exact ⟨by omega, fun r hr => by have := (hw.bk r hr).1; omega⟩
  · simp
theorem held_any (K : Nat) (A : Option Addr) (c : Nat) (M : List (List Int)) (n : Nat) (hn : M.length = n) (v r : Int) (w : World) (hC : Kd.C (Kd.slice 3 (Kd.int .i64)) w A n M) (hc : n ≤ c) (h : laws_heldIntSS.f K M v = some r) :
    Calls Try.prog 46 #[.slice A n c, .int .i64 v] w fun e w' => e = .returned (.int .i64 r) ∧ Drawn0 w w' := by
  subst hn
  exact laws_heldIntSS.calls K A c M v r w hC hc h
set_option maxHeartbeats 8000000 in
set_option maxRecDepth 100000 in
theorem buffersAt_walk (n room : Int) (ow : Bool) (A : Option Addr) (c : Nat) (l : List S70) (t : Int) (W : World) (h : Kd.C k70 W A l.length l ∧ l.length ≤ c ∧ l.length ≤ 5864062014805) (hbig : l.length ≤ 1048576) (ms : List S60) (hms : ms = l.map convM) (R : List (List Int)) (b : Bool) (K : Nat) (z m : Int) (xs : List S60)
    (hz : laws_szMessageS.f l 1048576 = some z) (hz0 : 0 ≤ z) (hto : laws_toMessageS.f K l = some ms) (hs : spec_BuffersAt.f n room ow ms t = some (R, b)) (hi : impl_BuffersAt.f n room ow ms t = some (R, b)) (heq : laws_eqIntSS.f K R R = some true) (hem : laws_eqMessageS.f K ms ms = some true)
    (hmk : laws_markMessageS.f K ms 1 = some (m, xs)) (hm0 : 0 ≤ m) (hsz : sizeSS R ≤ 100000000) (hms1 : laws_markIntSS.f K R 1 = some (1 + (sizeSS R : Int), markedSS 1 R)) (hhe : laws_heldIntSS.f K (markedSS 1 R) 1 = some (1 + (sizeSS R : Int))) :
    Calls Try.prog 12 #[.agg #[.int .i64 n, .int .i64 room, .bool ow], .slice A l.length c, .int .i64 t] W fun e W' => e = .returned (.bool true) ∧ Below W.heap.size W W' := by
  have HA := Aside0.mk h.1
  have HL := Aside0.mk h.2
  have HZ := Aside0.mk hz
  have HTo := Aside0.mk hto
  have HS := Aside0.mk hs
  have HI := Aside0.mk hi
  have HEq := Aside0.mk heq
  have HEm := Aside0.mk hem
  have HMk := Aside0.mk hmk
  have HMs := Aside0.mk hms1
  have HHe := Aside0.mk hhe
  have HML := Aside0.mk (markedSS_len R 1)
  clear h hz hto hs hi heq hem hmk hms1 hhe hms
  obtain ⟨S, hS⟩ : ∃ S : Int, S = (sizeSS R : Int) := ⟨_, rfl⟩
  have hS0 : 0 ≤ S ∧ S ≤ 100000000 := by omega
  rw [← hS] at HMs HHe
  clear hS hsz hbig
  have h1s : 1 + S ≠ 0 := by omega
  have d1 : decide (z < 0) = false := decide_eq_false (by omega)
  have d2 : decide (m < 0) = false := decide_eq_false (by omega)
  have d3 : decide (1 + S < 0) = false := decide_eq_false (by omega)
  clear hz0 hm0 hS0
  go_enter Try.func12, Try.ntmps12
  go_wp2_with ((with_reducible refine gate_dst (N := 3) rfl ?_); refine box_event ?hg (N := 3) ?hd (cs := #[.int .i64 n, .int .i64 room, .bool ow]) (t := 23) ?hr ?_; (case hd => rfl); (case hg => rfl); (case hr => first | (go_simp; done) | (go_simp; rfl)); intro gb hgb w1 hbox hb; have HB1 := Aside0.mk hb; have x0 : w1.cell? ⟨gb, 0, none⟩ = some (.int .i64 n) := (blk_cell hbox 0).trans rfl; have x1 : w1.cell? ⟨gb, 1, none⟩ = some (.int .i64 room) := (blk_cell hbox 1).trans rfl; have x2 : w1.cell? ⟨gb, 2, none⟩ = some (.bool ow) := (blk_cell hbox 2).trans rfl; have HX0 := Aside0.mk x0; have HX1 := Aside0.mk x1; have HX2 := Aside0.mk x2; clear hb hbox hgb)
  go_wp2_with fail
  (refine (laws_szMessageS.calls A c l 1048576 _ _ (Kd.C_below HA.out (by repeat (first | exact HB1.out | apply pw_below_drewN | apply below_drew | apply below_alloc))) HL.out.1 HZ.out).mono ?_)
  rintro e w' ⟨rfl, ⟨nd, rfl⟩⟩
  go_wp2_with fail
  (refine (laws_toInsertRing.calls n room ow _ _ _ _ rfl).mono ?_)
  rintro e w2 ⟨rfl, hb⟩
  have HB2 := Aside0.mk (show Below w1.heap.size w1 w2 from lw_then (by repeat (first | exact (Below.refl _ _) | apply pw_below_drewN | apply below_drew | apply below_alloc)) hb)
  have x0_2 := pw_cell_below HB2.out x0
  clear x0
  have x1_2 := pw_cell_below HB2.out x1
  clear x1
  have x2_2 := pw_cell_below HB2.out x2
  clear x2
  clear hb
  go_wp2_with fail
  (refine (laws_toMessageS.calls K A c l ms _ (Kd.C_below HA.out (by repeat (first | exact (lw_then HB1.out HB2.out) | apply pw_below_drewN | apply below_drew | apply below_alloc))) HL.out.1 HTo.out).mono ?_)
  rintro e w3 ⟨v3, rfl, hr, hb⟩
  have HB3 := Aside0.mk (show Below w2.heap.size w2 w3 from lw_then (by repeat (first | exact (Below.refl _ _) | apply pw_below_drewN | apply below_drew | apply below_alloc)) hb)
  have x0_3 := pw_cell_below HB3.out x0_2
  clear x0_2
  have x1_3 := pw_cell_below HB3.out x1_2
  clear x1_2
  have x2_3 := pw_cell_below HB3.out x2_2
  clear x2_2
  obtain ⟨Av3, cv3, rfl⟩ := Kd.R_slice hr
  have Hv3 := Aside0.mk hr
  clear hr
  clear hb
  go_wp2_with fail
  (refine (spec_BuffersAt.calls n room ow Av3 cv3 ms t _ _ _ (Kd.C_below (Kd.R_reads' Hv3.out).2.2 (by repeat (first | exact (Below.refl _ _) | apply pw_below_drewN | apply below_drew | apply below_alloc))) (Kd.R_reads' Hv3.out).2.1 HS.out).mono ?_)
  rintro e w4 ⟨A4, c4, rfl, hc4, hr4, hb⟩
  have HB4 := Aside0.mk (show Below w3.heap.size w3 w4 from lw_then (by repeat (first | exact (Below.refl _ _) | apply pw_below_drewN | apply below_drew | apply below_alloc)) hb)
  have x0_4 := pw_cell_below HB4.out x0_3
  clear x0_3
  have x1_4 := pw_cell_below HB4.out x1_3
  clear x1_3
  have x2_4 := pw_cell_below HB4.out x2_3
  clear x2_3
  have H4 := Aside0.mk (And.intro hc4 hr4)
  clear hc4 hr4
  clear hb
  go_wp2_with fail
  (refine (laws_toMessageS.calls K A c l ms _ (Kd.C_below HA.out (by repeat (first | exact (lw_then (lw_then (lw_then HB1.out HB2.out) HB3.out) HB4.out) | apply pw_below_drewN | apply below_drew | apply below_alloc))) HL.out.1 HTo.out).mono ?_)
  rintro e w5 ⟨v5, rfl, hr, hb⟩
  have HB5 := Aside0.mk (show Below w4.heap.size w4 w5 from lw_then (by repeat (first | exact (Below.refl _ _) | apply pw_below_drewN | apply below_drew | apply below_alloc)) hb)
  have x0_5 := pw_cell_below HB5.out x0_4
  clear x0_4
  have x1_5 := pw_cell_below HB5.out x1_4
  clear x1_4
  have x2_5 := pw_cell_below HB5.out x2_4
  clear x2_4
  obtain ⟨Av5, cv5, rfl⟩ := Kd.R_slice hr
  have Hv5 := Aside0.mk hr
  clear hr
  clear hb
  go_wp2_with fail
  (refine (laws_toInsertRing.calls n room ow _ _ _ _ rfl).mono ?_)
  rintro e w6 ⟨rfl, hb⟩
  have HB6 := Aside0.mk (show Below w5.heap.size w5 w6 from lw_then (by repeat (first | exact (Below.refl _ _) | apply pw_below_drewN | apply below_drew | apply below_alloc)) hb)
  have x0_6 := pw_cell_below HB6.out x0_5
  clear x0_5
  have x1_6 := pw_cell_below HB6.out x1_5
  clear x1_5
  have x2_6 := pw_cell_below HB6.out x2_5
  clear x2_5
  clear hb
  go_wp2_with fail
  (refine (impl_BuffersAt.calls n room ow Av5 cv5 ms t _ _ _ (Kd.C_below (Kd.R_reads' Hv5.out).2.2 (by repeat (first | exact HB6.out | apply pw_below_drewN | apply below_drew | apply below_alloc))) (Kd.R_reads' Hv5.out).2.1 HI.out).mono ?_)
  rintro e w7 ⟨v7, rfl, hr, hb⟩
  have HB7 := Aside0.mk (show Below w6.heap.size w6 w7 from lw_then (by repeat (first | exact (Below.refl _ _) | apply pw_below_drewN | apply below_drew | apply below_alloc)) hb)
  have x0_7 := pw_cell_below HB7.out x0_6
  clear x0_6
  have x1_7 := pw_cell_below HB7.out x1_6
  clear x1_6
  have x2_7 := pw_cell_below HB7.out x2_6
  clear x2_6
  obtain ⟨Av7, cv7, rfl⟩ := Kd.S_slice hr
  have Hv7 := Aside0.mk (Kd.S_bound hr)
  clear hr
  clear hb
  go_wp2_with fail
  (refine (laws_eqIntSS.calls K Av7 cv7 R A4 c4 R true _ (Kd.C_below (Kd.S_reads' Hv7.out).2.2 (by repeat (first | exact (Below.refl _ _) | apply pw_below_drewN | apply below_drew | apply below_alloc))) (Kd.S_reads' Hv7.out).2.1 (Kd.C_below H4.out.2 (by repeat (first | exact (lw_then (lw_then HB5.out HB6.out) HB7.out) | apply pw_below_drewN | apply below_drew | apply below_alloc))) H4.out.1 HEq.out).mono ?_)
  rintro e w' ⟨rfl, ⟨nd, rfl⟩⟩
  go_wp2_with fail
  (refine (laws_toMessageS.calls K A c l ms _ (Kd.C_below HA.out (by repeat (first | exact (lw_then (lw_then (lw_then (lw_then (lw_then (lw_then HB1.out HB2.out) HB3.out) HB4.out) HB5.out) HB6.out) HB7.out) | apply pw_below_drewN | apply below_drew | apply below_alloc))) HL.out.1 HTo.out).mono ?_)
  rintro e w8 ⟨v8, rfl, hr, hb⟩
  have HB8 := Aside0.mk (show Below w7.heap.size w7 w8 from lw_then (by repeat (first | exact (Below.refl _ _) | apply pw_below_drewN | apply below_drew | apply below_alloc)) hb)
  have x0_8 := pw_cell_below HB8.out x0_7
  clear x0_7
  have x1_8 := pw_cell_below HB8.out x1_7
  clear x1_7
  have x2_8 := pw_cell_below HB8.out x2_7
  clear x2_7
  obtain ⟨Av8, cv8, rfl⟩ := Kd.R_slice hr
  have Hv8 := Aside0.mk hr
  clear hr
  clear hb
  go_wp2_with fail
  (refine (laws_eqMessageS.calls K Av5 cv5 ms Av8 cv8 ms true _ (Kd.C_below (Kd.R_reads' Hv5.out).2.2 (by repeat (first | exact (lw_then (lw_then HB6.out HB7.out) HB8.out) | apply pw_below_drewN | apply below_drew | apply below_alloc))) (Kd.R_reads' Hv5.out).2.1 (Kd.C_below (Kd.R_reads' Hv8.out).2.2 (by repeat (first | exact (Below.refl _ _) | apply pw_below_drewN | apply below_drew | apply below_alloc))) (Kd.R_reads' Hv8.out).2.1 HEm.out).mono ?_)
  rintro e w9 ⟨rfl, hb⟩
  have HB9 := Aside0.mk (show Below w8.heap.size w8 w9 from lw_then (by repeat (first | exact (Below.refl _ _) | apply pw_below_drewN | apply below_drew | apply below_alloc)) hb)
  have x0_9 := pw_cell_below HB9.out x0_8
  clear x0_8
  have x1_9 := pw_cell_below HB9.out x1_8
  clear x1_8
  have x2_9 := pw_cell_below HB9.out x2_8
  clear x2_8
  clear hb
  go_wp2_with fail
  (refine (laws_markMessageS.calls K (fun k => w4.heap.size ≤ k ∧ k < w5.heap.size) _ ms 1 _ _ w4 _ (by repeat (first | exact (lw_then (lw_then (lw_then (lw_then HB5.out HB6.out) HB7.out) HB8.out) HB9.out) | apply pw_below_drewN | apply below_drew | apply below_alloc)) (by repeat (first | exact Kd.R_below (Kd.R_mono (Kd.R_bound Hv5.out) (fun k hk => ⟨hk.2.1, hk.2.2.1⟩)) (lw_then (lw_then (lw_then HB6.out HB7.out) HB8.out) HB9.out) | apply Kd.R_drewN | apply Kd.R_drew)) HMk.out).mono ?_)
  rintro e w10 ⟨rfl, _, hb, hk⟩
  have HB10 := Aside0.mk hb
  have HK10 := Aside0.mk (show Kept w9 w10 (fun k => w4.heap.size ≤ k ∧ k < w5.heap.size) from hk)
  have Hg10 := Aside0.mk (Kd.S_kept (Kd.S_below Hv7.out (lw_then HB8.out HB9.out)) HK10.out (fun k hk hs => by have h1_ := hs.2; have h2_ := HB6.out.size; have h3_ := hk.2.1; omega))
  clear hb hk
  have x0_10 := pw_cell_below (lw_then (lw_then (lw_then HB2.out HB3.out) HB4.out) HB10.out) HX0.out
  clear x0_9
  have x1_10 := pw_cell_below (lw_then (lw_then (lw_then HB2.out HB3.out) HB4.out) HB10.out) HX1.out
  clear x1_9
  have x2_10 := pw_cell_below (lw_then (lw_then (lw_then HB2.out HB3.out) HB4.out) HB10.out) HX2.out
  clear x2_9
  go_wp2_with fail
  (refine (laws_eqIntSS.calls K Av7 cv7 R A4 c4 R true _ (Kd.C_below (Kd.S_reads' Hg10.out).2.2 (by repeat (first | exact (Below.refl _ _) | apply pw_below_drewN | apply below_drew | apply below_alloc))) (Kd.S_reads' Hg10.out).2.1 (Kd.C_below H4.out.2 (by repeat (first | exact HB10.out | apply pw_below_drewN | apply below_drew | apply below_alloc))) H4.out.1 HEq.out).mono ?_)
  rintro e w' ⟨rfl, ⟨nd, rfl⟩⟩
  go_wp2_with fail
  (refine (laws_markIntSS.calls K (fun k => w6.heap.size ≤ k ∧ k < w7.heap.size) _ R 1 _ _ w4 _ (by repeat (first | exact HB10.out | apply pw_below_drewN | apply below_drew | apply below_alloc)) (by repeat (first | exact Kd.S_lower (Kd.S_mono Hg10.out (fun k hk => ⟨hk.2.1, hk.2.2.1⟩)) (lw_then HB5.out HB6.out).size | apply Kd.S_drewN | apply Kd.S_drew)) HMs.out).mono ?_)
  rintro e w11 ⟨rfl, hs, hb, hk⟩
  have HB11 := Aside0.mk hb
  have Hh := Aside0.mk hs
  have Hhc := Aside0.mk (show Kd.C (Kd.slice 3 (Kd.int .i64)) w11 Av7 R.length (markedSS 1 R) from by have h_ := (Kd.S_reads' hs).2.2; rw [markedSS_len] at h_; exact h_)
  clear hb hk hs
  have x0_11 := pw_cell_below (lw_then (lw_then (lw_then HB2.out HB3.out) HB4.out) HB11.out) HX0.out
  clear x0_10
  have x1_11 := pw_cell_below (lw_then (lw_then (lw_then HB2.out HB3.out) HB4.out) HB11.out) HX1.out
  clear x1_10
  have x2_11 := pw_cell_below (lw_then (lw_then (lw_then HB2.out HB3.out) HB4.out) HB11.out) HX2.out
  clear x2_10
  go_wp2_with fail
  (refine (held_any K Av7 cv7 (markedSS 1 R) R.length HML.out 1 (1 + S) _ (Kd.C_below Hhc.out (by repeat (first | exact (Below.refl _ _) | apply pw_below_drewN | apply below_drew | apply below_alloc))) (Kd.S_reads' Hh.out).2.1 HHe.out).mono ?_)
  rintro e w' ⟨rfl, ⟨nd, rfl⟩⟩
  go_wp2_with fail
  (refine (laws_toInsertRing.calls n room ow _ _ _ _ rfl).mono ?_)
  rintro e w12 ⟨rfl, hb⟩
  have HB12 := Aside0.mk (show Below w11.heap.size w11 w12 from lw_then (by repeat (first | exact (Below.refl _ _) | apply pw_below_drewN | apply below_drew | apply below_alloc)) hb)
  have x0_12 := pw_cell_below HB12.out x0_11
  clear x0_11
  have x1_12 := pw_cell_below HB12.out x1_11
  clear x1_11
  have x2_12 := pw_cell_below HB12.out x2_11
  clear x2_11
  clear hb
  go_wp2_with fail
  (refine (laws_toMessageS.calls K A c l ms _ (Kd.C_below HA.out (by repeat (first | exact (lw_then (lw_then (lw_then (lw_then (lw_then HB1.out HB2.out) HB3.out) HB4.out) HB11.out) HB12.out) | apply pw_below_drewN | apply below_drew | apply below_alloc))) HL.out.1 HTo.out).mono ?_)
  rintro e w13 ⟨v12, rfl, hr, hb⟩
  have HB13 := Aside0.mk (show Below w12.heap.size w12 w13 from lw_then (by repeat (first | exact (Below.refl _ _) | apply pw_below_drewN | apply below_drew | apply below_alloc)) hb)
  have x0_13 := pw_cell_below HB13.out x0_12
  clear x0_12
  have x1_13 := pw_cell_below HB13.out x1_12
  clear x1_12
  have x2_13 := pw_cell_below HB13.out x2_12
  clear x2_12
  obtain ⟨Av12, cv12, rfl⟩ := Kd.R_slice hr
  have Hv12 := Aside0.mk hr
  clear hr
  clear hb
  go_wp2_with fail
  (refine (impl_BuffersAt.calls n room ow Av12 cv12 ms t _ _ _ (Kd.C_below (Kd.R_reads' Hv12.out).2.2 (by repeat (first | exact (Below.refl _ _) | apply pw_below_drewN | apply below_drew | apply below_alloc))) (Kd.R_reads' Hv12.out).2.1 HI.out).mono ?_)
  rintro e w14 ⟨v14, rfl, hr, hb⟩
  have HB14 := Aside0.mk (show Below w13.heap.size w13 w14 from lw_then (by repeat (first | exact (Below.refl _ _) | apply pw_below_drewN | apply below_drew | apply below_alloc)) hb)
  have x0_14 := pw_cell_below HB14.out x0_13
  clear x0_13
  have x1_14 := pw_cell_below HB14.out x1_13
  clear x1_13
  have x2_14 := pw_cell_below HB14.out x2_13
  clear x2_13
  obtain ⟨Av14, cv14, rfl⟩ := Kd.S_slice hr
  have Hv14 := Aside0.mk hr
  clear hr
  clear hb
  go_wp2_with fail
  (refine (laws_eqIntSS.calls K Av14 cv14 R A4 c4 R true _ (Kd.C_below (Kd.S_reads' Hv14.out).2.2 (by repeat (first | exact (Below.refl _ _) | apply pw_below_drewN | apply below_drew | apply below_alloc))) (Kd.S_reads' Hv14.out).2.1 (Kd.C_below H4.out.2 (by repeat (first | exact (lw_then (lw_then (lw_then HB11.out HB12.out) HB13.out) HB14.out) | apply pw_below_drewN | apply below_drew | apply below_alloc))) H4.out.1 HEq.out).mono ?_)
  rintro e w' ⟨rfl, ⟨nd, rfl⟩⟩
  go_wp2_with fail
  (refine (held_any K Av7 cv7 (markedSS 1 R) R.length HML.out 1 (1 + S) _ (Kd.C_below Hhc.out (by repeat (first | exact (lw_then (lw_then HB12.out HB13.out) HB14.out) | apply pw_below_drewN | apply below_drew | apply below_alloc))) (Kd.S_reads' Hh.out).2.1 HHe.out).mono ?_)
  rintro e w' ⟨rfl, ⟨nd, rfl⟩⟩
  go_wp2_with fail
  go_ret
  exact ⟨rfl, (by repeat (first | exact (lw_then (lw_then (lw_then (lw_then (lw_then (lw_then (lw_then HB1.out HB2.out) HB3.out) HB4.out) HB11.out) HB12.out) HB13.out) HB14.out) | apply pw_below_drewN | apply below_drew | apply below_alloc))⟩
theorem core_FnExactBuffersAt (n room : Int) (ow : Bool) (A : Option Addr) (c : Nat) (l : List S70) (t : Int) (W : World) (_ : True) (h : Kd.C k70 W A l.length l ∧ l.length ≤ c ∧ l.length ≤ 5864062014805) (_ : (Lit.int .i64 t).wf = true) :
    Calls Try.prog 12 #[.agg #[.int .i64 n, .int .i64 room, .bool ow], .slice A l.length c, .int .i64 t] W fun e W' => e = .returned (.bool true) ∧ Below W.heap.size W W' := by
  by_cases hbig : l.length ≤ 1048576
  · obtain ⟨K1, h1⟩ := toMessageS_tells l h.2.2
    obtain ⟨K2, h2⟩ := eqMessageS_tells (l.map convM) (by simp; omega)
    have hlen := buffersAtR_len n room ow (l.map convM) t
    have hs : spec_BuffersAt.f n room ow (l.map convM) t = some (buffersAtR n room ow (l.map convM) t) := if_pos (by simp; omega)
    have hi : impl_BuffersAt.f n room ow (l.map convM) t = some (buffersAtR n room ow (l.map convM) t) := if_pos (by simp; omega)
    generalize buffersAtR n room ow (l.map convM) t = R at hs hi hlen
    obtain ⟨R, b⟩ := R
    simp only at hlen
    obtain ⟨K3, h3⟩ := eqSS_self R (by omega) (fun r hr => by have := hlen.2 r hr; omega)
    obtain ⟨K4, h4⟩ := markSS_tells R 100000 (by omega) (by omega) hlen.2
    obtain ⟨K5, h5⟩ := heldSS_tells R 100000 (by omega) (by omega) hlen.2
    generalize hK : K1 + K2 + K3 + K4 + K5 + l.length + 1 = K
    obtain ⟨r, hr, hr0⟩ := markMessageS_tells (l.map convM) (by simp; omega) (k := K) (by simp; omega)
    have hsz : sizeSS R ≤ 1200000 := by
      have : ∀ x : List (List Int), (∀ r ∈ x, r.length ≤ 100000) → sizeSS x ≤ x.length * 100000 := by
        intro x
        induction x with
        | nil => intro _; simp [sizeSS]
        | cons q x ih =>
          intro hq
          have h1 := hq q (by simp)
          have h2 := ih (fun y hy => hq y (by simp [hy]))
          simp only [sizeSS, List.length_cons]
          omega
      have := this R hlen.2
      have h12 : R.length ≤ 12 := hlen.1
      omega
    refine buffersAt_walk n room ow A c l t W h hbig (l.map convM) rfl R b K (1048576 - (l.length : Int)) r.1 r.2 ?_ (by omega) (h1 K (by omega)) hs hi (h3 K (by omega)) (h2 K (by omega)) hr hr0 (by omega) (h4 K (by omega)) (h5 K (by omega))
    simp only [laws_szMessageS.f]
    rw [w64 (by omega) (by omega), if_neg (by omega)]
  · have hz : laws_szMessageS.f l 1048576 = some (-1) := by
      simp only [laws_szMessageS.f]
      rw [w64 (by omega) (by omega), if_pos (by omega)]
    have HA := Aside0.mk h.1
    have HL := Aside0.mk h.2
    have HZ := Aside0.mk hz
    clear h hz hbig
    go_enter Try.func12, Try.ntmps12
    go_wp2_with (first
      | ((with_reducible refine gate_dst (N := 3) rfl ?_); refine box_event ?hg (N := 3) ?hd (cs := #[.int .i64 n, .int .i64 room, .bool ow]) (t := 23) ?hr ?_; (case hd => rfl); (case hg => rfl); (case hr => first | (go_simp; done) | (go_simp; rfl)); intro gb hgb w1 hbox hb; have HB1 := Aside0.mk hb; have x0 : w1.cell? ⟨gb, 0, none⟩ = some (.int .i64 n) := (blk_cell hbox 0).trans rfl; have x1 : w1.cell? ⟨gb, 1, none⟩ = some (.int .i64 room) := (blk_cell hbox 1).trans rfl; have x2 : w1.cell? ⟨gb, 2, none⟩ = some (.bool ow) := (blk_cell hbox 2).trans rfl; clear hb hbox hgb)
      | (go_at_call 16; (refine (laws_szMessageS.calls A c l 1048576 _ _ (Kd.C_below HA.out (by repeat (first | exact HB1.out | apply pw_below_drewN | apply below_drew | apply below_alloc))) HL.out.1 HZ.out).mono ?_); rintro e w' ⟨rfl, ⟨nd, rfl⟩⟩))
    go_ret
    exact ⟨rfl, (by repeat (first | exact HB1.out | apply pw_below_drewN | apply below_drew | apply below_alloc))⟩
end Go.Proofs.Ytkfghiofmamdnaa.PA
namespace Go.Proofs.Ytkfghiofmamdnaa.fnExactBuffersAt
set_option linter.unusedVariables false
open Go.ChangeShapes Go.WideShapes Go.ChangeAt Go.RowKit Go.Joins
theorem read : Kit.Readable Try.prog Try.f12.params.toList := by
  rw [Try.params12]
  intro t ht
  simp only [List.mem_cons, List.not_mem_nil, or_false] at ht
  rcases ht with rfl | rfl | rfl <;> exact ⟨by kernel_rfl, of_decide_eq_true (by kernel_rfl)⟩
set_option maxRecDepth 100000 in
theorem calls {H : Type} {enc : TypeId × Value → H} (W : World) (base : Nat) (args : Array Value) (ds : List (DataW H)) (p : List MemPlace)
    (hval : ∀ (j : Nat) t v, Try.f12.params[j]? = some t → args[j]? = some v → Value.okWide Try.prog W .any base t v)
    (hA : DataW.TrodAll enc Try.prog W 0 (fun _ => true) true Try.f12.params.toList args.toList ds p) (hsz : (DataW.weightsEach Try.prog Try.f12.params.toList ds).all (· ≤ reachBytes) = true) :
    Calls Try.prog 12 args W fun e W' => e = .returned (.bool true) ∧ Below W.heap.size W W' := by
  rw [Try.params12] at hA hval hsz
  obtain ⟨v0, vs0, d0, ds0, p0, q0, hargs, rfl, rfl, h0, r0⟩ := trodAll_cons hA
  obtain ⟨v1, vs1, d1, ds1, p1, q1, rfl, rfl, rfl, h1, r1⟩ := trodAll_cons r0
  obtain ⟨v2, vs2, d2, ds2, p2, q2, rfl, rfl, rfl, h2, r2⟩ := trodAll_cons r1
  obtain ⟨rfl, rfl, rfl⟩ := trodAll_nil r2
  obtain rfl : args = #[v0, v1, v2] := by cases args; simp_all
  obtain ⟨cs0, rfl, a0_0, a0_1, a0_2, rfl, w0⟩ := Kit.open_agg Try.underlying23 (Kit.opensR_iib Try.underlying23 (by kernel_rfl) (by kernel_rfl) Try.underlying3 Try.underlying3 Try.underlying4) (hval 0 23 v0 rfl rfl) hsz (j := 0) rfl rfl h0
  obtain ⟨A1, l1, c1, rfl, w1⟩ := Kit.open_lmsg Try.underlying24 (by kernel_rfl) (by kernel_rfl) Try.underlying70 (by kernel_rfl) Try.underlying3 Try.underlying3 Try.underlying3 (hval 1 24 v1 rfl rfl) hsz (j := 1) rfl rfl h1
  obtain ⟨a2, rfl, w2⟩ := Kit.open_i Try.underlying3 (hval 2 3 v2 rfl rfl) h2
  exact Go.Proofs.Ytkfghiofmamdnaa.PA.core_FnExactBuffersAt a0_0 a0_1 a0_2 A1 c1 l1 a2 W w0 w1 w2
set_option maxRecDepth 100000 in
theorem over : Rows.fnExactBuffersAtRow.holds Try.pinned (OpenSpec.ofChange Rows.fnExactBuffersAtSpec) :=
  OpenClaim.holds_of_wide 12 Try.f12 rfl rfl rfl rfl rfl rfl rfl ⟨rfl, rfl, rfl, rfl, rfl⟩ rfl rfl rfl rfl rfl (by kernel_rfl) Try.func12 (by kernel_rfl)
    (of_decide_eq_true (by kernel_rfl)) (by unfold Func.isWrapper; first | (rw [if_pos (by decide +kernel)]; kernel_rfl) | (rw [if_neg (by decide +kernel)]; exact ⟨rfl, rfl⟩))
    (fun os started H enc _ => Kit.law_lifted (C := Try.checked) (s := Rows.fnExactBuffersAtSpec) (rt := 4) Kit.laidOut Kit.own started (by kernel_rfl) Try.func12 rfl
      (fun ds hl => match ds, hl with | [_, _, _], _ => ⟨rfl, rfl, rfl⟩) rfl Try.underlying4 read
      (ChangeSpec.witness6 (enc := enc) (C := Try.checked) false ⟨#[], #[.agg #[.int .i64 0, .int .i64 0, .bool false], .slice none 0 0, .int .i64 0], []⟩ 8 (by kernel_rfl) (by kernel_rfl) (by kernel_rfl) (by kernel_rfl)) calls)
theorem proved : Rows.FnExactBuffersAtSaid := over
#print axioms proved
end Go.Proofs.Ytkfghiofmamdnaa.fnExactBuffersAt
namespace Go.Proofs.Ytkfghiofmamdnaa
theorem fnExactBuffersAt_holds : Rows.FnExactBuffersAtSaid := fnExactBuffersAt.proved
end Go.Proofs.Ytkfghiofmamdnaa
