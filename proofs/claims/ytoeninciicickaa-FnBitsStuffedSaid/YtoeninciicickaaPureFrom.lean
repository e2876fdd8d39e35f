/- Bytes of bits: what the printed functions tell, and that they come back; no condition but lengths. -/
import Derived.Test.YtoeninciicickaaPureBits
namespace Go.Proofs.Ytoeninciicickaa.PA
open Go Go.RowKit Go.Proofs.YtoeninciicickaaW.PrintWords Go.Proofs.YtoeninciicickaaW.PrintLast Go.Proofs.YtoeninciicickaaW.PrintMore
set_option linter.unusedVariables false
theorem valOf_snoc (c : List Int) (x : Int) : ∀ a, valOf a (c ++ [x]) = 2 * valOf a c + x := by
  induction c with
  | nil => intro a; rfl
  | cons y c ih => intro a; exact ih _
theorem valOf_range (c : List Int) (hb : isBits c) : ∀ a, 0 ≤ a → 0 ≤ valOf a c ∧ valOf a c ≤ (a + 1) * 2 ^ c.length - 1 := by
  induction c with
  | nil => intro a ha; simp only [valOf, List.length_nil]; omega
  | cons y c ih =>
    intro a ha
    obtain ⟨hy, hc⟩ := bits_cons hb
    have h := ih hc (2 * a + y) (by omega)
    simp only [valOf, List.length_cons, Int.pow_succ]
    refine ⟨h.1, ?_⟩
    have hp : (0 : Int) ≤ 2 ^ c.length := Int.pow_nonneg (by omega)
    have : (2 * a + y + 1) * 2 ^ c.length ≤ (a + 1) * (2 ^ c.length * 2) := by
      rw [show (a + 1) * (2 ^ c.length * 2) = (2 * a + 2) * 2 ^ c.length by rw [← Int.mul_assoc, Int.mul_comm, ← Int.mul_assoc]; congr 1; omega]
      exact Int.mul_le_mul_of_nonneg_right (by omega) hp
    omega
theorem pow8 {n : Nat} (h : n ≤ 8) : (2 : Int) ^ n ≤ 2 ^ 8 := by
  rcases (by omega : n = 0 ∨ n = 1 ∨ n = 2 ∨ n = 3 ∨ n = 4 ∨ n = 5 ∨ n = 6 ∨ n = 7 ∨ n = 8) with rfl | rfl | rfl | rfl | rfl | rfl | rfl | rfl | rfl <;> decide
/-- The bits of the j-th byte among the first i bits. -/
def chunk (x : List Int) (i j : Nat) : List Int := ((x.take i).drop (8 * j)).take 8
theorem chunk_bits {x : List Int} (h : isBits x) (i j : Nat) : isBits (chunk x i j) := fun y hy => h y (List.mem_of_mem_take (List.mem_of_mem_drop (List.mem_of_mem_take hy)))
theorem chunk_len (x : List Int) (i j : Nat) : (chunk x i j).length ≤ 8 := by simp [chunk]; omega
theorem chunk_here (x : List Int) (i : Nat) (h : i < x.length) : chunk x (i + 1) (i / 8) = chunk x i (i / 8) ++ [x[i]] := by
  have e := Nat.div_add_mod i 8
  have e2 := Nat.mod_lt i (show 0 < 8 by omega)
  unfold chunk
  rw [List.take_succ_eq_append_getElem h, List.drop_append_of_le_length (by simp; omega)]
  have hl : ((x.take i).drop (8 * (i / 8))).length ≤ 7 := by simp; omega
  generalize (x.take i).drop (8 * (i / 8)) = c at hl ⊢
  rw [List.take_of_length_le (by simp; omega), List.take_of_length_le (by omega)]
theorem chunk_other (x : List Int) (i j : Nat) (h : i < x.length) (hj : j ≠ i / 8) : chunk x (i + 1) j = chunk x i j := by
  have e := Nat.div_add_mod i 8
  have e2 := Nat.mod_lt i (show 0 < 8 by omega)
  unfold chunk
  rcases Nat.lt_or_gt_of_ne hj with c | c
  · rw [List.take_succ_eq_append_getElem h, List.drop_append_of_le_length (by simp; omega), List.take_append_of_le_length (by simp; omega)]
  · rw [List.drop_of_length_le (by simp; omega), List.drop_of_length_le (by simp; omega)]
theorem fromL_len : ∀ (m : Nat) (x : List Int), (fromL m x).length = m
  | 0, _ => rfl
  | m + 1, x => by rw [fromL, List.length_cons, fromL_len m]
theorem fromL_at : ∀ (m : Nat) (x : List Int) (j : Nat), j < m → (fromL m x).getD j 0 = valOf 0 ((x.drop (8 * j)).take 8)
  | 0, _, _, h => by omega
  | m + 1, x, 0, _ => by simp [fromL]
  | m + 1, x, j + 1, h => by
    rw [fromL, List.getD_cons_succ, fromL_at m (x.drop 8) j (by omega), List.drop_drop]
    congr 3
    omega
theorem from_l0 (x : List Int) (hb : isBits x) (m : Nat) (hm : m ≤ 50) (hx : x.length = 8 * m) (d : Nat) : ∀ (i : Nat) (out : List Int), i ≤ x.length → x.length - i = d → out.length = m → (∀ j, j < m → out.getD j 0 = valOf 0 (chunk x i j)) →
    Tells (fun k => impl_fromBits.l0 k out x (x.length : Int) (i : Int)) (fromL m x, true) := by
  induction d with
  | zero =>
    intro i out h1 hd ho hj
    have e : out = fromL m x := by
      refine List.ext_getElem (by rw [fromL_len, ho]) fun j h1 h2 => ?_
      have h3 := hj j (by omega)
      have h4 := fromL_at m x j (by omega)
      rw [List.getD_eq_getElem?_getD, List.getElem?_eq_getElem (by omega), Option.getD_some] at h3 h4
      have h5 : x.take i = x := List.take_of_length_le (by omega)
      rw [h3, h4, chunk, h5]
    refine Tells.succ (Tells.now fun k => ?_)
    simp only [impl_fromBits.l0]
    rw [if_neg (by omega), e]
  | succ d ih =>
    intro i out h1 hd ho hj
    have hin : i < x.length := by omega
    have e := Nat.div_add_mod i 8
    have e2 := Nat.mod_lt i (show 0 < 8 by omega)
    have hq : i / 8 < m := by omega
    have hv := hj (i / 8) hq
    have hr := valOf_range (chunk x i (i / 8)) (chunk_bits hb _ _) 0 (by omega)
    have hp : (2 : Int) ^ (chunk x i (i / 8)).length ≤ 2 ^ 8 := pow8 (chunk_len x i (i / 8))
    have hxi := bits_at hb hin
    have h := ih (i + 1) (out.set (i / 8) (2 * out.getD (i / 8) 0 + x[i])) (by omega) (by omega) (by simpa using ho) (fun j hjm => by
      by_cases c : j = i / 8
      · subst c
        rw [List.getD_eq_getElem?_getD, List.getElem?_set_self (by omega), Option.getD_some, chunk_here x i hin, valOf_snoc, hv]
      · rw [List.getD_eq_getElem?_getD, List.getElem?_set_ne (by omega), ← List.getD_eq_getElem?_getD, chunk_other x i j hin c, hj j hjm])
    have et : Int.tdiv (i : Int) 8 = ((i / 8 : Nat) : Int) := by
      rw [Int.tdiv_eq_ediv_of_nonneg (by omega)]
      omega
    have er : rd out ((i / 8 : Nat) : Int) = out.getD (i / 8) 0 := rd_nat out (i / 8)
    generalize hg : out.getD (i / 8) 0 = v at h er hv
    rw [← hv] at hr
    obtain ⟨Q, hQ⟩ : ∃ Q : Int, Q = ((i / 8 : Nat) : Int) := ⟨_, rfl⟩
    have hQt : Q.toNat = i / 8 := by omega
    rw [← hQ] at et er
    refine Tells.step (fun k => ?_) h
    simp only [impl_fromBits.l0, et, rd_at x i hin]
    rw [w64 (x := Q) (by omega) (by omega), er, hQt, if_pos (by omega), if_pos (by omega), if_pos (by omega), if_pos (by omega), if_pos (by omega), w64 (x := 2 * v) (by omega) (by omega), w64 (x := 2 * v + x[i]) (by omega) (by omega), w64 (x := (i : Int) + 1) (by omega) (by omega)]
    rfl
theorem val_l1 (x : List Int) (out : List Int) (i : Int) (c : List Int) (hb : isBits c) (hc : c.length ≤ 8) (ho : out.length ≤ 1000) (q : List Int × Bool) (d : Nat) : ∀ (j : Nat) (v : Int), j ≤ c.length → c.length - j = d → 0 ≤ v → v + 1 ≤ 2 ^ j →
    Tells (fun k => spec_frFrom.l0 k x (out ++ [valOf v (c.drop j)]) (wrap64 (i + 8))) q → Tells (fun k => spec_frFrom.l1 k x out i v c (c.length : Int) (j : Int)) q := by
  induction d with
  | zero =>
    intro j v h1 hd h0 hv h
    rw [List.drop_of_length_le (by omega)] at h
    refine Tells.step (fun k => ?_) h
    simp only [spec_frFrom.l1, valOf]
    rw [if_neg (by omega), if_pos (by omega)]
  | succ d ih =>
    intro j v h1 hd h0 hv h
    have hin : j < c.length := by omega
    have hx := bits_at hb hin
    have hp : (2 : Int) ^ j ≤ 2 ^ 8 := pow8 (by omega)
    rw [List.drop_eq_getElem_cons hin, valOf] at h
    refine Tells.step (fun k => ?_) (ih (j + 1) (2 * v + c[j]) (by omega) (by omega) (by omega) (by rw [Int.pow_succ]; omega) h)
    simp only [spec_frFrom.l1, rd_at c j hin]
    rw [if_pos (by omega), if_pos (by omega), if_pos (by omega), w64 (x := 2 * v) (by omega) (by omega), w64 (x := 2 * v + c[j]) (by omega) (by omega), w64 (x := (j : Int) + 1) (by omega) (by omega)]
    rfl
theorem specFrom_l0 (x : List Int) (hb : isBits x) (hx : x.length ≤ 400) (m : Nat) : ∀ (n : Nat) (out : List Int), x.length = 8 * (n + m) → out.length = n →
    Tells (fun k => spec_frFrom.l0 k x out ((8 * n : Nat) : Int)) (out ++ fromL m (x.drop (8 * n)), true) := by
  induction m with
  | zero =>
    intro n out hn ho
    refine Tells.succ (Tells.now fun k => ?_)
    simp only [spec_frFrom.l0, fromL, List.append_nil]
    rw [if_neg (by omega)]
  | succ m ih =>
    intro n out hn ho
    have hc : ((x.take (8 * n + 8)).drop (8 * n)).length = 8 := by simp; omega
    have hcb : isBits ((x.take (8 * n + 8)).drop (8 * n)) := fun y hy => hb y (List.mem_of_mem_take (List.mem_of_mem_drop hy))
    have he : (x.take (8 * n + 8)).drop (8 * n) = (x.drop (8 * n)).take 8 := by rw [List.drop_take]; congr 1; omega
    have h := ih (n + 1) (out ++ [valOf 0 ((x.drop (8 * n)).take 8)]) (by omega) (by simp; omega)
    rw [show out ++ fromL (m + 1) (x.drop (8 * n)) = out ++ [valOf 0 ((x.drop (8 * n)).take 8)] ++ fromL m (x.drop (8 * (n + 1))) from by rw [fromL, List.drop_drop]; simp; congr 2]
    obtain ⟨I, hI⟩ : ∃ I : Int, I = ((8 * n : Nat) : Int) := ⟨_, rfl⟩
    have hIt : I.toNat = 8 * n := by omega
    have hIu : (I + 8).toNat = 8 * n + 8 := by omega
    have hv := val_l1 x out I ((x.take (8 * n + 8)).drop (8 * n)) hcb (by omega) (by omega) (out ++ [valOf 0 ((x.drop (8 * n)).take 8)] ++ fromL m (x.drop (8 * (n + 1))), true) 8 0 0 (by omega) (by omega) (by omega) (by omega) (by
      rw [List.drop_zero, he, w64 (x := I + 8) (by omega) (by omega), show I + 8 = ((8 * (n + 1) : Nat) : Int) from by omega]
      exact h)
    rw [← hI]
    refine Tells.step (fun k => ?_) hv
    simp only [spec_frFrom.l0]
    rw [w64 (x := I + 8) (by omega) (by omega), if_pos (by omega), if_pos (by omega), if_pos (by omega), if_pos (by omega), hIt, hIu]
    rfl
/-- What FromBits tells. -/
def fromR (x : List Int) : List Int × Bool := if areBitsB x = true then (if x.length % 8 = 0 ∧ x.length ≤ 320 then (fromL (x.length / 8) x, true) else ([], false)) else ([], false)
theorem fromBits_tells (x : List Int) (hl : x.length ≤ 1000000) : Tells (fun k => impl_FromBits.f k x) (fromR x) ∧ Tells (fun k => spec_FromBits.f k x) (fromR x) := by
  obtain ⟨h1, h2⟩ := areBits_tells x hl
  unfold fromR
  cases c : areBitsB x
  · rw [c] at h1 h2
    constructor
    · simp only [impl_FromBits.f, h1, Option.bind_some]
      exact Tells.now fun _ => rfl
    · simp only [spec_FromBits.f]
      exact Tells.bind h2 (Tells.now fun _ => rfl)
  · rw [c] at h1 h2
    obtain ⟨k1, k2⟩ := areBits_of c
    simp only [if_true]
    by_cases c2 : x.length % 8 = 0
    · by_cases c3 : x.length ≤ 320
      · rw [if_pos ⟨c2, c3⟩]
        have hm : x.length = 8 * (x.length / 8) := by omega
        have hw : wrap64 ((x.length : Int) / 8) = ((x.length / 8 : Nat) : Int) := by rw [w64 (by omega) (by omega)]; omega
        have g1 := from_l0 x k2 (x.length / 8) (by omega) hm x.length 0 (List.replicate (x.length / 8) 0) (by omega) (by omega) (by simp) (fun j hj => by simp [chunk, valOf, List.getD_eq_getElem?_getD, hj])
        have g2 := specFrom_l0 x k2 k1 (x.length / 8) 0 [] (by omega) rfl
        simp only [Nat.mul_zero, List.drop_zero, List.nil_append] at g2
        constructor
        · simp only [impl_FromBits.f, h1, Option.bind_some, if_true, impl_fromBits.f]
          have c8 : ((x.length : Int) % 8 = 0) = True := eq_true (by omega)
          have d3 : decide ((x.length : Int) > 320) = false := decide_eq_false (by omega)
          simp only [c8, if_true, d3]
          refine Tells.bind (a := (fromL (x.length / 8) x, true)) (Tells.step (f := fun k => impl_fromBits.l0 k (List.replicate (x.length / 8) 0) x (x.length : Int) ((0 : Nat) : Int)) (fun k => ?_) g1) (Tells.now fun _ => rfl)
          simp only [impl_fromBits.j0, hw, Int.toNat_natCast, Bool.false_eq_true, if_false]
          rw [if_pos (by omega), if_pos (by omega)]
          rfl
        · simp only [spec_FromBits.f]
          refine Tells.bind h2 ?_
          have c8 : ((x.length : Int) % 8 = 0) = True := eq_true (by omega)
          have d3 : ((x.length : Int) > 320) = False := eq_false (by omega)
          simp only [if_true, spec_frFrom.f, c8, d3, if_false]
          exact Tells.bind g2 (Tells.now fun _ => rfl)
      · rw [if_neg (by omega)]
        constructor
        · simp only [impl_FromBits.f, h1, Option.bind_some, if_true, impl_fromBits.f]
          have c8 : ((x.length : Int) % 8 = 0) = True := eq_true (by omega)
          have d3 : decide ((x.length : Int) > 320) = true := decide_eq_true (by omega)
          simp only [c8, if_true, d3]
          exact Tells.bind (a := (([] : List Int), false)) (Tells.succ (Tells.now fun k => by simp only [impl_fromBits.j0, if_true])) (Tells.now fun _ => rfl)
        · simp only [spec_FromBits.f]
          refine Tells.bind h2 ?_
          have d3 : ((x.length : Int) > 320) = True := eq_true (by omega)
          simp only [if_true, d3]
          exact Tells.now fun _ => rfl
    · rw [if_neg (by omega)]
      constructor
      · simp only [impl_FromBits.f, h1, Option.bind_some, if_true, impl_fromBits.f]
        have c8 : ((x.length : Int) % 8 = 0) = False := eq_false (by omega)
        simp only [c8, if_false]
        exact Tells.bind (a := (([] : List Int), false)) (Tells.succ (Tells.now fun k => by simp only [impl_fromBits.j0, if_true])) (Tells.now fun _ => rfl)
      · simp only [spec_FromBits.f]
        refine Tells.bind h2 ?_
        have c8 : ((x.length : Int) % 8 = 0) = False := eq_false (by omega)
        simp only [if_true, spec_frFrom.f, c8, if_false]
        by_cases c3 : (x.length : Int) > 320
        · simp only [eq_true c3, if_true]
          exact Tells.now fun _ => rfl
        · simp only [eq_false c3, if_false]
          exact Tells.now fun _ => rfl
theorem val_low (b : Int) (h : 0 ≤ b ∧ b ≤ 255) : valOf 0 (lowBits b 8) = b := by
  simp only [lowBits, bitf, valOf]
  omega
theorem low_snoc (v x : Int) (hx : x = 0 ∨ x = 1) : ∀ j, lowBits (2 * v + x) (j + 1) = lowBits v j ++ [x] := by
  intro j
  induction j with
  | zero =>
    simp only [lowBits, bitf, Int.pow_zero, List.nil_append, List.cons.injEq, and_true]
    omega
  | succ j ih =>
    have e : bitf (2 * v + x) (j + 1) = bitf v j := by
      unfold bitf
      rw [Int.pow_succ, Int.mul_comm (2 ^ j) 2, ← Int.ediv_ediv_of_nonneg (by omega)]
      congr 2
      omega
    rw [lowBits, ih, e, lowBits, List.cons_append]
theorem low_vals (n : Nat) : ∀ c : List Int, c.length = n → isBits c → lowBits (valOf 0 c) n = c := by
  induction n with
  | zero =>
    intro c hc _
    obtain rfl : c = [] := List.length_eq_zero_iff.1 hc
    rfl
  | succ n ih =>
    intro c hc hb
    rcases List.eq_nil_or_concat c with rfl | ⟨d, x, rfl⟩
    · simp at hc
    · rw [List.concat_eq_append] at hc hb ⊢
      rw [valOf_snoc, low_snoc _ _ (hb x (by simp)), ih d (by simpa using hc) (fun y hy => hb y (by simp [hy]))]
theorem low_val (c : List Int) (hb : isBits c) (hl : c.length = 8) : lowBits (valOf 0 c) 8 = c := low_vals 8 c hl hb
theorem from_bits (l : List Int) (hb : inBytes l) : fromL l.length (bitsL l) = l := by
  induction l with
  | nil => rfl
  | cons b l ih =>
    have h8 := lowBits_len b 8
    rw [List.length_cons, fromL, bitsL, List.take_append_of_le_length (by omega), List.take_of_length_le (by omega), List.drop_append_of_le_length (by omega), List.drop_of_length_le (by omega), List.nil_append,
      ih (fun x hx => hb x (by simp [hx])), val_low b (hb b (by simp))]
theorem bits_from (m : Nat) : ∀ x : List Int, isBits x → x.length = 8 * m → bitsL (fromL m x) = x ∧ inBytes (fromL m x) := by
  induction m with
  | zero =>
    intro x hb hl
    obtain rfl : x = [] := List.length_eq_zero_iff.1 (by omega)
    exact ⟨rfl, fun y hy => by simp [fromL] at hy⟩
  | succ m ih =>
    intro x hb hl
    have hc : (x.take 8).length = 8 := by simp; omega
    have hcb : isBits (x.take 8) := fun y hy => hb y (List.mem_of_mem_take hy)
    obtain ⟨g1, g2⟩ := ih (x.drop 8) (fun y hy => hb y (List.mem_of_mem_drop hy)) (by simp; omega)
    have hr := valOf_range (x.take 8) hcb 0 (by omega)
    rw [hc] at hr
    constructor
    · rw [fromL, bitsL, g1, low_val _ hcb hc, List.take_append_drop]
    · intro y hy
      rw [fromL] at hy
      rcases List.mem_cons.1 hy with rfl | hy
      · exact ⟨hr.1, by have := hr.2; omega⟩
      · exact g2 y hy
theorem bitsL_bits (l : List Int) : isBits (bitsL l) := by
  have h : ∀ (b : Int) (j : Nat), isBits (lowBits b j) := by
    intro b j
    induction j with
    | zero => intro x hx; simp [lowBits] at hx
    | succ j ih =>
      intro x hx
      rw [lowBits] at hx
      rcases List.mem_cons.1 hx with rfl | hx
      · simp only [bitf]; omega
      · exact ih x hx
  induction l with
  | nil => intro x hx; simp [bitsL] at hx
  | cons b l ih =>
    intro x hx
    rw [bitsL] at hx
    rcases List.mem_append.1 hx with hx | hx
    · exact h b 8 x hx
    · exact ih x hx
/-- What the law wants of bits and bytes. -/
theorem bits_back {l r : List Int} (h : bitsR l = (r, true)) : fromR r = (l, true) ∧ r.length = 8 * l.length ∧ l.length ≤ 40 := by
  unfold bitsR at h
  cases c : areBytesB l
  · rw [c] at h; simp at h
  · rw [c] at h
    obtain rfl : bitsL l = r := by simpa using congrArg Prod.fst h
    obtain ⟨k1, k2⟩ := areBytes_of c
    have hl := bitsL_len l
    refine ⟨?_, hl, k1⟩
    rw [fromR, areBits_to (by omega) (bitsL_bits l), if_pos rfl, if_pos (by omega), hl, Nat.mul_div_cancel_left _ (by omega), from_bits l k2]
theorem from_back {x r : List Int} (h : fromR x = (r, true)) : bitsR r = (x, true) ∧ r.length ≤ 40 := by
  unfold fromR at h
  cases c : areBitsB x
  · rw [c] at h; simp at h
  · rw [c] at h
    simp only [if_true] at h
    by_cases c2 : x.length % 8 = 0 ∧ x.length ≤ 320
    · rw [if_pos c2] at h
      obtain rfl : fromL (x.length / 8) x = r := by simpa using congrArg Prod.fst h
      obtain ⟨g1, g2⟩ := bits_from (x.length / 8) x (areBits_of c).2 (by omega)
      have hl := fromL_len (x.length / 8) x
      refine ⟨?_, by omega⟩
      rw [bitsR, areBytes_to (by omega) g2, g1]
      rfl
    · rw [if_neg c2] at h; simp at h
end Go.Proofs.Ytoeninciicickaa.PA
