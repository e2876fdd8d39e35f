/- A machine of values, second part: calls, regions and functions; no condition but what each theorem names. -/
import Derived.Test.YtdblfocadcgmaaaEvA
import Derived.LoopN
import Derived.Laws.Sem
import Derived.Lib.SliceRun
set_option linter.unusedVariables false
set_option linter.unusedSimpArgs false
namespace Go.Proofs.Ytdblfocadcgmaaa.Ev
open Go
set_option linter.unusedSimpArgs false
set_option linter.unusedVariables false

section
variable {P : Program} {cx : Cx} {w w' : World} {S : Nat → Prop} {g g' : Gh} {h h' : Hp} {s : Env} {a : Act}

theorem ref_of_ow {t : T} {rv : Value} {F F' : Nat → Prop} {n : Name} {z L : Nat} (ho : Ow w S t rv F) (hz : t.shp = some (z, L)) : SvOk w S (upd g n (rv, F')) (upd h n (some t)) (.ref n [] z 0 L) rv := by
  cases ho with
  | ints0 k => simp only [T.shp, Option.some.injEq, Prod.mk.injEq] at hz; obtain ⟨rfl, rfl⟩ := hz; exact ref_new (by simp [T.shp]) (by simp) (by simp) (Nat.le_refl _)
  | rows0 k => simp only [T.shp, Option.some.injEq, Prod.mk.injEq] at hz; obtain ⟨rfl, rfl⟩ := hz; exact ref_new (by simp [T.shp]) (by simp) (by simp) (Nat.le_refl _)
  | ints k xs A C _ h1 h2 h3 h4 => simp only [T.shp, Option.some.injEq, Prod.mk.injEq] at hz; obtain ⟨rfl, rfl⟩ := hz; exact ref_new (by simp [T.shp]) (by intro x e; cases e; exact h2.1) (by simp) h3
  | rows k xs A C vs G _ h1 h2 h3 h4 h5 h6 h7 h8 => simp only [T.shp, Option.some.injEq, Prod.mk.injEq] at hz; obtain ⟨rfl, rfl⟩ := hz; exact ref_new (by simp [T.shp]) (by intro x e; cases e; exact h2.1) (by simp) h3
  | sh => simp [T.shp] at hz
  | dead => simp [T.shp] at hz
  | int => simp [T.shp] at hz
  | bool => simp [T.shp] at hz
  | str => simp [T.shp] at hz
  | agg => simp [T.shp] at hz
  | ptr => simp [T.shp] at hz

/-- The cells of a row's elements, one behind the other. -/
def cat (vs : Nat → Value) : Nat → List Value
  | 0 => []
  | n + 1 => cat vs n ++ (vs n).cells.toList

theorem cat_len {vs : Nat → Value} {sz : Nat} : ∀ (n : Nat), (∀ i, i < n → (vs i).cells.size = sz) → (cat vs n).length = n * sz := by
  intro n
  induction n with
  | zero => intro _; simp [cat]
  | succ n ih =>
    intro h
    rw [cat, List.length_append, ih (fun i hi => h i (by omega)), Nat.add_mul]
    simp [h n (by omega)]

theorem cat_get {vs : Nat → Value} {sz : Nat} : ∀ (n : Nat), (∀ i, i < n → (vs i).cells.size = sz) → ∀ i j, i < n → j < sz → (cat vs n)[i * sz + j]? = (vs i).cells[j]? := by
  intro n
  induction n with
  | zero => intro _ i j hi; omega
  | succ n ih =>
    intro h i j hi hj
    have hl := cat_len n (fun i hi => h i (by omega))
    rw [cat]
    by_cases hin : i < n
    · have : (i + 1) * sz ≤ n * sz := Nat.mul_le_mul_right _ hin
      rw [Nat.add_mul] at this
      rw [List.getElem?_append_left (by omega)]
      exact ih (fun i hi => h i (by omega)) i j hin hj
    · have : i = n := by omega
      subst this
      rw [List.getElem?_append_right (by omega), hl]
      simp

theorem cat_at {vs : Nat → Value} {sz : Nat} : ∀ (n : Nat), (∀ i, i < n → (vs i).cells.size = sz) → ∀ (j : Nat) v, (cat vs n)[j]? = some v → ∃ i k, i < n ∧ k < sz ∧ j = i * sz + k ∧ (vs i).cells[k]? = some v := by
  intro n
  induction n with
  | zero => intro _ j v hj; simp [cat] at hj
  | succ n ih =>
    intro h j v hj
    have hl := cat_len n (fun i hi => h i (by omega))
    rw [cat] at hj
    by_cases hjn : j < n * sz
    · rw [List.getElem?_append_left (by omega)] at hj
      obtain ⟨i, k, h1, h2, h3, h4⟩ := ih (fun i hi => h i (by omega)) j v hj
      exact ⟨i, k, by omega, h2, h3, h4⟩
    · rw [List.getElem?_append_right (by omega), hl] at hj
      have hlt := get_lt hj
      simp only [Array.length_toList, h n (by omega)] at hlt
      exact ⟨n, j - n * sz, by omega, hlt, by omega, by simpa using hj⟩

/-- A row's elements where they lie. -/
structure RowAt (w : World) (S : Nat → Prop) (sz : Nat) (xs : List T) (b : Option Addr) (C : Nat) (F : Nat → Prop) (vs : Nat → Value) (G : Nat → Nat → Prop) : Prop where
  blk : ∀ A, b = some A → Blk w A (C * sz) ∧ F A.block ∧ ∀ i b', G i b' → b' ≠ A.block
  nil : b = none → xs = [] ∧ C = 0
  le : xs.length ≤ C
  size : ∀ i, i < xs.length → (vs i).cells.size = sz
  at_ : ∀ A, b = some A → ∀ i, i < xs.length → At w (A.add (i * sz)) (vs i)
  own : ∀ (i : Nat) t, xs[i]? = some t → Ow w S t (vs i) (G i)
  disj : ∀ i j b, i ≠ j → G i b → ¬ G j b
  sub : ∀ i b, G i b → F b
  one : ∀ i, i < xs.length → ∀ (j : Nat) v, (vs i).cells[j]? = some v → v.oneCell' = true

theorem ow_cells_one {t : T} {v : Value} {F : Nat → Prop} (ho : Ow w S t v F) : ∀ (j : Nat) c, v.cells[j]? = some c → c.oneCell' = true := by
  intro j c hj
  cases h : aggT t with
  | false =>
    obtain ⟨h1, h2⟩ := ho.one h
    rw [h2] at hj
    rcases j with _ | j
    · simp at hj; subst hj; exact h1
    · simp at hj
  | true =>
    cases ho with
    | agg ts cs vs G _ h1 h2 h2' h3 h4 h5 =>
      simp only [Value.cells] at hj
      have hlt : j < ts.length := by
        rw [← h1]
        rcases Nat.lt_or_ge j cs.size with h | h
        · exact h
        · simp [Array.getElem?_eq_none h] at hj
      have hg := h2 j ts[j] (List.getElem?_eq_getElem hlt)
      rw [hj] at hg
      obtain rfl := by simpa using hg
      exact ((h3 j _ (List.getElem?_eq_getElem hlt)).one (h2' j _ (List.getElem?_eq_getElem hlt))).1
    | _ => simp [aggT] at h

theorem rowAt_of {sz : Nat} {xs : List T} {v : Value} {F : Nat → Prop} (ho : Ow w S (.rows sz xs) v F) : ∃ b C vs G, v = .slice b xs.length C ∧ RowAt w S sz xs b C F vs G := by
  cases ho with
  | rows0 => exact ⟨none, 0, fun _ => default, fun _ _ => False, rfl, by simp, by simp, by simp, by simp, by simp, by simp, by simp, by simp, by simp⟩
  | rows _ _ A C vs G _ h1 h2 h3 h4 h5 h6 h7 h8 =>
    have hi : ∀ i (hl : i < xs.length), xs[i]? = some (xs[i]'hl) := fun i hl => List.getElem?_eq_getElem hl
    refine ⟨some A, C, vs, G, rfl, ?_, by simp, h3, fun i hl => h4 i _ (by rw [hi i hl]), ?_, h6, h7, fun i b hb => (h8 i b hb).1, fun i hl => ow_cells_one (h6 i _ (by rw [hi i hl]))⟩
    · intro A' e; cases e; exact ⟨h2, h1, fun i b hb => (h8 i b hb).2⟩
    · intro A' e i hl; cases e; exact h5 i _ (by rw [hi i hl])

theorem append_rows {t t' ty e : TypeId} {sz : Nat} {z : Value} {xs ys : List T} {v x : Value} {Ft Fy : Nat → Prop} (he : ElT P t e sz z) (ht' : ∃ d, P.underlying t' = some d ∧ ∀ k, d ≠ .int k) (ho : Ow w S (.rows sz xs) v Ft) (hy : Ow w S (.rows sz ys) x Fy)
    (hFt : ∀ b, Ft b → b < w.heap.size) (hFy : ∀ b, Fy b → b < w.heap.size ∧ ¬ Ft b) (hmax : xs.length + ys.length < maxN) (hS : ∀ b, S b → b < w.heap.size ∧ ¬ Ft b) :
    ∃ w' rv, (Builtin.append_ #[t, t'] ty #[v, x]).run P w = .ok rv w' ∧ Ow w' S (.rows sz (xs ++ ys)) rv (fun b => Ft b ∨ Fy b ∨ (w.heap.size ≤ b ∧ b < w'.heap.size)) ∧ w'.os = w.os ∧ w'.tape = w.tape ∧ w'.output = w.output ∧ w.heap.size ≤ w'.heap.size ∧
      (∀ b, b < w.heap.size → ¬ Ft b → w'.heap[b]? = w.heap[b]?) := by
  obtain ⟨b, C, vs, G, rfl, r⟩ := rowAt_of ho
  obtain ⟨by_, Cy, us, Gy, rfl, ry⟩ := rowAt_of hy
  have hnl := cat_len (vs := us) (sz := sz) ys.length ry.size
  have hsrc : Src P w sz ys.length (.slice by_ ys.length Cy) (cat us ys.length) := by
    refine src_slice hnl (fun e => by rw [(ry.nil e).1]; rfl) ?_ ?_
    · intro A hA j u hj
      obtain ⟨i, k, h1, h2, rfl, h4⟩ := cat_at ys.length ry.size j u hj
      have := ry.at_ A hA i h1 k u h4
      rwa [add_add (ry.blk A hA).1.1] at this
    · intro u hu
      obtain ⟨j, hj⟩ := List.getElem?_of_mem hu
      obtain ⟨i, k, h1, h2, rfl, h4⟩ := cat_at ys.length ry.size j u hj
      exact ry.one i h1 k u h4
  have hol := cat_len (vs := vs) (sz := sz) xs.length r.size
  obtain ⟨w', b', C', e1, e2, e3, e4, e5, e6, e7, e8⟩ := append_run (P := P) (ty := ty) he ht' hsrc (fun A hA => (r.blk A hA).1) (fun e => by have := r.nil e; exact ⟨by rw [this.1]; rfl, this.2⟩) r.le (cat vs xs.length) hol (by
    intro A hA j u hj
    obtain ⟨i, k, h1, h2, rfl, h4⟩ := cat_at xs.length r.size j u hj
    have := r.at_ A hA i h1 k u h4
    rwa [add_add (r.blk A hA).1.1] at this) hmax
  have hw : ∀ k, k < w.heap.size → (∀ A, b = some A → k ≠ A.block) → w'.heap[k]? = w.heap[k]? := e6
  have hw' : ∀ b, b < w.heap.size → ¬ Ft b → w'.heap[b]? = w.heap[b]? := fun k hk hF => e6 k hk fun A hA hbA => hF (hbA ▸ (r.blk A hA).2.1)
  refine ⟨w', _, e1, ?_, e2, e3, e4, e5, hw'⟩
  rcases e8 with ⟨rfl, h2, rfl, rfl⟩ | ⟨A', rfl, h2, h3, h4, h5⟩
  · have hx0 : xs = [] := List.eq_nil_of_length_eq_zero (by omega)
    have hy0 : ys = [] := List.eq_nil_of_length_eq_zero (by omega)
    subst hx0; subst hy0
    exact .rows0 sz _
  · have hA'F : Ft A'.block ∨ Fy A'.block ∨ (w.heap.size ≤ A'.block ∧ A'.block < w'.heap.size) := by
      rcases h5 with h5 | h5
      · exact .inl (r.blk A' h5).2.1
      · exact .inr (.inr ⟨h5, h4⟩)
    have hGne : ∀ i b0, G i b0 → b0 ≠ A'.block ∧ w'.heap[b0]? = w.heap[b0]? := by
      intro i b0 hb
      have hlt := hFt b0 (r.sub i b0 hb)
      refine ⟨?_, hw b0 hlt fun A hA => (r.blk A hA).2.2 i b0 hb⟩
      rcases h5 with h5 | h5
      · exact (r.blk A' h5).2.2 i b0 hb
      · omega
    have hGyne : ∀ i b0, Gy i b0 → b0 ≠ A'.block ∧ w'.heap[b0]? = w.heap[b0]? := by
      intro i b0 hb
      have hF := hFy b0 (ry.sub i b0 hb)
      refine ⟨?_, hw' b0 hF.1 hF.2⟩
      rcases h5 with h5 | h5
      · rintro rfl; exact hF.2 (r.blk A' h5).2.1
      · omega
    have hSw : ∀ b0, S b0 → w'.heap[b0]? = w.heap[b0]? := fun b0 hb => hw' b0 (hS b0 hb).1 (hS b0 hb).2
    have hsize : ∀ (i : Nat) t, (xs ++ ys)[i]? = some t → ((fun i => if i < xs.length then vs i else us (i - xs.length)) i).cells.size = sz := by
      intro i t hi
      have := get_lt hi
      simp only [List.length_append] at this
      by_cases hl : i < xs.length
      · simp only [if_pos hl]; exact r.size i hl
      · simp only [if_neg hl]; exact ry.size _ (by omega)
    have hlen : (xs ++ ys).length = xs.length + ys.length := by simp
    have := Ow.rows (w := w') (S := S) sz (xs ++ ys) A' C' (fun i => if i < xs.length then vs i else us (i - xs.length)) (fun i b => if i < xs.length then G i b else Gy (i - xs.length) b) (fun b => Ft b ∨ Fy b ∨ (w.heap.size ≤ b ∧ b < w'.heap.size)) hA'F h2 (by rw [hlen]; exact e7) hsize ?_ ?_ ?_ ?_
    · rwa [hlen] at this
    · intro i t hi j c hj
      have hlt := get_lt hi
      have hj' : j < sz := by
        rw [← hsize i t hi]
        rcases Nat.lt_or_ge j ((fun i => if i < xs.length then vs i else us (i - xs.length)) i).cells.size with h | h
        · exact h
        · simp [Array.getElem?_eq_none h] at hj
      simp only [List.length_append] at hlt
      rw [add_add h2.1]
      refine h3 _ c ?_
      by_cases hl : i < xs.length
      · have hm : (i + 1) * sz ≤ xs.length * sz := Nat.mul_le_mul_right _ hl
        rw [Nat.add_mul] at hm
        rw [List.getElem?_append_left (by omega), cat_get xs.length r.size i j hl hj']
        simpa [hl] using hj
      · have hm : xs.length * sz ≤ i * sz := Nat.mul_le_mul_right _ (by omega)
        have hm2 : i * sz - xs.length * sz = (i - xs.length) * sz := by rw [Nat.sub_mul]
        rw [List.getElem?_append_right (by omega), hol, show i * sz + j - xs.length * sz = (i - xs.length) * sz + j by omega, cat_get ys.length ry.size _ j (by omega) hj']
        simpa [hl] using hj
    · intro i t hi
      by_cases hl : i < xs.length
      · rw [List.getElem?_append_left hl] at hi
        simp only [if_pos hl]
        exact (r.own i t hi).frame (fun b hb => (hGne i b hb).2) hSw
      · rw [List.getElem?_append_right (by omega)] at hi
        simp only [if_neg hl]
        exact (ry.own _ t hi).frame (fun b hb => (hGyne _ b hb).2) hSw
    · intro i j b0 hij hi hj
      have hx : ∀ i j, G i b0 → Gy j b0 → False := fun i j h1 h2 => (hFy b0 (ry.sub j b0 h2)).2 (r.sub i b0 h1)
      by_cases hl : i < xs.length <;> by_cases hl' : j < xs.length <;> simp only [hl, hl', if_true, if_false] at hi hj
      · exact r.disj i j b0 hij hi hj
      · exact hx _ _ hi hj
      · exact hx _ _ hj hi
      · exact ry.disj _ _ b0 (by omega) hi hj
    · intro i b0 hb
      by_cases hl : i < xs.length <;> simp only [hl, if_true, if_false] at hb
      · exact ⟨.inl (r.sub i b0 hb), (hGne i b0 hb).1⟩
      · exact ⟨.inr (.inl (ry.sub _ b0 hb)), (hGyne _ b0 hb).1⟩
end
end Go.Proofs.Ytdblfocadcgmaaa.Ev
namespace Go.Proofs.Ytdblfocadcgmaaa.Ev
open Go
set_option linter.unusedSimpArgs false
set_option linter.unusedVariables false

section
variable {P : Program} {cx : Cx} {w w' : World} {S : Nat → Prop} {g g' : Gh} {h h' : Hp} {s : Env} {a : Act}

/-- Behind a new or grown block. -/
theorem fin {n' : Name} {t' : T} {rv : Value} {F' Q : Nat → Prop} (hp1 : HpOk cx w S g h) (hn : h n' = none) (how : Ow w' S t' rv F') (hna : aggT t' = false) (e1 : w'.os = w.os) (e2 : w'.tape = w.tape) (e3 : w'.output = w.output) (e4 : w.heap.size ≤ w'.heap.size)
    (hblk : ∀ b, b < w.heap.size → ¬ Q b → w'.heap[b]? = w.heap[b]?) (hQ : ∀ b, Q b → (cx.M b ∨ cx.w0.heap.size ≤ b) ∧ ¬ S b ∧ b < w.heap.size ∧ ∀ n r, h n = some r → ¬ (g n).2 b) (hF' : ∀ b, F' b → Q b ∨ (w.heap.size ≤ b ∧ b < w'.heap.size)) :
    HpOk cx w' S (upd g n' (rv, F')) (upd h n' (some t')) ∧ ∀ y u, SvOk w S g h y u → SvOk w' S (upd g n' (rv, F')) (upd h n' (some t')) y u := by
  have hF : ∀ n r b, h n = some r → (g n).2 b → w'.heap[b]? = w.heap[b]? := fun n r b hr hb => hblk b (hp1.lt n r b hr hb) fun hq => (hQ b hq).2.2.2 n r hr hb
  have hS : ∀ b, S b → w'.heap[b]? = w.heap[b]? := fun b hb => hblk b (hp1.Slt b hb) fun hq => (hQ b hq).2.1 hb
  have hfr : Fr cx.M cx.w0 w' := ⟨e1.trans hp1.fr.os, e2.trans hp1.fr.tape, e3.trans hp1.fr.output, Nat.le_trans hp1.fr.size e4, fun b hb hm => by
    rw [hblk b (Nat.lt_of_lt_of_le hb hp1.fr.size) fun hq => by
      rcases (hQ b hq).1 with h | h
      · exact hm h
      · omega]
    exact hp1.fr.block b hb hm⟩
  refine ⟨(hp1.grow hfr hF hS e4).add hn how hna ?_ ?_, fun y u hy => hy.add hp1 hn hF hS⟩
  · intro b hb
    rcases hF' b hb with hq | ⟨h1, h2⟩
    · have := hQ b hq
      exact ⟨this.1, by omega, this.2.1⟩
    · exact ⟨.inr (Nat.le_trans hp1.fr.size h1), h2, fun hs => by have := hp1.Slt b hs; omega⟩
  · intro n r b hr hb hb'
    rcases hF' b hb' with hq | ⟨h1, h2⟩
    · exact (hQ b hq).2.2.2 n r hr hb
    · have := hp1.lt n r b hr hb; omega

theorem appName_none {x : SV} {q : T × Kill × Hp} {nm : Name} {v : Value} {g1 : Gh} {Ft : Nat → Prop} (hx : x.abs h = some q) (A : Abs cx w S g h v q.1 q.2.1 q.2.2 g1 Ft) (hn : h nm = none) : q.2.2 (appName nm x) = none := by
  have hnm : q.2.2 nm = none := by
    cases hq : q.2.2 nm with
    | none => rfl
    | some r =>
      obtain ⟨_, r', hr', _⟩ := A.shrink nm r hq
      rw [hn] at hr'
      simp at hr'
  unfold appName
  split
  · rename_i m z off l
    simp only [SV.abs, Option.bind_eq_some_iff, Option.map_eq_some_iff] at hx
    obtain ⟨_, _, _, _, rfl⟩ := hx
    simp
  · exact hnm

/-- The types of an append. -/
structure AppT (P : Program) (t t' e : TypeId) (sz : Nat) (z : Value) : Prop where
  el : ElT P t e sz z
  ty' : ∃ d, P.underlying t' = some d ∧ ∀ k, d ≠ .int k

theorem run_append_op {o : Oper} {x' y' : Operand} {t t' : TypeId} {rv : Value} (ho : o.op = .call { callee := .builtin .append, args := #[x', y'], argTypes := #[t, t'] })
    (hr : (Builtin.append_ #[t, t'] o.type #[a.eval x', a.eval y']).run P w = .ok rv w') : (execOp a.eval o).run P w = .ok (.value rv) w' := by
  simp [execOp, ho, resolve, invoke, builtin, hr]

theorem appI_inv {k : IntKind} {t t1 : T} {ys : List Int} (h : t.appI k ys = some t1) : ∃ xs, t = .ints k xs ∧ t1 = .ints k (xs ++ ys) ∧ xs.length + ys.length < maxN := by
  cases t with
  | ints k' xs =>
    simp only [T.appI] at h
    split at h
    · rename_i hc
      obtain ⟨rfl, hc⟩ := hc
      exact ⟨xs, rfl, by simpa using h.symm, hc⟩
    · simp at h
  | _ => simp [T.appI] at h

theorem app_inv {sz : Nat} {t t1 : T} {ys : List T} (h : t.app sz ys = some t1) : ∃ xs, t = .rows sz xs ∧ t1 = .rows sz (xs ++ ys) ∧ xs.length + ys.length < maxN := by
  cases t with
  | rows z xs =>
    simp only [T.app] at h
    split at h
    · rename_i hc
      obtain ⟨rfl, hc⟩ := hc
      exact ⟨xs, rfl, by simpa using h.symm, hc⟩
    · simp at h
  | _ => simp [T.app] at h

theorem wr_app_ik {o : Oper} {x' y' : Operand} {x y : X} {t t' e : TypeId} {k : IntKind} {z : Value} {nm : Name} {q : SV × Kill × Hp} (ho : o.op = .call { callee := .builtin .append, args := #[x', y'], argTypes := #[t, t'] }) (hx : OkX x' x) (hy : OkX y' y)
    (ht : AppT P t t' e 1 z) (hp : HpOk cx w S g h) (hs : ∀ k, SvOk w S g h (s k) (a.tmps.getD k undef)) (hn : h nm = none) (hq : wr (.app (.ik k) x y) s h nm = some q) : WrOk P cx w S g h o a q := by
  simp only [wr, Option.bind_eq_some_iff] at hq
  obtain ⟨ys, hys, hq⟩ := hq
  have hsrc := readBytes_ok (P := P) hp (ev_ok hy hs) hys
  simp only [appTo, Option.bind_eq_some_iff, Option.map_eq_some_iff] at hq
  obtain ⟨q1, hq1, zl, hzl, t1, ht1, rfl⟩ := hq
  obtain ⟨⟨g1, Ft, A⟩, hna, hone⟩ := abs_ok hp (ev_ok hx hs) hq1
  obtain ⟨xs, e0, e0', hmax⟩ := appI_inv ht1
  subst e0'
  have how := A.own
  rw [e0] at how
  obtain ⟨w', rv, r1, r2, r3, r4, r5, r6, r7, _⟩ := append_ints (P := P) (ty := o.type) ht.el ht.ty' how (fun b hb => (A.ft b hb).2.1) hsrc hmax (fun b hb => ⟨hp.Slt b hb, fun hf => (A.ft b hf).2.2 hb⟩)
  have hnn := appName_none hq1 A hn
  obtain ⟨f1, f2⟩ := fin (Q := Ft) A.hp hnn r2 rfl r3 r4 r5 r6 r7 (fun b hb => ⟨(A.ft b hb).1, (A.ft b hb).2.2, (A.ft b hb).2.1, fun n r hr hb' => A.apart n r b hr hb' hb⟩) (fun b hb => hb)
  refine ⟨w', _, _, rv, run_append_op ho r1, .inr rfl, f1, fun y u hy hk => f2 y u (A.keep y u hy hk), ?_⟩
  have hz : zl = (1, xs.length) := by rw [e0] at hzl; simpa [T.shp] using hzl.symm
  subst hz
  exact ref_of_ow r2 (by simp [T.shp])

theorem wr_app_rows {o : Oper} {x' y' : Operand} {x y : X} {t t' e : TypeId} {k : Knd} {z : Value} {nm : Name} {q : SV × Kill × Hp} (ho : o.op = .call { callee := .builtin .append, args := #[x', y'], argTypes := #[t, t'] }) (hx : OkX x' x) (hy : OkX y' y)
    (ht : AppT P t t' e k.sz z) (hk : ∀ k', k ≠ .ik k') (hp : HpOk cx w S g h) (hs : ∀ k, SvOk w S g h (s k) (a.tmps.getD k undef)) (hn : h nm = none) (hq : wr (.app k x y) s h nm = some q) : WrOk P cx w S g h o a q := by
  have hq' : ((appRows k.sz h (y.ev s)).bind fun q => if q.2.1 (x.ev s) then none else
      (appTo q.2.2 nm (fun t => t.app k.sz q.1) q.1.length (x.ev s)).map fun a => (a.1, fun v => q.2.1 v || a.2.1 v, a.2.2)) = some q := by
    cases k with
    | ik k' => exact absurd rfl (hk k')
    | flat _ => exact hq
    | deep _ => exact hq
  simp only [Option.bind_eq_some_iff] at hq'
  obtain ⟨q0, hq0, hq'⟩ := hq'
  split at hq'
  · simp at hq'
  · rename_i hkx
    simp only [appRows, Option.bind_eq_some_iff] at hq0
    obtain ⟨qy, hqy, hq0⟩ := hq0
    obtain ⟨⟨g1, Fy, Ay⟩, hnay, honey⟩ := abs_ok hp (ev_ok hy hs) hqy
    obtain ⟨ys, ey, rfl⟩ : ∃ ys, qy.1 = .rows k.sz ys ∧ q0 = (ys, qy.2.1, qy.2.2) := by
      split at hq0
      · rename_i z' ys heq
        split at hq0
        · rename_i hz
          subst hz
          exact ⟨ys, heq, by simpa using hq0.symm⟩
        · simp at hq0
      · simp at hq0
    simp only [Option.map_eq_some_iff] at hq'
    obtain ⟨qa, hqa, rfl⟩ := hq'
    simp only [appTo, Option.bind_eq_some_iff, Option.map_eq_some_iff] at hqa
    obtain ⟨q1, hq1, zl, hzl, t1, ht1, rfl⟩ := hqa
    have hvx := Ay.keep _ _ (ev_ok (a := a) hx hs) (by simpa using hkx)
    obtain ⟨⟨g2, Ft, A⟩, hna, hone⟩ := abs_ok Ay.hp hvx hq1
    obtain ⟨xs, e0, e0', hmax⟩ := app_inv ht1
    subst e0'
    have how := A.own
    rw [e0] at how
    have howy := Ay.own
    rw [ey] at howy
    have hty : ∀ b, Ft b → ¬ Fy b := fun b hb => by
      obtain ⟨n, r, hr, hb'⟩ := A.src b hb
      exact Ay.apart n r b hr hb'
    obtain ⟨w', rv, r1, r2, r3, r4, r5, r6, r7⟩ := append_rows (P := P) (ty := o.type) ht.el ht.ty' how howy (fun b hb => (A.ft b hb).2.1) (fun b hb => ⟨(Ay.ft b hb).2.1, fun hf => hty b hf hb⟩) hmax (fun b hb => ⟨hp.Slt b hb, fun hf => (A.ft b hf).2.2 hb⟩)
    have hnn1 : qy.2.2 nm = none := by
      cases hq : qy.2.2 nm with
      | none => rfl
      | some r =>
        obtain ⟨_, r', hr', _⟩ := Ay.shrink nm r hq
        rw [hn] at hr'
        simp at hr'
    have hnn := appName_none hq1 A hnn1
    have hyap : ∀ n r b, q1.2.2 n = some r → (g2 n).2 b → ¬ Fy b := by
      intro n r b hr hb
      obtain ⟨_, r', hr', hsub⟩ := A.shrink n r hr
      exact Ay.apart n r' b hr' (hsub b hb)
    obtain ⟨f1, f2⟩ := fin (Q := fun b => Ft b ∨ Fy b) A.hp hnn r2 rfl r3 r4 r5 r6 (fun b hb hq => r7 b hb fun hf => hq (.inl hf)) (fun b hb => by
      rcases hb with hb | hb
      · exact ⟨(A.ft b hb).1, (A.ft b hb).2.2, (A.ft b hb).2.1, fun n r hr hb' => A.apart n r b hr hb' hb⟩
      · exact ⟨(Ay.ft b hb).1, (Ay.ft b hb).2.2, (Ay.ft b hb).2.1, fun n r hr hb' => hyap n r b hr hb' hb⟩) (fun b hb => by
      rcases hb with hb | hb | hb
      · exact .inl (.inl hb)
      · exact .inl (.inr hb)
      · exact .inr hb)
    refine ⟨w', _, _, rv, run_append_op ho r1, .inr rfl, f1, fun y u hy hk => ?_, ?_⟩
    · simp only [Bool.or_eq_false_iff] at hk
      exact f2 y u (A.keep y u (Ay.keep y u hy hk.1) hk.2)
    · have hz : zl = (k.sz, xs.length) := by rw [e0] at hzl; simpa [T.shp] using hzl.symm
      subst hz
      exact ref_of_ow r2 (by simp [T.shp])

/-- A part of a row becomes a row of its own. -/
theorem wr_trm {o : Oper} {z : Nat} {t e : TypeId} {x' : Operand} {x : X} {lo' hi' : Option Operand} {lo hi : Option X} {nm : Name} {q : SV × Kill × Hp} (ho : o.op = .slice t x' lo' hi' none) (hx : OkX x' x) (hlo : OkO lo' lo) (hhi : OkO hi' hi)
    (ht : P.underlying t = some (.slice e)) (hz : IsZ P e z) (hp : HpOk cx w S g h) (hs : ∀ k, SvOk w S g h (s k) (a.tmps.getD k undef)) (hn : h nm = none) (hq : wr (.trm z x lo hi) s h nm = some q) : WrOk P cx w S g h o a q := by
  simp only [wr, Option.bind_eq_some_iff] at hq
  obtain ⟨v, hv, hq⟩ := hq
  obtain ⟨val, hrun, hval⟩ := den_slc (st := false) ho hx hlo hhi hp hs (by simpa using ⟨e, ht, hz⟩) hv
  simp only [appTo, Option.bind_eq_some_iff, Option.map_eq_some_iff] at hq
  obtain ⟨q1, hq1, zl, hzl, t1, ht1, rfl⟩ := hq
  obtain rfl := by simpa using ht1
  obtain ⟨⟨g1, Ft, A⟩, hna, hone⟩ := abs_ok hp hval hq1
  have hnn := appName_none hq1 A hn
  have hag : aggT q1.1 = false := by
    cases hq0 : q1.1 <;> simp [hq0, T.shp] at hzl <;> rfl
  obtain ⟨f1, f2⟩ := fin (Q := Ft) (F' := Ft) A.hp hnn A.own hag rfl rfl rfl (Nat.le_refl _) (fun _ _ _ => rfl) (fun b hb => ⟨(A.ft b hb).1, (A.ft b hb).2.2, (A.ft b hb).2.1, fun n r hr hb' => A.apart n r b hr hb' hb⟩) (fun b hb => .inl hb)
  refine ⟨w, _, _, val, hrun, .inr rfl, f1, fun y u hy hk => f2 y u (A.keep y u hy hk), ?_⟩
  exact ref_of_ow A.own hzl

/-- A store. -/
theorem wr_st {o : Oper} {x' y' : Operand} {x y : X} {t : TypeId} {z : Nat} {nm : Name} {q : SV × Kill × Hp} (ho : o.op = .store t x' y') (hx : OkX x' x) (hy : OkX y' y) (hz : IsZ P t z)
    (hp : HpOk cx w S g h) (hs : ∀ k, SvOk w S g h (s k) (a.tmps.getD k undef)) (hq : wr (.st z x y) s h nm = some q) : WrOk P cx w S g h o a q := by
  have hvx := ev_ok (a := a) hx hs
  have hvy := ev_ok (a := a) hy hs
  have one : ∀ (m : Name) (p : Path) (oo : Option Nat) (q1 : Kill × Hp), x.ev s = .ptr m p oo → z = 1 → st1 h (.ptr m p oo) m (tpath p oo) (y.ev s) = some q1 → q = (.undef, q1.1, q1.2) → WrOk P cx w S g h o a q := by
    rintro m p oo q1 ex rfl h1 rfl
    rw [ex] at hvx
    obtain ⟨A, hA⟩ : ∃ A, a.eval x' = .pointer (some A) := by
      generalize a.eval x' = v at hvx
      cases hvx <;> exact ⟨_, rfl⟩
    rw [hA] at hvx
    obtain ⟨r1, hone, g2, r2, r3⟩ := st1_ok (P := P) (tp := x.ev s) hp hvx hvy h1
    have hc : (a.eval y').cells = #[a.eval y'] := by cases hv : a.eval y' <;> simp_all [Value.oneCell', Value.cells]
    refine ⟨_, g2, .skip, undef, ?_, .inl ⟨rfl, rfl⟩, r2, r3, .undef⟩
    have ha0 : A.add 0 = A := by simp [Addr.add]
    simp [execOp, ho, Instr.storeAt, hA, Instr.sureAddr, storeVar, run_sizeOf' hz, hc, storeCells, ha0, r1]
  simp only [wr] at hq
  split at hq
  · rename_i m p e1
    split at hq
    · rename_i hz1
      simp only [Option.map_eq_some_iff] at hq
      obtain ⟨q1, hq1, rfl⟩ := hq
      exact one m p none q1 e1 hz1 hq1 rfl
    · simp at hq
  · rename_i m p oo vs e1 e2
    split at hq
    · rename_i hz1
      simp only [Option.map_eq_some_iff] at hq
      obtain ⟨q1, hq1, rfl⟩ := hq
      rw [e1] at hvx
      rw [e2] at hvy
      obtain ⟨cs, hcs⟩ : ∃ cs, a.eval y' = .agg cs := by
        generalize a.eval y' = v at hvy
        cases hvy; exact ⟨_, rfl⟩
      rw [hcs] at hvy
      obtain ⟨hall, hsz⟩ := agg_all2 hvy
      obtain ⟨r, Y, hr, hY, hA⟩ := ptrA_inv hvx
      rw [hA] at hvx
      obtain ⟨w', g2, r1, r2, r3⟩ := stL_ok (P := P) vs cs.toList w g h oo q1 hp hvx (hp.spot m r p Y hr hY) hall hq1 ⟨r, hr, hY⟩ 0 (by omega)
      refine ⟨w', g2, .skip, undef, ?_, .inl ⟨rfl, rfl⟩, r2, r3, .undef⟩
      simp [execOp, ho, Instr.storeAt, hA, Instr.sureAddr, storeVar, run_sizeOf' hz, hcs, Value.cells, hsz, hz1, r1]
    · simp at hq
  · rename_i m p oo _ _
    split at hq
    · rename_i hz1
      simp only [Option.map_eq_some_iff] at hq
      obtain ⟨q1, hq1, rfl⟩ := hq
      exact one m p (some oo) q1 (by assumption) hz1 hq1 rfl
    · simp at hq
  · simp at hq

/-! #### copies -/
theorem spl_nil {α : Type} (xs : List α) (o : Nat) : spl xs o [] = xs := by simp [spl]
theorem spl_length {α : Type} {xs ys : List α} {o : Nat} (h : o + ys.length ≤ xs.length) : (spl xs o ys).length = xs.length := by simp [spl]; omega
theorem spl_cons {α : Type} {xs ys : List α} {o : Nat} {n : α} (h : o < xs.length) : spl (xs.set o n) (o + 1) ys = spl xs o (n :: ys) := by
  have e1 : (xs.set o n).take (o + 1) = xs.take o ++ [n] := by
    rw [List.take_succ_eq_append_getElem (by rw [List.length_set]; exact h), List.take_set_of_le (Nat.le_refl _), List.getElem_set_self]
  unfold spl
  rw [e1, List.drop_set_of_lt (by omega), List.append_assoc, List.length_cons, show o + 1 + ys.length = o + (ys.length + 1) by omega]
  rfl

theorem cpyL_ok {m : Name} {k : IntKind} {A : Addr} {l C off : Nat} : ∀ (ns : List Int) (w : World) (g : Gh) (h : Hp) (o i0 : Nat) (xs : List Int), HpOk cx w S g h → h m = some (.ints k xs) → SvOk w S g h (.ref m [] 1 off l) (.slice (some A) l C) →
    off + i0 = o → i0 + ns.length ≤ l → off + l ≤ xs.length →
    ∃ w' g2, (storeCells A (ns.map (Value.int k)) i0).run P w = .ok () w' ∧ HpOk cx w' S g2 (upd h m (some (.ints k (spl xs o ns)))) ∧ ∀ y u, SvOk w S g h y u → y.dep m = false → SvOk w' S g2 (upd h m (some (.ints k (spl xs o ns)))) y u := by
  intro ns
  induction ns with
  | nil =>
    intro w g h o i0 xs hp hm hv ho hl hx
    have e : upd h m (some (.ints k (spl xs o []))) = h := by
      funext n
      by_cases hn : n = m
      · subst hn; simp [spl_nil, hm]
      · rw [upd_ne _ _ hn]
    rw [e]
    exact ⟨w, g, by simp [storeCells], hp, fun y u hy _ => hy⟩
  | cons n ns ih =>
    intro w g h o i0 xs hp hm hv ho hl hx
    simp only [List.length_cons] at hl
    have hox : o < xs.length := by omega
    obtain ⟨r, base, L, C', ad, h1, h2, h3, h4, h5, h6, h7, h8, h9, e⟩ := hv.shp_ref
    rw [hm] at h1
    obtain rfl := by simpa using h1
    simp only [T.rget, T.body, T.get, Option.bind_some, T.shp, Option.some.injEq, Prod.mk.injEq, true_and] at h2
    subst h2
    cases base with
    | none => simp at e
    | some b0 =>
    simp only [Option.map_some, Value.slice.injEq, Option.some.injEq, true_and] at e
    obtain ⟨eA, eC⟩ := e
    have had := h9 (by omega)
    have hsp := h4 b0 rfl
    obtain ⟨c, hc, hX⟩ := rloc_e (hp.own m _ hm) (p := []) (u := .ints k xs) (by simp [T.rget, T.body, T.get]) (sz := 1) (L := xs.length) (by simp [T.shp]) h3 (j := o) hox
    have hA : A.add i0 = b0.add (o * 1) := by rw [eA, add_add hsp]; congr 1; omega
    rw [List.nil_append, ← hA] at hX
    have htp : SvOk w S g h (.ptr m [.e o] none) (.pointer (some (A.add i0))) := .ptrC m _ _ _ hm hX
    have hst : st1 h (.ptr m [.e o] none) m (tpath [.e o] none) (.vw [] (.int k n)) = some (fun x => false || x.dep m, upd h m (some (.ints k (xs.set o n)))) := by
      have hg : xs[o]? = some xs[o] := List.getElem?_eq_getElem hox
      simp [st1, SV.abs, T.scalar, hm, tpath, T.rget, T.body, T.get, T.child, hg, aggT, T.rput, T.put, T.setChild]
    obtain ⟨z1, z2, g2, z3, z4⟩ := st1_ok (P := P) (o := none) (tp := .vw [] (.int k n)) hp htp (mk_int k n) hst
    have hv2 := z4 _ _ hv (by simp [SV.dep])
    obtain ⟨w', g3, y1, y2, y3⟩ := ih _ g2 _ (o + 1) (i0 + 1) (xs.set o n) z3 (by simp) hv2 (by omega) (by omega) (by rw [List.length_set]; exact hx)
    have eu : upd (upd h m (some (.ints k (xs.set o n)))) m (some (.ints k (spl (xs.set o n) (o + 1) ns))) = upd h m (some (.ints k (spl xs o (n :: ns)))) := by
      rw [spl_cons hox]
      funext j
      by_cases hj : j = m
      · subst hj; simp
      · rw [upd_ne _ _ hj, upd_ne _ _ hj, upd_ne _ _ hj]
    rw [eu] at y2 y3
    refine ⟨w', g3, ?_, y2, ?_⟩
    · simp only [List.map_cons, storeCells, Sem.run_bind, z1]
      exact y1
    · intro y u hy hk
      exact y3 y u (z4 y u hy (by simpa using hk)) hk

theorem readSrc_ok {y : SV} {val : Value} {k : IntKind} {ys : List Int} (hp : HpOk cx w S g h) (hv : SvOk w S g h y val) (hr : readSrc h k y = some ys) :
    ∃ b C, val = .slice b ys.length C ∧ (b = none → ys = []) ∧ ∀ A, b = some A → ∀ (j : Nat) u, (ys.map (Value.int k))[j]? = some u → w.cell? (A.add j) = some u := by
  have hints : ∀ q, readInts h y = some q → q.1 = k → q.2 = ys → ∃ b C, val = .slice b ys.length C ∧ (b = none → ys = []) ∧ ∀ A, b = some A → ∀ (j : Nat) u, (ys.map (Value.int k))[j]? = some u → w.cell? (A.add j) = some u := by
    rintro ⟨k', xs⟩ hq rfl rfl
    exact readInts_ok hp hv hq
  unfold readSrc at hr
  split at hr
  · rename_i t
    split at hr
    · rename_i ht
      obtain rfl := by simpa using hr
      exact ⟨none, 0, ok_nil hv ht, fun _ => rfl, by simp⟩
    · simp at hr
  · simp only [Option.bind_eq_some_iff] at hr
    obtain ⟨q, hq, hr⟩ := hr
    split at hr
    · rename_i hk
      obtain rfl := by simpa using hr
      exact hints q hq hk rfl
    · simp at hr

theorem wr_cpy {o : Oper} {x' y' : Operand} {x y : X} {t t' e : TypeId} {k : IntKind} {nm : Name} {q : SV × Kill × Hp} (ho : o.op = .call { callee := .builtin .copy, args := #[x', y'], argTypes := #[t, t'] }) (hx : OkX x' x) (hy : OkX y' y)
    (ht : P.underlying t = some (.slice e)) (hz : IsZ P e 1) (hp : HpOk cx w S g h) (hs : ∀ k, SvOk w S g h (s k) (a.tmps.getD k undef)) (hq : wr (.cpy k x y) s h nm = some q) : WrOk P cx w S g h o a q := by
  have hvx := ev_ok (a := a) hx hs
  have hvy := ev_ok (a := a) hy hs
  simp only [wr] at hq
  split at hq
  case h_2 => simp at hq
  rename_i m z off l ex
  rw [ex] at hvx
  simp only [Option.bind_eq_some_iff] at hq
  obtain ⟨ys, hys, r, hr, hq⟩ := hq
  split at hq
  case h_2 => simp at hq
  rename_i k' xs
  split at hq
  case isFalse => simp at hq
  rename_i hc
  obtain ⟨rfl, rfl, hle⟩ := hc
  obtain rfl := by simpa using hq
  obtain ⟨b, Cy, ey, hb0, hbc⟩ := readSrc_ok hp hvy hys
  obtain ⟨bd, Cd, exd, _⟩ := ok_ref hvx
  have hlen : ((ys.take l).map (Value.int k')).length = Nat.min ys.length l := by
    rw [List.length_map, List.length_take, Nat.min_comm]
  -- the cells that are read
  have hfc : (Builtin.firstCells 1 (Nat.min ys.length l) (.slice b ys.length Cy)).run P w = .ok ((ys.take l).map (Value.int k')).toArray w := by
    cases b with
    | none =>
      have := hb0 rfl
      subst this
      simp [Builtin.firstCells]
    | some A =>
      refine run_firstCells_some w 1 _ A _ _ _ (by rw [hlen, Nat.mul_one]) ?_
      intro j u hj
      refine hbc A rfl j u ?_
      rw [List.map_take, List.getElem?_take] at hj
      split at hj
      · exact hj
      · simp at hj
  rw [exd] at hvx
  cases bd with
  | none =>
    -- no row: nothing is to be laid down
    have hl0 : l = 0 := by
      obtain ⟨r', base, L, C, ad, h1, h2, h3, h4, h5, h6, h7, h8, h9, e⟩ := hvx.shp_ref
      cases base with
      | none => have := h5 rfl; omega
      | some b0 => simp at e
    subst hl0
    have eu : upd h m (some (.ints k' (spl xs off (ys.take 0)))) = h := by
      funext n
      by_cases hn : n = m
      · subst hn; simp [spl_nil, hr]
      · rw [upd_ne _ _ hn]
    refine ⟨w, g, .value (goInt 0), goInt 0, ?_, .inr rfl, ?_, ?_, ?_⟩
    · have h0 : Nat.min ys.length 0 = 0 := Nat.min_zero _
      rw [h0] at hfc
      simp [execOp, ho, resolve, invoke, builtin, exd, ey, Builtin.copy_, run_underlying' ht, run_sizeOf' hz, Builtin.lenOf, hfc]
    · dsimp only; rw [eu]; exact hp
    · dsimp only; rw [eu]; exact fun y u hy _ => hy
    · dsimp only
      simp only [Nat.min_zero]
      exact mk_int .i64 0
  | some A =>
    obtain ⟨w', g2, r1, r2, r3⟩ := cpyL_ok (P := P) (k := k') (ys.take l) w g h off 0 xs hp hr hvx (by omega) (by rw [List.length_take]; omega) hle
    refine ⟨w', g2, .value (goInt (Nat.min ys.length l)), goInt (Nat.min ys.length l), ?_, .inr rfl, r2, r3, mk_int .i64 _⟩
    rw [List.map_take] at r1
    simp [execOp, ho, resolve, invoke, builtin, exd, ey, Builtin.copy_, run_underlying' ht, run_sizeOf' hz, Builtin.lenOf, hfc, r1]
end
end Go.Proofs.Ytdblfocadcgmaaa.Ev
namespace Go.Proofs.Ytdblfocadcgmaaa.Ev
open Go
set_option linter.unusedSimpArgs false
set_option linter.unusedVariables false

section
variable {P : Program} {cx : Cx} {w w' : World} {S : Nat → Prop} {g g' : Gh} {h h' : Hp} {s : Env} {a : Act}

theorem absL_none {us : List Value} {ts : List T} {kill : Kill} {h1 : Hp} {g1 : Gh} {Fs : Nat → Nat → Prop} {nm : Name} (A : AbsL cx w S g h us ts kill h1 g1 Fs) (hn : h nm = none) : h1 nm = none := by
  cases hq : h1 nm with
  | none => rfl
  | some r =>
    obtain ⟨_, r', hr', _⟩ := A.shrink nm r hq
    rw [hn] at hr'
    simp at hr'

/-- The cells of a value. -/
theorem cells_all {x : SV} {v : Value} (hv : SvOk w S g h x v) (hx : x.solid = true) : All2 (SvOk w S g h) x.cells v.cells.toList := by
  obtain ⟨h1, h2⟩ := solid_cells hx hv
  refine all2_of _ _ (by simp [h1]) ?_
  intro j y c hj hc
  obtain ⟨c', h3, _, h5⟩ := h2 j y hj
  rw [← Array.getElem?_toList, hc] at h3
  obtain rfl := by simpa using h3
  exact h5

theorem wr_box {o : Oper} {x' : Operand} {x : X} {t : TypeId} {nm : Name} {q : SV × Kill × Hp} (ho : o.op = .box t x') (hx : OkX x' x) (hp : HpOk cx w S g h) (hs : ∀ k, SvOk w S g h (s k) (a.tmps.getD k undef)) (hn : h nm = none)
    (hq : wr (.box x) s h nm = some q) : WrOk P cx w S g h o a q := by
  have hv := ev_ok (a := a) hx hs
  simp only [wr] at hq
  split at hq
  case isFalse => simp at hq
  rename_i hsol
  simp only [Option.map_eq_some_iff] at hq
  obtain ⟨q1, hq1, rfl⟩ := hq
  have hall := cells_all hv hsol
  obtain ⟨⟨g1, Fs, A⟩, hl, hk⟩ := absW_ok (abs_right cx w S) _ _ g h q1 hp hall hq1
  have hna : ∀ (j : Nat) t, q1.1[j]? = some t → aggT t = false := by
    intro j t hj
    have h1 := get_lt hj
    have h2 := A.len
    exact (hk j t (a.eval x').cells.toList[j] (x.ev s).cells[j] hj (List.getElem?_eq_getElem (by omega)) (List.getElem?_eq_getElem (by omega))).1
  have A1 := absL_agg A hna
  have how := ow_box (el := t) A1.own (fun b hb => (A1.ft b hb).2.1) hp.Slt
  obtain ⟨f1, f2⟩ := fin (Q := fun b => ∃ j, Fs j b) A.hp (absL_none A hn) how rfl rfl rfl rfl (by simp) (fun b hb _ => heap_alloc_old w _ b hb) (fun b hb => ⟨(A1.ft b hb).1, (A1.ft b hb).2.2, (A1.ft b hb).2.1, fun n r hr hb' => A1.apart n r b hr hb' hb⟩) (fun b hb => by
    rcases hb with rfl | hb
    · exact .inr ⟨Nat.le_refl _, by simp⟩
    · exact .inl hb)
  refine ⟨_, _, _, .pointer (some ⟨w.heap.size, 0, none⟩), by simp [execOp, ho, Instr.box, newVar, newRow], .inr rfl, f1, fun y u hy hk => f2 y u (A.keep y u hy hk), ptr_new ⟨_, rfl⟩⟩

theorem wr_bsl {o : Oper} {t e : TypeId} {sz n nm : Nat} {z : Value} {ps' : Array (Nat × Operand)} {ps : List (Nat × X)} {q : SV × Kill × Hp} (ho : o.op = .buildSlice t n ps') (he : ElT P t e sz z) (hn2 : n * sz ≤ 2 ^ 24)
    (hps : All2 OkP ps'.toList ps) (hp : HpOk cx w S g h) (hs : ∀ k, SvOk w S g h (s k) (a.tmps.getD k undef)) (hn : h nm = none) (hq : wr (.bsl (.deep sz) n ps) s h nm = some q) : WrOk P cx w S g h o a q := by
  simp only [wr, Option.bind_eq_some_iff] at hq
  obtain ⟨vs, hvs, hq⟩ := hq
  split at hq
  case isFalse => simp at hq
  rename_i hall
  simp only [Bool.and_eq_true] at hall
  simp only [Option.map_eq_some_iff] at hq
  obtain ⟨q1, hq1, rfl⟩ := hq
  have hcl : ∀ (m : Nat) v, vs[m]? = some v → v.cells.length = sz ∧ v.solid = true := by
    intro m v hm
    have h1 := List.all_eq_true.1 hall.1 v (List.mem_of_getElem? hm)
    have h2 := List.all_eq_true.1 hall.2 v (List.mem_of_getElem? hm)
    exact ⟨by simpa using h1, h2⟩
  obtain ⟨cs, us, hr, hsz, hl, hc⟩ := bsl_run (P := P) (a := a) ho he hn2 hps hs hvs (by
    intro m v hm u hu
    rw [(solid_cells (hcl m v hm).2 hu).1]
    exact (hcl m v hm).1)
  have hall2 : All2 (SvOk w S g h) vs ((List.range n).map us) := by
    refine all2_of _ _ (by simp [hl]) ?_
    intro j x u hj hu
    have := get_lt hj
    simp only [List.getElem?_map, Option.map_eq_some_iff] at hu
    obtain ⟨i, hi, rfl⟩ := hu
    obtain ⟨_, rfl⟩ : j < n ∧ j = i := by simpa [List.getElem?_range, hl ▸ this] using hi
    exact (hc j x hj).1
  obtain ⟨⟨g1, Fs, A⟩, hl2, hk⟩ := absW_ok (absA_right cx w S) _ _ g h q1 hp hall2 hq1
  have hlx : q1.1.length = n := by have := A.len; simpa using this.symm
  have hti : ∀ (i : Nat) t, q1.1[i]? = some t → ∃ v, vs[i]? = some v ∧ Ow w S t (us i) (Fs i) := by
    intro i t hi
    have hil := get_lt hi
    have hu : ((List.range n).map us)[i]? = some (us i) := by simp [show i < n by omega]
    exact ⟨vs[i]'(by omega), List.getElem?_eq_getElem (by omega), A.own i t _ hi hu⟩
  have how := ow_row (w := w) (S := S) (el := e) (ts := q1.1) (sz := sz) (n := n) (vs := us) (cs := cs) (G := Fs) (by omega) (by omega)
    (fun i t hi => by obtain ⟨v, hv, _⟩ := hti i t hi; exact (hc i v hv).2.1) (fun i t hi j hj => by obtain ⟨v, hv, _⟩ := hti i t hi; exact (hc i v hv).2.2 j hj)
    (fun i t hi => by obtain ⟨v, hv, e⟩ := hti i t hi; exact e) A.disj (fun i b hb => (A.ft i b hb).2.1) hp.Slt
  rw [hlx] at how
  obtain ⟨f1, f2⟩ := fin (Q := fun b => ∃ j, Fs j b) A.hp (absL_none A hn) how rfl rfl rfl rfl (by simp) (fun b hb _ => heap_alloc_old w _ b hb) (fun b ⟨j, hb⟩ => ⟨(A.ft j b hb).1, (A.ft j b hb).2.2, (A.ft j b hb).2.1, fun n r hr hb' => A.apart n r b hr hb' j hb⟩) (fun b hb => by
    rcases hb with rfl | hb
    · exact .inr ⟨Nat.le_refl _, by simp⟩
    · exact .inl hb)
  refine ⟨_, _, _, _, hr, .inr rfl, f1, fun y u hy hk => f2 y u (A.keep y u hy hk), ?_⟩
  exact ref_of_ow how (by simp [T.shp, hlx])
end
end Go.Proofs.Ytdblfocadcgmaaa.Ev
namespace Go.Proofs.Ytdblfocadcgmaaa.Ev
open Go
set_option linter.unusedSimpArgs false
set_option linter.unusedVariables false

/-- Arguments: Rd: what is read; rvs: the addresses of the variables that are handed over. -/
inductive Ag (w : World) (Rd : Nat → Prop) (rvs : List Value) : T → Value → Prop where
  | vw (t v) : aggT t = false → Vw w Rd t v → Ag w Rd rvs t v
  | ref (k : Nat) (v : Value) : rvs[k]? = some v → Ag w Rd rvs (.ref k) v
  | vp (t v A) : A.spot = none → Rd A.block → Vw w Rd t v → At w A v → Ag w Rd rvs (.vp t) (.pointer (some A))
  | agg (ts : List T) (cs : Array Value) (vs : Nat → Value) : cs.size = ts.length → (∀ (j : Nat) t, ts[j]? = some t → cs[j]? = some (vs j)) → (∀ (j : Nat) t, ts[j]? = some t → (vs j).oneCell' = true) → (∀ (j : Nat) t, ts[j]? = some t → Ag w Rd rvs t (vs j)) → Ag w Rd rvs (.agg ts) (.agg cs)
  | fn (f) (ts : List T) (cs : Array Value) (vs : Nat → Value) : cs.size = ts.length → (∀ (j : Nat) t, ts[j]? = some t → cs[j]? = some (vs j)) → (∀ (j : Nat) t, ts[j]? = some t → Ag w Rd rvs t (vs j)) → Ag w Rd rvs (.fn f ts) (.func (.func f) #[] cs)

/-- Results. -/
inductive Rs (w : World) (S : Nat → Prop) (rvs : List Value) : T → Value → (Nat → Prop) → Prop where
  | own (t v F) : aggT t = false → Ow w S t v F → Rs w S rvs t v F
  | ref (k : Nat) (v : Value) (F) : rvs[k]? = some v → v.oneCell' = true → Rs w S rvs (.ref k) v F
  | agg (ts : List T) (cs : Array Value) (vs : Nat → Value) (G : Nat → Nat → Prop) (F) : cs.size = ts.length → (∀ (j : Nat) t, ts[j]? = some t → cs[j]? = some (vs j)) → (∀ (j : Nat) t, ts[j]? = some t → (vs j).oneCell' = true) → (∀ (j : Nat) t, ts[j]? = some t → Rs w S rvs t (vs j) (G j)) →
      (∀ i j b, i ≠ j → G i b → ¬ G j b) → (∀ j b, G j b → F b) → Rs w S rvs (.agg ts) (.agg cs) F
  | tup (ts : List T) (cs : Array Value) (vs : Nat → Value) (G : Nat → Nat → Prop) (F) : cs.size = ts.length → (∀ (j : Nat) t, ts[j]? = some t → cs[j]? = some (vs j)) → (∀ (j : Nat) t, ts[j]? = some t → Rs w S rvs t (vs j) (G j)) →
      (∀ i j b, i ≠ j → G i b → ¬ G j b) → (∀ j b, G j b → F b) → Rs w S rvs (.tup ts) (.tuple cs) F

/-- Variables that are handed over: each owned. -/
structure Sto (w : World) (S : Nat → Prop) (sto : List T) (rvs : List Value) (Fs : Nat → Nat → Prop) : Prop where
  len : rvs.length = sto.length
  own : ∀ (k : Nat) t v, sto[k]? = some t → rvs[k]? = some v → Ow w S t v (Fs k)
  ptr : ∀ (k : Nat) t, sto[k]? = some t → t.isPtr = true
  disj : ∀ i j b, i ≠ j → Fs i b → ¬ Fs j b
  lt : ∀ k b, Fs k b → b < w.heap.size
  out : ∀ k b, sto.length ≤ k → ¬ Fs k b

/-- Behind a call. -/
structure Post (w w' : World) (Rd : Nat → Prop) (Fs : Nat → Nat → Prop) (rvs : List Value) (r : T × List T) (v : Value) : Prop where
  ex : ∃ (S' : Nat → Prop) (Fs' : Nat → Nat → Prop) (Fr' : Nat → Prop), Fr (fun b => ∃ k, Fs k b) w w' ∧ Sto w' S' r.2 rvs Fs' ∧ Rs w' S' rvs r.1 v Fr' ∧ (∀ k b, Fs' k b → ¬ Fr' b ∧ ¬ S' b ∧ ((∃ k, Fs k b) ∨ w.heap.size ≤ b)) ∧
    (∀ b, Fr' b → ¬ S' b ∧ b < w'.heap.size ∧ ((∃ k, Fs k b) ∨ w.heap.size ≤ b)) ∧ (∀ b, S' b → b < w'.heap.size ∧ (Rd b ∨ w.heap.size ≤ b)) ∧ (∀ b, Rd b → S' b)

/-- The contract of what R tells. -/
def Right (P : Program) (R : Run) : Prop :=
  ∀ f ts sto r, R f ts sto = some r → ∀ (w : World) (vs : Array Value) (Rd : Nat → Prop) (rvs : List Value) (Fs : Nat → Nat → Prop), All2 (Ag w Rd rvs) ts vs.toList → Sto w Rd sto rvs Fs → (∀ k b, Fs k b → ¬ Rd b) → (∀ b, Rd b → b < w.heap.size) →
    ∃ fn, P.funcs[f]? = some fn ∧ fn.body.isSome = true ∧ (fn.name == "runtime.NumGoroutine") = false ∧ Calls P f vs w fun e w' => ∃ v, e = .returned v ∧ Post w w' Rd Fs rvs r v

theorem Ow.noSh {w : World} {S S' : Nat → Prop} {t : T} {v : Value} {F : Nat → Prop} (h : Ow w S t v F) (hn : t.noSh = true) : Ow w S' t v F := by
  have mem : ∀ {xs : List T}, noShL xs = true → ∀ (j : Nat) x, xs[j]? = some x → x.noSh = true := by
    intro xs
    induction xs with
    | nil => intro _ j x hj; simp at hj
    | cons y xs ih =>
      intro hu j x hj
      simp only [noShL, Bool.and_eq_true] at hu
      cases j with
      | zero => simp at hj; subst hj; exact hu.1
      | succ j => exact ih hu.2 j x (by simpa using hj)
  induction h with
  | int k n F => exact .int k n F
  | bool b F => exact .bool b F
  | str s F => exact .str s F
  | ints0 k F => exact .ints0 k F
  | rows0 sz F => exact .rows0 sz F
  | ints k xs a C F h1 h2 h3 h4 => exact .ints k xs a C F h1 h2 h3 h4
  | rows sz xs a C vs G F h1 h2 h3 h4 h5 h6 h7 h8 ih => exact .rows sz xs a C vs G F h1 h2 h3 h4 h5 (fun i t ht => ih i t ht (mem (by simpa [T.noSh] using hn) i t ht)) h7 h8
  | agg ts cs vs G F h1 h2 h2' h3 h4 h5 ih => exact .agg ts cs vs G F h1 h2 h2' (fun i t ht => ih i t ht (mem (by simpa [T.noSh] using hn) i t ht)) h4 h5
  | ptr ts cs a G F h1 h2 h3 h4 h5 ih => exact .ptr ts cs a G F h1 h2 h3 (ih (by simpa [T.noSh] using hn)) h5
  | sh t v F hr h => simp [T.noSh] at hn
  | dead v F h => exact .dead v F h

theorem noShL_get {xs : List T} (hn : noShL xs = true) (j : Nat) (x : T) (hj : xs[j]? = some x) : x.noSh = true := by
  induction xs generalizing j with
  | nil => simp at hj
  | cons y xs ih =>
    simp only [noShL, Bool.and_eq_true] at hn
    cases j with
    | zero => simp at hj; subst hj; exact hn.1
    | succ j => exact ih hn.2 j (by simpa using hj)

/-! ### the callers' side -/
section
variable {P : Program} {cx : Cx} {w w' : World} {S : Nat → Prop} {g g' : Gh} {h h' : Hp} {s : Env} {a : Act}

/-- The blocks that are read by a call. -/
def rdOf (S : Nat → Prop) (g : Gh) (ns : List Name) : Nat → Prop := fun b => S b ∨ ∃ n, n ∈ ns ∧ (g n).2 b

theorem ow_vw {t : T} {v : Value} {F : Nat → Prop} (ho : Ow w S t v F) : Vw w (fun b => S b ∨ F b) t v := by
  induction ho with
  | int k n F => exact .int k n
  | bool b F => exact .bool b
  | str s F => exact .str s
  | ints0 k F => exact .ints0 k
  | rows0 sz F => exact .rows0 sz
  | ints k xs a C F h1 h2 h3 h4 => exact .ints k xs a C (.inr h1) h2.1 h3 h4
  | rows sz xs a C vs G F h1 h2 h3 h4 h5 h6 h7 h8 ih => exact .rows sz xs a C vs (.inr h1) h2.1 h3 h4 h5 fun i t ht => (ih i t ht).mono fun b hb => hb.imp id fun hb => (h8 i b hb).1
  | agg ts cs vs G F h1 h2 h2' h3 h4 h5 ih => exact .agg ts cs vs h1 h2 h2' fun i t ht => (ih i t ht).mono fun b hb => hb.imp id fun hb => h5 i b hb
  | ptr ts cs a G F h1 h2 h3 h4 h5 ih => exact .ptr _ _ rfl
  | sh t v F hr h => exact .sh t v hr (h.mono fun b hb => .inl hb)
  | dead v F h => exact .dead v h

/-- The row at a path, where it lies. -/
theorem node_ow {m : Name} {p : Path} {z off l : Nat} {v : Value} {r u t : T} (hp : HpOk cx w S g h) (hv : SvOk w S g h (.ref m p z off l) v) (hr : h m = some r) (hu : r.rget p = some u) (ht : u.sub off l = some t) :
    ∃ F, Ow w S t v F ∧ (∀ b, F b → (g m).2 b) ∧ aggT t = false := by
  obtain ⟨r', base, L, C, ad, h1, h2, h3, h4, h5, h6, h7, h8, h9, rfl⟩ := hv.shp_ref
  rw [h1] at hr
  obtain rfl := by simpa using hr
  simp only [hu, Option.bind_some] at h2
  have how : ∃ F, Ow w S u (.slice base L C) F ∧ ∀ b, F b → (g m).2 b := by
    cases p with
    | nil =>
      have := hp.own m r' h1
      simp only [hdr, Option.some.injEq] at h3
      rw [h3] at this
      have hb : r'.body = r' := by cases this <;> rfl
      obtain rfl : r' = u := by simpa [T.rget, T.get, hb] using hu
      exact ⟨_, this, fun b hb => hb⟩
    | cons s p =>
      have hna : aggT u = false := by cases u <;> simp_all [T.shp, aggT]
      obtain ⟨X, vl, Fu, f⟩ := rfo (hp.own m r' h1) hu hna (by simp) (hp.row m r' h1)
      simp only [hdr, f.loc, Option.bind_some, f.cell, Option.some.injEq] at h3
      subst h3
      exact ⟨Fu, f.own, f.sub⟩
  obtain ⟨F, how, hF⟩ := how
  obtain ⟨q1, q2, q3⟩ := ow_sub how h2 ht h6 h8 h9
  exact ⟨F, q1, hF, q3⟩

theorem readsL_mem {n : Name} : ∀ {xs : List SV} (j : Nat) (x : SV), xs[j]? = some x → n ∈ x.reads → n ∈ readsL xs := by
  intro xs
  induction xs with
  | nil => intro j x hj; simp at hj
  | cons y xs ih =>
    intro j x hj hn
    simp only [readsL, List.mem_append]
    cases j with
    | zero => simp at hj; subst hj; exact .inl hn
    | succ j => exact .inr (ih j x (by simpa using hj) hn)

theorem refsL_mem {n : Name} : ∀ {xs : List SV} (j : Nat) (x : SV), xs[j]? = some x → n ∈ x.refs → n ∈ refsL xs := by
  intro xs
  induction xs with
  | nil => intro j x hj; simp at hj
  | cons y xs ih =>
    intro j x hj hn
    simp only [refsL, List.mem_append]
    cases j with
    | zero => simp at hj; subst hj; exact .inl hn
    | succ j => exact .inr (ih j x (by simpa using hj) hn)

theorem argL_get {rs : List Name} : ∀ (xs : List SV) (ts : List T), argL h rs xs = some ts → ts.length = xs.length ∧ ∀ (j : Nat) x, xs[j]? = some x → ∃ t, argT h rs x = some t ∧ ts[j]? = some t := by
  intro xs
  induction xs with
  | nil => intro ts ht; simp [argL] at ht; subst ht; simp
  | cons v vs ih =>
    intro ts ht
    simp only [argL, Option.bind_eq_some_iff, Option.map_eq_some_iff] at ht
    obtain ⟨t, h1, ts', h2, rfl⟩ := ht
    obtain ⟨q1, q2⟩ := ih ts' h2
    refine ⟨by simp [q1], ?_⟩
    intro m x hm
    cases m with
    | zero => simp at hm; subst hm; exact ⟨t, h1, rfl⟩
    | succ m => simpa using q2 m x (by simpa using hm)

theorem arg_ok {rs rd : List Name} (hp : HpOk cx w S g h) (hrs : ∀ n, n ∈ rs → ∃ t, h n = some t ∧ t.isPtr = true) : ∀ {x : SV} {v : Value}, SvOk w S g h x v → ∀ t, argT h rs x = some t → (∀ n, n ∈ x.reads → n ∈ rd) → (∀ n, n ∈ x.refs → n ∈ rs) →
    Ag w (rdOf S g rd) (rs.map fun n => (g n).1) t v := by
  intro x v hv
  induction hv with
  | vw ds t0 v hd hna hv =>
    intro t ht hr _
    obtain rfl : t0 = t := by simpa [argT] using ht
    exact .vw _ _ hna (hv.mono fun b hb => hb.imp id fun ⟨n, hn, hb⟩ => ⟨n, hr n (by simpa [SV.reads] using hn), hb⟩)
  | pv ds t0 v A hd hsp hb hv hat =>
    intro t ht hr _
    obtain rfl : T.vp t0 = t := by simpa [argT] using ht
    have hm : ∀ b, upon S g ds b → rdOf S g rd b := fun b hb => hb.imp id fun ⟨n, hn, hb⟩ => ⟨n, hr n (by simpa [SV.reads] using hn), hb⟩
    exact .vp t0 v A hsp (hm _ hb) (hv.mono hm) hat
  | nilI k => intro t ht _ _; obtain rfl := by simpa [argT] using ht
              exact .vw _ _ rfl (.ints0 k)
  | nilR k => intro t ht _ _; obtain rfl := by simpa [argT] using ht
              exact .vw _ _ rfl (.rows0 k)
  | nilP => intro t ht _ _; obtain rfl := by simpa [argT] using ht
            exact .vw _ _ rfl (.dead _ rfl)
  | ref n p sz off l r base L C ad hr hz hhd hsp hb0 hl hlc had ha =>
    intro t ht hrd _
    simp only [argT, Option.bind_eq_some_iff] at ht
    obtain ⟨u, ⟨r', hr', hu⟩, ht⟩ := ht
    obtain ⟨F, q1, q2, q3⟩ := node_ow hp (.ref n p sz off l r base L C ad hr hz hhd hsp hb0 hl hlc had ha) hr' hu ht
    refine .vw _ _ q3 ((ow_vw q1).mono fun b hb => hb.imp id fun hb => ⟨n, hrd n (by simp [SV.reads]), q2 b hb⟩)
  | ptrC n p r X hr hX =>
    intro t ht _ _
    have : argT h rs (.ptr n p none) = none := by cases p <;> rfl
    rw [this] at ht
    simp at ht
  | ptrA n p o r X hr hX =>
    intro t ht _ hrf
    cases p with
    | cons s p =>
      have : argT h rs (.ptr n (s :: p) (some o)) = none := rfl
      rw [this] at ht
      simp at ht
    | nil =>
      cases o with
      | succ o =>
        have : argT h rs (.ptr n [] (some (o + 1))) = none := rfl
        rw [this] at ht
        simp at ht
      | zero =>
        obtain rfl := by simpa [argT] using ht
        have hn : n ∈ rs := hrf n (by simp [SV.refs])
        obtain ⟨t, ht', hpt⟩ := hrs n hn
        rw [hr] at ht'
        obtain rfl := by simpa using ht'
        have ho := hp.own n r hr
        have hrv : (g n).1 = .pointer (some X) := by
          cases r with
          | ptr t =>
            obtain ⟨rv, hrv⟩ : ∃ rv, (g n).1 = rv := ⟨_, rfl⟩
            rw [hrv] at hX ho ⊢
            cases ho
            simp [rloc, loc] at hX
            rw [hX]
          | _ => simp [T.isPtr] at hpt
        refine .ref _ _ ?_
        have hi : rs.idxOf n < rs.length := List.idxOf_lt_length_of_mem hn
        rw [List.getElem?_map, List.getElem?_eq_getElem hi, List.getElem_idxOf hi]
        simp [hrv, Addr.add]
  | agg xs cs vs h1 h2 h3 h4 ih =>
    intro t ht hr hrf
    simp only [argT, Option.map_eq_some_iff] at ht
    obtain ⟨ts, hts, rfl⟩ := ht
    obtain ⟨q1, q2⟩ := argL_get _ _ hts
    have hx : ∀ (j : Nat) t, ts[j]? = some t → ∃ x, xs[j]? = some x ∧ argT h rs x = some t := by
      intro j t hj
      have := get_lt hj
      obtain ⟨t', e1, e2⟩ := q2 j _ (List.getElem?_eq_getElem (by omega))
      rw [hj] at e2
      obtain rfl := by simpa using e2
      exact ⟨_, List.getElem?_eq_getElem (by omega), e1⟩
    refine .agg ts cs vs (by omega) ?_ ?_ ?_
    · intro j t hj; obtain ⟨x, hx, _⟩ := hx j t hj; exact h2 j x hx
    · intro j t hj; obtain ⟨x, hx, _⟩ := hx j t hj; exact h3 j x hx
    · intro j t hj
      obtain ⟨x, hx, e⟩ := hx j t hj
      exact ih j x hx t e (fun n hn => hr n (by simpa [SV.reads] using readsL_mem j x hx hn)) (fun n hn => hrf n (by simpa [SV.refs] using refsL_mem j x hx hn))
  | tup => intro t ht; simp [argT] at ht
  | fn f xs cs vs h1 h2 h4 ih =>
    intro t ht hr hrf
    simp only [argT, Option.map_eq_some_iff] at ht
    obtain ⟨ts, hts, rfl⟩ := ht
    obtain ⟨q1, q2⟩ := argL_get _ _ hts
    have hx : ∀ (j : Nat) t, ts[j]? = some t → ∃ x, xs[j]? = some x ∧ argT h rs x = some t := by
      intro j t hj
      have := get_lt hj
      obtain ⟨t', e1, e2⟩ := q2 j _ (List.getElem?_eq_getElem (by omega))
      rw [hj] at e2
      obtain rfl := by simpa using e2
      exact ⟨_, List.getElem?_eq_getElem (by omega), e1⟩
    refine .fn f ts cs vs (by omega) ?_ ?_
    · intro j t hj; obtain ⟨x, hx, _⟩ := hx j t hj; exact h2 j x hx
    · intro j t hj
      obtain ⟨x, hx, e⟩ := hx j t hj
      exact ih j x hx t e (fun n hn => hr n (by simpa [SV.reads] using readsL_mem j x hx hn)) (fun n hn => hrf n (by simpa [SV.refs] using refsL_mem j x hx hn))
  | undef => intro t ht; simp [argT] at ht
  | dead => intro t ht; simp [argT] at ht
end
end Go.Proofs.Ytdblfocadcgmaaa.Ev
namespace Go.Proofs.Ytdblfocadcgmaaa.Ev
open Go
set_option linter.unusedSimpArgs false
set_option linter.unusedVariables false

section
variable {cx : Cx} {w : World} {S S0 : Nat → Prop} {ds rs : List Name} {rvs : List Value}

/-- What is shared in it is stable for the caller, or it has none. -/
def Open (S0 S : Nat → Prop) (t : T) : Prop := (∀ b, S0 b → S b) ∨ t.open_ = true

structure Bnd (cx : Cx) (w : World) (S : Nat → Prop) (g : Gh) (h : Hp) (nm : Nat) (F : Nat → Prop) (sv : SV) (v : Value) (news : List T) (g2 : Gh) : Prop where
  hp : HpOk cx w S g2 (addH h nm news)
  keep : ∀ y u, SvOk w S g h y u → SvOk w S g2 (addH h nm news) y u
  val : SvOk w S g2 (addH h nm news) sv v
  old : ∀ n r, h n = some r → addH h nm news n = some r ∧ g2 n = g n
  new : ∀ n r b, addH h nm news n = some r → (g2 n).2 b → (h n = some r ∧ g2 n = g n) ∨ F b
  free : ∀ n : Nat, (n < nm ∨ nm + news.length ≤ n) → h n = none → addH h nm news n = none

/-- The blocks that the call was handed stand as they should. -/
structure Base (w : World) (S0 S : Nat → Prop) (ds rs : List Name) (rvs : List Value) (g : Gh) (h : Hp) : Prop where
  hrs : ∀ (k : Nat) n v, rs[k]? = some n → rvs[k]? = some v → ∃ t A, h n = some (.ptr t) ∧ (g n).1 = .pointer (some A) ∧ v = .pointer (some A)
  hds : ∀ n, n ∈ ds → (h n).isSome = true
  hS0 : ∀ b, S0 b → upon S g ds b

def BindP (cx : Cx) (w : World) (S0 S : Nat → Prop) (ds rs : List Name) (rvs : List Value) (t : T) (v : Value) (F : Nat → Prop) : Prop :=
  ∀ (g : Gh) (h : Hp) (nm : Nat) (sv : SV) (news : List T) (lim : Nat), HpOk cx w S g h → Base w S0 S ds rs rvs g h → (∀ m : Nat, nm ≤ m → m < lim → h m = none) → nm + news.length ≤ lim → (∀ b, F b → (cx.M b ∨ cx.w0.heap.size ≤ b) ∧ b < w.heap.size ∧ ¬ S b) → (∀ n r b, h n = some r → (g n).2 b → ¬ F b) →
    Open S0 S t → bindR ds rs nm t = some (sv, news) → ∃ g2, Bnd cx w S g h nm F sv v news g2

theorem bnd_none {g : Gh} {h : Hp} {nm : Nat} {F : Nat → Prop} {sv : SV} {v : Value} (hp : HpOk cx w S g h) (hv : SvOk w S g h sv v) : Bnd cx w S g h nm F sv v [] g :=
  ⟨hp, fun y u hy => hy, hv, fun n r hr => ⟨hr, rfl⟩, fun n r b hr hb => .inl ⟨hr, rfl⟩, fun n _ hn => hn⟩

theorem bnd_one {g : Gh} {h : Hp} {nm : Nat} {F : Nat → Prop} {t : T} {sv : SV} {v : Value} (hp : HpOk cx w S g h) (hn : h nm = none) (ho : Ow w S t v F) (hna : aggT t = false) (hF : ∀ b, F b → (cx.M b ∨ cx.w0.heap.size ≤ b) ∧ b < w.heap.size ∧ ¬ S b)
    (hap : ∀ n r b, h n = some r → (g n).2 b → ¬ F b) (hv : SvOk w S (upd g nm (v, F)) (upd h nm (some t)) sv v) : Bnd cx w S g h nm F sv v [t] (upd g nm (v, F)) := by
  have hne : ∀ n r, h n = some r → n ≠ nm := by
    rintro n r hr rfl
    rw [hn] at hr
    simp at hr
  refine ⟨hp.add hn ho hna hF hap, fun y u hy => hy.add hp hn (fun _ _ _ _ _ => rfl) (fun _ _ => rfl), hv, ?_, ?_, ?_⟩
  · intro n r hr
    have := hne n r hr
    exact ⟨by simp only [addH]; rw [upd_ne _ _ this]; exact hr, upd_ne _ _ this⟩
  · intro n r b hr hb
    by_cases e : n = nm
    · subst e; right; simpa using hb
    · simp only [addH] at hr
      rw [upd_ne _ _ e] at hr
      exact .inl ⟨hr, upd_ne _ _ e⟩
  · intro n hne hr
    simp only [addH]
    by_cases e : n = nm
    · subst e; simp at hne; omega
    · rw [upd_ne _ _ e]; exact hr

theorem open_noSh {t : T} (ht : t.open_ = true) (h1 : ∀ u, t ≠ .sh u) (h2 : aggT t = false) (h3 : ∀ xs, t ≠ .tup xs) : t.noSh = true := by
  cases t <;> simp_all [T.open_, aggT]

theorem bindL_ok : ∀ (ts : List T) (us : List Value) (Gs : Nat → Nat → Prop) (g : Gh) (h : Hp) (nm : Nat) (svs : List SV) (news : List T) (lim : Nat), ts.length = us.length → (∀ (j : Nat) t u, ts[j]? = some t → us[j]? = some u → BindP cx w S0 S ds rs rvs t u (Gs j)) →
    HpOk cx w S g h → Base w S0 S ds rs rvs g h → (∀ m : Nat, nm ≤ m → m < lim → h m = none) → nm + news.length ≤ lim → (∀ j b, Gs j b → (cx.M b ∨ cx.w0.heap.size ≤ b) ∧ b < w.heap.size ∧ ¬ S b) → (∀ n r b, h n = some r → (g n).2 b → ∀ j, ¬ Gs j b) →
    (∀ i j b, i ≠ j → Gs i b → ¬ Gs j b) → (∀ (j : Nat) t, ts[j]? = some t → Open S0 S t) → bindL ds rs nm ts = some (svs, news) →
    ∃ g2, HpOk cx w S g2 (addH h nm news) ∧ (∀ y u, SvOk w S g h y u → SvOk w S g2 (addH h nm news) y u) ∧ svs.length = ts.length ∧ (∀ (j : Nat) x u, svs[j]? = some x → us[j]? = some u → SvOk w S g2 (addH h nm news) x u) ∧
      (∀ n r, h n = some r → addH h nm news n = some r ∧ g2 n = g n) ∧ (∀ n r b, addH h nm news n = some r → (g2 n).2 b → (h n = some r ∧ g2 n = g n) ∨ ∃ j, Gs j b) ∧ (∀ n : Nat, (n < nm ∨ nm + news.length ≤ n) → h n = none → addH h nm news n = none) := by
  intro ts
  induction ts with
  | nil =>
    intro us Gs g h nm svs news lim hl hP hp hB hfree hlim hG hap hd hop hb
    simp only [bindL, Option.some.injEq, Prod.mk.injEq] at hb
    obtain ⟨rfl, rfl⟩ := hb
    exact ⟨g, hp, fun y u hy => hy, rfl, by simp, fun n r hr => ⟨hr, rfl⟩, fun n r b hr hb => .inl ⟨hr, rfl⟩, fun n _ hn => hn⟩
  | cons t ts ih =>
    intro us Gs g h nm svs news lim hl hP hp hB hfree hlim hG hap hd hop hb
    cases us with
    | nil => simp at hl
    | cons u us =>
      simp only [bindL, Option.bind_eq_some_iff, Option.map_eq_some_iff] at hb
      obtain ⟨⟨x, n1⟩, hb1, ⟨xs, n2⟩, hb2, hb⟩ := hb
      simp only [Prod.mk.injEq] at hb
      obtain ⟨rfl, rfl⟩ := hb
      simp only [List.length_append] at hlim
      obtain ⟨g1, b1⟩ := hP 0 t u rfl rfl g h nm x n1 lim hp hB hfree (by omega) (hG 0) (fun n r b hr hb => hap n r b hr hb 0) (hop 0 t rfl) hb1
      have happ : ∀ (n1 n2 : List T) (h : Hp) (nm : Nat), addH h nm (n1 ++ n2) = addH (addH h nm n1) (nm + n1.length) n2 := by
        intro n1
        induction n1 with
        | nil => intro n2 h nm; simp [addH]
        | cons t n1 ih => intro n2 h nm; simp only [List.cons_append, addH, List.length_cons, ih]; rw [show nm + 1 + n1.length = nm + (n1.length + 1) from by rw [Nat.add_assoc, Nat.add_comm 1]]
      have hB1 : Base w S0 S ds rs rvs g1 (addH h nm n1) := by
        refine ⟨?_, ?_, ?_⟩
        · intro k n v hk hv
          obtain ⟨t, A, q1, q2, q3⟩ := hB.hrs k n v hk hv
          obtain ⟨e1, e2⟩ := b1.old n _ q1
          exact ⟨t, A, e1, by rw [e2]; exact q2, q3⟩
        · intro n hn
          obtain ⟨r, hr⟩ := Option.isSome_iff_exists.1 (hB.hds n hn)
          rw [(b1.old n r hr).1]; rfl
        · intro b hb
          refine (hB.hS0 b hb).imp id ?_
          rintro ⟨n, hn, hb⟩
          obtain ⟨r, hr⟩ := Option.isSome_iff_exists.1 (hB.hds n hn)
          exact ⟨n, hn, by rw [(b1.old n r hr).2]; exact hb⟩
      obtain ⟨g2, c1, c2, c3, c4, c5, c6, c7⟩ := ih us (fun j => Gs (j + 1)) g1 (addH h nm n1) (nm + n1.length) xs n2 lim (by simpa using hl) (fun j t u ht hu => hP (j + 1) t u (by simpa using ht) (by simpa using hu)) b1.hp hB1
        (fun (m : Nat) hm1 hm2 => b1.free m (.inr hm1) (hfree m (Nat.le_trans (Nat.le_add_right _ _) hm1) hm2)) (by rw [Nat.add_assoc]; exact hlim) (fun j => hG (j + 1)) (fun n r b hr hb j hj => by
          rcases b1.new n r b hr hb with ⟨q1, q2⟩ | q
          · rw [q2] at hb; exact hap n r b q1 hb (j + 1) hj
          · exact hd 0 (j + 1) b (by omega) q hj) (fun i j b hij => hd (i + 1) (j + 1) b (by omega)) (fun j t ht => hop (j + 1) t (by simpa using ht)) hb2
      rw [happ]
      refine ⟨g2, c1, fun y u hy => c2 y u (b1.keep y u hy), by simp [c3], ?_, ?_, ?_, ?_⟩
      · intro j x' u' hx hu
        cases j with
        | zero => simp at hx hu; subst hx; subst hu; exact c2 _ _ b1.val
        | succ j => exact c4 j x' u' (by simpa using hx) (by simpa using hu)
      · intro n r hr
        obtain ⟨e1, e2⟩ := b1.old n r hr
        obtain ⟨e3, e4⟩ := c5 n r e1
        exact ⟨e3, e4.trans e2⟩
      · intro n r b hr hb
        rcases c6 n r b hr hb with ⟨q1, q2⟩ | ⟨j, q⟩
        · rw [q2] at hb
          rcases b1.new n r b q1 hb with ⟨q3, q4⟩ | q
          · exact .inl ⟨q3, q2.trans q4⟩
          · exact .inr ⟨0, q⟩
        · exact .inr ⟨j + 1, q⟩
      · intro n hn hr
        simp only [List.length_append] at hn
        exact c7 n (by rcases hn with hn | hn <;> omega) (b1.free n (by rcases hn with hn | hn <;> omega) hr)

theorem bind_ok {t : T} {v : Value} {F : Nat → Prop} (hr : Rs w S0 rvs t v F) : BindP cx w S0 S ds rs rvs t v F := by
  induction hr with
  | own t v F hna ho =>
    intro g h nm sv news lim hp hB hfree hlim hF hap hop hb
    have hS : t.noSh = true ∨ (∀ b, S0 b → S b) ∨ ∃ u, t = .sh u := by
      rcases hop with hop | hop
      · exact .inr (.inl hop)
      · cases t with
        | sh u => exact .inr (.inr ⟨u, rfl⟩)
        | agg => simp [aggT] at hna
        | tup => cases ho
        | _ => exact .inl (by simpa [T.open_] using hop)
    have how : (∀ u, t ≠ .sh u) → Ow w S t v F := by
      intro hns
      rcases hS with h1 | h1 | ⟨u, rfl⟩
      · exact ho.noSh h1
      · exact ho.monoS h1
      · exact absurd rfl (hns u)
    cases ho with
    | int k n => simp [bindR] at hb; obtain ⟨rfl, rfl⟩ := hb; exact ⟨g, bnd_none hp (mk_int _ _)⟩
    | bool b => simp [bindR] at hb; obtain ⟨rfl, rfl⟩ := hb; exact ⟨g, bnd_none hp (mk_bool _)⟩
    | str b => simp [bindR] at hb; obtain ⟨rfl, rfl⟩ := hb; exact ⟨g, bnd_none hp (mk_str _)⟩
    | ints0 k =>
      simp [bindR] at hb; obtain ⟨rfl, rfl⟩ := hb
      have h1 := how (by simp)
      exact ⟨_, bnd_one hp (hfree nm (Nat.le_refl _) (by simp at hlim; omega)) h1 rfl hF hap (ref_of_ow h1 (by simp [T.shp]))⟩
    | rows0 k =>
      simp [bindR] at hb; obtain ⟨rfl, rfl⟩ := hb
      have h1 := how (by simp)
      exact ⟨_, bnd_one hp (hfree nm (Nat.le_refl _) (by simp at hlim; omega)) h1 rfl hF hap (ref_of_ow h1 (by simp [T.shp]))⟩
    | ints k xs A C _ h1 h2 h3 h4 =>
      simp [bindR] at hb; obtain ⟨rfl, rfl⟩ := hb
      have h1 := how (by simp)
      exact ⟨_, bnd_one hp (hfree nm (Nat.le_refl _) (by simp at hlim; omega)) h1 rfl hF hap (ref_of_ow h1 (by simp [T.shp]))⟩
    | rows z xs A C vs G _ h1 h2 h3 h4 h5 h6 h7 h8 =>
      simp [bindR] at hb; obtain ⟨rfl, rfl⟩ := hb
      have h1 := how (by simp)
      exact ⟨_, bnd_one hp (hfree nm (Nat.le_refl _) (by simp at hlim; omega)) h1 rfl hF hap (ref_of_ow h1 (by simp [T.shp]))⟩
    | ptr ts cs A G _ h1 h2 h3 h4 h5 =>
      simp [bindR] at hb; obtain ⟨rfl, rfl⟩ := hb
      have h1 := how (by simp)
      exact ⟨_, bnd_one hp (hfree nm (Nat.le_refl _) (by simp at hlim; omega)) h1 rfl hF hap (ptr_new ⟨_, rfl⟩)⟩
    | agg => simp [aggT] at hna
    | sh t v F hrow hv =>
      simp [bindR, hrow] at hb; obtain ⟨rfl, rfl⟩ := hb
      exact ⟨g, bnd_none hp (.vw _ _ _ hB.hds (by cases t <;> simp_all [T.isRow, aggT]) (hv.mono hB.hS0))⟩
    | dead => simp [bindR] at hb; obtain ⟨rfl, rfl⟩ := hb; exact ⟨g, bnd_none hp (.dead _)⟩
  | ref k v F hk hone =>
    intro g h nm sv news lim hp hB hfree hlim hF hap hop hb
    simp only [bindR, Option.map_eq_some_iff, Prod.mk.injEq] at hb
    obtain ⟨n, hn, rfl, rfl⟩ := hb
    obtain ⟨t, A, q1, q2, rfl⟩ := hB.hrs k n v hn hk
    refine ⟨g, bnd_none hp ?_⟩
    have := SvOk.ptrA (w := w) (S := S) (g := g) (h := h) n [] 0 (.ptr t) A q1 (by rw [q2]; simp [rloc, loc])
    simpa [Addr.add] using this
  | agg ts cs vs G F h1 h2 h3 h4 h5 h6 ih =>
    intro g h nm sv news lim hp hB hfree hlim hF hap hop hb
    simp only [bindR, Option.map_eq_some_iff, Prod.mk.injEq] at hb
    obtain ⟨⟨xs, ns⟩, hb, rfl, rfl⟩ := hb
    have hcs : ∀ (j : Nat) t, ts[j]? = some t → cs.toList[j]? = some (vs j) := fun j t ht => by simpa using h2 j t ht
    obtain ⟨g2, c1, c2, c3, c4, c5, c6, c7⟩ := bindL_ok ts cs.toList (fun j b => j < ts.length ∧ G j b) g h nm xs ns lim (by simp [h1]) (fun j t u ht hu => by
        have := hcs j t ht
        rw [hu] at this
        obtain rfl := by simpa using this
        intro g' h' nm' sv' news' lim' a1 a2 a3 a4 a5 a6 a7 a8
        have hlt := get_lt ht
        obtain ⟨g2, b⟩ := ih j t ht g' h' nm' sv' news' lim' a1 a2 a3 a4 (fun b hb => a5 b ⟨hlt, hb⟩) (fun n r b hr hb hg => a6 n r b hr hb ⟨hlt, hg⟩) a7 a8
        exact ⟨g2, b.hp, b.keep, b.val, b.old, fun n r b' hr hb => (b.new n r b' hr hb).imp id fun h => ⟨hlt, h⟩, b.free⟩) hp hB hfree hlim (fun j b hb => hF b (h6 j b hb.2)) (fun n r b hr hb j hj => hap n r b hr hb (h6 j b hj.2)) (fun i j b hij hi hj => h5 i j b hij hi.2 hj.2) (fun j t ht => by
        rcases hop with hop | hop
        · exact .inl hop
        · right
          have := List.all_eq_true.1 (by simpa [T.open_] using hop) t (List.mem_of_getElem? ht)
          cases t with
          | sh u => rfl
          | agg xs => simp [T.noSh] at this; simp [T.open_]; intro x hx; obtain ⟨i, hi⟩ := List.getElem?_of_mem hx; have := noShL_get this i x hi; cases x <;> simp_all
          | tup xs => simp [T.noSh] at this; simp [T.open_]; intro x hx; obtain ⟨i, hi⟩ := List.getElem?_of_mem hx; have := noShL_get this i x hi; cases x <;> simp_all [T.noSh] <;> (intro y hy; rename_i ys; obtain ⟨k, hk⟩ := List.getElem?_of_mem hy; have := noShL_get this k y hk; cases y <;> simp_all)
          | _ => simpa [T.open_] using this) hb
    refine ⟨g2, c1, c2, ?_, c5, fun n r b hr hb => (c6 n r b hr hb).imp id fun ⟨j, hj⟩ => h6 j b hj.2, c7⟩
    refine .agg xs cs vs (by omega) ?_ ?_ ?_
    · intro j x hx; have := get_lt hx; exact h2 j ts[j] (List.getElem?_eq_getElem (by omega))
    · intro j x hx; have := get_lt hx; exact h3 j ts[j] (List.getElem?_eq_getElem (by omega))
    · intro j x hx; have := get_lt hx; exact c4 j x _ hx (hcs j ts[j] (List.getElem?_eq_getElem (by omega)))
  | tup ts cs vs G F h1 h2 h4 h5 h6 ih =>
    intro g h nm sv news lim hp hB hfree hlim hF hap hop hb
    simp only [bindR, Option.map_eq_some_iff, Prod.mk.injEq] at hb
    obtain ⟨⟨xs, ns⟩, hb, rfl, rfl⟩ := hb
    have hcs : ∀ (j : Nat) t, ts[j]? = some t → cs.toList[j]? = some (vs j) := fun j t ht => by simpa using h2 j t ht
    obtain ⟨g2, c1, c2, c3, c4, c5, c6, c7⟩ := bindL_ok ts cs.toList (fun j b => j < ts.length ∧ G j b) g h nm xs ns lim (by simp [h1]) (fun j t u ht hu => by
        have := hcs j t ht
        rw [hu] at this
        obtain rfl := by simpa using this
        intro g' h' nm' sv' news' lim' a1 a2 a3 a4 a5 a6 a7 a8
        have hlt := get_lt ht
        obtain ⟨g2, b⟩ := ih j t ht g' h' nm' sv' news' lim' a1 a2 a3 a4 (fun b hb => a5 b ⟨hlt, hb⟩) (fun n r b hr hb hg => a6 n r b hr hb ⟨hlt, hg⟩) a7 a8
        exact ⟨g2, b.hp, b.keep, b.val, b.old, fun n r b' hr hb => (b.new n r b' hr hb).imp id fun h => ⟨hlt, h⟩, b.free⟩) hp hB hfree hlim (fun j b hb => hF b (h6 j b hb.2)) (fun n r b hr hb j hj => hap n r b hr hb (h6 j b hj.2)) (fun i j b hij hi hj => h5 i j b hij hi.2 hj.2) (fun j t ht => by
        rcases hop with hop | hop
        · exact .inl hop
        · right
          have := List.all_eq_true.1 (by simpa [T.open_] using hop) t (List.mem_of_getElem? ht)
          cases t with
          | sh u => rfl
          | agg xs => simpa [T.open_] using this
          | tup xs => simp [T.noSh] at this; simp [T.open_]; intro x hx; obtain ⟨i, hi⟩ := List.getElem?_of_mem hx; have := noShL_get this i x hi; cases x <;> simp_all [T.noSh] <;> (intro y hy; rename_i ys; obtain ⟨k, hk⟩ := List.getElem?_of_mem hy; have := noShL_get this k y hk; cases y <;> simp_all)
          | _ => simpa [T.open_] using this) hb
    refine ⟨g2, c1, c2, ?_, c5, fun n r b hr hb => (c6 n r b hr hb).imp id fun ⟨j, hj⟩ => h6 j b hj.2, c7⟩
    refine .tup xs cs vs (by omega) ?_ ?_
    · intro j x hx; have := get_lt hx; exact h2 j ts[j] (List.getElem?_eq_getElem (by omega))
    · intro j x hx; have := get_lt hx; exact c4 j x _ hx (hcs j ts[j] (List.getElem?_eq_getElem (by omega)))
end
end Go.Proofs.Ytdblfocadcgmaaa.Ev
namespace Go.Proofs.Ytdblfocadcgmaaa.Ev
open Go
set_option linter.unusedSimpArgs false
set_option linter.unusedVariables false

theorem ins_mem {n m : Name} {l : List Name} : m ∈ ins n l ↔ m = n ∨ m ∈ l := by
  unfold ins
  split
  · rename_i h
    simp at h
    constructor
    · exact .inr
    · rintro (rfl | h') <;> assumption
  · simp [or_comm]
theorem ins_nodup {n : Name} {l : List Name} (hl : l.Nodup) : (ins n l).Nodup := by
  unfold ins
  split
  · exact hl
  · rename_i h
    simp at h
    rw [List.nodup_append]
    exact ⟨hl, by simp, by intro a ha b hb; simp at hb; subst hb; rintro rfl; exact h ha⟩
theorem insL_mem {m : Name} : ∀ (l acc : List Name), m ∈ insL acc l ↔ m ∈ acc ∨ m ∈ l := by
  intro l
  induction l with
  | nil => intro acc; simp [insL]
  | cons n l ih =>
    intro acc
    rw [insL, ih, ins_mem]
    simp only [List.mem_cons]
    constructor
    · rintro ((h | h) | h)
      · exact .inr (.inl h)
      · exact .inl h
      · exact .inr (.inr h)
    · rintro (h | h | h)
      · exact .inl (.inr h)
      · exact .inl (.inl h)
      · exact .inr h
theorem insL_nodup : ∀ (l acc : List Name), acc.Nodup → (insL acc l).Nodup := by
  intro l
  induction l with
  | nil => intro acc h; exact h
  | cons n l ih => intro acc h; exact ih _ (ins_nodup h)

theorem getAll_get {h : Hp} : ∀ (rs : List Name) (ts : List T), getAll h rs = some ts → ts.length = rs.length ∧ ∀ (k : Nat) n, rs[k]? = some n → ∃ t, h n = some t ∧ ts[k]? = some t := by
  intro rs
  induction rs with
  | nil => intro ts ht; simp [getAll] at ht; subst ht; simp
  | cons n rs ih =>
    intro ts ht
    simp only [getAll, Option.bind_eq_some_iff, Option.map_eq_some_iff] at ht
    obtain ⟨t, h1, ts', h2, rfl⟩ := ht
    obtain ⟨q1, q2⟩ := ih ts' h2
    refine ⟨by simp [q1], ?_⟩
    intro k m hm
    cases k with
    | zero => simp at hm; subst hm; exact ⟨t, h1, rfl⟩
    | succ k => simpa using q2 k m (by simpa using hm)

theorem setAll_out {n : Name} : ∀ (rs : List Name) (ts : List T) (h : Hp), n ∉ rs → setAll h rs ts n = h n := by
  intro rs
  induction rs with
  | nil => intro ts h _; rfl
  | cons m rs ih =>
    intro ts h hn
    simp only [List.mem_cons, not_or] at hn
    cases ts with
    | nil => rfl
    | cons t ts => rw [setAll, ih ts _ hn.2, upd_ne _ _ hn.1]

theorem setAll_in {n : Name} : ∀ (rs : List Name) (ts : List T) (h : Hp) (k : Nat), rs.Nodup → rs.length = ts.length → rs[k]? = some n → setAll h rs ts n = ts[k]? := by
  intro rs
  induction rs with
  | nil => intro ts h k _ _ hk; simp at hk
  | cons m rs ih =>
    intro ts h k hd hl hk
    cases ts with
    | nil => simp at hl
    | cons t ts =>
      rw [List.nodup_cons] at hd
      cases k with
      | zero =>
        simp at hk
        subst hk
        rw [setAll, setAll_out rs ts _ hd.1]
        simp
      | succ k => rw [setAll]; simpa using ih ts _ k hd.2 (by simpa using hl) (by simpa using hk)

section
variable {P : Program} {R : Run} {cx : Cx} {w w' : World} {S : Nat → Prop} {g g' : Gh} {h h' : Hp} {s : Env} {a : Act}

/-- The blocks of the variables that are handed over. -/
def fsOf (g : Gh) (rs : List Name) : Nat → Nat → Prop := fun k b => ∃ n, rs[k]? = some n ∧ (g n).2 b

theorem sto_ok {rs ds : List Name} {sto : List T} (hp : HpOk cx w S g h) (hg : getAll h rs = some sto) (hpt : sto.all T.isPtr = true) (hd : rs.Nodup) :
    Sto w (rdOf S g ds) sto (rs.map fun n => (g n).1) (fsOf g rs) := by
  obtain ⟨q1, q2⟩ := getAll_get rs sto hg
  refine ⟨by simp [q1], ?_, ?_, ?_, ?_, ?_⟩
  · intro k t v hk hv
    simp only [List.getElem?_map, Option.map_eq_some_iff] at hv
    obtain ⟨n, hn, rfl⟩ := hv
    obtain ⟨t', h1, h2⟩ := q2 k n hn
    rw [hk] at h2
    obtain rfl := by simpa using h2
    exact ((hp.own n t h1).mono fun b hb => (⟨n, hn, hb⟩ : fsOf g rs k b)).monoS fun b hb => .inl hb
  · intro k t hk
    exact List.all_eq_true.1 hpt t (List.mem_of_getElem? hk)
  · rintro i j b hij ⟨n, hn, hb⟩ ⟨m, hm, hb'⟩
    obtain ⟨t, h1, _⟩ := q2 i n hn
    obtain ⟨t', h2, _⟩ := q2 j m hm
    have hne : n ≠ m := by
      rintro rfl
      exact hij ((List.getElem?_inj (get_lt hn) hd).1 (hn.trans hm.symm))
    exact hp.apart n m t t' b h1 h2 hne hb hb'
  · rintro k b ⟨n, hn, hb⟩
    obtain ⟨t, h1, _⟩ := q2 k n hn
    exact hp.lt n t b h1 hb
  · rintro k b hk ⟨n, hn, _⟩
    have := get_lt hn
    omega

theorem rs_leaf {S' : Nat → Prop} {rvs : List Value} {t : T} {v : Value} {F : Nat → Prop} (hr : Rs w S' rvs t v F) : True := trivial

/-- Behind a call. -/
theorem call_back {rs ds : List Name} {sto : List T} {r : T × List T} {v : Value} {sv : SV} {news : List T} {nm : Nat} (hp : HpOk cx w S g h) (hg : getAll h rs = some sto) (hpt : sto.all T.isPtr = true) (hd : rs.Nodup) (hds : ∀ n, n ∈ ds → (h n).isSome = true ∧ n ∉ rs)
    (hlen : r.2.length = sto.length) (hop : ds = [] ∨ (r.1.open_ = true ∧ noShL r.2 = true)) (hpost : Post w w' (rdOf S g ds) (fsOf g rs) (rs.map fun n => (g n).1) r v) (hb : bindR ds rs nm r.1 = some (sv, news)) (hfree : ∀ m : Nat, nm ≤ m → m < nm + 16 → h m = none) (hn16 : news.length ≤ 16) :
    ∃ S2 g2, (∀ b, S b → S2 b) ∧ HpOk cx w' S2 g2 (addH (setAll h rs r.2) nm news) ∧ (∀ y u, SvOk w S g h y u → (rs.any fun n => y.und n []) = false → SvOk w' S2 g2 (addH (setAll h rs r.2) nm news) y u) ∧ SvOk w' S2 g2 (addH (setAll h rs r.2) nm news) sv v := by
  obtain ⟨S', Fs', Fr', p1, p2, p3, p4, p5, p6, p7⟩ := hpost.ex
  obtain ⟨q1, q2⟩ := getAll_get rs sto hg
  have hl : rs.length = r.2.length := by omega
  -- the caller's stable blocks
  let S2 : Nat → Prop := fun b => S b ∨ (S' b ∧ w.heap.size ≤ b)
  let g1 : Gh := fun n => if n ∈ rs then ((g n).1, Fs' (rs.idxOf n)) else g n
  have hidx : ∀ n, n ∈ rs → rs[rs.idxOf n]? = some n := by
    intro n hn
    have hi : rs.idxOf n < rs.length := List.idxOf_lt_length_of_mem hn
    rw [List.getElem?_eq_getElem hi, List.getElem_idxOf hi]
  have hin : ∀ n, n ∈ rs → ∃ r0 r1, h n = some r0 ∧ r.2[rs.idxOf n]? = some r1 ∧ setAll h rs r.2 n = some r1 ∧ sto[rs.idxOf n]? = some r0 := by
    intro n hn
    have hk := hidx n hn
    obtain ⟨t, h1, h2⟩ := q2 _ n hk
    have hlt : rs.idxOf n < r.2.length := by rw [← hl]; exact get_lt hk
    exact ⟨t, r.2[rs.idxOf n], h1, List.getElem?_eq_getElem hlt, by rw [setAll_in rs r.2 h _ hd hl hk, List.getElem?_eq_getElem hlt], h2⟩
  have hrv : ∀ n, n ∈ rs → (rs.map fun n => (g n).1)[rs.idxOf n]? = some (g n).1 := by
    intro n hn
    rw [List.getElem?_map, hidx n hn]; rfl
  have hfs : ∀ n b, n ∈ rs → (∃ k, fsOf g rs k b) → True := fun _ _ _ _ => trivial
  -- a block outside of what was handed over is as it was
  have hsame : ∀ b, b < w.heap.size → (∀ k, ¬ fsOf g rs k b) → w'.heap[b]? = w.heap[b]? := fun b hb hk => p1.block b hb fun ⟨k, hk'⟩ => hk k hk'
  have hSsame : ∀ b, S b → w'.heap[b]? = w.heap[b]? := fun b hb => hsame b (hp.Slt b hb) (by
    rintro k ⟨n, hn, hb'⟩
    obtain ⟨t, h1, _⟩ := q2 k n hn
    exact hp.Sapart n t b h1 hb' hb)
  have hFsame : ∀ n r0 b, n ∉ rs → h n = some r0 → (g n).2 b → w'.heap[b]? = w.heap[b]? := by
    intro n r0 b hn hr hb
    refine hsame b (hp.lt n r0 b hr hb) ?_
    rintro k ⟨m, hm, hb'⟩
    obtain ⟨t, h1, _⟩ := q2 k m hm
    have hne : n ≠ m := by rintro rfl; exact hn (List.mem_of_getElem? hm)
    exact hp.apart n m r0 t b hr h1 hne hb hb'
  have hRdS : ∀ b, S b → S' b := fun b hb => p7 b (.inl hb)
  have hS' : ds = [] → ∀ b, S' b → S2 b := by
    rintro rfl b hb
    rcases (p6 b hb).2 with h1 | h1
    · rcases h1 with h1 | ⟨n, hn, _⟩
      · exact .inl h1
      · simp at hn
    · exact .inr ⟨hb, h1⟩
  have hF' : ∀ n b, n ∈ rs → Fs' (rs.idxOf n) b → (cx.M b ∨ cx.w0.heap.size ≤ b) ∧ b < w'.heap.size ∧ ¬ S2 b ∧ ∀ m r0, m ∉ rs → h m = some r0 → ¬ (g m).2 b := by
    intro n b hn hb
    obtain ⟨a1, a2, a3⟩ := p4 _ b hb
    refine ⟨?_, p2.lt _ b hb, ?_, ?_⟩
    · rcases a3 with ⟨k, m, hm, hb'⟩ | h1
      · obtain ⟨t, h1, _⟩ := q2 k m hm
        exact hp.inM m t b h1 hb'
      · exact .inr (Nat.le_trans hp.fr.size h1)
    · rintro (h1 | ⟨h1, _⟩)
      · exact a2 (hRdS b h1)
      · exact a2 h1
    · intro m r0 hm hr hbm
      rcases a3 with ⟨k, m', hm', hb'⟩ | h1
      · obtain ⟨t, h1, _⟩ := q2 k m' hm'
        have hne : m ≠ m' := by rintro rfl; exact hm (List.mem_of_getElem? hm')
        exact hp.apart m m' r0 t b hr h1 hne hbm hb'
      · have := hp.lt m r0 b hr hbm; omega
  have hFr' : ∀ b, Fr' b → (cx.M b ∨ cx.w0.heap.size ≤ b) ∧ b < w'.heap.size ∧ ¬ S2 b ∧ ∀ m r0, m ∉ rs → h m = some r0 → ¬ (g m).2 b := by
    intro b hb
    obtain ⟨a1, a2, a3⟩ := p5 b hb
    refine ⟨?_, a2, ?_, ?_⟩
    · rcases a3 with ⟨k, m, hm, hb'⟩ | h1
      · obtain ⟨t, h1, _⟩ := q2 k m hm
        exact hp.inM m t b h1 hb'
      · exact .inr (Nat.le_trans hp.fr.size h1)
    · rintro (h1 | ⟨h1, _⟩)
      · exact a1 (hRdS b h1)
      · exact a1 h1
    · intro m r0 hm hr hbm
      rcases a3 with ⟨k, m', hm', hb'⟩ | h1
      · obtain ⟨t, h1, _⟩ := q2 k m' hm'
        have hne : m ≠ m' := by rintro rfl; exact hm (List.mem_of_getElem? hm')
        exact hp.apart m m' r0 t b hr h1 hne hbm hb'
      · have := hp.lt m r0 b hr hbm; omega
  -- roots behind the call
  have hroot : ∀ n r1, setAll h rs r.2 n = some r1 → (n ∈ rs ∧ r.2[rs.idxOf n]? = some r1) ∨ (n ∉ rs ∧ h n = some r1) := by
    intro n r1 hr
    by_cases hn : n ∈ rs
    · obtain ⟨_, r2, _, e1, e2, _⟩ := hin n hn
      rw [hr] at e2
      obtain rfl := by simpa using e2
      exact .inl ⟨hn, e1⟩
    · rw [setAll_out rs r.2 h hn] at hr
      exact .inr ⟨hn, hr⟩
  have g1in : ∀ n, n ∈ rs → g1 n = ((g n).1, Fs' (rs.idxOf n)) := fun n hn => if_pos hn
  have g1out : ∀ n, n ∉ rs → g1 n = g n := fun n hn => if_neg hn
  have hp1 : HpOk cx w' S2 g1 (setAll h rs r.2) := by
    refine ⟨?_, ?_, ?_, ?_, ?_, ?_, ?_, ?_, ?_, ?_, fun n hn => by
      obtain ⟨r0, z1, z2, z3⟩ := hp.root n hn
      by_cases hm : n ∈ rs
      · obtain ⟨_, r2, _, e1, e2, _⟩ := hin n hm
        refine ⟨r2, e2, ?_, by rw [g1in n hm]; exact z3⟩
        have := p2.ptr _ r2 e1
        cases r2 <;> simp_all [T.isPtr, T.isV]
      · exact ⟨r0, by rw [setAll_out rs r.2 h hm]; exact z1, z2, by rw [g1out n hm]; exact z3⟩⟩
    · exact hp.fr.trans p1 fun x hx ⟨k, m, hm, hb⟩ => by
        obtain ⟨t, h1, _⟩ := q2 k m hm
        rcases hp.inM m t x h1 hb with h2 | h2
        · exact h2
        · omega
    · intro n r1 hr
      rcases hroot n r1 hr with ⟨hn, e⟩ | ⟨hn, e⟩
      · rw [g1in n hn]
        have how := p2.own _ r1 _ e (hrv n hn)
        rcases hop with rfl | ⟨_, h2⟩
        · exact how.monoS (hS' rfl)
        · exact how.noSh (noShL_get h2 _ r1 e)
      · rw [g1out n hn]
        exact ((hp.own n r1 e).frame (hFsame n r1 · hn e) hSsame).monoS fun b hb => .inl hb
    · intro n r1 hr
      rcases hroot n r1 hr with ⟨hn, e⟩ | ⟨hn, e⟩
      · have := p2.ptr _ r1 e
        cases r1 <;> simp_all [T.isPtr, aggT]
      · exact hp.row n r1 e
    · intro n r1 b hr hb
      rcases hroot n r1 hr with ⟨hn, e⟩ | ⟨hn, e⟩
      · rw [g1in n hn] at hb; exact (hF' n b hn hb).1
      · rw [g1out n hn] at hb; exact hp.inM n r1 b e hb
    · intro n m r1 r2 b hr hr' hne hb hb'
      rcases hroot n r1 hr with ⟨hn, e⟩ | ⟨hn, e⟩ <;> rcases hroot m r2 hr' with ⟨hm, e'⟩ | ⟨hm, e'⟩
      · rw [g1in n hn] at hb
        rw [g1in m hm] at hb'
        have hk : rs.idxOf n ≠ rs.idxOf m := by
          intro h'
          have h1 := hidx n hn
          rw [h', hidx m hm] at h1
          exact hne (by simpa using h1.symm)
        exact p2.disj _ _ b hk hb hb'
      · rw [g1in n hn] at hb
        rw [g1out m hm] at hb'
        exact (hF' n b hn hb).2.2.2 m r2 hm e' hb'
      · rw [g1out n hn] at hb
        rw [g1in m hm] at hb'
        exact (hF' m b hm hb').2.2.2 n r1 hn e hb
      · rw [g1out n hn] at hb
        rw [g1out m hm] at hb'
        exact hp.apart n m r1 r2 b e e' hne hb hb'
    · intro n r1 b hr hb
      rcases hroot n r1 hr with ⟨hn, e⟩ | ⟨hn, e⟩
      · rw [g1in n hn] at hb; exact (hF' n b hn hb).2.1
      · rw [g1out n hn] at hb; exact Nat.lt_of_lt_of_le (hp.lt n r1 b e hb) p1.size
    · intro n r1 b hr hb
      rcases hroot n r1 hr with ⟨hn, e⟩ | ⟨hn, e⟩
      · rw [g1in n hn] at hb; exact (hF' n b hn hb).2.2.1
      · rw [g1out n hn] at hb
        rintro (h1 | ⟨_, h1⟩)
        · exact hp.Sapart n r1 b e hb h1
        · have := hp.lt n r1 b e hb; omega
    · rintro b (h1 | ⟨h1, _⟩)
      · exact Nat.lt_of_lt_of_le (hp.Slt b h1) p1.size
      · exact (p6 b h1).1
    · rintro b (h1 | ⟨_, h1⟩)
      · exact hp.SR b h1
      · exact .inr (Nat.le_trans hp.fr.size h1)
    · intro b hb
      exact .inl (hp.RS b hb)
  have hkeep1 : ∀ y u, SvOk w S g h y u → (rs.any fun n => y.und n []) = false → SvOk w' S2 g1 (setAll h rs r.2) y u := by
    intro y u hy hk
    have hk' : ∀ n, n ∈ rs → y.und n [] = false := by
      intro n hn
      simp only [List.any_eq_false, Bool.not_eq_true] at hk
      exact hk n hn
    have hups : ∀ ds : List Name, (∀ n, n ∈ ds → n ∉ rs) → (∀ n, n ∈ ds → (h n).isSome = true) → ∀ b, upon S g ds b → upon S2 g1 ds b ∧ w'.heap[b]? = w.heap[b]? := by
      intro ds hnr hdm b hb
      rcases hb with hb | ⟨n, hn, hb⟩
      · exact ⟨.inl (.inl hb), hSsame b hb⟩
      · obtain ⟨r0, hr⟩ := Option.isSome_iff_exists.1 (hdm n hn)
        exact ⟨.inr ⟨n, hn, by rw [g1out n (hnr n hn)]; exact hb⟩, hFsame n r0 b (hnr n hn) hr hb⟩
    have hdom : ∀ ds : List Name, (∀ n, n ∈ ds → n ∉ rs) → (∀ n, n ∈ ds → (h n).isSome = true) → ∀ n, n ∈ ds → (setAll h rs r.2 n).isSome = true := by
      intro ds hnr hdm n hn
      rw [setAll_out rs r.2 h (hnr n hn)]
      exact hdm n hn
    clear hk
    induction hy with
    | vw ds t0 v hd hna hv =>
      have hnr : ∀ n, n ∈ ds → n ∉ rs := by
        intro n hn hnrs
        have := hk' n hnrs
        simp [SV.und, hn] at this
      exact .vw ds t0 v (hdom ds hnr hd) hna ((hv.frame fun b hb => (hups ds hnr hd b hb).2).mono fun b hb => (hups ds hnr hd b hb).1)
    | pv ds t0 v A hd hA hb hv ha =>
      have hnr : ∀ n, n ∈ ds → n ∉ rs := by
        intro n hn hnrs
        have := hk' n hnrs
        simp [SV.und, hn] at this
      exact .pv ds t0 v A (hdom ds hnr hd) hA (hups ds hnr hd _ hb).1 ((hv.frame fun b hb => (hups ds hnr hd b hb).2).mono fun b hb => (hups ds hnr hd b hb).1) (ha.frame (hups ds hnr hd _ hb).2)
    | nilI k => exact .nilI k
    | nilR sz => exact .nilR sz
    | nilP => exact .nilP
    | ref n p sz off l r0 base L C b hr hz hhd hsp hb0 hl hlc had ha =>
      have hnr : n ∉ rs := by
        intro hnrs
        have := hk' n hnrs
        have hm : mayPre [] p = true := by cases p <;> rfl
        simp [SV.und, hm] at this
      have hsame := rloc_frame (w' := w') (hp.own n r0 hr) (fun b hb => hFsame n r0 b hnr hr hb) p
      refine .ref n p sz off l r0 base L C b (by rw [setAll_out rs r.2 h hnr]; exact hr) hz ?_ hsp hb0 hl hlc had ha
      rw [g1out n hnr]
      cases p with
      | nil => exact hhd
      | cons s p =>
        simp only [hdr, Option.bind_eq_some_iff] at hhd ⊢
        obtain ⟨Y, hY, hc⟩ := hhd
        exact ⟨Y, by rw [hsame.1]; exact hY, by rw [hsame.2.2 Y (sz, L) hY hz]; exact hc⟩
    | ptrC n p r0 Y hr hY =>
      by_cases hnr : n ∈ rs
      · have := hk' n hnr
        have hm : mayPre [] p = true := by cases p <;> rfl
        have hp0 : p = [] := by
          cases p with
          | nil => rfl
          | cons s p => simp [SV.und, hm] at this
        subst hp0
        obtain ⟨r1, r2, e1, e2, e3, e4⟩ := hin n hnr
        rw [hr] at e1
        obtain rfl := by simpa using e1
        have hpt1 := List.all_eq_true.1 hpt r0 (List.mem_of_getElem? e4)
        have hpt2 := p2.ptr _ r2 e2
        refine .ptrC n [] r2 Y e3 ?_
        rw [g1in n hnr]
        cases r0 <;> simp [T.isPtr] at hpt1
        cases r2 <;> simp [T.isPtr] at hpt2
        cases hrv0 : (g n).1 <;> rw [hrv0] at hY <;> simp [rloc] at hY ⊢
        rename_i ap
        cases ap <;> simp [rloc, loc] at hY ⊢
        exact hY
      · exact .ptrC n p r0 Y (by rw [setAll_out rs r.2 h hnr]; exact hr) (by rw [g1out n hnr, (rloc_frame (w' := w') (hp.own n r0 hr) (fun b hb => hFsame n r0 b hnr hr hb) p).1]; exact hY)
    | ptrA n p o r0 Y hr hY =>
      by_cases hnr : n ∈ rs
      · have := hk' n hnr
        have hm : mayPre [] p = true := by cases p <;> rfl
        have hp0 : p = [] := by
          cases p with
          | nil => rfl
          | cons s p => simp [SV.und, hm] at this
        subst hp0
        obtain ⟨r1, r2, e1, e2, e3, e4⟩ := hin n hnr
        rw [hr] at e1
        obtain rfl := by simpa using e1
        have hpt1 := List.all_eq_true.1 hpt r0 (List.mem_of_getElem? e4)
        have hpt2 := p2.ptr _ r2 e2
        refine .ptrA n [] o r2 Y e3 ?_
        rw [g1in n hnr]
        cases r0 <;> simp [T.isPtr] at hpt1
        cases r2 <;> simp [T.isPtr] at hpt2
        cases hrv0 : (g n).1 <;> rw [hrv0] at hY <;> simp [rloc] at hY ⊢
        rename_i ap
        cases ap <;> simp [rloc, loc] at hY ⊢
        exact hY
      · exact .ptrA n p o r0 Y (by rw [setAll_out rs r.2 h hnr]; exact hr) (by rw [g1out n hnr, (rloc_frame (w' := w') (hp.own n r0 hr) (fun b hb => hFsame n r0 b hnr hr hb) p).1]; exact hY)
    | agg xs cs vs h1 h2 h3 h4 ih => exact .agg xs cs vs h1 h2 h3 fun j x hj => ih j x hj (fun n hn => mem_of_undL (by simpa [SV.und] using hk' n hn) j x hj)
    | tup xs cs vs h1 h2 h4 ih => exact .tup xs cs vs h1 h2 fun j x hj => ih j x hj (fun n hn => mem_of_undL (by simpa [SV.und] using hk' n hn) j x hj)
    | fn f xs cs vs h1 h2 h4 ih => exact .fn f xs cs vs h1 h2 fun j x hj => ih j x hj (fun n hn => mem_of_undL (by simpa [SV.und] using hk' n hn) j x hj)
    | undef => exact .undef
    | dead v => exact .dead v
  -- what is handed back
  have hbase : Base w' S' S2 ds rs (rs.map fun n => (g n).1) g1 (setAll h rs r.2) := by
    refine ⟨?_, ?_, ?_⟩
    · intro k n v hk hv
      have hn : n ∈ rs := List.mem_of_getElem? hk
      simp only [List.getElem?_map, hk, Option.map_some, Option.some.injEq] at hv
      subst hv
      obtain ⟨r1, r2, e1, e2, e3, e4⟩ := hin n hn
      have hpt2 := p2.ptr _ r2 e2
      have how := p2.own _ r2 _ e2 (hrv n hn)
      cases r2 <;> simp [T.isPtr] at hpt2
      obtain ⟨rv, hrv0⟩ : ∃ rv, (g n).1 = rv := ⟨_, rfl⟩
      rw [hrv0] at how ⊢
      cases how
      exact ⟨_, _, e3, by rw [g1in n hn, hrv0], rfl⟩
    · intro n hn
      rw [setAll_out rs r.2 h (hds n hn).2]
      exact (hds n hn).1
    · intro b hb
      rcases (p6 b hb).2 with h1 | h1
      · rcases h1 with h1 | ⟨n, hn, h1⟩
        · exact .inl (.inl h1)
        · exact .inr ⟨n, hn, by rw [g1out n (hds n hn).2]; exact h1⟩
      · exact .inl (.inr ⟨hb, h1⟩)
  have hopen : Open S' S2 r.1 := by
    rcases hop with h1 | ⟨h1, _⟩
    · exact .inl (hS' h1)
    · exact .inr h1
  obtain ⟨g2, b⟩ := bind_ok p3 g1 (setAll h rs r.2) nm sv news (nm + 16) hp1 hbase (fun m h1 h2 => by
      have hm := hfree m h1 h2
      have : m ∉ rs := by
        intro hmr
        obtain ⟨r0, _, e, _⟩ := hin m hmr
        rw [hm] at e
        simp at e
      rw [setAll_out rs r.2 h this]
      exact hm) (Nat.add_le_add_left hn16 nm) (fun b hb => ⟨(hFr' b hb).1, (hFr' b hb).2.1, (hFr' b hb).2.2.1⟩) (fun n r1 b hr hb hf => by
      rcases hroot n r1 hr with ⟨hn, e⟩ | ⟨hn, e⟩
      · rw [g1in n hn] at hb
        exact (p4 _ b hb).1 hf
      · rw [g1out n hn] at hb
        exact (hFr' b hf).2.2.2 n r1 hn e hb) hopen hb
  exact ⟨S2, g2, fun b hb => .inl hb, b.hp, fun y u hy hk => b.keep y u (hkeep1 y u hy hk), b.val⟩
end
end Go.Proofs.Ytdblfocadcgmaaa.Ev
namespace Go.Proofs.Ytdblfocadcgmaaa.Ev
open Go
set_option linter.unusedSimpArgs false
set_option linter.unusedVariables false

/-- An operation and its short form. -/
inductive OkI (P : Program) : Op → I → Prop where
  | mv {x' x} : OkX x' x → OkI P (.move x') (.mv x)
  | as {x' x} : OkX x' x → OkI P (.assign x') (.mv x)
  | cp {x' x} : OkX x' x → OkI P (.move x') (.cp x)
  | cpa {x' x} : OkX x' x → OkI P (.assign x') (.cp x)
  | pick {c' a' b' c a b} : OkX c' c → OkX a' a → OkX b' b → OkI P (.pick c' a' b') (.pick c a b)
  | bin {bb op ty ty' x' y' x y} : OkX x' x → OkX y' y → (bb = true → P.underlying ty = some .bool) → OkI P (.binOp op ty x' y' ty') (.bin bb op x y)
  | un {op ty x' x} : OkX x' x → OkI P (.unOp op ty x') (.un op x)
  | cvi {src dst k x' x d} : OkX x' x → P.underlying src = some d → P.underlying dst = some (.int k) → OkI P (.convert src dst x') (.cvi k x)
  | len {st : Bool} {x' x t} : OkX x' x → (if st then P.underlying t = some .string else ∃ e, P.underlying t = some (.slice e)) → OkI P (.call { callee := .builtin .len, args := #[x'], argTypes := #[t] }) (.len st x)
  | idx {t e z ag x' i' x i} : OkX x' x → OkX i' i → P.underlying t = some (.slice e) → IsZ P e z → OkI P (.indexAddr t x' i') (.idx z ag x i)
  | sidx {t x' i' x i} : OkX x' x → OkX i' i → P.underlying t = some .string → OkI P (.index t x' i') (.sidx x i)
  | fa {t i off z fs x' x} {f : Field} : OkX x' x → P.underlying t = some (.struct fs) → fs[i]? = some f → f.offset = off → IsZ P f.type z → z ≠ 0 → OkI P (.fieldAddr t x' i) (.fa x off)
  | fld {t i off n fs x' x} {f : Field} : OkX x' x → P.underlying t = some (.struct fs) → fs[i]? = some f → f.offset = off → LdT P f.type n → OkI P (.field t x' i) (.fld x off n)
  | ld {t n x' x} : OkX x' x → LdT P t n → OkI P (.load t x') (.ld x n)
  | st {t z x' y' x y} : OkX x' x → OkX y' y → IsZ P t z → OkI P (.store t x' y') (.st z x y)
  | new {el ts} {i : TypeInfo} {z : Value} : P.info? el = some i → i.zero = some z → All2 Zc ts z.cells.toList → OkI P (.alloc el) (.new (.agg ts))
  | box {t x' x} : OkX x' x → OkI P (.box t x') (.box x)
  | bld {t zs places} {ps' : Array (Nat × Operand)} {ps} : BldT P t zs places → All2 (fun (p' : Nat × Operand) (p : Nat × Nat × X) => places[p'.1]? = some (p.1, p.2.1) ∧ OkX p'.2 p.2.2) ps'.toList ps → OkI P (.build t ps') (.bld zs ps)
  | bslI {t e k n z} {ps' : Array (Nat × Operand)} {ps} : ElT P t e 1 z → n ≤ 2 ^ 24 → All2 OkP ps'.toList ps → OkI P (.buildSlice t n ps') (.bsl (.ik k) n ps)
  | bslF {t e sz n z} {ps' : Array (Nat × Operand)} {ps} : ElT P t e sz z → n * sz ≤ 2 ^ 24 → All2 OkP ps'.toList ps → OkI P (.buildSlice t n ps') (.bsl (.flat sz) n ps)
  | bslD {t e sz n z} {ps' : Array (Nat × Operand)} {ps} : ElT P t e sz z → n * sz ≤ 2 ^ 24 → All2 OkP ps'.toList ps → OkI P (.buildSlice t n ps') (.bsl (.deep sz) n ps)
  | litI {t e k n z} {ps' : Array (Nat × Operand)} {ps} : ElT P t e 1 z → n ≤ 2 ^ 24 → All2 OkP ps'.toList ps → OkI P (.buildSlice t n ps') (.lit k n ps)
  | mks {t e k z zt n' c' n c} : ElT P t e k.sz z → ZeroT k zt z → OkX n' n → OkX c' c → OkI P (.makeSlice t n' c') (.mks k zt n c)
  | slc {st : Bool} {t z x' x lo' hi' lo hi} : OkX x' x → OkO lo' lo → OkO hi' hi → (if st then P.underlying t = some .string else ∃ e, P.underlying t = some (.slice e) ∧ IsZ P e z) → OkI P (.slice t x' lo' hi' none) (.slc st z x lo hi)
  | app {k t t' e z x' y' x y} : AppT P t t' e k.sz z → OkX x' x → OkX y' y → OkI P (.call { callee := .builtin .append, args := #[x', y'], argTypes := #[t, t'] }) (.app k x y)
  | mkf {f xs} {os : Array Operand} : All2 OkX os.toList xs → OkI P (.makeFunc (.func f) #[] os) (.mkf f xs)
  | call {f m xs} {os : Array Operand} {ts} : All2 OkX os.toList xs → OkI P (.call { callee := .value (.func f), args := os, argTypes := ts }) (.call m f xs)
  | callv {x' x xs} {os : Array Operand} {ts} : OkX x' x → All2 OkX os.toList xs → OkI P (.call { callee := .value x', args := os, argTypes := ts }) (.callv x xs)
  | ext {x' x i} : OkX x' x → OkI P (.extract x' i) (.ext x i)
  | nilc {x' x} : OkX x' x → OkI P (.nilCheck x') (.nilc x)
  | mnx {mx : Bool} {x' x os xs ts} : OkX x' x → All2 OkX os xs → OkI P (.call { callee := .builtin (if mx then .max else .min), args := (x' :: os).toArray, argTypes := ts }) (.mnx mx x xs)
  | eqs {ne : Bool} {ks t t' x' y' x y} : OkX x' x → OkX y' y → EqT P t ks → OkI P (.binOp (if ne then .neq else .eql) t x' y' t') (.eqs ne ks x y)
  | cpy {k t t' e x' y' x y} : OkX x' x → OkX y' y → P.underlying t = some (.slice e) → IsZ P e 1 → OkI P (.call { callee := .builtin .copy, args := #[x', y'], argTypes := #[t, t'] }) (.cpy k x y)
  | trm {t e z x' x lo' hi' lo hi} : OkX x' x → OkO lo' lo → OkO hi' hi → P.underlying t = some (.slice e) → IsZ P e z → OkI P (.slice t x' lo' hi' none) (.trm z x lo hi)
  | cvsb {src dst e x' x} : OkX x' x → P.underlying src = some .string → P.underlying dst = some (.slice e) → P.underlying e = some (.int .u8) → OkI P (.convert src dst x') (.cvsb x)

section
variable {P : Program} {cx : Cx} {w w' : World} {S : Nat → Prop} {g g' : Gh} {h h' : Hp} {s : Env} {a : Act}

theorem den_lit {o : Oper} {t e : TypeId} {k : IntKind} {n nm : Nat} {z : Value} {ps' : Array (Nat × Operand)} {ps : List (Nat × X)} {vs : List SV} {xs : List Int} (ho : o.op = .buildSlice t n ps') (he : ElT P t e 1 z) (hn : n ≤ 2 ^ 24)
    (hp : All2 OkP ps'.toList ps) (hs : ∀ k, SvOk w S g h (s k) (a.tmps.getD k undef)) (hv : elems 0 n (ps.map fun q => (q.1, q.2.ev s)) = some vs) (hx : intsL k vs = some xs) :
    ∃ val w', (execOp a.eval o).run P w = .ok (.value val) w' ∧ Dn w S g h nm (.vw [] (.ints k xs)) none val w' := by
  obtain ⟨h1, h2⟩ := intsL_get k vs xs hx
  obtain ⟨cs, us, hr, hsz, hl, hc⟩ := bsl_run (P := P) (a := a) ho he (by omega) hp hs hv (by
    intro m v hm u hu
    obtain ⟨x, rfl, _⟩ := h2 m v hm
    rw [ok_int hu]; rfl)
  have hlx : xs.length = n := by omega
  have how : Ow (w.alloc (.cells cs e)) S (.ints k xs) (.slice (some ⟨w.heap.size, 0, none⟩) xs.length n) (fun b => b = w.heap.size) := by
    refine ow_ints (by omega) (by omega) ?_
    intro i x hi
    have hil := get_lt hi
    have hvi : vs[i]? = some vs[i] := List.getElem?_eq_getElem (by omega)
    obtain ⟨n', e1, e2⟩ := h2 i _ hvi
    rw [hi] at e2
    obtain rfl := by simpa using e2
    obtain ⟨q1, q2, q3⟩ := hc i _ hvi
    rw [e1] at q1
    have := q3 0 (by omega)
    rw [ok_int q1] at this
    simpa [Value.cells] using this
  refine ⟨_, _, hr, .inr ⟨Fr.new w _, fun b => b = w.heap.size, ?_, ?_⟩⟩
  · rintro b rfl; simp
  · have := ow_vw how
    rw [hlx] at this
    exact .vw [] _ _ (by simp) rfl (this.mono fun b hb => .inl hb)

theorem val1_dn {o : Oper} {v : SV} {nm : Name} (hv : Val1 P w S g h o a v) : ∃ val w', (execOp a.eval o).run P w = .ok (.value val) w' ∧ Dn w S g h nm v none val w' := by
  obtain ⟨val, h1, h2⟩ := hv
  exact ⟨val, w, h1, .inl ⟨rfl, h2⟩⟩

theorem den_ok {o : Oper} {i : I} {nm : Name} {q : SV × Option T} (hi : OkI P o.op i) (hp : HpOk cx w S g h) (hs : ∀ k, SvOk w S g h (s k) (a.tmps.getD k undef)) (hn : h nm = none) (hd : den i s h nm = some q) :
    ∃ val w', (execOp a.eval o).run P w = .ok (.value val) w' ∧ Dn w S g h nm q.1 q.2 val w' := by
  obtain ⟨op, hop⟩ : ∃ op, o.op = op := ⟨_, rfl⟩
  rw [hop] at hi
  have mvcase : ∀ {x' x}, OkX x' x → (o.op = .move x' ∨ o.op = .assign x') → den (.mv x) s h nm = some q → ∃ val w', (execOp a.eval o).run P w = .ok (.value val) w' ∧ Dn w S g h nm q.1 q.2 val w' := by
    intro x' x hx ho hd
    simp only [den] at hd
    split at hd
    · rename_i t he
      simp only [Option.map_eq_some_iff] at hd
      obtain ⟨z, hz, rfl⟩ := hd
      exact den_mvnil ho hx hs he hz hn
    · obtain rfl := by simpa using hd
      exact val1_dn (den_mv ho hx hs)
  cases hi with
  | mv hx => exact mvcase hx (.inl hop) hd
  | as hx => exact mvcase hx (.inr hop) hd
  | cp hx =>
    obtain rfl := by simpa [den] using hd
    exact val1_dn (den_mv (.inl hop) hx hs)
  | cpa hx =>
    obtain rfl := by simpa [den] using hd
    exact val1_dn (den_mv (.inr hop) hx hs)
  | pick hc hx hy =>
    simp only [den] at hd
    split at hd
    · rename_i t u v e1 e2 e3
      obtain rfl := by simpa using hd
      have := den_pick (P := P) hop hc hx hy hs e1
      rw [e2, e3] at this
      refine val1_dn ?_
      cases t <;> simpa using this
    · rename_i t e1 _
      obtain rfl := by simpa using hd
      exact val1_dn (den_pick hop hc hx hy hs e1)
    · simp at hd
  | bin hx hy hB =>
    simp only [den, Option.map_eq_some_iff] at hd
    obtain ⟨t, hd, rfl⟩ := hd
    exact val1_dn (den_bin hop hx hy hs hB hd)
  | un hx =>
    simp only [den, Option.map_eq_some_iff] at hd
    obtain ⟨t, hd, rfl⟩ := hd
    exact val1_dn (den_un hop hx hs hd)
  | cvi hx h1 h2 =>
    simp only [den, Option.map_eq_some_iff] at hd
    obtain ⟨n, hd, rfl⟩ := hd
    exact val1_dn (den_cvi hop hx hs h1 h2 hd)
  | len hx ht =>
    simp only [den, Option.map_eq_some_iff] at hd
    obtain ⟨n, hd, rfl⟩ := hd
    exact val1_dn (den_len hop hx hs ht hd)
  | idx hx hi ht hz =>
    simp only [den, Option.bind_eq_some_iff, Option.map_eq_some_iff] at hd
    obtain ⟨n, hn', v, hv, rfl⟩ := hd
    exact val1_dn (den_idx hop hx hi hp hs ht hz hn' hv)
  | sidx hx hi ht =>
    simp only [den] at hd
    split at hd
    · rename_i b n e1 e2
      split at hd
      · rename_i h0
        simp only [Option.map_eq_some_iff] at hd
        obtain ⟨c, hc, rfl⟩ := hd
        exact val1_dn (den_sidx hop hx hi hs ht e2 e1 h0 hc)
      · simp at hd
    · simp at hd
  | fa hx h1 h2 h3 h4 h5 =>
    simp only [den] at hd
    split at hd
    · rename_i m p o' e
      obtain rfl := by simpa using hd
      exact val1_dn (den_fa hop hx hs h1 h2 h3 h4 h5 hp.spot (.inl ⟨m, p, o', e, rfl⟩))
    · rename_i ds xs e
      obtain rfl := by simpa using hd
      exact val1_dn (den_fa hop hx hs h1 h2 h3 h4 h5 hp.spot (.inr ⟨ds, xs, e, rfl⟩))
    · simp at hd
  | @fld t i off n fs x' x f hx h1 h2 h3 h4 =>
    simp only [den] at hd
    split at hd
    · rename_i xs e
      cases n with
      | none =>
        simp only [Option.map_eq_some_iff] at hd
        obtain ⟨v, hv, rfl⟩ := hd
        exact val1_dn (den_fld (n := none) hop hx hs h1 h2 h3 h4 e hv)
      | some k =>
        simp only at hd
        split at hd
        · rename_i hle
          obtain rfl := by simpa using hd
          exact val1_dn (den_fld (n := some k) hop hx hs h1 h2 h3 h4 e ⟨hle, rfl⟩)
        · simp at hd
    · simp at hd
  | ld hx ht =>
    simp only [den, Option.map_eq_some_iff] at hd
    obtain ⟨v, hv, rfl⟩ := hd
    exact val1_dn (den_ld hop hx hp hs ht hv)
  | st => simp [den] at hd
  | new h1 h2 h3 =>
    obtain rfl := by simpa [den] using hd
    exact den_new hop h1 h2 h3 hp.Slt
  | box => simp [den] at hd
  | bld h1 h2 =>
    simp only [den, Option.map_eq_some_iff] at hd
    obtain ⟨vs, hvs, rfl⟩ := hd
    exact val1_dn (den_bld hop h1 h2 hs hvs)
  | bslI h1 h2 h3 =>
    simp only [den, Option.bind_eq_some_iff, Option.map_eq_some_iff] at hd
    obtain ⟨vs, hvs, xs, hxs, rfl⟩ := hd
    exact den_bsl_ik hop h1 h2 h3 hs hp.Slt hvs hxs
  | litI h1 h2 h3 =>
    simp only [den, Option.bind_eq_some_iff, Option.map_eq_some_iff] at hd
    obtain ⟨vs, hvs, xs, hxs, rfl⟩ := hd
    exact den_lit hop h1 h2 h3 hs hvs hxs
  | bslF h1 h2 h3 =>
    simp only [den, Option.bind_eq_some_iff] at hd
    obtain ⟨vs, hvs, hd⟩ := hd
    split at hd
    · rename_i hall
      simp only [Option.map_eq_some_iff] at hd
      obtain ⟨ts, hts, rfl⟩ := hd
      exact den_bsl_flat hop h1 h2 h3 hs hp.Slt hvs hall hts
    · simp at hd
  | bslD h1 h2 h3 =>
    simp only [den, Option.bind_eq_some_iff] at hd
    obtain ⟨vs, hvs, hd⟩ := hd
    simp at hd
  | mks h1 h2 h3 h4 =>
    simp only [den, Option.bind_eq_some_iff] at hd
    obtain ⟨x, hx, y, hy, hd⟩ := hd
    split at hd
    · rename_i hc
      obtain rfl := by simpa using hd
      exact den_mks hop h1 h2 h3 h4 hs hp.Slt hx hy hc.1 hc.2.1 hc.2.2
    · simp at hd
  | slc hx hlo hhi ht =>
    simp only [den, Option.map_eq_some_iff] at hd
    obtain ⟨v, hv, rfl⟩ := hd
    exact val1_dn (den_slc hop hx hlo hhi hp hs ht hv)
  | app => simp [den] at hd
  | mkf h1 =>
    obtain rfl := by simpa [den] using hd
    exact val1_dn (den_mkf hop h1 hs)
  | call => simp [den] at hd
  | callv => simp [den] at hd
  | ext hx =>
    simp only [den] at hd
    split at hd
    · rename_i xs e
      simp only [Option.map_eq_some_iff] at hd
      obtain ⟨v, hv, rfl⟩ := hd
      exact val1_dn (den_ext hop hx hs e hv)
    · simp at hd
  | nilc hx =>
    simp only [den] at hd
    split at hd
    · rename_i m p o' e
      obtain rfl := by simpa using hd
      have := den_nilc (P := P) hop hx hs (.inl ⟨m, p, o', e⟩)
      rw [e] at this
      exact val1_dn this
    · rename_i ds t e
      obtain rfl := by simpa using hd
      have := den_nilc (P := P) hop hx hs (.inr (.inl ⟨ds, t, e⟩))
      rw [e] at this
      exact val1_dn this
    · rename_i f xs e
      obtain rfl := by simpa using hd
      have := den_nilc (P := P) hop hx hs (.inr (.inr ⟨f, xs, e⟩))
      rw [e] at this
      exact val1_dn this
    · simp at hd
  | mnx hx hxs =>
    simp only [den] at hd
    split at hd
    · rename_i k b e
      simp only [Option.map_eq_some_iff] at hd
      obtain ⟨n, hn', rfl⟩ := hd
      exact val1_dn (den_mnx hop hx hxs hs e hn')
    · simp at hd
  | eqs hx hy ht =>
    simp only [den] at hd
    split at hd
    · rename_i xs ys e1 e2
      simp only [Option.map_eq_some_iff] at hd
      obtain ⟨b, hb, rfl⟩ := hd
      exact val1_dn (den_eqs hop hx hy ht hs e1 e2 hb)
    · simp at hd
  | cpy => simp [den] at hd
  | trm => simp [den] at hd
  | cvsb hx h1 h2 h3 =>
    simp only [den] at hd
    split at hd
    · rename_i ds b e
      split at hd
      · rename_i hb
        obtain rfl := by simpa using hd
        exact den_cvsb hop hx hs hp.Slt h1 h2 h3 e hb
      · simp at hd
    · simp at hd

theorem wr_ok {o : Oper} {i : I} {nm : Name} {q : SV × Kill × Hp} (hi : OkI P o.op i) (hp : HpOk cx w S g h) (hs : ∀ k, SvOk w S g h (s k) (a.tmps.getD k undef)) (hn : h nm = none) (hd : wr i s h nm = some q) : WrOk P cx w S g h o a q := by
  obtain ⟨op, hop⟩ : ∃ op, o.op = op := ⟨_, rfl⟩
  rw [hop] at hi
  cases hi with
  | st hx hy hz => exact wr_st hop hx hy hz hp hs hd
  | box hx => exact wr_box hop hx hp hs hn hd
  | bslD h1 h2 h3 => exact wr_bsl hop h1 h2 h3 hp hs hn hd
  | cpy hx hy ht hz => exact wr_cpy hop hx hy ht hz hp hs hd
  | trm hx hlo hhi ht hz => exact wr_trm hop hx hlo hhi ht hz hp hs hn hd
  | @app k t t' e z x' y' x y ht hx hy =>
    cases k with
    | ik k => exact wr_app_ik hop hx hy ht hp hs hn hd
    | flat sz => exact wr_app_rows hop hx hy ht (by simp) hp hs hn hd
    | deep sz => exact wr_app_rows hop hx hy ht (by simp) hp hs hn hd
  | _ => simp [wr] at hd
end
end Go.Proofs.Ytdblfocadcgmaaa.Ev
namespace Go.Proofs.Ytdblfocadcgmaaa.Ev
open Go
set_option linter.unusedSimpArgs false
set_option linter.unusedVariables false

/-! #### names -/
def DomIn (h h' : Hp) (nm : Nat) : Prop := ∀ n : Nat, h n = none → (n < nm ∨ nm + 16 ≤ n) → h' n = none

theorem abs_dom {h : Hp} {x : SV} {q : T × Kill × Hp} (hx : x.abs h = some q) : ∀ n, h n = none → q.2.2 n = none := by
  intro n hn
  unfold SV.abs at hx
  split at hx
  · split at hx
    · simp at hx; subst hx; exact hn
    · split at hx <;> simp at hx; subst hx; exact hn
  · simp at hx; subst hx; exact hn
  · rename_i m z off l
    simp only [Option.bind_eq_some_iff, Option.map_eq_some_iff] at hx
    obtain ⟨_, _, _, _, rfl⟩ := hx
    by_cases e : n = m
    · subst e; simp
    · dsimp only; rw [upd_ne _ _ e]; exact hn
  · rename_i m p z off l _
    simp only [Option.bind_eq_some_iff, Option.map_eq_some_iff] at hx
    obtain ⟨r, hr, _, _, _, _, _, _, rfl⟩ := hx
    by_cases e : n = m
    · subst e; rw [hr] at hn; simp at hn
    · dsimp only; rw [upd_ne _ _ e]; exact hn
  · simp at hx

theorem absW_dom {f : Hp → SV → Option (T × Kill × Hp)} (hf : ∀ h x q, f h x = some q → ∀ n, h n = none → q.2.2 n = none) : ∀ (vs : List SV) (h : Hp) (q : List T × Kill × Hp), absW f h vs = some q → ∀ n, h n = none → q.2.2 n = none := by
  intro vs
  induction vs with
  | nil => intro h q hq n hn; simp [absW] at hq; subst hq; exact hn
  | cons v vs ih =>
    intro h q hq n hn
    simp only [absW, Option.bind_eq_some_iff] at hq
    obtain ⟨q1, hq1, hq⟩ := hq
    split at hq
    · simp at hq
    · simp only [Option.map_eq_some_iff] at hq
      obtain ⟨q2, hq2, rfl⟩ := hq
      exact ih _ q2 hq2 n (hf _ _ _ hq1 n hn)

theorem absA_dom {h : Hp} {x : SV} {q : T × Kill × Hp} (hx : absA h x = some q) : ∀ n, h n = none → q.2.2 n = none := by
  intro n hn
  cases x with
  | agg xs =>
    simp only [absA, absL, Option.map_eq_some_iff] at hx
    obtain ⟨q', hq', rfl⟩ := hx
    exact absW_dom (fun h x q hq => abs_dom hq) xs h q' hq' n hn
  | _ => exact abs_dom (by simpa [absA] using hx) n hn

theorem st1_dom {h : Hp} {tp v : SV} {m : Name} {q : Path} {r : Kill × Hp} (hx : st1 h tp m q v = some r) : ∀ n, h n = none → r.2 n = none := by
  intro n hn
  simp only [st1, Option.bind_eq_some_iff] at hx
  obtain ⟨a, ha, hx⟩ := hx
  split at hx
  · simp at hx
  · simp only [Option.bind_eq_some_iff] at hx
    obtain ⟨r0, hr0, u, _, hx⟩ := hx
    split at hx
    · simp at hx
    · simp only [Option.map_eq_some_iff] at hx
      obtain ⟨r', _, rfl⟩ := hx
      have h1 := abs_dom ha n hn
      by_cases e : n = m
      · subst e; rw [hr0] at h1; simp at h1
      · dsimp only; rw [upd_ne _ _ e]; exact h1

theorem stL_dom {tp : SV} {m : Name} {p : Path} : ∀ (vs : List SV) (h : Hp) (o : Nat) (r : Kill × Hp), stL h tp m p o vs = some r → ∀ n, h n = none → r.2 n = none := by
  intro vs
  induction vs with
  | nil => intro h o r hr n hn; simp [stL] at hr; subst hr; exact hn
  | cons v vs ih =>
    intro h o r hr n hn
    simp only [stL, Option.bind_eq_some_iff] at hr
    obtain ⟨a, ha, hr⟩ := hr
    split at hr
    · simp at hr
    · simp only [Option.map_eq_some_iff] at hr
      obtain ⟨b, hb, rfl⟩ := hr
      exact ih _ _ b hb n (st1_dom ha n hn)

theorem upd_dom {h h1 : Hp} {nm : Nat} {t : T} (h1d : ∀ n, h n = none → h1 n = none) : DomIn h (upd h1 nm (some t)) nm := by
  intro n hn hne
  have : n ≠ nm := by omega
  rw [upd_ne _ _ this]
  exact h1d n hn

theorem appTo_dom {h h0 : Hp} {nm : Nat} {app : T → Option T} {k : Nat} {x : SV} {q : SV × Kill × Hp} (h0d : ∀ n, h0 n = none → h n = none) (hq : appTo h nm app k x = some q) : DomIn h0 q.2.2 nm := by
  simp only [appTo, Option.bind_eq_some_iff, Option.map_eq_some_iff] at hq
  obtain ⟨a, ha, zl, _, t', _, rfl⟩ := hq
  intro n hn hne
  have h1 := abs_dom ha n (h0d n hn)
  dsimp only
  by_cases e : n = appName nm x
  · unfold appName at e
    split at e
    · rename_i m z off l
      subst e
      simp only [SV.abs, Option.bind_eq_some_iff] at ha
      obtain ⟨r, hr, _⟩ := ha
      rw [h0d _ hn] at hr
      simp at hr
    · omega
  · rw [upd_ne _ _ e]; exact h1

theorem wr_dom {i : I} {s : Env} {h : Hp} {nm : Nat} {q : SV × Kill × Hp} (hq : wr i s h nm = some q) : DomIn h q.2.2 nm := by
  cases i with
  | st z x v =>
    simp only [wr] at hq
    have one : ∀ {o : Option (Kill × Hp)} {r : Kill × Hp}, o = some r → (∀ r, o = some r → ∀ n, h n = none → r.2 n = none) → q = (.undef, r.1, r.2) → DomIn h q.2.2 nm := by
      rintro o r h1 h2 rfl n hn _
      exact h2 r h1 n hn
    split at hq
    · split at hq
      · simp only [Option.map_eq_some_iff] at hq
        obtain ⟨r, hr, rfl⟩ := hq
        exact one hr (fun r hr => st1_dom hr) rfl
      · simp at hq
    · split at hq
      · simp only [Option.map_eq_some_iff] at hq
        obtain ⟨r, hr, rfl⟩ := hq
        exact one hr (fun r hr => stL_dom _ _ _ r hr) rfl
      · simp at hq
    · split at hq
      · simp only [Option.map_eq_some_iff] at hq
        obtain ⟨r, hr, rfl⟩ := hq
        exact one hr (fun r hr => st1_dom hr) rfl
      · simp at hq
    · simp at hq
  | cpy k x y =>
    simp only [wr] at hq
    split at hq
    · rename_i m z off l _
      simp only [Option.bind_eq_some_iff] at hq
      obtain ⟨ys, _, r, hr, hq⟩ := hq
      split at hq
      · split at hq
        · obtain rfl := by simpa using hq
          intro n hn _
          have : n ≠ m := by rintro rfl; rw [hr] at hn; simp at hn
          dsimp only
          rw [upd_ne _ _ this]; exact hn
        · simp at hq
      · simp at hq
    · simp at hq
  | trm z x lo hi =>
    simp only [wr, Option.bind_eq_some_iff] at hq
    obtain ⟨v, _, hq⟩ := hq
    exact appTo_dom (fun n hn => hn) hq
  | box v =>
    simp only [wr] at hq
    split at hq
    · simp only [Option.map_eq_some_iff, absL] at hq
      obtain ⟨r, hr, rfl⟩ := hq
      exact upd_dom (absW_dom (fun h x q hq => abs_dom hq) _ _ r hr)
    · simp at hq
  | bsl k n ps =>
    cases k with
    | deep sz =>
      simp only [wr, Option.bind_eq_some_iff] at hq
      obtain ⟨vs, _, hq⟩ := hq
      split at hq
      · simp only [Option.map_eq_some_iff, absAL] at hq
        obtain ⟨r, hr, rfl⟩ := hq
        exact upd_dom (absW_dom (fun h x q hq => absA_dom hq) _ _ r hr)
      · simp at hq
    | _ => simp [wr] at hq
  | app k x y =>
    have rowcase : ((appRows k.sz h (y.ev s)).bind fun q => if q.2.1 (x.ev s) then none else
      (appTo q.2.2 nm (fun t => t.app k.sz q.1) q.1.length (x.ev s)).map fun a => (a.1, fun v => q.2.1 v || a.2.1 v, a.2.2)) = some q → DomIn h q.2.2 nm := by
      intro hq
      simp only [Option.bind_eq_some_iff] at hq
      obtain ⟨r, hr, hq⟩ := hq
      split at hq
      · simp at hq
      · simp only [Option.map_eq_some_iff] at hq
        obtain ⟨a, ha, rfl⟩ := hq
        simp only [appRows, Option.bind_eq_some_iff] at hr
        obtain ⟨b, hb, hr⟩ := hr
        have : r.2.2 = b.2.2 := by
          split at hr
          · split at hr
            · simp at hr; rw [← hr]
            · simp at hr
          · simp at hr
        have hfin := appTo_dom (h := r.2.2) (h0 := h) (fun n hn => by rw [this]; exact abs_dom hb n hn) ha
        exact hfin
    cases k with
    | ik k =>
      simp only [wr, Option.bind_eq_some_iff] at hq
      obtain ⟨ys, _, hq⟩ := hq
      exact appTo_dom (fun n hn => hn) hq
    | flat sz => exact rowcase hq
    | deep sz => exact rowcase hq
  | _ => simp [wr] at hq

theorem addH_dom : ∀ (ts : List T) (h : Hp) (nm n : Nat), h n = none → (n < nm ∨ nm + ts.length ≤ n) → addH h nm ts n = none := by
  intro ts
  induction ts with
  | nil => intro h nm n hn _; exact hn
  | cons t ts ih =>
    intro h nm n hn hne
    simp only [List.length_cons] at hne
    rw [addH]
    refine ih _ _ n ?_ (by omega)
    rw [upd_ne _ _ (by omega)]
    exact hn

/-! #### slots -/
section
variable {P : Program} {R : Run} {cx : Cx} {N : Nat} {w w' : World} {S : Nat → Prop} {g g' : Gh} {h h' : Hp} {s s' : Env} {a : Act}

theorem get_put {d k : Nat} {v : Value} : (a.put (some d) v).tmps.getD k undef = if k = d ∧ d < a.tmps.size then v else a.tmps.getD k undef := by
  simp only [Act.put, Array.getD_eq_getD_getElem?, Array.getElem?_setIfInBounds]
  by_cases e : d = k
  · subst e
    by_cases hd : d < a.tmps.size
    · simp [hd]
    · simp [hd]
  · rw [if_neg e, if_neg (fun h => e h.1.symm)]

theorem slots_put {w : World} {d : Option Nat} {v : SV} {val : Value} (hs : ∀ k, SvOk w S g h (s k) (a.tmps.getD k undef)) (hv : SvOk w S g h v val) (hd : ∀ k, d = some k → k < a.tmps.size) : ∀ k, SvOk w S g h (put s d v k) ((a.put d val).tmps.getD k undef) := by
  intro k
  cases d with
  | none => exact hs k
  | some d =>
    rw [get_put]
    simp only [put, upd_app]
    by_cases e : k = d
    · rw [if_pos e, if_pos ⟨e, hd d rfl⟩]; exact hv
    · rw [if_neg e, if_neg (fun h => e h.1)]; exact hs k

theorem slots_kil {φ : Kill} (hs : ∀ k, SvOk w S g h (s k) (a.tmps.getD k undef)) (hk : ∀ y u, SvOk w S g h y u → φ y = false → SvOk w' S g' h' y u) : ∀ k, SvOk w' S g' h' (kil φ s k) (a.tmps.getD k undef) := by
  intro k
  unfold kil
  split
  · exact .dead _
  · rename_i hf
    exact hk _ _ (hs k) (by simpa using hf)

structure SimE (cx : Cx) (N : Nat) (s : Env) (h : Hp) (a : Act) (w : World) : Prop where
  ex : ∃ S g, HpOk cx w S g h ∧ ∀ k, SvOk w S g h (s k) (a.tmps.getD k undef)
  defers : a.defers = []
  size : a.tmps.size = N

theorem size_put (d : Option Nat) (v : Value) : (a.put d v).tmps.size = a.tmps.size := by cases d <;> simp [Act.put]
theorem defers_put (d : Option Nat) (v : Value) : (a.put d v).defers = a.defers := by cases d <;> rfl

/-- What a call leads to. -/
theorem call_run0 (hR : Right P R) {m : Bool} {f : FuncId} {vs : List SV} {us : List Value} {nm : Nat} {q : SV × Kill × Hp} (hp : HpOk cx w S g h) (hall : All2 (SvOk w S g h) vs us) (hq : callSV0 R m f vs h nm = some q) (hfree : ∀ k : Nat, nm ≤ k → k < nm + 16 → h k = none) :
    (∃ fn, P.funcs[f]? = some fn ∧ fn.body.isSome = true ∧ (fn.name == "runtime.NumGoroutine") = false) ∧ (m = false → ∀ y, q.2.1 y = false) ∧ DomIn h q.2.2 nm ∧
    Calls P f us.toArray w fun e w' => ∃ v, e = .returned v ∧ ∃ S2 g2, (∀ b, S b → S2 b) ∧ HpOk cx w' S2 g2 q.2.2 ∧ (∀ y u, SvOk w S g h y u → q.2.1 y = false → SvOk w' S2 g2 q.2.2 y u) ∧ SvOk w' S2 g2 q.2.2 q.1 v := by
  unfold callSV0 at hq
  split at hq
  · simp at hq
  rename_i hany
  split at hq
  · simp at hq
  rename_i hm
  simp only [Option.bind_eq_some_iff] at hq
  obtain ⟨ts, hts, sto, hsto, hq⟩ := hq
  split at hq
  · simp at hq
  rename_i hpt
  simp only [Option.bind_eq_some_iff] at hq
  obtain ⟨r, hr, hq⟩ := hq
  split at hq
  case isFalse => simp at hq
  rename_i hc
  obtain ⟨hc1, hc2, hc3⟩ := hc
  simp only [Option.bind_eq_some_iff] at hq
  obtain ⟨⟨sv, news⟩, hb, hq⟩ := hq
  split at hq
  case isFalse => simp at hq
  rename_i hn16
  obtain rfl := by simpa using hq
  have hn16 : news.length ≤ 16 := hn16
  have hrs : ∀ n, n ∈ insL [] (refsL vs) ↔ n ∈ refsL vs := fun n => by rw [insL_mem]; simp
  have hds : ∀ n, n ∈ insL [] (readsL vs) ↔ n ∈ readsL vs := fun n => by rw [insL_mem]; simp
  have hnd : (insL [] (refsL vs)).Nodup := insL_nodup _ _ (by simp)
  obtain ⟨g1, g2⟩ := getAll_get _ _ hsto
  have hpt' : sto.all T.isPtr = true := by simpa using hpt
  have hroots : ∀ n, n ∈ insL [] (refsL vs) → ∃ t, h n = some t ∧ t.isPtr = true := by
    intro n hn
    obtain ⟨k, hk⟩ := List.getElem?_of_mem hn
    obtain ⟨t, h1, h2⟩ := g2 k n hk
    exact ⟨t, h1, List.all_eq_true.1 hpt' t (List.mem_of_getElem? h2)⟩
  have hdisj : ∀ n, n ∈ readsL vs → n ∉ insL [] (refsL vs) := by
    intro n hn hn'
    apply hany
    simp only [anyIn, List.any_eq_true]
    exact ⟨n, hn, by simpa using hn'⟩
  have hdom : ∀ n, n ∈ readsL vs → (h n).isSome = true := by
    have one : ∀ {x : SV} {u : Value}, SvOk w S g h x u → ∀ n, n ∈ x.reads → (h n).isSome = true := by
      intro x u hx
      induction hx with
      | vw ds t v hd _ _ => intro n hn; exact hd n (by simpa [SV.reads] using hn)
      | pv ds t v A hd => intro n hn; exact hd n (by simpa [SV.reads] using hn)
      | ref n p sz off l r base L C ad hr => intro n' hn; simp [SV.reads] at hn; subst hn; simp [hr]
      | agg xs cs vs h1 h2 h3 h4 ih =>
        intro n hn
        have : ∀ (ys : List SV), (∀ (j : Nat) y, ys[j]? = some y → ∀ n, n ∈ y.reads → (h n).isSome = true) → n ∈ readsL ys → (h n).isSome = true := by
          intro ys
          induction ys with
          | nil => intro _ hn; simp [readsL] at hn
          | cons y ys ih2 =>
            intro hys hn
            simp only [readsL, List.mem_append] at hn
            rcases hn with hn | hn
            · exact hys 0 y rfl n hn
            · exact ih2 (fun j y hy => hys (j + 1) y (by simpa using hy)) hn
        exact this xs (fun j y hy => ih j y hy) (by simpa [SV.reads] using hn)
      | fn f xs cs vs h1 h2 h4 ih =>
        intro n hn
        have : ∀ (ys : List SV), (∀ (j : Nat) y, ys[j]? = some y → ∀ n, n ∈ y.reads → (h n).isSome = true) → n ∈ readsL ys → (h n).isSome = true := by
          intro ys
          induction ys with
          | nil => intro _ hn; simp [readsL] at hn
          | cons y ys ih2 =>
            intro hys hn
            simp only [readsL, List.mem_append] at hn
            rcases hn with hn | hn
            · exact hys 0 y rfl n hn
            · exact ih2 (fun j y hy => hys (j + 1) y (by simpa using hy)) hn
        exact this xs (fun j y hy => ih j y hy) (by simpa [SV.reads] using hn)
      | _ => intro n hn; simp [SV.reads] at hn
    intro n hn
    clear hq hb hts hsto hany hm hrs hds hnd hroots hdisj g1 g2 hpt hpt' hc1 hc2 hc3 hr hn16
    induction hall with
    | nil => simp [readsL] at hn
    | cons hx _ ih =>
      simp only [readsL, List.mem_append] at hn
      rcases hn with hn | hn
      · exact one hx n hn
      · exact ih hn
  obtain ⟨a1, a2⟩ := argL_get _ _ hts
  obtain ⟨b1, b2⟩ := forall2_get hall
  have hargs : All2 (Ag w (rdOf S g (insL [] (readsL vs))) ((insL [] (refsL vs)).map fun n => (g n).1)) ts us := by
    refine all2_of _ _ (by omega) ?_
    intro j t u ht hu
    have hlt := get_lt ht
    have hvj : vs[j]? = some (vs[j]'(by omega)) := List.getElem?_eq_getElem (by omega)
    obtain ⟨t', e1, e2⟩ := a2 j _ hvj
    rw [ht] at e2
    obtain rfl := by simpa using e2
    obtain ⟨u', e3, e4⟩ := b2 j _ hvj
    rw [hu] at e3
    obtain rfl := by simpa using e3
    exact arg_ok hp hroots e4 t e1 (fun n hn => (hds n).2 (readsL_mem j _ hvj hn)) (fun n hn => (hrs n).2 (refsL_mem j _ hvj hn))
  have hstook := sto_ok (ds := insL [] (readsL vs)) hp hsto hpt' hnd
  obtain ⟨fn, f1, f2, f3, f4⟩ := hR f ts sto r hr w us.toArray (rdOf S g (insL [] (readsL vs))) _ _ (by simpa using hargs) hstook (by
      rintro k b ⟨n, hn, hb'⟩ hrd
      obtain ⟨t, h1, _⟩ := g2 k n hn
      rcases hrd with hrd | ⟨n', hn', hrd⟩
      · exact hp.Sapart n t b h1 hb' hrd
      · have hn'2 := (hds n').1 hn'
        obtain ⟨t', ht'⟩ := Option.isSome_iff_exists.1 (hdom n' hn'2)
        have hne : n ≠ n' := by rintro rfl; exact hdisj n hn'2 (List.mem_of_getElem? hn)
        exact hp.apart n n' t t' b h1 ht' hne hb' hrd) (by
      rintro b (hrd | ⟨n', hn', hrd⟩)
      · exact hp.Slt b hrd
      · obtain ⟨t', ht'⟩ := Option.isSome_iff_exists.1 (hdom n' ((hds n').1 hn'))
        exact hp.lt n' t' b ht' hrd)
  refine ⟨⟨fn, f1, f2, f3⟩, ?_, ?_, ?_⟩
  · rintro rfl y
    have : insL [] (refsL vs) = [] := by simpa using hm
    simp [this]
  · intro n hn hne
    refine addH_dom news _ nm n ?_ (by omega)
    by_cases hmem : n ∈ insL [] (refsL vs)
    · obtain ⟨t, ht, _⟩ := hroots n hmem
      rw [hn] at ht
      simp at ht
    · rw [setAll_out _ _ _ hmem]; exact hn
  · refine f4.mono ?_
    rintro e w' ⟨v, rfl, hpost⟩
    obtain ⟨S2, g2', c1, c2, c3, c4⟩ := call_back (nm := nm) hp hsto hpt' hnd (fun n hn => ⟨hdom n ((hds n).1 hn), hdisj n ((hds n).1 hn)⟩) hc1 (by
      simp only [Bool.or_eq_true, Bool.and_eq_true, List.isEmpty_iff] at hc3
      exact hc3) hpost hb hfree hn16
    exact ⟨v, rfl, S2, g2', c1, c2, c3, c4⟩

/-- A variable that is read alone. -/
theorem view_ok (hp : HpOk cx w S g h) {x : SV} {v : Value} (hv : SvOk w S g h x v) : SvOk w S g h (x.view h) v := by
  unfold SV.view
  split
  · rename_i n
    split
    · rename_i t hn
      cases hv with | ptrA _ _ _ r X hr hX =>
      rw [hr] at hn
      obtain rfl := by simpa using hn
      have ho := hp.own n _ hr
      obtain ⟨rv, hrv⟩ : ∃ rv, (g n).1 = rv := ⟨_, rfl⟩
      rw [hrv] at hX ho
      generalize hF : (g n).2 = F at ho
      cases ho with | ptr ts cs A G _ h1 h2 h3 h4 h5 =>
      have hXA : X = A := by simpa [rloc, loc] using hX.symm
      subst hXA
      have hu : ∀ b, (S b ∨ G b) → upon S g [n] b := fun b hb => hb.imp id fun hb => ⟨n, by simp, by rw [hF]; exact (h5 b hb).1⟩
      have e : X.add 0 = X := by simp [Addr.add]
      rw [e]
      exact .pv [n] _ (.agg cs) X (by intro m hm; simp at hm; subst hm; simp [hr]) h2.1 (.inr ⟨n, by simp, by rw [hF]; exact h1⟩) ((ow_vw h4).mono hu) h3
    · exact hv
  · exact hv
theorem views_ok (hp : HpOk cx w S g h) {xs : List SV} {vs : List Value} (hv : All2 (SvOk w S g h) xs vs) : All2 (SvOk w S g h) (xs.map (SV.view h)) vs := by
  induction hv with
  | nil => exact .nil
  | cons hx _ ih => exact .cons (view_ok hp hx) ih

theorem call_run (hR : Right P R) {m : Bool} {f : FuncId} {vs : List SV} {us : List Value} {nm : Nat} {q : SV × Kill × Hp} (hp : HpOk cx w S g h) (hall : All2 (SvOk w S g h) vs us) (hq : callSV R m f vs h nm = some q) (hfree : ∀ k : Nat, nm ≤ k → k < nm + 16 → h k = none) :
    (∃ fn, P.funcs[f]? = some fn ∧ fn.body.isSome = true ∧ (fn.name == "runtime.NumGoroutine") = false) ∧ (m = false → ∀ y, q.2.1 y = false) ∧ DomIn h q.2.2 nm ∧
    Calls P f us.toArray w fun e w' => ∃ v, e = .returned v ∧ ∃ S2 g2, (∀ b, S b → S2 b) ∧ HpOk cx w' S2 g2 q.2.2 ∧ (∀ y u, SvOk w S g h y u → q.2.1 y = false → SvOk w' S2 g2 q.2.2 y u) ∧ SvOk w' S2 g2 q.2.2 q.1 v := by
  unfold callSV at hq
  cases m with
  | true => exact call_run0 hR hp hall hq hfree
  | false => exact call_run0 hR hp (views_ok hp hall) hq hfree
end
end Go.Proofs.Ytdblfocadcgmaaa.Ev
namespace Go.Proofs.Ytdblfocadcgmaaa.Ev
open Go
set_option linter.unusedSimpArgs false
set_option linter.unusedVariables false

section
variable {P : Program} {R : Run} {cx : Cx} {N : Nat} {w w' : World} {S : Nat → Prop} {g g' : Gh} {h h' : Hp} {s s' : Env} {a : Act}

theorem call_exec {o : Oper} {fo : Operand} {os : Array Operand} {ts : Array TypeId} {f : FuncId} {caps : Array Value} {fn : Func} (ho : o.op = .call { callee := .value fo, args := os, argTypes := ts }) (hf : a.eval fo = .func (.func f) #[] caps)
    (h1 : P.funcs[f]? = some fn) (h2 : fn.body.isSome = true) (h3 : (fn.name == "runtime.NumGoroutine") = false) : (execOp a.eval o).run P w = .ok (.enter f (os.map a.eval ++ caps)) w := by
  have hb : fn.body.isNone = false := by cases hb : fn.body <;> simp_all
  simp only [execOp, ho, resolve, hf, Deferred.ofValue, Sem.run_bind, Sem.run_pure, Result.andThen_ok, invoke, callFunc, run_program, h1, h3, hb]
  simp

theorem sim_next {φ : Kill} {S2 : Nat → Prop} {d : Option Nat} {sv : SV} {val : Value} (hs : ∀ k, SvOk w S g h (s k) (a.tmps.getD k undef)) (hd : ∀ k, d = some k → k < a.tmps.size) (hp : HpOk cx w' S2 g' h')
    (hk : ∀ y u, SvOk w S g h y u → φ y = false → SvOk w' S2 g' h' y u) (hv : SvOk w' S2 g' h' sv val) (h1 : a.defers = []) (h2 : a.tmps.size = N) : SimE cx N (put (kil φ s) d sv) h' (a.put d val) w' := by
  refine ⟨⟨S2, g', hp, slots_put ?_ hv hd⟩, by rw [defers_put]; exact h1, by rw [size_put]; exact h2⟩
  intro k
  unfold kil
  split
  · exact .dead _
  · rename_i hf
    exact hk _ _ (hs k) (by simpa using hf)

theorem sim_next0 {S2 : Nat → Prop} {d : Option Nat} {sv : SV} {val : Value} (hs : ∀ k, SvOk w S g h (s k) (a.tmps.getD k undef)) (hd : ∀ k, d = some k → k < a.tmps.size) (hp : HpOk cx w' S2 g' h')
    (hk : ∀ y u, SvOk w S g h y u → SvOk w' S2 g' h' y u) (hv : SvOk w' S2 g' h' sv val) (h1 : a.defers = []) (h2 : a.tmps.size = N) : SimE cx N (put s d sv) h' (a.put d val) w' :=
  ⟨⟨S2, g', hp, slots_put (fun k => hk _ _ (hs k)) hv hd⟩, by rw [defers_put]; exact h1, by rw [size_put]; exact h2⟩

theorem dn_sim {nm : Name} {q : SV × Option T} {val : Value} {d : Option Nat} (hp : HpOk cx w S g h) (hs : ∀ k, SvOk w S g h (s k) (a.tmps.getD k undef)) (hn : h nm = none) (hd : ∀ k, d = some k → k < a.tmps.size) (hdn : Dn w S g h nm q.1 q.2 val w') (h1 : a.defers = []) (h2 : a.tmps.size = N) :
    SimE cx N (put s d q.1) (match q.2 with | some t => upd h nm (some t) | none => h) (a.put d val) w' := by
  obtain ⟨v, new⟩ := q
  cases new with
  | none =>
    rcases hdn with ⟨rfl, hv⟩ | ⟨hfr, F, hF, hv⟩
    · exact sim_next0 hs hd hp (fun y u hy => hy) hv h1 h2
    · have hb : ∀ b, b < w.heap.size → w'.heap[b]? = w.heap[b]? := fun b hb => hfr.block b hb (by simp)
      have hp1 : HpOk cx w' S g h := hp.grow (hp.fr.trans hfr (by simp)) (fun n r b hr hb' => hb b (hp.lt n r b hr hb')) (fun b hb' => hb b (hp.Slt b hb')) hfr.size
      have hp2 : HpOk cx w' (fun b => S b ∨ F b) g h := ⟨hp1.fr, fun n r hr => (hp1.own n r hr).monoS fun b hb => .inl hb, hp1.row, hp1.inM, hp1.apart, hp1.lt,
        fun n r b hr hb' => by rintro (h | h); · exact hp1.Sapart n r b hr hb' h
                               · have := hp.lt n r b hr hb'; have := (hF b h).1; omega,
        fun b hb' => hb'.elim (hp1.Slt b) fun h => (hF b h).2, fun b hb' => hb'.elim (hp1.SR b) fun h => .inr (Nat.le_trans hp.fr.size (hF b h).1), fun b hb' => .inl (hp1.RS b hb'), hp1.root⟩
      exact sim_next0 hs hd hp2 (fun y u hy => hy.frame (fun b hb' => .inl hb') (fun b hb' => hb b (hp.Slt b hb')) (fun n r hr => hr) (fun n r hr => rfl) (fun n r hr => hp.own n r hr) (fun n r b hr hb' => hb b (hp.lt n r b hr hb'))) hv h1 h2
  | some t =>
    obtain ⟨hfr, rv, F, hna, how, hF, hv⟩ := hdn
    have hb : ∀ b, b < w.heap.size → w'.heap[b]? = w.heap[b]? := fun b hb => hfr.block b hb (by simp)
    obtain ⟨f1, f2⟩ := fin (cx := cx) (Q := fun _ => False) hp hn how hna hfr.os hfr.tape hfr.output hfr.size (fun b hb' _ => hb b hb') (by simp) (fun b hb' => .inr (hF b hb'))
    exact sim_next0 hs hd f1 f2 hv h1 h2

theorem stepI_ok (hR : Right P R) {o : Oper} {i : I} {nm : Nat} {q : Env × Hp} {Q : Exit → Act → World → Prop} (hi : OkI P o.op i) (hsim : SimE cx N s h a w) (hfree : ∀ k : Nat, nm ≤ k → k < nm + 16 → h k = none) (hd : ∀ k, o.dst = some k → k < N) (hst : stepI R i s h nm o.dst = some q) :
    o.wp P a w (SimE cx N q.1 q.2) Q ∧ DomIn h q.2 nm := by
  obtain ⟨⟨S, g, hp, hs⟩, h1, h2⟩ := hsim
  have hn : h nm = none := hfree nm (Nat.le_refl _) (by omega)
  have hd' : ∀ k, o.dst = some k → k < a.tmps.size := fun k hk => by rw [h2]; exact hd k hk
  -- a call
  have calls : ∀ (m : Bool) (f : FuncId) (fo : Operand) (os : Array Operand) (ts : Array TypeId) (caps : Array Value) (vs : List SV) (qc : SV × Kill × Hp), o.op = .call { callee := .value fo, args := os, argTypes := ts } → a.eval fo = .func (.func f) #[] caps →
      All2 (SvOk w S g h) vs ((os.map a.eval ++ caps).toList) → callSV R m f vs h nm = some qc → ((m = true ∧ q = (put (kil qc.2.1 s) o.dst qc.1, qc.2.2)) ∨ (m = false ∧ q = (put s o.dst qc.1, qc.2.2))) → o.wp P a w (SimE cx N q.1 q.2) Q ∧ DomIn h q.2 nm := by
    intro m f fo os ts caps vs qc hop hf hall hqc hq
    obtain ⟨⟨fn, e1, e2, e3⟩, c1, c2, c3⟩ := call_run hR hp hall hqc hfree
    have hrun := call_exec (P := P) (w := w) hop hf e1 e2 e3
    refine ⟨?_, by rcases hq with ⟨_, rfl⟩ | ⟨_, rfl⟩ <;> exact c2⟩
    unfold Oper.wp
    rw [hrun, Oper.upon_enter]
    simp only [Array.toArray_toList] at c3
    refine c3.mono ?_
    rintro e w' ⟨v, rfl, S2, g2, d1, d2, d3, d4⟩
    rcases hq with ⟨rfl, rfl⟩ | ⟨rfl, rfl⟩
    · exact sim_next hs hd' d2 d3 d4 h1 h2
    · exact sim_next0 hs hd' d2 (fun y u hy => d3 y u hy (c1 rfl y)) d4 h1 h2
  obtain ⟨op, hop⟩ : ∃ op, o.op = op := ⟨_, rfl⟩
  have hi' := hi
  rw [hop] at hi'
  by_cases hcall : ∃ m f xs, i = .call m f xs
  · obtain ⟨m, f, xs, rfl⟩ := hcall
    cases hi' with | @call _ _ _ os ts hos =>
    have hall := evs_ok (a := a) hos hs
    cases m with
    | false =>
      simp only [stepI, Option.map_eq_some_iff] at hst
      obtain ⟨qc, hqc, rfl⟩ := hst
      exact calls false f (.func f) os ts #[] _ qc hop rfl (by simpa using hall) hqc (.inr ⟨rfl, rfl⟩)
    | true =>
      simp only [stepI, Option.map_eq_some_iff] at hst
      obtain ⟨qc, hqc, rfl⟩ := hst
      exact calls true f (.func f) os ts #[] _ qc hop rfl (by simpa using hall) hqc (.inl ⟨rfl, rfl⟩)
  · by_cases hcallv : ∃ x xs, i = .callv x xs
    · obtain ⟨x, xs, rfl⟩ := hcallv
      cases hi' with | @callv x' _ _ os ts hx hos =>
      have hall := evs_ok (a := a) hos hs
      have hvx := ev_ok (a := a) hx hs
      simp only [stepI] at hst
      split at hst
      · rename_i f cs e
        simp only [Option.map_eq_some_iff] at hst
        obtain ⟨qc, hqc, rfl⟩ := hst
        rw [e] at hvx
        generalize hval : a.eval x' = val at hvx
        cases hvx with | fn _ _ caps vs q1 q2 q3 =>
        have hcaps : All2 (SvOk w S g h) cs caps.toList := by
          refine all2_of _ _ (by simp [q1]) ?_
          intro j x c hj hc
          have := q2 j x hj
          rw [← Array.getElem?_toList, hc] at this
          obtain rfl := by simpa using this
          exact q3 j x hj
        have happ : ∀ {xs ys : List SV} {us vs : List Value}, All2 (SvOk w S g h) xs us → All2 (SvOk w S g h) ys vs → All2 (SvOk w S g h) (xs ++ ys) (us ++ vs) := by
          intro xs ys us vs h1 h2
          induction h1 with
          | nil => exact h2
          | cons hx _ ih => exact .cons hx ih
        refine calls true f x' os ts caps _ qc hop hval ?_ hqc (.inl ⟨rfl, rfl⟩)
        rw [Array.toList_append, Array.toList_map]
        exact happ hall hcaps
      · simp at hst
    · have hst' : (if i.isM then (wr i s h nm).map fun q => (put (kil q.2.1 s) o.dst q.1, q.2.2) else (den i s h nm).map fun q => (put s o.dst q.1, match q.2 with | some t => upd h nm (some t) | none => h)) = some q := by
        cases i with
        | call m f xs => exact absurd ⟨m, f, xs, rfl⟩ hcall
        | callv x xs => exact absurd ⟨x, xs, rfl⟩ hcallv
        | _ => exact hst
      split at hst'
      · simp only [Option.map_eq_some_iff] at hst'
        obtain ⟨qw, hqw, rfl⟩ := hst'
        obtain ⟨w', g2, n, val, r1, r2, r3, r4, r5⟩ := wr_ok hi hp hs hn hqw
        refine ⟨?_, wr_dom hqw⟩
        unfold Oper.wp
        rw [r1]
        rcases r2 with ⟨rfl, rfl⟩ | rfl
        · exact sim_next hs hd' r3 r4 r5 h1 h2
        · exact sim_next hs hd' r3 r4 r5 h1 h2
      · simp only [Option.map_eq_some_iff] at hst'
        obtain ⟨qd, hqd, rfl⟩ := hst'
        obtain ⟨val, w', r1, r2⟩ := den_ok hi hp hs hn hqd
        refine ⟨?_, ?_⟩
        · unfold Oper.wp
          rw [r1]
          exact dn_sim hp hs hn hd' r2 h1 h2
        · intro n hn' hne
          have hne' : n ≠ nm := by omega
          obtain ⟨v, new⟩ := qd
          cases new with
          | none => exact hn'
          | some t => dsimp only; rw [upd_ne _ _ hne']; exact hn'

/-! #### guards -/
/-- An operation in its place and its short form. -/
structure OkG (P : Program) (N : Nat) (ops : Array Oper) (o : Oper) (gg : G) : Prop where
  d : o.dst = gg.d
  i : OkI P o.op gg.i
  lt : ∀ k, o.dst = some k → k < N
  gd : (o.guard = none ∧ gg.g = none) ∨ ∃ j k want, o.guard = some (j, want) ∧ gg.g = some (k, want) ∧ (ops[j]?).bind (·.dst) = some k

theorem stepG_ok (hR : Right P R) {ops : Array Oper} {i : Nat} {o : Oper} {gg : G} {nm : Nat} {q : Env × Hp} {Q : Exit → Act → World → Prop} (ho : ops[i]? = some o) (hg : OkG P N ops o gg) (hsim : SimE cx N s h a w) (hfree : ∀ k : Nat, nm ≤ k → k < nm + 16 → h k = none) (hst : stepG R gg s h nm = some q) :
    wpOp P ops Q i (SimE cx N q.1 q.2) a w ∧ DomIn h q.2 nm := by
  have hskip : Region.wanted o (yielded ops a.tmps) = false → q = (put s gg.d .undef, h) → wpOp P ops Q i (SimE cx N q.1 q.2) a w ∧ DomIn h q.2 nm := by
    rintro hw rfl
    refine ⟨?_, fun n hn _ => hn⟩
    unfold wpOp
    rw [ho]
    simp only [hw, Bool.false_eq_true, if_false]
    obtain ⟨⟨S, g, hp, hs⟩, h1, h2⟩ := hsim
    rw [← hg.d]
    exact sim_next0 hs (fun k hk => by rw [h2]; exact hg.lt k hk) hp (fun y u hy => hy) .undef h1 h2
  have hrun : Region.wanted o (yielded ops a.tmps) = true → stepI R gg.i s h nm gg.d = some q → wpOp P ops Q i (SimE cx N q.1 q.2) a w ∧ DomIn h q.2 nm := by
    intro hw hst
    rw [← hg.d] at hst
    obtain ⟨z1, z2⟩ := stepI_ok (Q := Q) hR hg.i hsim hfree hg.lt hst
    refine ⟨?_, z2⟩
    unfold wpOp
    rw [ho]
    simp only [hw, if_true]
    exact .inl z1
  rcases hg.gd with ⟨g1, g2⟩ | ⟨j, k, want, g1, g2, g3⟩
  · simp only [stepG, g2] at hst
    exact hrun (by simp [Region.wanted, g1]) hst
  · simp only [stepG, g2] at hst
    have hsim' := hsim
    obtain ⟨⟨S, g, hp, hs⟩, h1, h2⟩ := hsim'
    have hk := hs k
    split at hst
    · rename_i b e
      rw [e] at hk
      have hv := ok_bool hk
      have hy : yielded ops a.tmps j = some b := by
        have ht : a.tmps[k]? = some (.bool b) := by
          rw [Array.getD_eq_getD_getElem?] at hv
          cases ht : a.tmps[k]? with
          | none => rw [ht] at hv; simp [undef] at hv
          | some v => rw [ht] at hv; simpa using hv
        simp [yielded, g3, ht]
      split at hst
      · rename_i hbw
        exact hrun (by simp [Region.wanted, g1, hy, hbw]) hst
      · rename_i hbw
        exact hskip (by simp [Region.wanted, g1, hy]; exact hbw) (by simpa using hst.symm)
    · rename_i e
      rw [e] at hk
      have hv : a.tmps.getD k undef = undef := by generalize a.tmps.getD k undef = v at hk; cases hk; rfl
      have hy : yielded ops a.tmps j = none := by
        simp only [yielded, g3, Option.bind_some]
        rw [Array.getD_eq_getD_getElem?] at hv
        cases ht : a.tmps[k]? with
        | none => rfl
        | some v => rw [ht] at hv; simp at hv; subst hv; rfl
      exact hskip (by simp [Region.wanted, g1, hy]) (by simpa using hst.symm)
    · simp at hst
end
end Go.Proofs.Ytdblfocadcgmaaa.Ev
namespace Go.Proofs.Ytdblfocadcgmaaa.Ev
open Go
set_option linter.unusedSimpArgs false
set_option linter.unusedVariables false

theorem evL_runL (R : Run) (gs : List G) (base : Nat) : ∀ (n i : Nat) (st : Env × Hp), i + n = gs.length → evL R (base + 16 * i) (gs.drop i) st.1 st.2 = runL R gs base (List.range' i n) st := by
  intro n
  induction n with
  | zero =>
    intro i st hi
    rw [List.drop_of_length_le (by omega)]
    rfl
  | succ n ih =>
    intro i st hi
    have hlt : i < gs.length := by omega
    rw [List.drop_eq_getElem_cons hlt, List.range'_succ, runL, evL]
    simp only [stepAt, List.getElem?_eq_getElem hlt, Option.bind_some]
    congr 1
    funext q
    have := ih (i + 1) q (by omega)
    rw [← this]
    congr 1

structure OkReg (P : Program) (N : Nat) (ops : Array Oper) (gs : List G) : Prop where
  len : gs.length = ops.size
  ok : ∀ (i : Nat) o, ops[i]? = some o → ∃ gg, gs[i]? = some gg ∧ OkG P N ops o gg

def Free (base : Nat) (l : List Nat) (h : Hp) : Prop := ∀ i, i ∈ l → ∀ k : Nat, base + 16 * i ≤ k → k < base + 16 * i + 16 → h k = none

section
variable {P : Program} {R : Run} {cx : Cx} {N : Nat} {w : World} {a : Act}

theorem sim_runL (hR : Right P R) {ops : Array Oper} {gs : List G} {base : Nat} {Q : Exit → Act → World → Prop} (hok : OkReg P N ops gs) : ∀ (l : List Nat) (st st' : Env × Hp) (a : Act) (w : World), SimE cx N st.1 st.2 a w → l.Nodup → Free base l st.2 →
    runL R gs base l st = some st' → (∀ i, i ∈ l → i < ops.size) → (∀ a' w', SimE cx N st'.1 st'.2 a' w' → Q .normal a' w') → wpOps P ops Q l a w := by
  intro l
  induction l with
  | nil =>
    intro st st' a w hs _ _ hr _ hQ
    obtain rfl := by simpa [runL] using hr
    exact hQ a w hs
  | cons i l ih =>
    intro st st' a w hs hnd hf hr hlt hQ
    rw [List.nodup_cons] at hnd
    simp only [runL, Option.bind_eq_some_iff] at hr
    obtain ⟨st1, h1, hr⟩ := hr
    have hil := hlt i (by simp)
    have ho : ops[i]? = some ops[i] := Array.getElem?_eq_getElem hil
    obtain ⟨gg, hg, hgo⟩ := hok.ok i _ ho
    simp only [stepAt, hg, Option.bind_some] at h1
    obtain ⟨z1, z2⟩ := stepG_ok (Q := Q) hR ho hgo hs (hf i (by simp)) h1
    rw [wpOps_cons]
    refine wpOp_mono (fun a' w' hs' => ih st1 st' a' w' hs' hnd.2 ?_ hr (fun j hj => hlt j (by simp [hj])) hQ) z1
    intro j hj k hk1 hk2
    refine z2 k (hf j (by simp [hj]) k hk1 hk2) ?_
    have hne : j ≠ i := by rintro rfl; exact hnd.1 hj
    rcases Nat.lt_or_gt_of_ne hne with h | h
    · left; omega
    · right; omega

theorem dom_runL (hR : Right P R) {ops : Array Oper} {gs : List G} {base : Nat} (hok : OkReg P N ops gs) : ∀ (l : List Nat) (st st' : Env × Hp) (a : Act) (w : World), SimE cx N st.1 st.2 a w → runL R gs base l st = some st' → (∀ i, i ∈ l → i < ops.size) → Free base l st.2 → l.Nodup →
    (∃ a' w', SimE cx N st'.1 st'.2 a' w') ∧ ∀ n : Nat, st.2 n = none → (∀ i, i ∈ l → n < base + 16 * i ∨ base + 16 * i + 16 ≤ n) → st'.2 n = none := by
  intro l
  induction l with
  | nil =>
    intro st st' a w hs hr _ _ _
    obtain rfl := by simpa [runL] using hr
    exact ⟨⟨a, w, hs⟩, fun n hn _ => hn⟩
  | cons i l ih =>
    intro st st' a w hs hr hlt hf hnd
    rw [List.nodup_cons] at hnd
    simp only [runL, Option.bind_eq_some_iff] at hr
    obtain ⟨st1, h1, hr⟩ := hr
    have hil := hlt i (by simp)
    have ho : ops[i]? = some ops[i] := Array.getElem?_eq_getElem hil
    obtain ⟨gg, hg, hgo⟩ := hok.ok i _ ho
    simp only [stepAt, hg, Option.bind_some] at h1
    obtain ⟨z1, z2⟩ := stepG_ok (Q := fun _ _ _ => False) hR ho hgo hs (hf i (by simp)) h1
    -- the step leads somewhere
    have hex : ∃ a' w', SimE cx N st1.1 st1.2 a' w' := by
      unfold wpOp at z1
      rw [ho] at z1
      simp only at z1
      split at z1
      · rcases z1 with z1 | ⟨_, ⟨_, _, hq⟩⟩
        · unfold Oper.wp at z1
          generalize (execOp a.eval ops[i]).run P w = r at z1
          cases r with
          | ok n w' =>
            cases n with
            | value v => exact ⟨_, _, z1⟩
            | skip => exact ⟨_, _, z1⟩
            | defer d => exact ⟨_, _, z1⟩
            | enter f args =>
              obtain ⟨e, w'', fr, hR', _⟩ := z1 []
              cases e with
              | returned v => exact ⟨_, _, hR'⟩
              | panicked c => exact hR'.elim
              | outgrown => obtain ⟨_, _, hq⟩ := hR'; exact hq.elim
            | row r args =>
              obtain ⟨v, w'', hR', _⟩ := z1 default []
              exact ⟨_, _, hR'⟩
            | _ => exact z1.elim
          | halt x w' => cases x <;> first | exact z1.elim | exact (z1 : False).elim
        · exact hq.elim
      · exact ⟨_, _, z1⟩
    obtain ⟨a1, w1, hs1⟩ := hex
    have hf1 : Free base l st1.2 := by
      intro j hj k hk1 hk2
      refine z2 k (hf j (by simp [hj]) k hk1 hk2) ?_
      have hne : j ≠ i := by rintro rfl; exact hnd.1 hj
      rcases Nat.lt_or_gt_of_ne hne with h | h
      · left; omega
      · right; omega
    obtain ⟨q1, q2⟩ := ih st1 st' a1 w1 hs1 hr (fun j hj => hlt j (by simp [hj])) hf1 hnd.2
    refine ⟨q1, fun n hn hne => q2 n (z2 n hn (by have := hne i (by simp); omega)) fun j hj => hne j (by simp [hj])⟩
end
end Go.Proofs.Ytdblfocadcgmaaa.Ev
namespace Go.Proofs.Ytdblfocadcgmaaa.Ev
open Go
set_option linter.unusedSimpArgs false
set_option linter.unusedVariables false

def X.rd : X → List Nat
  | .t i => [i]
  | .c _ => []

def I.xs : I → List X
  | .mv x => [x]
  | .cp x => [x]
  | .pick c a b => [c, a, b]
  | .bin _ _ x y => [x, y]
  | .un _ x => [x]
  | .cvi _ x => [x]
  | .len _ x => [x]
  | .idx _ _ x i => [x, i]
  | .sidx x i => [x, i]
  | .fa x _ => [x]
  | .fld x _ _ => [x]
  | .ld x _ => [x]
  | .st _ x v => [x, v]
  | .new _ => []
  | .box v => [v]
  | .bld _ ps => ps.map fun q => q.2.2
  | .bsl _ _ ps => ps.map fun q => q.2
  | .mks _ _ n c => [n, c]
  | .lit _ _ ps => ps.map fun q => q.2
  | .slc _ _ x lo hi => x :: (lo.toList ++ hi.toList)
  | .app _ x y => [x, y]
  | .mkf _ xs => xs
  | .call _ _ xs => xs
  | .callv x xs => x :: xs
  | .ext x _ => [x]
  | .nilc x => [x]
  | .mnx _ x xs => x :: xs
  | .cvsb x => [x]
  | .cvbs x => [x]
  | .eqs _ _ x y => [x, y]
  | .cpy _ x y => [x, y]
  | .trm _ x lo hi => x :: (lo.toList ++ hi.toList)

/-- The slots that an operation reads. -/
def G.rd (g : G) : List Nat := g.i.xs.flatMap X.rd ++ (match g.g with | some (k, _) => [k] | none => [])

theorem ev_congr {s s' : Env} {x : X} (h : ∀ k, k ∈ x.rd → s k = s' k) : x.ev s = x.ev s' := by
  cases x with
  | t i => exact h i (by simp [X.rd])
  | c v => rfl

/-- What the operands come to. -/
def Alike (s s' : Env) (i : I) : Prop := ∀ x, x ∈ i.xs → x.ev s = x.ev s'

theorem map_ev {s s' : Env} {xs : List X} (h : ∀ x, x ∈ xs → x.ev s = x.ev s') : xs.map (X.ev s) = xs.map (X.ev s') := List.map_congr_left h

theorem den_congr {s s' : Env} {i : I} {h : Hp} {nm : Name} (ha : Alike s s' i) : den i s h nm = den i s' h nm := by
  cases i with
  | bld zs ps =>
    have : ps.map (fun q => (q.1, q.2.1, q.2.2.ev s)) = ps.map (fun q => (q.1, q.2.1, q.2.2.ev s')) := List.map_congr_left fun q hq => by rw [ha q.2.2 (by simp only [I.xs, List.mem_map]; exact ⟨q, hq, rfl⟩)]
    simp only [den, this]
  | bsl k n ps =>
    have : ps.map (fun q => (q.1, q.2.ev s)) = ps.map (fun q => (q.1, q.2.ev s')) := List.map_congr_left fun q hq => by rw [ha q.2 (by simp only [I.xs, List.mem_map]; exact ⟨q, hq, rfl⟩)]
    cases k <;> simp only [den, this]
  | lit k n ps =>
    have : ps.map (fun q => (q.1, q.2.ev s)) = ps.map (fun q => (q.1, q.2.ev s')) := List.map_congr_left fun q hq => by rw [ha q.2 (by simp only [I.xs, List.mem_map]; exact ⟨q, hq, rfl⟩)]
    simp only [den, this]
  | slc st z x lo hi =>
    have h1 := ha x (by simp [I.xs])
    have h2 : opt s lo = opt s' lo := by
      cases lo with
      | none => rfl
      | some y => simp [opt, ha y (by simp [I.xs])]
    have h3 : opt s hi = opt s' hi := by
      cases hi with
      | none => rfl
      | some y => simp [opt, ha y (by simp [I.xs])]
    simp only [den, h1, h2, h3]
  | mkf f xs => simp only [den]; rw [map_ev (s := s) (s' := s') (xs := xs) ha]
  | mnx mx x xs =>
    have h1 : xs.map (X.ev s) = xs.map (X.ev s') := map_ev fun y hy => ha y (by simp [I.xs, hy])
    simp only [den, ha x (by simp [I.xs]), h1]
  | pick c a b => simp only [den, ha c (by simp [I.xs]), ha a (by simp [I.xs]), ha b (by simp [I.xs])]
  | bin bb op x y => simp only [den, ha x (by simp [I.xs]), ha y (by simp [I.xs])]
  | idx z a x i => simp only [den, ha x (by simp [I.xs]), ha i (by simp [I.xs])]
  | sidx x i => simp only [den, ha x (by simp [I.xs]), ha i (by simp [I.xs])]
  | mks k z x i => simp only [den, ha x (by simp [I.xs]), ha i (by simp [I.xs])]
  | new t => rfl
  | call m f xs => rfl
  | callv x xs => rfl
  | st z x y => rfl
  | box x => rfl
  | app k x y => rfl
  | mv x => simp only [den, ha x (by simp [I.xs])]
  | cp x => simp only [den, ha x (by simp [I.xs])]
  | un op x => simp only [den, ha x (by simp [I.xs])]
  | cvi op x => simp only [den, ha x (by simp [I.xs])]
  | len op x => simp only [den, ha x (by simp [I.xs])]
  | fa x o => simp only [den, ha x (by simp [I.xs])]
  | fld x o n => simp only [den, ha x (by simp [I.xs])]
  | ld x n => simp only [den, ha x (by simp [I.xs])]
  | ext x n => simp only [den, ha x (by simp [I.xs])]
  | nilc x => simp only [den, ha x (by simp [I.xs])]
  | cvsb x => simp only [den, ha x (by simp [I.xs])]
  | cvbs x => simp only [den, ha x (by simp [I.xs])]
  | eqs ne ks x y => simp only [den, ha x (by simp [I.xs]), ha y (by simp [I.xs])]
  | cpy k x y => rfl
  | trm z x lo hi => rfl

theorem wr_congr {s s' : Env} {i : I} {h : Hp} {nm : Name} (ha : Alike s s' i) : wr i s h nm = wr i s' h nm := by
  cases i with
  | st z x y => simp only [wr, ha x (by simp [I.xs]), ha y (by simp [I.xs])]
  | box x => simp only [wr, ha x (by simp [I.xs])]
  | cpy k x y => simp only [wr, ha x (by simp [I.xs]), ha y (by simp [I.xs])]
  | trm z x lo hi =>
    have h1 := ha x (by simp [I.xs])
    have h2 : opt s lo = opt s' lo := by
      cases lo with
      | none => rfl
      | some y => simp [opt, ha y (by simp [I.xs])]
    have h3 : opt s hi = opt s' hi := by
      cases hi with
      | none => rfl
      | some y => simp [opt, ha y (by simp [I.xs])]
    simp only [wr, h1, h2, h3]
  | app k x y => cases k <;> simp only [wr, ha x (by simp [I.xs]), ha y (by simp [I.xs])]
  | bsl k n ps =>
    have : ps.map (fun q => (q.1, q.2.ev s)) = ps.map (fun q => (q.1, q.2.ev s')) := List.map_congr_left fun q hq => by rw [ha q.2 (by simp only [I.xs, List.mem_map]; exact ⟨q, hq, rfl⟩)]
    cases k <;> simp only [wr, this]
  | _ => rfl

/-! #### operations that write nothing -/
def callA0 (R : Run) (f : FuncId) (vs : List SV) (h : Hp) (nm : Name) : Option (SV × List T) :=
  if !(insL [] (refsL vs)).isEmpty then none else (argL h [] vs).bind fun ts => (R f ts []).bind fun r =>
    if r.2.length = 0 ∧ r.2.all T.isPtr = true ∧ ((insL [] (readsL vs)).isEmpty || (r.1.open_ && noShL r.2)) = true then (bindR (insL [] (readsL vs)) [] nm r.1).bind fun q => if q.2.length ≤ 16 then some q else none else none

theorem callSV_A0 {R : Run} {f : FuncId} {vs : List SV} {h : Hp} {nm : Name} {q : SV × Kill × Hp} (hq : callSV0 R false f vs h nm = some q) : ∃ news, callA0 R f vs h nm = some (q.1, news) ∧ q.2.2 = addH h nm news ∧ news.length ≤ 16 := by
  unfold callSV0 at hq
  split at hq
  · simp at hq
  split at hq
  · simp at hq
  rename_i hm
  have he : insL [] (refsL vs) = [] := by simpa using hm
  rw [he] at hq
  simp only [Option.bind_eq_some_iff] at hq
  obtain ⟨ts, hts, sto, hsto, hq⟩ := hq
  obtain rfl : [] = sto := by simpa [getAll] using hsto
  split at hq
  · simp at hq
  simp only [Option.bind_eq_some_iff] at hq
  obtain ⟨r, hr, hq⟩ := hq
  split at hq
  case isFalse => simp at hq
  rename_i hc
  simp only [Option.bind_eq_some_iff] at hq
  obtain ⟨⟨sv, news⟩, hb, hq⟩ := hq
  split at hq
  case isFalse => simp at hq
  rename_i h16
  obtain rfl := by simpa using hq
  refine ⟨news, ?_, by simp [setAll], h16⟩
  unfold callA0
  rw [he]
  simp only [List.isEmpty_nil, Bool.not_true, Bool.false_eq_true, if_false, hts, Option.bind_some, hr]
  rw [if_pos (by simpa using hc)]
  simp only [hb, Option.bind_some]
  rw [if_pos h16]

theorem callA_SV0 {R : Run} {f : FuncId} {vs : List SV} {h : Hp} {nm : Name} {sv : SV} {news : List T} (hq : callA0 R f vs h nm = some (sv, news)) : ∃ k, callSV0 R false f vs h nm = some (sv, k, addH h nm news) := by
  unfold callA0 at hq
  split at hq
  · simp at hq
  rename_i hm
  have he : insL [] (refsL vs) = [] := by simpa using hm
  simp only [Option.bind_eq_some_iff] at hq
  obtain ⟨ts, hts, r, hr, hq⟩ := hq
  split at hq
  case isFalse => simp at hq
  rename_i hc
  simp only [Option.bind_eq_some_iff] at hq
  obtain ⟨⟨sv', news'⟩, hb, hq⟩ := hq
  split at hq
  case isFalse => simp at hq
  rename_i h16
  simp only [Option.some.injEq, Prod.mk.injEq] at hq
  obtain ⟨rfl, rfl⟩ := hq
  refine ⟨fun v => false, ?_⟩
  unfold callSV0
  rw [he]
  have hany : anyIn (readsL vs) [] = false := by simp [anyIn]
  simp only [hany, Bool.false_eq_true, if_false, List.isEmpty_nil, Bool.not_false, Bool.not_true, Bool.and_false, hts, Option.bind_some, getAll, List.all_nil, hr, List.length_nil]
  rw [if_pos hc]
  simp only [hb, Option.bind_some]
  rw [if_pos h16]
  simp [setAll]

def callA (R : Run) (f : FuncId) (vs : List SV) (h : Hp) (nm : Name) : Option (SV × List T) := callA0 R f (vs.map (SV.view h)) h nm
theorem callSV_A {R : Run} {f : FuncId} {vs : List SV} {h : Hp} {nm : Name} {q : SV × Kill × Hp} (hq : callSV R false f vs h nm = some q) : ∃ news, callA R f vs h nm = some (q.1, news) ∧ q.2.2 = addH h nm news ∧ news.length ≤ 16 := callSV_A0 hq
theorem callA_SV {R : Run} {f : FuncId} {vs : List SV} {h : Hp} {nm : Name} {sv : SV} {news : List T} (hq : callA R f vs h nm = some (sv, news)) : ∃ k, callSV R false f vs h nm = some (sv, k, addH h nm news) := callA_SV0 hq

def isA : I → Bool
  | .call m _ _ => !m
  | .callv _ _ => false
  | i => !i.isM

def effI (R : Run) (i : I) (s : Env) (h : Hp) (nm : Name) : Option (SV × List T) :=
  match i with
  | .call false f xs => callA R f (xs.map (X.ev s)) h nm
  | i => (den i s h nm).map fun q => (q.1, q.2.toList)

theorem stepI_eff {R : Run} {i : I} {s : Env} {h : Hp} {nm : Nat} {d : Option Nat} {q : Env × Hp} (hi : isA i = true) : stepI R i s h nm d = some q ↔ ∃ v news, effI R i s h nm = some (v, news) ∧ q = (put s d v, addH h nm news) ∧ news.length ≤ 16 := by
  have hden : ∀ i : I, i.isM = false → (∀ m f xs, i ≠ .call m f xs) → (∀ x xs, i ≠ .callv x xs) → (stepI R i s h nm d = (den i s h nm).map fun q => (put s d q.1, match q.2 with | some t => upd h nm (some t) | none => h)) ∧ effI R i s h nm = (den i s h nm).map fun q => (q.1, q.2.toList) := by
    intro i h1 h2 h3
    cases i with
    | call m f xs => exact absurd rfl (h2 m f xs)
    | callv x xs => exact absurd rfl (h3 x xs)
    | _ => exact ⟨by first | (simp only [stepI, h1, Bool.false_eq_true, if_false]; done) | (simp only [stepI, h1, Bool.false_eq_true, if_false]; rfl), rfl⟩
  cases i with
  | callv x xs => simp [isA] at hi
  | call m f xs =>
    cases m with
    | true => simp [isA] at hi
    | false =>
      simp only [stepI, effI, Option.map_eq_some_iff]
      constructor
      · rintro ⟨qc, hqc, rfl⟩
        obtain ⟨news, h1, h2, h3⟩ := callSV_A hqc
        exact ⟨qc.1, news, h1, by rw [h2], h3⟩
      · rintro ⟨v, news, h1, rfl, h3⟩
        obtain ⟨k, hk⟩ := callA_SV h1
        exact ⟨_, hk, rfl⟩
  | _ =>
    obtain ⟨e1, e2⟩ := hden _ (by simpa [isA] using hi) (by simp) (by simp)
    rw [e1, e2]
    simp only [Option.map_eq_some_iff]
    constructor
    · rintro ⟨⟨v, t⟩, hd, rfl⟩
      refine ⟨v, t.toList, ⟨⟨v, t⟩, hd, rfl⟩, ?_, by cases t <;> simp⟩
      cases t <;> rfl
    · rintro ⟨v, news, ⟨⟨v', t⟩, hd, he⟩, rfl, _⟩
      simp only [Prod.mk.injEq] at he
      obtain ⟨rfl, rfl⟩ := he
      refine ⟨⟨v', t⟩, hd, ?_⟩
      cases t <;> rfl

/-- The names that a value leans on stand alike in both. -/
def HLike (h h' : Hp) (v : SV) : Prop := ∀ n, n ∈ v.names → h n = h' n

theorem namesL_mem {n : Name} : ∀ {xs : List SV} (x : SV), x ∈ xs → n ∈ x.names → n ∈ namesL xs := by
  intro xs
  induction xs with
  | nil => intro x hx; simp at hx
  | cons y xs ih =>
    intro x hx hn
    simp only [namesL, List.mem_append]
    rcases List.mem_cons.1 hx with rfl | hx
    · exact .inl hn
    · exact .inr (ih x hx hn)

mutual
theorem argT_congr {h h' : Hp} {rs : List Name} : ∀ (x : SV), (∀ n, n ∈ x.names → h n = h' n) → argT h rs x = argT h' rs x
  | .vw ds t, _ => rfl
  | .pv ds t, _ => rfl
  | .nilS t, _ => rfl
  | .ref m p z o l, hh => by simp only [argT, hh m (by simp [SV.names])]
  | .ptr m [] none, _ => rfl
  | .ptr m [] (some 0), _ => rfl
  | .ptr m [] (some (k + 1)), _ => rfl
  | .ptr m (s :: p) none, _ => rfl
  | .ptr m (s :: p) (some k), _ => rfl
  | .agg xs, hh => by simp only [argT, argL_congr xs (fun n hn => hh n (by simpa [SV.names] using hn))]
  | .tup xs, _ => rfl
  | .fn f xs, hh => by simp only [argT, argL_congr xs (fun n hn => hh n (by simpa [SV.names] using hn))]
  | .undef, _ => rfl
  | .dead, _ => rfl
theorem argL_congr {h h' : Hp} {rs : List Name} : ∀ (xs : List SV), (∀ n, n ∈ namesL xs → h n = h' n) → argL h rs xs = argL h' rs xs
  | [], _ => rfl
  | x :: xs, hh => by
    simp only [argL, argT_congr x (fun n hn => hh n (by simp [namesL, hn])), argL_congr xs (fun n hn => hh n (by simp [namesL, hn]))]
end

theorem effI_heap {R : Run} {i : I} {s : Env} {h h' : Hp} {nm : Name} (hh : ∀ x, x ∈ i.xs → HLike h h' (x.ev s)) : effI R i s h nm = effI R i s h' nm := by
  have hld : ∀ n v, HLike h h' v → ldSV h n v = ldSV h' n v := by
    intro n v hv
    cases v with
    | ptr m p o => cases o <;> simp only [ldSV, hv m (by simp [SV.names])]
    | _ => rfl
  have hri : ∀ v, HLike h h' v → readInts h v = readInts h' v := by
    intro v hv
    cases v with
    | ref m p z o l => simp only [readInts, hv m (by simp [SV.names])]
    | vw ds t => cases t <;> rfl
    | _ => rfl
  cases i with
  | call m f xs =>
    cases m with
    | true => rfl
    | false =>
      have hview : (xs.map (X.ev s)).map (SV.view h) = (xs.map (X.ev s)).map (SV.view h') := by
        rw [List.map_map, List.map_map]
        refine List.map_congr_left fun x hx => ?_
        have := hh x (by simpa [I.xs] using hx)
        show (x.ev s).view h = (x.ev s).view h'
        unfold SV.view
        split
        · rename_i n he
          rw [he] at this
          rw [this n (by simp [SV.names])]
        · rfl
      have hnv : ∀ v : SV, ∀ n, n ∈ (v.view h').names → n ∈ v.names := by
        intro v n hn
        unfold SV.view at hn
        split at hn
        · split at hn
          · simpa [SV.names] using hn
          · exact hn
        · exact hn
      simp only [effI, callA, callA0]
      rw [hview, argL_congr (h := h) (h' := h') ((xs.map (X.ev s)).map (SV.view h')) (by
        intro n hn
        have : ∀ (ys : List X), (∀ x, x ∈ ys → HLike h h' (x.ev s)) → n ∈ namesL ((ys.map (X.ev s)).map (SV.view h')) → h n = h' n := by
          intro ys
          induction ys with
          | nil => intro _ hn; simp [namesL] at hn
          | cons y ys ih =>
            intro hy hn
            simp only [List.map_cons, namesL, List.mem_append] at hn
            rcases hn with hn | hn
            · exact hy y (by simp) n (hnv _ n hn)
            · exact ih (fun x hx => hy x (by simp [hx])) hn
        exact this xs (fun x hx => hh x (by simpa [I.xs] using hx)) hn)]
  | ld x n => simp only [effI, den, hld n (x.ev s) (hh x (by simp [I.xs]))]
  | cvbs x =>
    simp only [effI, den]
    have := hri (x.ev s) (hh x (by simp [I.xs]))
    cases hx : x.ev s <;> rw [hx] at this <;> simp only [this]
  | _ => rfl

theorem effI_congr {R : Run} {s s' : Env} {i : I} {h : Hp} {nm : Name} (ha : Alike s s' i) : effI R i s h nm = effI R i s' h nm := by
  cases i with
  | call m f xs =>
    cases m with
    | true => rfl
    | false => simp only [effI]; rw [map_ev (s := s) (s' := s') (xs := xs) ha]
  | _ => simp only [effI]; rw [den_congr ha]
end Go.Proofs.Ytdblfocadcgmaaa.Ev
namespace Go.Proofs.Ytdblfocadcgmaaa.Ev
open Go
set_option linter.unusedSimpArgs false
set_option linter.unusedVariables false

def isP : I → Bool
  | .cp _ => true
  | .pick _ _ _ => true
  | .bin _ _ _ _ => true
  | .un _ _ => true
  | .cvi _ _ => true
  | .sidx _ _ => true
  | _ => false

def X.clean : X → Bool
  | .t _ => true
  | .c v => v.names.isEmpty

/-- May they change places? -/
def indep (a b : G) : Bool :=
  (a.d.toList.all fun k => !b.rd.contains k) && (b.d.toList.all fun k => !a.rd.contains k) && (a.d.toList.all fun k => !b.d.toList.contains k) &&
  a.i.xs.all X.clean && b.i.xs.all X.clean && ((isA a.i && isA b.i) || isP a.i || isP b.i)

def KillOk (φ : Kill) : Prop := ∀ v : SV, v.names = [] → φ v = false

def kv (φ : Kill) (v : SV) : SV := if φ v then .dead else v

theorem kil_ev {φ : Kill} {s : Env} {x : X} (hφ : KillOk φ) (hx : x.clean = true) : x.ev (kil φ s) = kv φ (x.ev s) := by
  cases x with
  | t i => rfl
  | c v =>
    have : φ v = false := hφ v (by simpa [X.clean] using hx)
    simp [X.ev, kv, this]

theorem kv_name {φ : Kill} {v : SV} (hφ : KillOk φ) (hv : v.names = []) : kv φ v = v := by simp [kv, hφ v hv]

theorem kv_or (φ : Kill) (v : SV) : kv φ v = .dead ∨ kv φ v = v := by
  unfold kv
  split
  · exact .inl rfl
  · exact .inr rfl

theorem kv_bin {φ : Kill} (hφ : KillOk φ) (bb : Bool) (op : BinOp) (u v : SV) : binSV bb op (kv φ u) (kv φ v) = binSV bb op u v := by
  by_cases hu : u.names = []
  · rw [kv_name hφ hu]
    by_cases hv : v.names = []
    · rw [kv_name hφ hv]
    · have h1 : binSV bb op u v = none := by
        unfold binSV
        split <;> first | rfl | (simp [SV.names] at hv)
      rw [h1]
      unfold kv
      split
      · unfold binSV; cases bb <;> cases u <;> first | rfl | (rename_i ds t; cases ds <;> cases t <;> rfl)
      · exact h1
  · have h1 : binSV bb op u (kv φ v) = none ∧ binSV bb op u v = none := by
      constructor <;> (unfold binSV; split <;> first | rfl | (simp [SV.names] at hu))
    rw [h1.2]
    unfold kv at h1 ⊢
    split
    · unfold binSV; cases bb <;> rfl
    · exact h1.1

theorem kv_int {φ : Kill} (hφ : KillOk φ) (v : SV) : (kv φ v).int? = v.int? := by
  by_cases hv : v.names = []
  · rw [kv_name hφ hv]
  · have : v.int? = none := by
      unfold SV.int?
      split <;> first | rfl | (simp [SV.names] at hv)
    rw [this]
    unfold kv
    split
    · rfl
    · exact this

theorem kv_un {φ : Kill} (hφ : KillOk φ) (op : UnOp) (v : SV) : unSV op (kv φ v) = unSV op v := by
  by_cases hv : v.names = []
  · rw [kv_name hφ hv]
  · have : unSV op v = none := by
      unfold unSV
      split <;> first | rfl | (simp [SV.names] at hv)
    rw [this]
    unfold kv
    split
    · cases op <;> rfl
    · exact this

/-- Plain operations see no difference where something was taken away. -/
theorem den_kil {φ : Kill} {i : I} {s : Env} {h h' : Hp} {nm nm' : Name} (hφ : KillOk φ) (hi : isP i = true) (hc : i.xs.all X.clean = true) :
    (∃ v, den i s h nm = some (v, none) ∧ den i (kil φ s) h' nm' = some (kv φ v, none)) ∨ (den i s h nm = none ∧ den i (kil φ s) h' nm' = none) := by
  have hcl : ∀ x, x ∈ i.xs → x.ev (kil φ s) = kv φ (x.ev s) := fun x hx => kil_ev hφ (List.all_eq_true.1 hc x hx)
  cases i with
  | cp x =>
    left
    exact ⟨x.ev s, rfl, by simp only [den, hcl x (by simp [I.xs])]⟩
  | bin bb op x y =>
    simp only [den, hcl x (by simp [I.xs]), hcl y (by simp [I.xs]), kv_bin hφ]
    cases hb : binSV bb op (x.ev s) (y.ev s) with
    | none => right; simp
    | some t => left; exact ⟨.vw [] t, rfl, by simp [kv_name (v := .vw [] t) hφ rfl]⟩
  | un op x =>
    simp only [den, hcl x (by simp [I.xs]), kv_un hφ]
    cases hb : unSV op (x.ev s) with
    | none => right; simp
    | some t => left; exact ⟨.vw [] t, rfl, by simp [kv_name (v := .vw [] t) hφ rfl]⟩
  | cvi k x =>
    simp only [den, hcl x (by simp [I.xs]), kv_int hφ]
    cases hb : (x.ev s).int? with
    | none => right; simp
    | some t => left; exact ⟨.vw [] (.int k (k.wrap t)), rfl, by simp [kv_name (v := .vw [] (.int k (k.wrap t))) hφ rfl]⟩
  | sidx x i =>
    simp only [den, hcl x (by simp [I.xs]), hcl i (by simp [I.xs]), kv_int hφ]
    by_cases hx : (x.ev s).names = []
    · rw [kv_name hφ hx]
      split
      · rename_i b n e1 e2
        split
        · cases hb : b[n.toNat]? with
          | none => right; simp
          | some c => left; exact ⟨_, rfl, by rw [kv_name hφ rfl]; rfl⟩
        · right; simp
      · right; simp
    · have h1 : ∀ (u : SV) (o : Option Int), u.names ≠ [] → (match u, o with | .vw [] (.str b), some n => if 0 ≤ n then (b[n.toNat]?).map fun c => ((SV.vw [] (.int .u8 c.toNat), none) : SV × Option T) else none | _, _ => none) = none := by
        intro u o hu
        split
        · simp [SV.names] at hu
        · rfl
      right
      refine ⟨h1 _ _ hx, ?_⟩
      rcases kv_or φ (x.ev s) with e | e
      · rw [e]
      · rw [e]; exact h1 _ _ hx
  | pick c a b =>
    simp only [den, hcl c (by simp [I.xs]), hcl a (by simp [I.xs]), hcl b (by simp [I.xs])]
    by_cases hcn : (c.ev s).names = []
    · rw [kv_name hφ hcn]
      cases hce : c.ev s with
      | vw ds t =>
        rw [hce] at hcn
        simp only [SV.names] at hcn
        subst hcn
        cases t with
        | bool t =>
          left
          refine ⟨if t then a.ev s else b.ev s, ?_, ?_⟩
          · split
            · rename_i e1 e2 e3; simp at e1; subst e1; rw [e2, e3]; cases t <;> rfl
            · rename_i e1 _; simp at e1; subst e1; rfl
            · rename_i h1 _; exact absurd rfl (h1 t)
          · split
            · rename_i x y e1 e2 e3
              simp at e1; subst e1
              have hb : ∀ (v : SV) (b : Bool), kv φ v = .vw [] (.bool b) → v = .vw [] (.bool b) := by
                intro v b hv
                unfold kv at hv
                split at hv
                · simp at hv
                · exact hv
              rw [hb _ _ e2, hb _ _ e3]
              cases t <;> simp [kv_name (v := .vw [] (.bool _)) hφ rfl]
            · rename_i e1 _; simp at e1; subst e1; cases t <;> rfl
            · rename_i h1 _; exact absurd rfl (h1 t)
        | _ => right; constructor <;> rfl
      | _ => right; constructor <;> rfl
    · right
      have h1 : ∀ (u x y : SV), u.names ≠ [] → (match u, x, y with
        | .vw [] (.bool t), .vw [] (.bool x), .vw [] (.bool y) => some ((SV.vw [] (.bool (if t then x else y)), none) : SV × Option T)
        | .vw [] (.bool t), x, y => some (if t then x else y, none)
        | _, _, _ => none) = none := by
        intro u x y hu
        split
        · simp [SV.names] at hu
        · simp [SV.names] at hu
        · rfl
      refine ⟨h1 _ _ _ hcn, ?_⟩
      rcases kv_or φ (c.ev s) with e | e
      · rw [e]
      · rw [e]; exact h1 _ _ _ hcn
  | _ => simp [isP] at hi
end Go.Proofs.Ytdblfocadcgmaaa.Ev
namespace Go.Proofs.Ytdblfocadcgmaaa.Ev
open Go
set_option linter.unusedSimpArgs false
set_option linter.unusedVariables false

section
variable {P : Program} {R : Run} {cx : Cx} {N : Nat} {w : World} {S : Nat → Prop} {g0 : Gh} {h h' : Hp} {s s' : Env} {a : Act}

def guardG (g : G) (s : Env) : Option Bool :=
  match g.g with
  | none => some true
  | some (k, want) => match s k with
    | .vw [] (.bool b) => some (b == want)
    | .undef => some false
    | _ => none

theorem stepG_guard {g : G} {nm : Nat} : stepG R g s h nm = (guardG g s).bind fun b => if b then stepI R g.i s h nm g.d else some (put s g.d .undef, h) := by
  unfold stepG guardG
  cases g.g with
  | none => simp
  | some kw =>
    obtain ⟨k, want⟩ := kw
    simp only
    cases hk : s k with
    | vw ds t =>
      cases ds with
      | nil =>
        cases t with
        | bool b =>
          simp only [Option.bind_some]
          by_cases hb : b = want
          · simp [hb]
          · have : (b == want) = false := by simp [hb]
            rw [if_neg hb, this]
            rfl
        | _ => rfl
      | cons n ds => rfl
    | undef => rfl
    | _ => rfl

theorem rd_ev {g : G} (hs : ∀ k, k ∈ g.rd → s k = s' k) : Alike s s' g.i := by
  intro x hx
  refine ev_congr fun k hk => hs k ?_
  simp only [G.rd, List.mem_append, List.mem_flatMap]
  exact .inl ⟨x, hx, hk⟩

theorem rd_guard {g : G} (hs : ∀ k, k ∈ g.rd → s k = s' k) : guardG g s = guardG g s' := by
  unfold guardG
  cases hg : g.g with
  | none => rfl
  | some kw =>
    obtain ⟨k, want⟩ := kw
    have : s k = s' k := hs k (by simp [G.rd, hg])
    simp only [this]

theorem kil_guard {φ : Kill} {g : G} (hφ : KillOk φ) : guardG g (kil φ s) = guardG g s := by
  unfold guardG
  cases hg : g.g with
  | none => rfl
  | some kw =>
    obtain ⟨k, want⟩ := kw
    simp only
    have hk : kil φ s k = kv φ (s k) := rfl
    rw [hk]
    by_cases hn : (s k).names = []
    · rw [kv_name hφ hn]
    · have h1 : ∀ v : SV, v.names ≠ [] → (match v with | .vw [] (.bool b) => some (b == want) | .undef => some false | _ => none) = none := by
        intro v hv
        split
        · simp [SV.names] at hv
        · simp [SV.names] at hv
        · rfl
      rw [h1 _ hn]
      rcases kv_or φ (s k) with e | e
      · rw [e]
      · rw [e]; exact h1 _ hn

/-- An operation that writes: what it does. -/
def mI (R : Run) (i : I) (s : Env) (h : Hp) (nm : Name) : Option (SV × Kill × Hp) :=
  match i with
  | .call true f xs => callSV R true f (xs.map (X.ev s)) h nm
  | .callv x xs => match x.ev s with
    | .fn f cs => callSV R true f (xs.map (X.ev s) ++ cs) h nm
    | _ => none
  | i => wr i s h nm

theorem stepI_m {i : I} {nm : Nat} {d : Option Nat} (hi : isA i = false) : stepI R i s h nm d = (mI R i s h nm).map fun q => (put (kil q.2.1 s) d q.1, q.2.2) := by
  cases i with
  | call m f xs =>
    cases m with
    | true => rfl
    | false => simp [isA] at hi
  | callv x xs =>
    simp only [stepI, mI]
    cases x.ev s <;> rfl
  | st z x y => rfl
  | box x => rfl
  | app k x y => rfl
  | cpy k x y => rfl
  | trm z x lo hi => rfl
  | bsl k n ps =>
    cases k with
    | deep sz => rfl
    | _ => simp [isA, I.isM] at hi
  | _ => simp [isA, I.isM] at hi

theorem mI_congr {i : I} {nm : Name} (ha : Alike s s' i) : mI R i s h nm = mI R i s' h nm := by
  cases i with
  | call m f xs =>
    cases m with
    | true => simp only [mI]; rw [map_ev (s := s) (s' := s') (xs := xs) ha]
    | false => rfl
  | callv x xs => simp only [mI]; rw [ha x (by simp [I.xs]), map_ev (s := s) (s' := s') (xs := xs) (fun y hy => ha y (by simp [I.xs, hy]))]
  | _ => simp only [mI]; exact wr_congr ha

theorem namesL_nil {xs : List SV} (h : namesL xs = []) : ∀ x, x ∈ xs → x.names = [] := by
  induction xs with
  | nil => intro x hx; simp at hx
  | cons y xs ih =>
    intro x hx
    simp only [namesL, List.append_eq_nil_iff] at h
    rcases List.mem_cons.1 hx with rfl | hx
    · exact h.1
    · exact ih h.2 x hx

mutual
theorem nam_ok (n : Name) : ∀ v : SV, v.names = [] → v.nam n = false ∧ v.dep n = false ∧ ∀ q, v.und n q = false
  | .vw ds t, hv => by simp only [SV.names] at hv; subst hv; simp [SV.nam, SV.dep, SV.und]
  | .pv ds t, hv => by simp only [SV.names] at hv; subst hv; simp [SV.nam, SV.dep, SV.und]
  | .nilS t, _ => by simp [SV.nam, SV.dep, SV.und]
  | .ref m p z o l, hv => by simp [SV.names] at hv
  | .ptr m p o, hv => by simp [SV.names] at hv
  | .agg xs, hv => by have := namL_ok n xs (by simpa [SV.names] using hv); simpa [SV.nam, SV.dep, SV.und] using this
  | .tup xs, hv => by have := namL_ok n xs (by simpa [SV.names] using hv); simpa [SV.nam, SV.dep, SV.und] using this
  | .fn f xs, hv => by have := namL_ok n xs (by simpa [SV.names] using hv); simpa [SV.nam, SV.dep, SV.und] using this
  | .undef, _ => by simp [SV.nam, SV.dep, SV.und]
  | .dead, _ => by simp [SV.nam, SV.dep, SV.und]
theorem namL_ok (n : Name) : ∀ xs : List SV, namesL xs = [] → namL n xs = false ∧ depL n xs = false ∧ ∀ q, undL n q xs = false
  | [], _ => by simp [namL, depL, undL]
  | x :: xs, hv => by
    simp only [namesL, List.append_eq_nil_iff] at hv
    have h1 := nam_ok n x hv.1
    have h2 := namL_ok n xs hv.2
    refine ⟨by simp [namL, h1.1, h2.1], by simp [depL, h1.2.1, h2.2.1], fun q => by simp [undL, h1.2.2 q, h2.2.2 q]⟩
end

theorem kill_abs {x : SV} {q : T × Kill × Hp} (hx : x.abs h = some q) : KillOk q.2.1 := by
  intro v hv
  unfold SV.abs at hx
  split at hx
  · split at hx
    · simp at hx; subst hx; rfl
    · split at hx <;> simp at hx; subst hx; rfl
  · simp at hx; subst hx; rfl
  · simp only [Option.bind_eq_some_iff, Option.map_eq_some_iff] at hx
    obtain ⟨_, _, _, _, rfl⟩ := hx
    exact (nam_ok _ v hv).1
  · simp only [Option.bind_eq_some_iff, Option.map_eq_some_iff] at hx
    obtain ⟨_, _, _, _, _, _, _, _, rfl⟩ := hx
    exact (nam_ok _ v hv).2.2 _
  · simp at hx

theorem kill_absW {f : Hp → SV → Option (T × Kill × Hp)} (hf : ∀ h x q, f h x = some q → KillOk q.2.1) : ∀ (vs : List SV) (h : Hp) (q : List T × Kill × Hp), absW f h vs = some q → KillOk q.2.1 := by
  intro vs
  induction vs with
  | nil => intro h q hq v hv; simp [absW] at hq; subst hq; rfl
  | cons v vs ih =>
    intro h q hq x hx
    simp only [absW, Option.bind_eq_some_iff] at hq
    obtain ⟨q1, hq1, hq⟩ := hq
    split at hq
    · simp at hq
    · simp only [Option.map_eq_some_iff] at hq
      obtain ⟨q2, hq2, rfl⟩ := hq
      simp [hf _ _ _ hq1 x hx, ih _ q2 hq2 x hx]

theorem kill_absA {x : SV} {q : T × Kill × Hp} (hx : absA h x = some q) : KillOk q.2.1 := by
  cases x with
  | agg xs =>
    simp only [absA, absL, Option.map_eq_some_iff] at hx
    obtain ⟨q', hq', rfl⟩ := hx
    exact kill_absW (fun h x q hq => kill_abs hq) xs h q' hq'
  | _ => exact kill_abs (by simpa [absA] using hx)

theorem kill_st1 {tp v : SV} {m : Name} {q : Path} {r : Kill × Hp} (hx : st1 h tp m q v = some r) : KillOk r.1 := by
  intro x hxn
  simp only [st1, Option.bind_eq_some_iff] at hx
  obtain ⟨a, ha, hx⟩ := hx
  split at hx
  · simp at hx
  · simp only [Option.bind_eq_some_iff] at hx
    obtain ⟨r0, hr0, u, _, hx⟩ := hx
    split at hx
    · simp at hx
    · simp only [Option.map_eq_some_iff] at hx
      obtain ⟨r', _, rfl⟩ := hx
      have h1 := kill_abs ha x hxn
      have h2 := nam_ok m x hxn
      dsimp only
      split
      · simp [h1, h2.2.1]
      · simp [h1, h2.2.2]

theorem kill_stL {tp : SV} {m : Name} {p : Path} : ∀ (vs : List SV) (h : Hp) (o : Nat) (r : Kill × Hp), stL h tp m p o vs = some r → KillOk r.1 := by
  intro vs
  induction vs with
  | nil => intro h o r hr x hx; simp [stL] at hr; subst hr; rfl
  | cons v vs ih =>
    intro h o r hr x hx
    simp only [stL, Option.bind_eq_some_iff] at hr
    obtain ⟨a, ha, hr⟩ := hr
    split at hr
    · simp at hr
    · simp only [Option.map_eq_some_iff] at hr
      obtain ⟨b, hb, rfl⟩ := hr
      simp [kill_st1 ha x hx, ih _ _ b hb x hx]

theorem kill_appTo {nm : Name} {app : T → Option T} {k : Nat} {x : SV} {q : SV × Kill × Hp} (hq : appTo h nm app k x = some q) : KillOk q.2.1 := by
  simp only [appTo, Option.bind_eq_some_iff, Option.map_eq_some_iff] at hq
  obtain ⟨a, ha, zl, _, t', _, rfl⟩ := hq
  exact kill_abs ha

theorem kill_call0 {m : Bool} {f : FuncId} {vs : List SV} {nm : Name} {q : SV × Kill × Hp} (hq : callSV0 R m f vs h nm = some q) : KillOk q.2.1 := by
  intro x hx
  unfold callSV0 at hq
  split at hq
  · simp at hq
  split at hq
  · simp at hq
  simp only [Option.bind_eq_some_iff] at hq
  obtain ⟨ts, hts, sto, hsto, hq⟩ := hq
  split at hq
  · simp at hq
  simp only [Option.bind_eq_some_iff] at hq
  obtain ⟨r, hr, hq⟩ := hq
  split at hq
  case isFalse => simp at hq
  simp only [Option.bind_eq_some_iff] at hq
  obtain ⟨⟨sv, news⟩, hb, hq⟩ := hq
  split at hq
  case isFalse => simp at hq
  obtain rfl := by simpa using hq
  simp only [List.any_eq_false, Bool.not_eq_true]
  intro n _
  exact (nam_ok n x hx).2.2 []

theorem kill_call {m : Bool} {f : FuncId} {vs : List SV} {nm : Name} {q : SV × Kill × Hp} (hq : callSV R m f vs h nm = some q) : KillOk q.2.1 := kill_call0 hq

theorem kill_mI {i : I} {nm : Name} {q : SV × Kill × Hp} (hq : mI R i s h nm = some q) : KillOk q.2.1 := by
  cases i with
  | call m f xs =>
    cases m with
    | true => exact kill_call hq
    | false => simp [mI, wr] at hq
  | callv x xs =>
    simp only [mI] at hq
    split at hq
    · exact kill_call hq
    · simp at hq
  | st z x v =>
    simp only [mI, wr] at hq
    split at hq
    · split at hq
      · simp only [Option.map_eq_some_iff] at hq
        obtain ⟨r, hr, rfl⟩ := hq
        exact kill_st1 hr
      · simp at hq
    · split at hq
      · simp only [Option.map_eq_some_iff] at hq
        obtain ⟨r, hr, rfl⟩ := hq
        exact kill_stL _ _ _ r hr
      · simp at hq
    · split at hq
      · simp only [Option.map_eq_some_iff] at hq
        obtain ⟨r, hr, rfl⟩ := hq
        exact kill_st1 hr
      · simp at hq
    · simp at hq
  | cpy k x y =>
    intro v hv
    simp only [mI, wr] at hq
    split at hq
    · simp only [Option.bind_eq_some_iff] at hq
      obtain ⟨ys, _, r, _, hq⟩ := hq
      split at hq
      · split at hq
        · obtain rfl := by simpa using hq
          exact (nam_ok _ v hv).2.1
        · simp at hq
      · simp at hq
    · simp at hq
  | trm z x lo hi =>
    simp only [mI, wr, Option.bind_eq_some_iff] at hq
    obtain ⟨v, _, hq⟩ := hq
    exact kill_appTo hq
  | box v =>
    simp only [mI, wr] at hq
    split at hq
    · simp only [Option.map_eq_some_iff, absL] at hq
      obtain ⟨r, hr, rfl⟩ := hq
      exact kill_absW (fun h x q hq => kill_abs hq) _ _ r hr
    · simp at hq
  | bsl k n ps =>
    cases k with
    | deep sz =>
      simp only [mI, wr, Option.bind_eq_some_iff] at hq
      obtain ⟨vs, _, hq⟩ := hq
      split at hq
      · simp only [Option.map_eq_some_iff, absAL] at hq
        obtain ⟨r, hr, rfl⟩ := hq
        exact kill_absW (fun h x q hq => kill_absA hq) _ _ r hr
      · simp at hq
    | _ => simp [mI, wr] at hq
  | app k x y =>
    have rowcase : ((appRows k.sz h (y.ev s)).bind fun q => if q.2.1 (x.ev s) then none else
      (appTo q.2.2 nm (fun t => t.app k.sz q.1) q.1.length (x.ev s)).map fun a => (a.1, fun v => q.2.1 v || a.2.1 v, a.2.2)) = some q → KillOk q.2.1 := by
      intro hq
      simp only [Option.bind_eq_some_iff] at hq
      obtain ⟨r, hr, hq⟩ := hq
      split at hq
      · simp at hq
      · simp only [Option.map_eq_some_iff] at hq
        obtain ⟨a, ha, rfl⟩ := hq
        simp only [appRows, Option.bind_eq_some_iff] at hr
        obtain ⟨b, hb, hr⟩ := hr
        have hk : KillOk r.2.1 := by
          split at hr
          · split at hr
            · simp at hr; rw [← hr]; exact kill_abs hb
            · simp at hr
          · simp at hr
        intro v hv
        simp [hk v hv, kill_appTo ha v hv]
    cases k with
    | ik k =>
      simp only [mI, wr, Option.bind_eq_some_iff] at hq
      obtain ⟨ys, _, hq⟩ := hq
      exact kill_appTo hq
    | flat sz => exact rowcase hq
    | deep sz => exact rowcase hq
  | _ => simp [mI, wr] at hq
end
end Go.Proofs.Ytdblfocadcgmaaa.Ev
namespace Go.Proofs.Ytdblfocadcgmaaa.Ev
open Go
set_option linter.unusedSimpArgs false
set_option linter.unusedVariables false

theorem addH_get : ∀ (ts : List T) (h : Hp) (nm n : Nat), addH h nm ts n = if nm ≤ n ∧ n < nm + ts.length then ts[n - nm]? else h n := by
  intro ts
  induction ts with
  | nil => intro h nm n; rw [if_neg (by simp only [List.length_nil]; omega)]; rfl
  | cons t ts ih =>
    intro h nm n
    rw [addH, ih]
    simp only [List.length_cons]
    by_cases h1 : n = nm
    · subst h1
      rw [if_neg (by omega), if_pos (by omega)]
      simp
    · by_cases h2 : nm + 1 ≤ n ∧ n < nm + 1 + ts.length
      · rw [if_pos h2, if_pos (by omega)]
        have : n - nm = (n - (nm + 1)) + 1 := by omega
        rw [this, List.getElem?_cons_succ]
      · rw [if_neg h2, if_neg (by omega), upd_ne _ _ h1]

theorem addH_comm {h : Hp} {a b : Nat} {xs ys : List T} (hd : a + 16 ≤ b ∨ b + 16 ≤ a) (hx : xs.length ≤ 16) (hy : ys.length ≤ 16) : addH (addH h a xs) b ys = addH (addH h b ys) a xs := by
  have key : ∀ n : Nat, addH (addH h a xs) b ys n = addH (addH h b ys) a xs n := ?_
  · exact funext key
  intro n
  simp only [addH_get]
  by_cases h1 : a ≤ n ∧ n < a + xs.length
  · have h2 : ¬ (b ≤ n ∧ n < b + ys.length) := by omega
    simp only [if_pos h1, if_neg h2]
  · by_cases h2 : b ≤ n ∧ n < b + ys.length
    · simp only [if_neg h1, if_pos h2]
    · simp only [if_neg h1, if_neg h2]

theorem put_comm {s : Env} {d e : Option Nat} {u v : SV} (hd : ∀ k, d = some k → e ≠ some k) : put (put s d u) e v = put (put s e v) d u := by
  cases d with
  | none => rfl
  | some d =>
    cases e with
    | none => rfl
    | some e =>
      have hne : d ≠ e := by rintro rfl; exact hd d rfl rfl
      funext k
      simp only [put, upd_app]
      by_cases h1 : k = d <;> by_cases h2 : k = e <;> simp_all

theorem put_rd {s : Env} {d : Option Nat} {v : SV} {l : List Nat} (hd : ∀ k, d = some k → k ∉ l) : ∀ k, k ∈ l → put s d v k = s k := by
  intro k hk
  cases d with
  | none => rfl
  | some d =>
    simp only [put]
    exact upd_ne _ _ (by rintro rfl; exact hd _ rfl hk)

theorem kil_put {φ : Kill} {s : Env} {d : Option Nat} {v : SV} : kil φ (put s d v) = put (kil φ s) d (kv φ v) := by
  cases d with
  | none => rfl
  | some d =>
    funext k
    simp only [kil, put, upd_app, kv]
    by_cases h1 : k = d <;> simp [h1]

theorem kil_none (s : Env) : kil (fun _ => false) s = s := by funext k; simp [kil]

section
variable {P : Program} {R : Run} {cx : Cx} {N : Nat} {w : World} {S : Nat → Prop} {g0 : Gh} {h h' : Hp} {s s' : Env} {a : Act}

theorem svok_names {x : SV} {v : Value} (hx : SvOk w S g0 h x v) : ∀ n, n ∈ x.names → h n ≠ none := by
  have lst : ∀ (ys : List SV) (n : Name), (∀ (j : Nat) y, ys[j]? = some y → ∀ n, n ∈ y.names → h n ≠ none) → n ∈ namesL ys → h n ≠ none := by
    intro ys n
    induction ys with
    | nil => intro _ hn; simp [namesL] at hn
    | cons y ys ih =>
      intro hys hn
      simp only [namesL, List.mem_append] at hn
      rcases hn with hn | hn
      · exact hys 0 y rfl n hn
      · exact ih (fun j y hy => hys (j + 1) y (by simpa using hy)) hn
  induction hx with
  | vw ds t v hd _ _ => intro n hn e; have := hd n (by simpa [SV.names] using hn); rw [e] at this; simp at this
  | pv ds t v A hd _ _ _ _ => intro n hn e; have := hd n (by simpa [SV.names] using hn); rw [e] at this; simp at this
  | ref n p sz off l r base L C ad hr => intro n' hn; simp [SV.names] at hn; subst hn; simp [hr]
  | ptrC n p r X hr => intro n' hn; simp [SV.names] at hn; subst hn; simp [hr]
  | ptrA n p o r X hr => intro n' hn; simp [SV.names] at hn; subst hn; simp [hr]
  | agg xs cs vs h1 h2 h3 h4 ih => intro n hn; exact lst xs n (fun j y hy => ih j y hy) (by simpa [SV.names] using hn)
  | tup xs cs vs h1 h2 h4 ih => intro n hn; exact lst xs n (fun j y hy => ih j y hy) (by simpa [SV.names] using hn)
  | fn f xs cs vs h1 h2 h4 ih => intro n hn; exact lst xs n (fun j y hy => ih j y hy) (by simpa [SV.names] using hn)
  | _ => intro n hn; simp [SV.names] at hn

/-- Of operations that write nothing: what they give. -/
def effG (R : Run) (g : G) (s : Env) (h : Hp) (nm : Name) : Option (SV × List T) := (guardG g s).bind fun b => if b then effI R g.i s h nm else some (.undef, [])

theorem stepG_eff {g : G} {nm : Nat} {q : Env × Hp} (hi : isA g.i = true) : stepG R g s h nm = some q ↔ ∃ v news, effG R g s h nm = some (v, news) ∧ q = (put s g.d v, addH h nm news) ∧ news.length ≤ 16 := by
  rw [stepG_guard, effG]
  cases guardG g s with
  | none => simp
  | some b =>
    cases b with
    | true => simp only [Option.bind_some, if_true]; exact stepI_eff hi
    | false =>
      simp only [Option.bind_some, Bool.false_eq_true, if_false, Option.some.injEq]
      constructor
      · rintro rfl; exact ⟨.undef, [], rfl, rfl, by simp⟩
      · rintro ⟨v, news, he, rfl, _⟩
        simp only [Prod.mk.injEq] at he
        obtain ⟨rfl, rfl⟩ := he
        rfl

theorem effG_congr {g : G} {nm : Name} (hs : ∀ k, k ∈ g.rd → s k = s' k) : effG R g s h nm = effG R g s' h nm := by
  unfold effG
  rw [rd_guard hs, effI_congr (rd_ev hs)]

theorem effG_heap {g : G} {nm : Name} (hh : ∀ x, x ∈ g.i.xs → HLike h h' (x.ev s)) : effG R g s h nm = effG R g s h' nm := by
  unfold effG
  rw [effI_heap hh]

/-- Of operations that write. -/
def mG (R : Run) (g : G) (s : Env) (h : Hp) (nm : Name) : Option (SV × Kill × Hp) := (guardG g s).bind fun b => if b then mI R g.i s h nm else some (.undef, fun _ => false, h)

theorem stepG_m {g : G} {nm : Nat} (hi : isA g.i = false) : stepG R g s h nm = (mG R g s h nm).map fun q => (put (kil q.2.1 s) g.d q.1, q.2.2) := by
  rw [stepG_guard, mG]
  cases guardG g s with
  | none => rfl
  | some b =>
    cases b with
    | true => simp only [Option.bind_some, if_true]; exact stepI_m hi
    | false => simp [kil_none]

theorem mG_congr {g : G} {nm : Name} (hs : ∀ k, k ∈ g.rd → s k = s' k) : mG R g s h nm = mG R g s' h nm := by
  unfold mG
  rw [rd_guard hs, mI_congr (rd_ev hs)]

theorem kill_mG {g : G} {nm : Name} {q : SV × Kill × Hp} (hq : mG R g s h nm = some q) : KillOk q.2.1 := by
  unfold mG at hq
  simp only [Option.bind_eq_some_iff] at hq
  obtain ⟨b, _, hq⟩ := hq
  cases b with
  | true => exact kill_mI (by simpa using hq)
  | false => simp at hq; subst hq; intro v _; rfl

theorem isP_isA {i : I} (hi : isP i = true) : isA i = true := by
  cases i <;> first | rfl | simp [isP] at hi

theorem effI_P {i : I} {nm : Name} (hi : isP i = true) : effI R i s h nm = (den i s h nm).map fun q => (q.1, q.2.toList) := by
  cases i <;> first | rfl | simp [isP] at hi

theorem effG_kil {φ : Kill} {g : G} {nm nm' : Name} (hφ : KillOk φ) (hi : isP g.i = true) (hc : g.i.xs.all X.clean = true) :
    (∃ v, effG R g s h nm = some (v, []) ∧ effG R g (kil φ s) h' nm' = some (kv φ v, [])) ∨ (effG R g s h nm = none ∧ effG R g (kil φ s) h' nm' = none) := by
  unfold effG
  rw [kil_guard hφ, effI_P hi, effI_P hi]
  cases guardG g s with
  | none => right; exact ⟨rfl, rfl⟩
  | some b =>
    cases b with
    | false => left; exact ⟨.undef, rfl, by simp [kv_name (v := .undef) hφ rfl]⟩
    | true =>
      rcases den_kil (s := s) (h := h) (h' := h') (nm := nm) (nm' := nm') hφ hi hc with ⟨v, h1, h2⟩ | ⟨h1, h2⟩
      · left; exact ⟨v, by simp [h1], by simp [h2]⟩
      · right; exact ⟨by simp [h1], by simp [h2]⟩

/-- The second of two that may change places goes first. -/
theorem comm {ga gb : G} {na nb : Nat} {s1 s2 : Env} {h1 h2 : Hp} (hsim : SimE cx N s h a w) (hind : indep ga gb = true) (hfa : ∀ k : Nat, na ≤ k → k < na + 16 → h k = none) (hfb : ∀ k : Nat, nb ≤ k → k < nb + 16 → h k = none) (hab : na + 16 ≤ nb ∨ nb + 16 ≤ na)
    (ha : stepG R ga s h na = some (s1, h1)) (hb : stepG R gb s1 h1 nb = some (s2, h2)) : ∃ s1' h1', stepG R gb s h nb = some (s1', h1') ∧ stepG R ga s1' h1' na = some (s2, h2) := by
  simp only [indep, Bool.and_eq_true, Bool.or_eq_true] at hind
  obtain ⟨⟨⟨⟨⟨i1, i2⟩, i3⟩, i4⟩, i5⟩, i6⟩ := hind
  have d1 : ∀ k, ga.d = some k → k ∉ gb.rd := fun k hk => by
    have := List.all_eq_true.1 i1 k (by simp [hk])
    simpa using this
  have d2 : ∀ k, gb.d = some k → k ∉ ga.rd := fun k hk => by
    have := List.all_eq_true.1 i2 k (by simp [hk])
    simpa using this
  have d3 : ∀ k, ga.d = some k → gb.d ≠ some k := fun k hk h' => by
    have := List.all_eq_true.1 i3 k (by simp [hk])
    simp [h'] at this
  obtain ⟨⟨S, g0, hp, hs⟩, _, _⟩ := hsim
  have hnames : ∀ (g : G), g.i.xs.all X.clean = true → ∀ (nm : Nat) (ts : List T), (∀ k : Nat, nm ≤ k → k < nm + 16 → h k = none) → ts.length ≤ 16 → ∀ x, x ∈ g.i.xs → HLike h (addH h nm ts) (x.ev s) := by
    intro g hc nm ts hf hl x hx n hn
    have hdom : h n ≠ none := by
      cases x with
      | t i => exact svok_names (hs i) n hn
      | c v =>
        have := List.all_eq_true.1 hc _ hx
        have hv : v.names = [] := by simpa [X.clean] using this
        simp only [X.ev] at hn
        rw [hv] at hn
        simp at hn
    rw [addH_get, if_neg]
    intro hr
    exact hdom (hf n hr.1 (by omega))
  by_cases haA : isA ga.i = true
  · by_cases hbA : isA gb.i = true
    · obtain ⟨va, la, e1, e2, e3⟩ := (stepG_eff haA).1 ha
      simp only [Prod.mk.injEq] at e2
      obtain ⟨rfl, rfl⟩ := e2
      obtain ⟨vb, lb, f1, f2, f3⟩ := (stepG_eff hbA).1 hb
      simp only [Prod.mk.injEq] at f2
      obtain ⟨rfl, rfl⟩ := f2
      have f1' : effG R gb s h nb = some (vb, lb) := by
        rw [effG_heap (hnames gb i5 na la hfa e3), ← effG_congr (s := put s ga.d va) (put_rd d1)]
        exact f1
      refine ⟨put s gb.d vb, addH h nb lb, (stepG_eff hbA).2 ⟨vb, lb, f1', rfl, f3⟩, (stepG_eff haA).2 ⟨va, la, ?_, ?_, e3⟩⟩
      · rw [effG_congr (s' := s) (put_rd d2), ← effG_heap (hnames ga i4 nb lb hfb f3)]
        exact e1
      · rw [put_comm d3, addH_comm hab e3 f3]
    · have hPa : isP ga.i = true := by
        rcases i6 with (⟨_, h⟩ | h) | h
        · exact absurd h hbA
        · exact h
        · exact absurd (isP_isA h) hbA
      have hbA' : isA gb.i = false := by simpa using hbA
      obtain ⟨va, la, e1, e2, e3⟩ := (stepG_eff haA).1 ha
      simp only [Prod.mk.injEq] at e2
      obtain ⟨rfl, rfl⟩ := e2
      obtain rfl : la = [] := by
        rcases effG_kil (R := R) (s := s) (h := h) (h' := h) (nm := na) (nm' := na) (φ := fun _ => false) (fun v _ => rfl) hPa i4 with ⟨v, q1, _⟩ | ⟨q1, _⟩
        · rw [e1] at q1; simp at q1; exact q1.2
        · rw [e1] at q1; simp at q1
      rw [stepG_m hbA'] at hb
      simp only [Option.map_eq_some_iff, Prod.mk.injEq] at hb
      obtain ⟨⟨vb, φ, hb'⟩, f1, rfl, rfl⟩ := hb
      simp only [addH] at f1
      have hφ := kill_mG f1
      have f1' : mG R gb s h nb = some (vb, φ, hb') := by
        rw [← mG_congr (s := put s ga.d va) (put_rd d1)]
        exact f1
      refine ⟨put (kil φ s) gb.d vb, hb', by rw [stepG_m hbA', f1']; rfl, (stepG_eff haA).2 ⟨kv φ va, [], ?_, ?_, by simp⟩⟩
      · rw [effG_congr (s' := kil φ s) (put_rd d2)]
        rcases effG_kil (R := R) (s := s) (h := h) (h' := hb') (nm := na) (nm' := na) hφ hPa i4 with ⟨v, q1, q2⟩ | ⟨q1, _⟩
        · rw [e1] at q1
          simp at q1
          subst q1
          exact q2
        · rw [e1] at q1; simp at q1
      · rw [kil_put, put_comm d3]; rfl
  · have haA' : isA ga.i = false := by simpa using haA
    have hPb : isP gb.i = true := by
      rcases i6 with (⟨h, _⟩ | h) | h
      · exact absurd h haA
      · exact absurd (isP_isA h) haA
      · exact h
    have hbA := isP_isA hPb
    rw [stepG_m haA'] at ha
    simp only [Option.map_eq_some_iff, Prod.mk.injEq] at ha
    obtain ⟨⟨va, φ, ha'⟩, e1, rfl, rfl⟩ := ha
    have hφ := kill_mG e1
    obtain ⟨vb, lb, f1, f2, f3⟩ := (stepG_eff hbA).1 hb
    simp only [Prod.mk.injEq] at f2
    obtain ⟨rfl, rfl⟩ := f2
    rw [effG_congr (s' := kil φ s) (put_rd d1)] at f1
    rcases effG_kil (R := R) (s := s) (h := h) (h' := ha') (nm := nb) (nm' := nb) hφ hPb i5 with ⟨v, q1, q2⟩ | ⟨_, q2⟩
    · rw [f1] at q2
      simp only [Option.some.injEq, Prod.mk.injEq] at q2
      obtain ⟨rfl, rfl⟩ := q2
      refine ⟨put s gb.d v, h, (stepG_eff hbA).2 ⟨v, [], q1, rfl, by simp⟩, ?_⟩
      rw [stepG_m haA', mG_congr (s' := s) (put_rd d2), e1]
      simp only [Option.map_some, addH]
      rw [kil_put, put_comm d3]
    · rw [f1] at q2; simp at q2
end
end Go.Proofs.Ytdblfocadcgmaaa.Ev
namespace Go.Proofs.Ytdblfocadcgmaaa.Ev
open Go
set_option linter.unusedSimpArgs false
set_option linter.unusedVariables false

def predsOf (o : Oper) : List Nat := (o.after.toList.filter (Region.binds .any)).map (·.on)

def closure : List (List Nat) → List (List Nat) → List (List Nat)
  | acc, [] => acc
  | acc, ps :: rest => closure (acc ++ [insL [] (ps ++ ps.flatMap fun k => acc.getD k [])]) rest

inductive Anc (pre : List (List Nat)) : Nat → Nat → Prop where
  | d {i j ps} : pre[i]? = some ps → j ∈ ps → Anc pre j i
  | t {i j k ps} : pre[i]? = some ps → k ∈ ps → Anc pre j k → Anc pre j i

theorem closure_anc (pre : List (List Nat)) : ∀ (rest acc : List (List Nat)), (∃ done, pre = done ++ rest ∧ done.length = acc.length) → (∀ (i j : Nat) l, acc[i]? = some l → j ∈ l → Anc pre j i) → ∀ (i j : Nat) l, (closure acc rest)[i]? = some l → j ∈ l → Anc pre j i := by
  intro rest
  induction rest with
  | nil => intro acc _ h; exact h
  | cons ps rest ih =>
    rintro acc ⟨done, hpre, hlen⟩ h
    rw [closure]
    refine ih _ ⟨done ++ [ps], by simp [hpre], by simp [hlen]⟩ ?_
    intro i j l hi hj
    rcases Nat.lt_or_ge i acc.length with hlt | hge
    · rw [List.getElem?_append_left hlt] at hi
      exact h i j l hi hj
    · rw [List.getElem?_append_right hge] at hi
      have h0 : i - acc.length = 0 := by
        have := get_lt hi
        simp at this
        omega
      have hia : i = acc.length := by omega
      subst hia
      simp at hi
      subst hi
      have hps : pre[acc.length]? = some ps := by
        rw [hpre, List.getElem?_append_right (by omega), hlen]
        simp
      rw [insL_mem] at hj
      simp only [List.not_mem_nil, false_or, List.mem_append, List.mem_flatMap] at hj
      rcases hj with hj | ⟨k, hk, hj⟩
      · exact .d hps hj
      · have hka : acc[k]? = some (acc.getD k []) := by
          cases hkk : acc[k]? with
          | none => simp [hkk] at hj
          | some l => simp [hkk]
        exact .t hps hk (h k j _ hka hj)

/-- The text's order leaves nothing open that matters. -/
def drawOk (ops : Array Oper) (gs : List G) : Bool :=
  let pre := ops.toList.map predsOf
  let an := closure [] pre
  (pre.zipIdx.all fun q => q.1.all fun j => j < q.2) && (List.range gs.length).all fun i => (List.range i).all fun j => (an.getD i []).contains j || (match gs[j]?, gs[i]? with | some a, some b => indep a b | _, _ => false)

section
variable {P : Program} {R : Run} {cx : Cx} {N : Nat} {w : World} {a : Act}

theorem front (hR : Right P R) {ops : Array Oper} {gs : List G} {base : Nat} (hok : OkReg P N ops gs) {i : Nat} {post : List Nat} : ∀ (pre : List Nat) (st st' : Env × Hp) (a : Act) (w : World), SimE cx N st.1 st.2 a w →
    runL R gs base (pre ++ i :: post) st = some st' → (∀ j, j ∈ pre ++ i :: post → j < ops.size) → (pre ++ i :: post).Nodup → Free base (pre ++ i :: post) st.2 → (∀ j, j ∈ pre → ∀ ga gb, gs[j]? = some ga → gs[i]? = some gb → indep ga gb = true) →
    runL R gs base (i :: (pre ++ post)) st = some st' := by
  intro pre
  induction pre with
  | nil => intro st st' a w _ hr _ _ _ _; exact hr
  | cons j pre ih =>
    intro st st' a w hs hr hlt hnd hf hind
    simp only [List.cons_append, runL, Option.bind_eq_some_iff] at hr
    obtain ⟨st1, h1, hr⟩ := hr
    rw [List.cons_append, List.nodup_cons] at hnd
    obtain ⟨⟨a1, w1, hs1⟩, hdom⟩ := dom_runL hR hok [j] st st1 a w hs (by simp [runL, h1]) (fun k hk => hlt k (by simp at hk; simp [hk])) (fun k hk => hf k (by simp at hk; simp [hk])) (by simp)
    have hf1 : Free base (pre ++ i :: post) st1.2 := by
      intro k hk n hn1 hn2
      refine hdom n (hf k (by simp at hk ⊢; exact .inr hk) n hn1 hn2) ?_
      intro j' hj'
      simp at hj'
      subst hj'
      have hne : k ≠ j' := by rintro rfl; exact hnd.1 hk
      omega
    have hr1 := ih st1 st' a1 w1 hs1 hr (fun k hk => hlt k (by simp at hk ⊢; exact .inr hk)) hnd.2 hf1 (fun k hk => hind k (by simp [hk]))
    simp only [runL, Option.bind_eq_some_iff] at hr1
    obtain ⟨st2, h2, hr2⟩ := hr1
    have hjl := hlt j (by simp)
    have hil := hlt i (by simp)
    obtain ⟨ga, hga, _⟩ := hok.ok j _ (Array.getElem?_eq_getElem hjl)
    obtain ⟨gb, hgb, _⟩ := hok.ok i _ (Array.getElem?_eq_getElem hil)
    simp only [stepAt, hga, hgb, Option.bind_some] at h1 h2
    have hne : j ≠ i := by rintro rfl; exact hnd.1 (by simp)
    obtain ⟨s1', h1', c1, c2⟩ := comm hs (hind j (by simp) ga gb hga hgb) (hf j (by simp)) (hf i (by simp)) (by omega) h1 h2
    simp only [List.cons_append, runL, Option.bind_eq_some_iff]
    exact ⟨(s1', h1'), by simp [stepAt, hgb, c1], st2, by simp [stepAt, hga, c2], hr2⟩

def remOf (ops : Array Oper) (listed : Array Bool) : List Nat := (List.range ops.size).filter fun i => !listed.getD i true

theorem getD_set {listed : Array Bool} {i j : Nat} {d : Bool} (hi : i < listed.size) : (listed.setIfInBounds i true).getD j d = if j = i then true else listed.getD j d := by
  simp only [Array.getD_eq_getD_getElem?, Array.getElem?_setIfInBounds]
  by_cases e : i = j
  · subst e; simp [hi]
  · rw [if_neg e, if_neg (fun h => e h.symm)]

theorem rem_set {ops : Array Oper} {listed : Array Bool} {i : Nat} (hs : listed.size = ops.size) (hi : i < ops.size) : remOf ops (listed.setIfInBounds i true) = (remOf ops listed).filter fun j => decide (j ≠ i) := by
  unfold remOf
  rw [List.filter_filter]
  refine List.filter_congr fun j _ => ?_
  rw [getD_set (by omega)]
  by_cases e : j = i <;> simp [e]

theorem filter_mid {i : Nat} {pre post : List Nat} (hnd : (pre ++ i :: post).Nodup) : (pre ++ i :: post).filter (fun j => decide (j ≠ i)) = pre ++ post := by
  rw [List.nodup_append, List.nodup_cons] at hnd
  obtain ⟨h1, ⟨h2, h3⟩, h4⟩ := hnd
  rw [List.filter_append, List.filter_cons_of_neg (by simp), List.filter_eq_self.2 (fun j hj => by simpa using fun e => h4 j hj i (by simp) e), List.filter_eq_self.2 (fun j hj => by simp; rintro rfl; exact h2 hj)]

theorem ready_iff {ops : Array Oper} {listed : Array Bool} {i : Nat} : i ∈ Region.ready .any ops listed ↔ i ∈ remOf ops listed ∧ ∃ o, ops[i]? = some o ∧ ∀ j, j ∈ predsOf o → listed.getD j false = true := by
  unfold Region.ready remOf predsOf
  simp only [List.mem_filter, List.mem_range, Bool.and_eq_true]
  constructor
  · rintro ⟨h1, h2, h3⟩
    refine ⟨⟨h1, h2⟩, ?_⟩
    have ho := Array.getElem?_eq_getElem h1
    refine ⟨_, ho, ?_⟩
    rw [ho] at h3
    simp only [Option.map_some, Option.getD_some, Array.all_eq_true] at h3
    intro j hj
    simp only [List.mem_map, List.mem_filter] at hj
    obtain ⟨e, ⟨he, hb⟩, rfl⟩ := hj
    obtain ⟨k, hk, rfl⟩ := Array.mem_iff_getElem.1 (Array.mem_toList_iff.1 he)
    have := h3 k hk
    rw [hb] at this
    simpa using this
  · rintro ⟨⟨h1, h2⟩, o, ho, h3⟩
    refine ⟨h1, h2, ?_⟩
    rw [ho]
    simp only [Option.map_some, Option.getD_some, Array.all_eq_true]
    intro k hk
    cases hb : Region.binds .any o.after[k] with
    | false => rfl
    | true =>
      have := h3 o.after[k].on (by
        simp only [List.mem_map, List.mem_filter]
        exact ⟨o.after[k], ⟨by simp, hb⟩, rfl⟩)
      simp [this]

theorem sim_any (hR : Right P R) {ops : Array Oper} {gs : List G} {base : Nat} {Q : Exit → Act → World → Prop} {st' : Env × Hp} (hok : OkReg P N ops gs) (hdr : drawOk ops gs = true) (hQ : ∀ a' w', SimE cx N st'.1 st'.2 a' w' → Q .normal a' w') :
    ∀ (fuel : Nat) (listed : Array Bool) (st : Env × Hp) (a : Act) (w : World), listed.size = ops.size → (remOf ops listed).length ≤ fuel → SimE cx N st.1 st.2 a w → runL R gs base (remOf ops listed) st = some st' → Free base (remOf ops listed) st.2 →
      (∀ (i : Nat) o, ops[i]? = some o → listed.getD i false = true → ∀ j, j ∈ predsOf o → listed.getD j false = true) → wpAny P .any ops Q fuel listed a w := by
  simp only [drawOk, Bool.and_eq_true, List.all_eq_true] at hdr
  obtain ⟨hd1, hd2⟩ := hdr
  have hback : ∀ (i : Nat) o, ops[i]? = some o → ∀ j, j ∈ predsOf o → j < i := by
    intro i o ho j hj
    have hm : (predsOf o, i) ∈ (ops.toList.map predsOf).zipIdx := by
      rw [List.mem_zipIdx_iff_getElem?]
      simp [ho]
    have := hd1 _ hm j hj
    simpa using this
  have hpre : ∀ (i : Nat) ps, (ops.toList.map predsOf)[i]? = some ps → ∃ o, ops[i]? = some o ∧ ps = predsOf o := by
    intro i ps h
    simp only [List.getElem?_map, Option.map_eq_some_iff] at h
    obtain ⟨o, ho, rfl⟩ := h
    exact ⟨o, by simpa using ho, rfl⟩
  have hnd0 : ∀ listed, (remOf ops listed).Nodup := fun listed => List.nodup_range.filter _
  have hlt0 : ∀ listed i, i ∈ remOf ops listed → i < ops.size := by
    intro listed i hi
    simp only [remOf, List.mem_filter, List.mem_range] at hi
    exact hi.1
  intro fuel
  induction fuel with
  | zero =>
    intro listed st a w hsz hl hs hr hf hdown
    have he : remOf ops listed = [] := List.eq_nil_of_length_eq_zero (by omega)
    rw [he] at hr
    obtain rfl := by simpa [runL] using hr
    refine ⟨?_, hQ a w hs⟩
    cases hready : Region.ready .any ops listed with
    | nil => rfl
    | cons i l =>
      have : i ∈ Region.ready .any ops listed := by rw [hready]; simp
      rw [ready_iff, he] at this
      simp at this
  | succ fuel ih =>
    intro listed st a w hsz hl hs hr hf hdown
    refine ⟨?_, ?_⟩
    · intro hready
      cases hrem : remOf ops listed with
      | nil =>
        rw [hrem] at hr
        obtain rfl := by simpa [runL] using hr
        exact hQ a w hs
      | cons i l =>
        exfalso
        have hi : i ∈ remOf ops listed := by rw [hrem]; simp
        have hil := hlt0 listed i hi
        have ho : ops[i]? = some ops[i] := Array.getElem?_eq_getElem hil
        have hsorted : (remOf ops listed).Pairwise (· < ·) := (List.pairwise_lt_range).filter _
        rw [hrem, List.pairwise_cons] at hsorted
        have : i ∈ Region.ready .any ops listed := by
          rw [ready_iff]
          refine ⟨hi, _, ho, ?_⟩
          intro j hj
          have hji := hback i _ ho j hj
          cases hlj : listed.getD j false with
          | true => rfl
          | false =>
            exfalso
            have hjr : j ∈ remOf ops listed := by
              simp only [remOf, List.mem_filter, List.mem_range]
              refine ⟨by omega, ?_⟩
              have : j < listed.size := by omega
              simp [Array.getD_eq_getD_getElem?, this] at hlj ⊢
              exact hlj
            rw [hrem] at hjr
            rcases List.mem_cons.1 hjr with rfl | hjr
            · omega
            · have := hsorted.1 j hjr; omega
        rw [hready] at this
        simp at this
    · intro i hi
      rw [ready_iff] at hi
      obtain ⟨hir, o, ho, hp⟩ := hi
      have hil := hlt0 listed i hir
      obtain ⟨pre, post, hrem⟩ := List.append_of_mem hir
      have hnd := hnd0 listed
      rw [hrem] at hnd hr hf hl
      have hlt : ∀ j, j ∈ pre ++ i :: post → j < ops.size := fun j hj => hlt0 listed j (by rw [hrem]; exact hj)
      have hsorted : (remOf ops listed).Pairwise (· < ·) := (List.pairwise_lt_range).filter _
      rw [hrem, List.pairwise_append] at hsorted
      have hind : ∀ j, j ∈ pre → ∀ ga gb, gs[j]? = some ga → gs[i]? = some gb → indep ga gb = true := by
        intro j hj ga gb hga hgb
        have hji : j < i := hsorted.2.2 j hj i (by simp)
        have h1 := hd2 i (by simp; rw [hok.len]; exact hil) j (by simpa using hji)
        simp only [Bool.or_eq_true] at h1
        rcases h1 with h1 | h1
        · exfalso
          have hanc : Anc (ops.toList.map predsOf) j i := by
            have hj' : j ∈ (closure [] (ops.toList.map predsOf)).getD i [] := by simpa using h1
            cases hc : (closure [] (ops.toList.map predsOf))[i]? with
            | none => simp [hc] at hj'
            | some l =>
              simp [hc] at hj'
              exact closure_anc _ _ [] ⟨[], by simp, rfl⟩ (by simp) i j l hc hj'
          have hlisted : ∀ {j i : Nat}, Anc (ops.toList.map predsOf) j i → ∀ o, ops[i]? = some o → (∀ k, k ∈ predsOf o → listed.getD k false = true) → listed.getD j false = true := by
            intro j i hA
            induction hA with
            | d h1 h2 =>
              intro o ho hp
              obtain ⟨o', ho', rfl⟩ := hpre _ _ h1
              rw [ho] at ho'
              obtain rfl := by simpa using ho'
              exact hp _ h2
            | t h1 h2 _ ih =>
              intro o ho hp
              obtain ⟨o', ho', rfl⟩ := hpre _ _ h1
              rw [ho] at ho'
              obtain rfl := by simpa using ho'
              have hk := hp _ h2
              have hkl : ∃ ok, ops[_]? = some ok := ⟨_, Array.getElem?_eq_getElem (Nat.lt_trans (hback _ _ ho _ h2) (by
                rcases Nat.lt_or_ge _ ops.size with h | h
                · exact h
                · rw [Array.getElem?_eq_none h] at ho; simp at ho))⟩
              obtain ⟨ok, hok'⟩ := hkl
              exact ih ok hok' (hdown _ ok hok' hk)
          have := hlisted hanc o ho hp
          have hjr : j ∈ remOf ops listed := by rw [hrem]; simp [hj]
          simp only [remOf, List.mem_filter, List.mem_range] at hjr
          have hjs : j < listed.size := by omega
          simp [Array.getD_eq_getD_getElem?, hjs] at this hjr
          rw [this] at hjr
          simp at hjr
        · rw [hga, hgb] at h1
          exact h1
      have hr' := front hR hok pre st st' a w hs hr hlt hnd hf hind
      simp only [runL, Option.bind_eq_some_iff] at hr'
      obtain ⟨st1, h1, hr1⟩ := hr'
      obtain ⟨gg, hg, hgo⟩ := hok.ok i o ho
      simp only [stepAt, hg, Option.bind_some] at h1
      obtain ⟨z1, z2⟩ := stepG_ok (Q := Q) hR ho hgo hs (hf i (by simp)) h1
      have hrem' : remOf ops (listed.setIfInBounds i true) = pre ++ post := by
        rw [rem_set hsz hil, hrem, filter_mid hnd]
      refine wpOp_mono (fun a' w' hs' => ih (listed.setIfInBounds i true) st1 a' w' (by simpa using hsz) (by rw [hrem']; simp at hl ⊢; omega) hs' (by rw [hrem']; exact hr1) ?_ ?_) z1
      · rw [hrem']
        intro j hj n hn1 hn2
        have hjm : j ∈ pre ++ i :: post := by
          rcases List.mem_append.1 hj with h | h
          · simp [h]
          · simp [h]
        refine z2 n (hf j hjm n hn1 hn2) ?_
        have hne : j ≠ i := by
          rintro rfl
          rw [List.nodup_append, List.nodup_cons] at hnd
          rcases List.mem_append.1 hj with h | h
          · exact hnd.2.2 j h j (by simp) rfl
          · exact hnd.2.1.1 h
        omega
      · intro k ok hok' hk j hj
        rw [getD_set (by omega)] at hk ⊢
        by_cases e : j = i
        · simp [e]
        · rw [if_neg e]
          by_cases e' : k = i
          · subst e'
            rw [ho] at hok'
            obtain rfl := by simpa using hok'
            exact hp j hj
          · rw [if_neg e'] at hk
            exact hdown k ok hok' hk j hj

/-! #### several orders -/
def take1 (ok : Nat → Bool) (k : Nat) : List Nat → Option (List Nat)
  | [] => none
  | j :: l => if j = k then some l else if ok j then (take1 ok k l).map (j :: ·) else none

theorem take1_some {ok : Nat → Bool} {k : Nat} : ∀ {l l' : List Nat}, take1 ok k l = some l' → ∃ pre post, l = pre ++ k :: post ∧ l' = pre ++ post ∧ ∀ j, j ∈ pre → ok j = true := by
  intro l
  induction l with
  | nil => intro l' h; simp [take1] at h
  | cons j l ih =>
    intro l' h
    simp only [take1] at h
    split at h
    · rename_i e; subst e; exact ⟨[], l, rfl, (Option.some.inj h).symm, by simp⟩
    · split at h
      · rename_i hj
        simp only [Option.map_eq_some_iff] at h
        obtain ⟨l2, h2, rfl⟩ := h
        obtain ⟨pre, post, rfl, rfl, h3⟩ := ih h2
        exact ⟨j :: pre, post, rfl, rfl, by intro i hi; rcases List.mem_cons.1 hi with rfl | hi; exact hj; exact h3 i hi⟩
      · simp at h

def indepAt (gs : List G) (j i : Nat) : Bool := match gs[j]?, gs[i]? with | some a, some b => indep a b | _, _ => false

def game (an : List (List Nat)) (gs : List G) : Nat → List Nat → List (List Nat) → Bool
  | 0, rem, _ => rem.isEmpty
  | n + 1, rem, C => rem.all fun k => (rem.any fun j => (an.getD k []).contains j) || (!(C.filterMap (take1 (fun j => indepAt gs j k) k)).isEmpty && game an gs n (rem.filter fun j => decide (j ≠ k)) (C.filterMap (take1 (fun j => indepAt gs j k) k)))

def pairOk (an : List (List Nat)) (gs : List G) (K : List Nat) (j i : Nat) : Bool := (an.getD i []).contains j || indepAt gs j i || (K.contains j && K.contains i)

def pairsOk (ok : Nat → Nat → Bool) : List Nat → Bool
  | [] => true
  | j :: l => l.all (ok j) && pairsOk ok l

theorem pairsOk_pw {ok : Nat → Nat → Bool} : ∀ {l : List Nat}, pairsOk ok l = true → l.Pairwise fun j i => ok j i = true := by
  intro l
  induction l with
  | nil => intro _; exact .nil
  | cons j l ih => intro h; simp only [pairsOk, Bool.and_eq_true, List.all_eq_true] at h; exact .cons h.1 (ih h.2)

def ordsOk (ops : Array Oper) (gs : List G) (K : List Nat) (ords : List (List Nat)) : Bool :=
  let pre := ops.toList.map predsOf
  let an := closure [] pre
  (pre.zipIdx.all fun q => q.1.all fun j => j < q.2) && !ords.isEmpty && (ords.all fun l => decide (l.Perm (List.range ops.size)) && pairsOk (pairOk an gs K) l) && game an gs ops.size ((List.range ops.size).filter K.contains) (ords.map fun l => l.filter K.contains)

theorem filter_pre {p : Nat → Bool} {i : Nat} {pre post a b : List Nat} (hi : p i = true) (hnd : (pre ++ i :: post).Nodup) (h : (pre ++ i :: post).filter p = a ++ i :: b) : pre.filter p = a ∧ post.filter p = b := by
  rw [List.filter_append, List.filter_cons_of_pos hi] at h
  have hn : (pre.filter p ++ i :: post.filter p).Nodup := by
    have := hnd.filter p
    rwa [List.filter_append, List.filter_cons_of_pos hi] at this
  clear hnd
  revert h hn
  generalize pre.filter p = x
  generalize post.filter p = y
  induction x generalizing a with
  | nil =>
    intro h hn
    cases a with
    | nil => simp at h; exact ⟨rfl, h⟩
    | cons c a =>
      simp at h
      obtain ⟨rfl, rfl⟩ := h
      simp at hn
  | cons c x ih =>
    intro h hn
    cases a with
    | nil =>
      simp at h
      obtain ⟨rfl, rfl⟩ := h
      simp at hn
    | cons d a =>
      simp only [List.cons_append, List.cons.injEq] at h
      obtain ⟨rfl, h⟩ := h
      rw [List.cons_append, List.nodup_cons] at hn
      obtain ⟨h1, h2⟩ := ih h hn.2
      exact ⟨by rw [h1], h2⟩

theorem sim_all (hR : Right P R) {ops : Array Oper} {gs : List G} {base : Nat} {Q : Exit → Act → World → Prop} {K : List Nat} (hok : OkReg P N ops gs) (hd1 : ∀ q, q ∈ (ops.toList.map predsOf).zipIdx → ∀ j, j ∈ q.1 → decide (j < q.2) = true) :
    ∀ (fuel : Nat) (n : Nat) (Cp : List (List Nat)) (listed : Array Bool) (a : Act) (w : World) (st : Env × Hp), listed.size = ops.size → (remOf ops listed).length ≤ fuel → SimE cx N st.1 st.2 a w → Free base (remOf ops listed) st.2 →
      (∀ (i : Nat) o, ops[i]? = some o → listed.getD i false = true → ∀ j, j ∈ predsOf o → listed.getD j false = true) →
      Cp ≠ [] → game (closure [] (ops.toList.map predsOf)) gs n ((remOf ops listed).filter K.contains) Cp = true →
      (∀ p, p ∈ Cp → ∃ l, l.filter K.contains = p ∧ l.Perm (remOf ops listed) ∧ (l.Pairwise fun j i => pairOk (closure [] (ops.toList.map predsOf)) gs K j i = true) ∧ ∃ q, runL R gs base l st = some q ∧ ∀ a' w', SimE cx N q.1 q.2 a' w' → Q .normal a' w') →
      wpAny P .any ops Q fuel listed a w := by
  have hback : ∀ (i : Nat) o, ops[i]? = some o → ∀ j, j ∈ predsOf o → j < i := by
    intro i o ho j hj
    have hm : (predsOf o, i) ∈ (ops.toList.map predsOf).zipIdx := by
      rw [List.mem_zipIdx_iff_getElem?]
      simp [ho]
    have := hd1 _ hm j hj
    simpa using this
  have hpre : ∀ (i : Nat) ps, (ops.toList.map predsOf)[i]? = some ps → ∃ o, ops[i]? = some o ∧ ps = predsOf o := by
    intro i ps h
    simp only [List.getElem?_map, Option.map_eq_some_iff] at h
    obtain ⟨o, ho, rfl⟩ := h
    exact ⟨o, by simpa using ho, rfl⟩
  have hnd0 : ∀ listed, (remOf ops listed).Nodup := fun listed => List.nodup_range.filter _
  have hlt0 : ∀ listed i, i ∈ remOf ops listed → i < ops.size := by
    intro listed i hi
    simp only [remOf, List.mem_filter, List.mem_range] at hi
    exact hi.1
  intro fuel
  induction fuel with
  | zero =>
    intro n Cp listed a w st hsz hl hs hf hdown hC hg hrun
    have he : remOf ops listed = [] := List.eq_nil_of_length_eq_zero (by omega)
    obtain ⟨p, hp⟩ := List.exists_mem_of_ne_nil _ hC
    obtain ⟨l, _, hperm, _, q, hq, hQ⟩ := hrun p hp
    rw [he] at hperm
    obtain rfl := List.Perm.eq_nil hperm
    obtain rfl := by simpa [runL] using hq
    refine ⟨?_, hQ a w hs⟩
    cases hready : Region.ready .any ops listed with
    | nil => rfl
    | cons i l =>
      have : i ∈ Region.ready .any ops listed := by rw [hready]; simp
      rw [ready_iff, he] at this
      simp at this
  | succ fuel ih =>
    intro n Cp listed a w st hsz hl hs hf hdown hC hg hrun
    refine ⟨?_, ?_⟩
    · intro hready
      cases hrem : remOf ops listed with
      | nil =>
        obtain ⟨p, hp⟩ := List.exists_mem_of_ne_nil _ hC
        obtain ⟨l, _, hperm, _, q, hq, hQ⟩ := hrun p hp
        rw [hrem] at hperm
        obtain rfl := List.Perm.eq_nil hperm
        obtain rfl := by simpa [runL] using hq
        exact hQ a w hs
      | cons i l =>
        exfalso
        have hi : i ∈ remOf ops listed := by rw [hrem]; simp
        have hil := hlt0 listed i hi
        have ho : ops[i]? = some ops[i] := Array.getElem?_eq_getElem hil
        have hsorted : (remOf ops listed).Pairwise (· < ·) := (List.pairwise_lt_range).filter _
        rw [hrem, List.pairwise_cons] at hsorted
        have : i ∈ Region.ready .any ops listed := by
          rw [ready_iff]
          refine ⟨hi, _, ho, ?_⟩
          intro j hj
          have hji := hback i _ ho j hj
          cases hlj : listed.getD j false with
          | true => rfl
          | false =>
            exfalso
            have hjr : j ∈ remOf ops listed := by
              simp only [remOf, List.mem_filter, List.mem_range]
              refine ⟨by omega, ?_⟩
              have : j < listed.size := by omega
              simp [Array.getD_eq_getD_getElem?, this] at hlj ⊢
              exact hlj
            rw [hrem] at hjr
            rcases List.mem_cons.1 hjr with rfl | hjr
            · omega
            · have := hsorted.1 j hjr; omega
        rw [hready] at this
        simp at this
    · intro i hi
      rw [ready_iff] at hi
      obtain ⟨hir, o, ho, hp⟩ := hi
      have hil := hlt0 listed i hir
      have hnolist : ∀ j, j ∈ remOf ops listed → ((closure [] (ops.toList.map predsOf)).getD i []).contains j = true → False := by
        intro j hjr h1
        have hanc : Anc (ops.toList.map predsOf) j i := by
          have hj' : j ∈ (closure [] (ops.toList.map predsOf)).getD i [] := by simpa using h1
          cases hc : (closure [] (ops.toList.map predsOf))[i]? with
          | none => simp [hc] at hj'
          | some l =>
            simp [hc] at hj'
            exact closure_anc _ _ [] ⟨[], by simp, rfl⟩ (by simp) i j l hc hj'
        have hlisted : ∀ {j i : Nat}, Anc (ops.toList.map predsOf) j i → ∀ o, ops[i]? = some o → (∀ k, k ∈ predsOf o → listed.getD k false = true) → listed.getD j false = true := by
          intro j i hA
          induction hA with
          | d h1 h2 =>
            intro o ho hp
            obtain ⟨o', ho', rfl⟩ := hpre _ _ h1
            rw [ho] at ho'
            obtain rfl := by simpa using ho'
            exact hp _ h2
          | t h1 h2 _ ih =>
            intro o ho hp
            obtain ⟨o', ho', rfl⟩ := hpre _ _ h1
            rw [ho] at ho'
            obtain rfl := by simpa using ho'
            have hk := hp _ h2
            have hkl : ∃ ok, ops[_]? = some ok := ⟨_, Array.getElem?_eq_getElem (Nat.lt_trans (hback _ _ ho _ h2) (by
              rcases Nat.lt_or_ge _ ops.size with h | h
              · exact h
              · rw [Array.getElem?_eq_none h] at ho; simp at ho))⟩
            obtain ⟨ok, hok'⟩ := hkl
            exact ih ok hok' (hdown _ ok hok' hk)
        have := hlisted hanc o ho hp
        simp only [remOf, List.mem_filter, List.mem_range] at hjr
        have hjs : j < listed.size := by omega
        simp [Array.getD_eq_getD_getElem?, hjs] at this hjr
        rw [this] at hjr
        simp at hjr
      obtain ⟨gg, hgg, hgo⟩ := hok.ok i o ho
      have hnd := hnd0 listed
      -- one order goes on behind i
      have go : ∀ l, l.Perm (remOf ops listed) → (∀ pre post, l = pre ++ i :: post → ∀ j, j ∈ pre → indepAt gs j i = true) → (l.Pairwise fun j i => pairOk (closure [] (ops.toList.map predsOf)) gs K j i = true) → (∃ q, runL R gs base l st = some q ∧ ∀ a' w', SimE cx N q.1 q.2 a' w' → Q .normal a' w') →
          ∃ pre post st1, l = pre ++ i :: post ∧ stepG R gg st.1 st.2 (base + 16 * i) = some st1 ∧ (pre ++ post).Perm (remOf ops (listed.setIfInBounds i true)) ∧ ((pre ++ post).Pairwise fun j i => pairOk (closure [] (ops.toList.map predsOf)) gs K j i = true) ∧ ∃ q, runL R gs base (pre ++ post) st1 = some q ∧ ∀ a' w', SimE cx N q.1 q.2 a' w' → Q .normal a' w' := by
        intro l hperm hind hpw ⟨q, hq, hQ⟩
        obtain ⟨pre, post, rfl⟩ := List.append_of_mem (hperm.mem_iff.2 hir)
        have hndl := hperm.nodup_iff.2 hnd
        have hr' := front hR hok pre st q a w hs hq (fun j hj => hlt0 listed j (hperm.mem_iff.1 hj)) hndl (fun j hj n h1 h2 => hf j (hperm.mem_iff.1 hj) n h1 h2) (by
          intro j hj ga gb hga hgb
          have := hind pre post rfl j hj
          simp only [indepAt, hga, hgb] at this
          exact this)
        simp only [runL, Option.bind_eq_some_iff] at hr'
        obtain ⟨st1, h1, hr1⟩ := hr'
        simp only [stepAt, hgg, Option.bind_some] at h1
        refine ⟨pre, post, st1, rfl, h1, ?_, hpw.sublist (List.Sublist.append (List.Sublist.refl _) (List.sublist_cons_self _ _)), q, hr1, hQ⟩
        rw [rem_set hsz hil, ← filter_mid hndl]
        exact hperm.filter _
      have hstep : ∀ st1, stepG R gg st.1 st.2 (base + 16 * i) = some st1 → ∀ n' Cp', Cp' ≠ [] → game (closure [] (ops.toList.map predsOf)) gs n' ((remOf ops (listed.setIfInBounds i true)).filter K.contains) Cp' = true →
          (∀ p, p ∈ Cp' → ∃ l, l.filter K.contains = p ∧ l.Perm (remOf ops (listed.setIfInBounds i true)) ∧ (l.Pairwise fun j i => pairOk (closure [] (ops.toList.map predsOf)) gs K j i = true) ∧ ∃ q, runL R gs base l st1 = some q ∧ ∀ a' w', SimE cx N q.1 q.2 a' w' → Q .normal a' w') →
          wpOp P ops Q i (fun a' w' => wpAny P .any ops Q fuel (listed.setIfInBounds i true) a' w') a w := by
        intro st1 h1 n' Cp' hC' hg' hrun'
        obtain ⟨z1, z2⟩ := stepG_ok (Q := Q) hR ho hgo hs (hf i hir) h1
        have hlen : (remOf ops (listed.setIfInBounds i true)).length ≤ fuel := by
          obtain ⟨pre, post, hrem⟩ := List.append_of_mem hir
          rw [rem_set hsz hil]
          rw [hrem] at hnd hl ⊢
          rw [filter_mid hnd]
          simp at hl ⊢
          omega
        refine wpOp_mono (fun a' w' hs' => ih n' Cp' (listed.setIfInBounds i true) a' w' st1 (by simpa using hsz) hlen hs' ?_ ?_ hC' hg' hrun') z1
        · intro j hj m hn1 hn2
          rw [rem_set hsz hil, List.mem_filter] at hj
          refine z2 m (hf j hj.1 m hn1 hn2) ?_
          have hne : j ≠ i := by simpa using hj.2
          omega
        · intro k ok hok' hk j hj
          rw [getD_set (by omega)] at hk ⊢
          by_cases e : j = i
          · simp [e]
          · rw [if_neg e]
            by_cases e' : k = i
            · subst e'
              rw [ho] at hok'
              obtain rfl := by simpa using hok'
              exact hp j hj
            · rw [if_neg e'] at hk
              exact hdown k ok hok' hk j hj
      by_cases hiK : K.contains i = true
      · -- one of those that may not change places
        cases n with
        | zero =>
          simp only [game, List.isEmpty_iff, List.filter_eq_nil_iff] at hg
          exact absurd hiK (hg i hir)
        | succ n =>
          simp only [game, List.all_eq_true] at hg
          have hgi := hg i (List.mem_filter.2 ⟨hir, hiK⟩)
          simp only [Bool.or_eq_true, Bool.and_eq_true, List.any_eq_true] at hgi
          rcases hgi with ⟨j, hj, hjc⟩ | ⟨hne, hgm⟩
          · exact (hnolist j (List.mem_filter.1 hj).1 hjc).elim
          · have key : ∀ p', p' ∈ Cp.filterMap (take1 (fun j => indepAt gs j i) i) → ∃ l st1, stepG R gg st.1 st.2 (base + 16 * i) = some st1 ∧ l.filter K.contains = p' ∧ l.Perm (remOf ops (listed.setIfInBounds i true)) ∧ (l.Pairwise fun j i => pairOk (closure [] (ops.toList.map predsOf)) gs K j i = true) ∧ ∃ q, runL R gs base l st1 = some q ∧ ∀ a' w', SimE cx N q.1 q.2 a' w' → Q .normal a' w' := by
              intro p' hp'
              rw [List.mem_filterMap] at hp'
              obtain ⟨p, hpC, ht⟩ := hp'
              obtain ⟨a1, b1, rfl, rfl, hpi⟩ := take1_some ht
              obtain ⟨l, hlK, hperm, hpw, hq⟩ := hrun _ hpC
              have hndl := hperm.nodup_iff.2 hnd
              obtain ⟨pre, post, st1, rfl, h1, h2, h3, h4⟩ := go l hperm (by
                rintro pre post rfl j hj
                obtain ⟨e1, e2⟩ := filter_pre hiK hndl hlK
                cases hjK : K.contains j with
                | true => exact hpi j (by rw [← e1]; exact List.mem_filter.2 ⟨hj, hjK⟩)
                | false =>
                  have hji := (List.pairwise_append.1 hpw).2.2 j hj i (by simp)
                  simp only [pairOk, Bool.or_eq_true, hjK, Bool.false_and, Bool.false_eq_true, or_false] at hji
                  rcases hji with h | h
                  · exact (hnolist j (hperm.mem_iff.1 (by simp [hj])) h).elim
                  · exact h) hpw hq
              obtain ⟨e1, e2⟩ := filter_pre hiK hndl hlK
              exact ⟨pre ++ post, st1, h1, by rw [List.filter_append, e1, e2], h2, h3, h4⟩
            have hne' : Cp.filterMap (take1 (fun j => indepAt gs j i) i) ≠ [] := by
              intro h
              rw [h] at hne
              simp at hne
            obtain ⟨p0, hp0⟩ := List.exists_mem_of_ne_nil _ hne'
            obtain ⟨_, st1, h1, _⟩ := key p0 hp0
            refine hstep st1 h1 n _ hne' ?_ ?_
            · have : (remOf ops (listed.setIfInBounds i true)).filter K.contains = ((remOf ops listed).filter K.contains).filter fun j => decide (j ≠ i) := by
                rw [rem_set hsz hil, List.filter_filter, List.filter_filter]
                exact List.filter_congr fun j _ => Bool.and_comm _ _
              rw [this]
              exact hgm
            · intro p' hp'
              obtain ⟨l, st2, h2, h3⟩ := key p' hp'
              rw [h1] at h2
              obtain rfl := by simpa using h2
              exact ⟨l, h3⟩
      · have hiK' : K.contains i = false := by simpa using hiK
        have key : ∀ p', p' ∈ Cp → ∃ l st1, stepG R gg st.1 st.2 (base + 16 * i) = some st1 ∧ l.filter K.contains = p' ∧ l.Perm (remOf ops (listed.setIfInBounds i true)) ∧ (l.Pairwise fun j i => pairOk (closure [] (ops.toList.map predsOf)) gs K j i = true) ∧ ∃ q, runL R gs base l st1 = some q ∧ ∀ a' w', SimE cx N q.1 q.2 a' w' → Q .normal a' w' := by
          intro p' hp'
          obtain ⟨l, hlK, hperm, hpw, hq⟩ := hrun _ hp'
          obtain ⟨pre, post, st1, rfl, h1, h2, h3, h4⟩ := go l hperm (by
            rintro pre post rfl j hj
            have hji := (List.pairwise_append.1 hpw).2.2 j hj i (by simp)
            simp only [pairOk, Bool.or_eq_true, hiK', Bool.and_false, Bool.false_eq_true, or_false] at hji
            rcases hji with h | h
            · exact (hnolist j (hperm.mem_iff.1 (by simp [hj])) h).elim
            · exact h) hpw hq
          refine ⟨pre ++ post, st1, h1, ?_, h2, h3, h4⟩
          rw [← hlK, List.filter_append, List.filter_append, List.filter_cons_of_neg (by simpa using hiK')]
        obtain ⟨p0, hp0⟩ := List.exists_mem_of_ne_nil _ hC
        obtain ⟨_, st1, h1, _⟩ := key p0 hp0
        refine hstep st1 h1 n Cp hC ?_ ?_
        · have : (remOf ops (listed.setIfInBounds i true)).filter K.contains = (remOf ops listed).filter K.contains := by
            rw [rem_set hsz hil, List.filter_filter]
            refine List.filter_congr fun j _ => ?_
            by_cases e : j = i
            · subst e; simp only [hiK', Bool.false_and]
            · simp [e]
          rw [this]
          exact hg
        · intro p' hp'
          obtain ⟨l, st2, h2, h3⟩ := key p' hp'
          rw [h1] at h2
          obtain rfl := by simpa using h2
          exact ⟨l, h3⟩
end
end Go.Proofs.Ytdblfocadcgmaaa.Ev
namespace Go.Proofs.Ytdblfocadcgmaaa.Ev
open Go
set_option linter.unusedSimpArgs false
set_option linter.unusedVariables false

section
variable {P : Program} {cx : Cx} {N : Nat} {w : World} {S : Nat → Prop} {g g' : Gh} {h h' : Hp} {s : Env} {a : Act} {f : Name → Name}

theorem renL_get : ∀ (xs : List SV) (j : Nat) (y : SV), (renL f xs)[j]? = some y → ∃ x, xs[j]? = some x ∧ y = x.ren f := by
  intro xs
  induction xs with
  | nil => intro j y hy; simp [renL] at hy
  | cons x xs ih =>
    intro j y hy
    cases j with
    | zero => simp [renL] at hy; exact ⟨x, rfl, hy.symm⟩
    | succ j => simp [renL] at hy; simpa using ih j y hy

theorem renL_len : ∀ (xs : List SV), (renL f xs).length = xs.length := by
  intro xs
  induction xs with
  | nil => rfl
  | cons x xs ih => simp [renL, ih]

theorem namesL_at {n : Name} : ∀ (xs : List SV) (j : Nat) (x : SV), xs[j]? = some x → n ∈ x.names → n ∈ namesL xs := by
  intro xs
  induction xs with
  | nil => intro j x hx; simp at hx
  | cons y xs ih =>
    intro j x hx hn
    simp only [namesL, List.mem_append]
    cases j with
    | zero => simp at hx; subst hx; exact .inl hn
    | succ j => exact .inr (ih j x (by simpa using hx) hn)

theorem SvOk.ren {x : SV} {v : Value} (hx : SvOk w S g h x v) : (∀ n, n ∈ x.names → h' (f n) = h n ∧ g' (f n) = g n) → SvOk w S g' h' (x.ren f) v := by
  have ups : ∀ (ds : List Name), (∀ n, n ∈ ds → h' (f n) = h n ∧ g' (f n) = g n) → (∀ b, upon S g ds b → upon S g' (ds.map f) b) := by
    intro ds hds b hb
    rcases hb with hb | ⟨n, hn, hb⟩
    · exact .inl hb
    · exact .inr ⟨f n, List.mem_map_of_mem hn, by rw [(hds n hn).2]; exact hb⟩
  have dom : ∀ (ds : List Name), (∀ n, n ∈ ds → h' (f n) = h n ∧ g' (f n) = g n) → (∀ n, n ∈ ds → (h n).isSome = true) → ∀ n, n ∈ ds.map f → (h' n).isSome = true := by
    intro ds hds hd n hn
    obtain ⟨m, hm, rfl⟩ := List.mem_map.1 hn
    rw [(hds m hm).1]
    exact hd m hm
  induction hx with
  | vw ds t v hd hna hv => intro hn; exact .vw _ t v (dom ds hn hd) hna (hv.mono (ups ds hn))
  | pv ds t v A hd hA hb hv ha => intro hn; exact .pv _ t v A (dom ds hn hd) hA (ups ds hn _ hb) (hv.mono (ups ds hn)) ha
  | nilI k => intro _; exact .nilI k
  | nilR z => intro _; exact .nilR z
  | nilP => intro _; exact .nilP
  | ref n p sz off l r base L C ad hr hz hhd hsp hb0 hl hlc had ha =>
    intro hn
    obtain ⟨e1, e2⟩ := hn n (by simp [SV.names])
    exact .ref (f n) p sz off l r base L C ad (e1.trans hr) hz (by rw [e2]; exact hhd) hsp hb0 hl hlc had ha
  | ptrC n p r X hr hX =>
    intro hn
    obtain ⟨e1, e2⟩ := hn n (by simp [SV.names])
    exact .ptrC (f n) p r X (e1.trans hr) (by rw [e2]; exact hX)
  | ptrA n p o r X hr hX =>
    intro hn
    obtain ⟨e1, e2⟩ := hn n (by simp [SV.names])
    exact .ptrA (f n) p o r X (e1.trans hr) (by rw [e2]; exact hX)
  | agg xs cs vs h1 h2 h3 h4 ih =>
    intro hn
    refine .agg _ cs vs (by rw [renL_len]; exact h1) ?_ ?_ ?_
    · intro j y hy; obtain ⟨x, hx, rfl⟩ := renL_get xs j y hy; exact h2 j x hx
    · intro j y hy; obtain ⟨x, hx, rfl⟩ := renL_get xs j y hy; exact h3 j x hx
    · intro j y hy; obtain ⟨x, hx, rfl⟩ := renL_get xs j y hy; exact ih j x hx fun n hnn => hn n (by simp only [SV.names]; exact namesL_at xs j x hx hnn)
  | tup xs cs vs h1 h2 h4 ih =>
    intro hn
    refine .tup _ cs vs (by rw [renL_len]; exact h1) ?_ ?_
    · intro j y hy; obtain ⟨x, hx, rfl⟩ := renL_get xs j y hy; exact h2 j x hx
    · intro j y hy; obtain ⟨x, hx, rfl⟩ := renL_get xs j y hy; exact ih j x hx fun n hnn => hn n (by simp only [SV.names]; exact namesL_at xs j x hx hnn)
  | fn i xs cs vs h1 h2 h4 ih =>
    intro hn
    refine .fn i _ cs vs (by rw [renL_len]; exact h1) ?_ ?_
    · intro j y hy; obtain ⟨x, hx, rfl⟩ := renL_get xs j y hy; exact h2 j x hx
    · intro j y hy; obtain ⟨x, hx, rfl⟩ := renL_get xs j y hy; exact ih j x hx fun n hnn => hn n (by simp only [SV.names]; exact namesL_at xs j x hx hnn)
  | undef => intro _; exact .undef
  | dead v => intro _; exact .dead v

/-- Under new names, each of one old name. -/
theorem HpOk.ren {o : Name → Name} (hp : HpOk cx w S g h) (hh : ∀ n r, h' n = some r → h (o n) = some r ∧ g' n = g (o n)) (hinj : ∀ n m r r', h' n = some r → h' m = some r' → o n = o m → n = m) (hroot : ∀ n, n < cx.nr → h' n = h n ∧ g' n = g n) : HpOk cx w S g' h' := by
  refine ⟨hp.fr, ?_, ?_, ?_, ?_, ?_, ?_, hp.Slt, hp.SR, hp.RS, fun n hn => by obtain ⟨r, q1, q2, q3⟩ := hp.root n hn; exact ⟨r, by rw [(hroot n hn).1]; exact q1, q2, by rw [(hroot n hn).2]; exact q3⟩⟩
  · intro n r hr; obtain ⟨h1, h2⟩ := hh n r hr; rw [h2]; exact hp.own _ r h1
  · intro n r hr; exact hp.row _ r (hh n r hr).1
  · intro n r b hr hb; obtain ⟨h1, h2⟩ := hh n r hr; rw [h2] at hb; exact hp.inM _ r b h1 hb
  · intro n m r r' b hr hr' hne hb hb'
    obtain ⟨h1, h2⟩ := hh n r hr
    obtain ⟨h3, h4⟩ := hh m r' hr'
    rw [h2] at hb
    rw [h4] at hb'
    exact hp.apart _ _ r r' b h1 h3 (fun e => hne (hinj n m r r' hr hr' e)) hb hb'
  · intro n r b hr hb; obtain ⟨h1, h2⟩ := hh n r hr; rw [h2] at hb; exact hp.lt _ r b h1 hb
  · intro n r b hr hb; obtain ⟨h1, h2⟩ := hh n r hr; rw [h2] at hb; exact hp.Sapart _ r b h1 hb

def oldName (nr : Nat) (l : List Name) (n : Name) : Name := if n < nr then n else l.getD (n - nr) 0
def newName (nr : Nat) (l : List Name) (n : Name) : Name := if n < nr then n else nr + l.idxOf n

theorem namesOf_mem {n k : Nat} : ∀ (ks : List Nat), k ∈ ks → n ∈ (s k).names → n ∈ namesOf s ks := by
  intro ks
  induction ks with
  | nil => intro hk; simp at hk
  | cons j ks ih =>
    intro hk hn
    simp only [namesOf, List.mem_append]
    rcases List.mem_cons.1 hk with rfl | hk
    · exact .inl hn
    · exact .inr (ih hk hn)

theorem gcE_get {nr : Nat} {l : List Name} : ∀ (ks : List Nat) (k : Nat), (k ∈ ks ∧ gcE nr l s ks k = gcS nr l (s k)) ∨ gcE nr l s ks k = .dead := by
  intro ks
  induction ks with
  | nil => intro k; exact .inr rfl
  | cons j ks ih =>
    intro k
    simp only [gcE, upd_app]
    by_cases e : k = j
    · subst e; left; exact ⟨by simp, by simp⟩
    · rw [if_neg e]
      rcases ih k with ⟨h1, h2⟩ | h2
      · exact .inl ⟨by simp [h1], h2⟩
      · exact .inr h2

theorem past_len (nr c n : Nat) (h : nr + c ≤ n) : ¬ n < nr ∧ c ≤ n - nr := by omega

theorem past_inj (nr n m : Nat) (h1 : ¬ n < nr) (h2 : ¬ m < nr) (h3 : n - nr = m - nr) : n = m := by omega

theorem gc_ok {nr : Nat} {ks : List Nat} {st : St} (hnr : nr = cx.nr) (hs : SimE cx N st.s st.h a w) : SimE cx N (gc nr ks st).s (gc nr ks st).h a w ∧ ∀ n : Nat, (gc nr ks st).nx ≤ n → (gc nr ks st).h n = none := by
  obtain ⟨⟨S, g, hp, hsl⟩, h1, h2⟩ := hs
  unfold gc
  dsimp only
  generalize hl : insL [] (old nr (namesOf st.s ks)) = l
  have hmem : ∀ n, n ∈ l ↔ (n ∈ namesOf st.s ks ∧ nr ≤ n) := by
    intro n
    rw [← hl, insL_mem]
    simp [old]
  have hnd : l.Nodup := by rw [← hl]; exact insL_nodup _ _ (by simp)
  have hgd : ∀ n, nr ≤ n → ∀ m : Nat, l[n - nr]? = some m → oldName nr l n = m := by
    intro n hn m hm
    have : ¬ n < nr := Nat.not_lt.2 hn
    simp [oldName, this, hm]
  refine ⟨⟨⟨S, fun n => g (oldName nr l n), ?_, ?_⟩, h1, h2⟩, ?_⟩
  · refine hp.ren (o := oldName nr l) ?_ ?_ (fun n hn => by rw [← hnr] at hn; simp [gcH, oldName, hn])
    · intro n r hr
      refine ⟨?_, rfl⟩
      simp only [gcH] at hr
      split at hr
      · rename_i hlt; simp [oldName, hlt, hr]
      · rename_i hge
        simp only [Option.bind_eq_some_iff] at hr
        obtain ⟨m, hm, hr⟩ := hr
        rw [hgd n (Nat.not_lt.1 hge) m hm]; exact hr
    · intro n m r r' hr hr' he
      simp only [gcH] at hr hr'
      split at hr
      · rename_i hlt
        split at hr'
        · rename_i hlt'
          simpa [oldName, hlt, hlt'] using he
        · rename_i hge'
          simp only [Option.bind_eq_some_iff] at hr'
          obtain ⟨m', hm', hr'⟩ := hr'
          rw [hgd m (Nat.not_lt.1 hge') m' hm'] at he
          have := ((hmem m').1 (List.mem_of_getElem? hm')).2
          simp [oldName, hlt] at he
          exact absurd hlt (Nat.not_lt.2 (he ▸ this))
      · rename_i hge
        simp only [Option.bind_eq_some_iff] at hr
        obtain ⟨n', hn', hr⟩ := hr
        rw [hgd n (Nat.not_lt.1 hge) n' hn'] at he
        split at hr'
        · rename_i hlt'
          have := ((hmem n').1 (List.mem_of_getElem? hn')).2
          simp [oldName, hlt'] at he
          exact absurd hlt' (Nat.not_lt.2 (he ▸ this))
        · rename_i hge'
          simp only [Option.bind_eq_some_iff] at hr'
          obtain ⟨m', hm', hr'⟩ := hr'
          rw [hgd m (Nat.not_lt.1 hge') m' hm'] at he
          subst he
          have hlt1 := get_lt hn'
          have hlt2 := get_lt hm'
          have := (List.getElem?_inj hlt1 hnd).1 (hn'.trans hm'.symm)
          exact past_inj nr n m hge hge' this
  · intro k
    rcases gcE_get (s := st.s) (nr := nr) (l := l) ks k with ⟨hk, he⟩ | he
    · rw [he]
      refine (hsl k).ren (f := newName nr l) ?_
      intro n hn
      simp only [newName]
      by_cases hlt : n < nr
      · simp [hlt, gcH, oldName]
      · rw [if_neg hlt]
        have hnl : n ∈ l := (hmem n).2 ⟨namesOf_mem ks hk hn, Nat.not_lt.1 hlt⟩
        have hi : l[l.idxOf n]? = some n := by
          have := List.idxOf_lt_length_of_mem hnl
          rw [List.getElem?_eq_getElem this, List.getElem_idxOf this]
        have hge : ¬ nr + l.idxOf n < nr := by omega
        have hsub : nr + l.idxOf n - nr = l.idxOf n := by omega
        constructor
        · simp only [gcH]; rw [if_neg hge, hsub, hi]; rfl
        · have := hgd (nr + l.idxOf n) (Nat.not_lt.1 hge) n (by rw [hsub]; exact hi)
          rw [this]
    · rw [he]; exact .dead _
  · intro n hn
    obtain ⟨hge, hle⟩ := past_len nr l.length n hn
    have : l[n - nr]? = none := List.getElem?_eq_none hle
    simp only [gcH]
    rw [if_neg hge, this]
    rfl
end
end Go.Proofs.Ytdblfocadcgmaaa.Ev
namespace Go.Proofs.Ytdblfocadcgmaaa.Ev
open Go
set_option linter.unusedSimpArgs false
set_option linter.unusedVariables false

def Ex.to : Ex → Exit
  | .normal => .normal
  | .exit id => .exit id
  | .ret => .ret

/-- Code and its short form. -/
inductive OkC (P : Program) (N : Nat) : Code → C → Prop where
  | skip : OkC P N .skip .skip
  | label (l) : OkC P N (.label l) .skip
  | reg {id ops draw gs} : OkReg P N ops gs → (draw = true → drawOk ops gs = true) → OkC P N (.region id ops draw) (.reg gs)
  | regA {id ops gs ks ords} (K : List Nat) : OkReg P N ops gs → ordsOk ops gs K ords = true → OkC P N (.region id ops true) (.regA ks gs ords)
  | seq {a b a' b'} : OkC P N a a' → OkC P N b b' → OkC P N (.seq a b) (.seq a' b')
  | cond {x x' a b a' b'} : OkX x x' → OkC P N a a' → OkC P N b b' → OkC P N (.cond x a b) (.cond x' a' b')
  | block {id a a'} : OkC P N a a' → OkC P N (.block id a) (.block id a')
  | loop {a a'} : OkC P N a a' → OkC P N (.loop a) (.loop a')
  | exit (id) : OkC P N (.exit id) (.exit id)
  | ret : OkC P N .ret .ret
  | gc {a a' ks} : OkC P N a a' → OkC P N a (.gc ks a')
  | pre {a a' ks} : OkC P N a a' → OkC P N a (.pre ks a')
  | bad {a} : OkC P N a .bad

section
variable {P : Program} {R : Run} {cx : Cx} {N nr : Nat} {w : World} {a : Act}

/-- The state's form, and no name from nx on. -/
structure Stands (cx : Cx) (N : Nat) (st : St) (a : Act) (w : World) : Prop where
  sim : SimE cx N st.s st.h a w
  free : ∀ n : Nat, st.nx ≤ n → st.h n = none

theorem SimE.drew {s : Env} {h : Hp} (hs : SimE cx N s h a w) (d : Nat) : SimE cx N s h a { w with drawn := d } := by
  obtain ⟨⟨S, g, hp, hsl⟩, h1, h2⟩ := hs
  refine ⟨⟨S, g, hp.grow (w' := { w with drawn := d }) ⟨hp.fr.os, hp.fr.tape, hp.fr.output, hp.fr.size, hp.fr.block⟩ (fun _ _ _ _ _ => rfl) (fun _ _ => rfl) (Nat.le_refl _), fun k => ?_⟩, h1, h2⟩
  exact (hsl k).frame (fun _ h => h) (fun _ _ => rfl) (fun _ _ h => h) (fun _ _ _ => rfl) (fun n r hr => hp.own n r hr) (fun _ _ _ _ _ => rfl)

theorem reg_ok (hR : Right P R) (hm : P.follows .mixedOrders = true) {id : Nat} {ops : Array Oper} {draw : Bool} {gs : List G} {st st' : St} (hok : OkReg P N ops gs) (hdr : draw = true → drawOk ops gs = true) (hr : evReg R gs st = some st') (hs : Stands cx N st a w) :
    (Code.region id ops draw).wp P (fun e a' w' => e = .normal ∧ Stands cx N st' a' w') a w := by
  simp only [evReg, Option.map_eq_some_iff] at hr
  obtain ⟨q, hq, rfl⟩ := hr
  have hrl := evL_runL R gs st.nx gs.length 0 (st.s, st.h) (by omega)
  simp only [Nat.mul_zero, Nat.add_zero, List.drop_zero, hq] at hrl
  rw [← List.range_eq_range', hok.len] at hrl
  have hlt : ∀ i, i ∈ List.range ops.size → i < ops.size := fun i hi => by simpa using hi
  have hfree : Free st.nx (List.range ops.size) st.h := fun i _ k h1 _ => hs.free k (by omega)
  have hst : ∀ a' w', SimE cx N q.1 q.2 a' w' → Stands cx N ⟨q.1, q.2, st.nx + 16 * gs.length⟩ a' w' := by
    intro a' w' hs'
    refine ⟨hs', ?_⟩
    intro n hn
    have hn : st.nx + 16 * gs.length ≤ n := hn
    obtain ⟨_, hd⟩ := dom_runL hR hok (List.range ops.size) (st.s, st.h) q a w hs.sim hrl.symm hlt hfree List.nodup_range
    refine hd n (hs.free n (by omega)) ?_
    intro i hi
    have := hlt i hi
    rw [hok.len] at hn
    omega
  cases draw with
  | false => exact wp_region (sim_runL hR hok _ (st.s, st.h) q a w hs.sim List.nodup_range hfree hrl.symm hlt fun a' w' hs' => ⟨rfl, hst a' w' hs'⟩)
  | true =>
    have hrem : remOf ops (Array.replicate ops.size false) = List.range ops.size := by
      unfold remOf
      refine List.filter_eq_self.2 ?_
      intro i hi
      have := hlt i hi
      simp [Array.getD_eq_getD_getElem?, this]
    refine wp_region_any hm ?_
    refine sim_any hR hok (hdr rfl) (Q := fun e a' w' => e = .normal ∧ Stands cx N ⟨q.1, q.2, st.nx + 16 * gs.length⟩ a' w') (fun a' w' hs' => ⟨rfl, hst a' w' hs'⟩) ops.size _ (st.s, st.h) a _ (by simp) (by rw [hrem]; simp) (hs.sim.drew _) (by rw [hrem]; exact hrl.symm) (by rw [hrem]; exact hfree) ?_
    intro i o ho hi
    exfalso
    have : i < ops.size := by
      rcases Nat.lt_or_ge i ops.size with h | h
      · exact h
      · rw [Array.getElem?_eq_none h] at ho; simp at ho
    simp [Array.getD_eq_getD_getElem?, this] at hi

theorem regA_ok (hR : Right P R) (hm : P.follows .mixedOrders = true) (hnr : nr = cx.nr) {id : Nat} {ops : Array Oper} {gs : List G} {K ks : List Nat} {ords : List (List Nat)} {st st' : St} (hok : OkReg P N ops gs) (hdr : ordsOk ops gs K ords = true)
    (hr : ∀ l, l ∈ ords → ∃ q, runL R gs st.nx l (st.s, st.h) = some q ∧ gc nr ks ⟨q.1, q.2, st.nx + 16 * gs.length⟩ = st') (hs : Stands cx N st a w) :
    (Code.region id ops true).wp P (fun e a' w' => e = .normal ∧ Stands cx N st' a' w') a w := by
  simp only [ordsOk, Bool.and_eq_true, List.all_eq_true, decide_eq_true_eq] at hdr
  obtain ⟨⟨⟨h1, h2⟩, h3⟩, h4⟩ := hdr
  have hlt : ∀ i, i ∈ List.range ops.size → i < ops.size := fun i hi => by simpa using hi
  have hfree : Free st.nx (List.range ops.size) st.h := fun i _ k h1 _ => hs.free k (by omega)
  have hrem : remOf ops (Array.replicate ops.size false) = List.range ops.size := by
    unfold remOf
    refine List.filter_eq_self.2 ?_
    intro i hi
    have := hlt i hi
    simp [Array.getD_eq_getD_getElem?, this]
  refine wp_region_any hm ?_
  refine sim_all hR hok (K := K) (Q := fun e a' w' => e = .normal ∧ Stands cx N st' a' w') (fun q hq j hj => decide_eq_true (h1 q hq j hj)) ops.size ops.size (ords.map fun l => l.filter K.contains) _ a _ (st.s, st.h) (by simp) (by rw [hrem]; simp) (hs.sim.drew _) (by rw [hrem]; exact hfree) ?_ ?_ (by rw [hrem]; exact h4) ?_
  · intro i o ho hi
    exfalso
    have : i < ops.size := by
      rcases Nat.lt_or_ge i ops.size with h | h
      · exact h
      · rw [Array.getElem?_eq_none h] at ho; simp at ho
    simp [Array.getD_eq_getD_getElem?, this] at hi
  · intro h
    simp at h
    simp [h] at h2
  · intro p hp
    rw [List.mem_map] at hp
    obtain ⟨l, hl, rfl⟩ := hp
    obtain ⟨hperm, hpw⟩ := h3 l hl
    obtain ⟨q, hq, rfl⟩ := hr l hl
    refine ⟨l, rfl, by rw [hrem]; exact hperm, pairsOk_pw hpw, q, hq, fun a' w' hs' => ⟨rfl, ?_⟩⟩
    obtain ⟨g1, g2⟩ := gc_ok (ks := ks) (st := ⟨q.1, q.2, st.nx + 16 * gs.length⟩) hnr hs'
    exact ⟨g1, g2⟩

theorem code_ok (hR : Right P R) (hm : P.follows .mixedOrders = true) (hnr : nr = cx.nr) {c : C} {st : St} {e : Ex} {st' : St} (hev : Ev R nr c st e st') :
    (∀ code, OkC P N code c → ∀ a w, Stands cx N st a w → code.wp P (fun x a' w' => x = e.to ∧ Stands cx N st' a' w') a w) ∧
    (∀ b, c = .loop b → ∃ n, ∀ code, OkC P N code b → ∀ a w, Stands cx N st a w → Code.rounds P code (fun x a' w' => x = e.to ∧ Stands cx N st' a' w') n a w) := by
  induction hev with
  | skip st =>
    refine ⟨?_, fun b hb => by simp at hb⟩
    intro code hc a w hs
    cases hc with
    | skip => exact wp_skip ⟨rfl, hs⟩
    | label l => exact wp_label ⟨rfl, hs⟩
  | reg gs st st' hr =>
    refine ⟨?_, fun b hb => by simp at hb⟩
    intro code hc a w hs
    cases hc with
    | reg h1 h2 => exact reg_ok hR hm h1 h2 hr hs
  | regA ks gs ords st st' _ hr =>
    refine ⟨?_, fun b hb => by simp at hb⟩
    intro code hc a w hs
    cases hc with
    | regA K h1 h2 => exact regA_ok hR hm hnr h1 h2 hr hs
  | pre ks a st e st1 _ ih =>
    refine ⟨?_, fun b hb => by simp at hb⟩
    intro code hc a w hs
    cases hc with
    | pre h1 =>
      obtain ⟨z1, z2⟩ := gc_ok (nr := nr) (ks := ks) hnr hs.sim
      exact ih.1 _ h1 a w ⟨z1, z2⟩
  | seqN a b st st1 e st2 _ _ ih1 ih2 =>
    refine ⟨?_, fun b hb => by simp at hb⟩
    intro code hc a w hs
    cases hc with
    | seq h1 h2 =>
      refine wp_seq (wp_mono (ih1.1 _ h1 a w hs) ?_)
      rintro x a' w' ⟨rfl, hs'⟩
      exact ih2.1 _ h2 a' w' hs'
  | seqX a b st e st1 _ hne ih =>
    refine ⟨?_, fun b hb => by simp at hb⟩
    intro code hc a w hs
    cases hc with
    | seq h1 h2 =>
      refine wp_seq (wp_mono (ih.1 _ h1 a w hs) ?_)
      rintro x a' w' ⟨rfl, hs'⟩
      cases e with
      | normal => exact absurd rfl hne
      | exit id => exact ⟨rfl, hs'⟩
      | ret => exact ⟨rfl, hs'⟩
  | condT x a b st e st1 hx _ ih =>
    refine ⟨?_, fun b hb => by simp at hb⟩
    intro code hc a w hs
    cases hc with
    | cond h0 h1 h2 =>
      obtain ⟨S, g, hp, hsl⟩ := hs.sim.ex
      have := ev_ok h0 hsl
      rw [hx] at this
      exact wp_cond_true (ok_bool this) (ih.1 _ h1 a w hs)
  | condF x a b st e st1 hx _ ih =>
    refine ⟨?_, fun b hb => by simp at hb⟩
    intro code hc a w hs
    cases hc with
    | cond h0 h1 h2 =>
      obtain ⟨S, g, hp, hsl⟩ := hs.sim.ex
      have := ev_ok h0 hsl
      rw [hx] at this
      exact wp_cond_false (ok_bool this) (ih.1 _ h2 a w hs)
  | block id a st e st1 _ ih =>
    refine ⟨?_, fun b hb => by simp at hb⟩
    intro code hc a w hs
    cases hc with
    | block h1 =>
      refine wp_block (wp_mono (ih.1 _ h1 a w hs) ?_)
      rintro x a' w' ⟨rfl, hs'⟩
      cases e with
      | normal => exact ⟨rfl, hs'⟩
      | exit i =>
        show if i = id then _ else _
        by_cases hi : i = id
        · rw [if_pos hi]; exact ⟨by simp [Ex.blk, hi, Ex.to], hs'⟩
        · rw [if_neg hi]; exact ⟨by simp [Ex.blk, hi, Ex.to], hs'⟩
      | ret => exact ⟨rfl, hs'⟩
  | loopN a st st1 e st2 _ _ ih1 ih2 =>
    have hn : ∃ n, ∀ code, OkC P N code a → ∀ ac w, Stands cx N st ac w → Code.rounds P code (fun x a' w' => x = e.to ∧ Stands cx N st2 a' w') n ac w := by
      obtain ⟨n, hn⟩ := ih2.2 a rfl
      refine ⟨n + 1, ?_⟩
      intro code hc ac w hs
      rw [rounds_succ]
      refine wp_mono (ih1.1 _ hc ac w hs) ?_
      rintro x a' w' ⟨rfl, hs'⟩
      exact hn code hc a' w' hs'
    refine ⟨?_, ?_⟩
    · intro code hc ac w hs
      cases hc with
      | loop h1 =>
        obtain ⟨n, hn⟩ := hn
        exact wp_loop_rounds n (hn _ h1 ac w hs)
    · intro b hb
      obtain rfl := by simpa using hb
      exact hn
  | loopX a st e st1 _ hne ih =>
    have hn : ∀ code, OkC P N code a → ∀ ac w, Stands cx N st ac w → Code.rounds P code (fun x a' w' => x = e.to ∧ Stands cx N st1 a' w') 1 ac w := by
      intro code hc ac w hs
      rw [rounds_succ]
      refine wp_mono (ih.1 _ hc ac w hs) ?_
      rintro x a' w' ⟨rfl, hs'⟩
      cases e with
      | normal => exact absurd rfl hne
      | exit id => exact ⟨rfl, hs'⟩
      | ret => exact ⟨rfl, hs'⟩
    refine ⟨?_, ?_⟩
    · intro code hc ac w hs
      cases hc with
      | loop h1 => exact wp_loop_rounds 1 (hn _ h1 ac w hs)
    · intro b hb
      obtain rfl := by simpa using hb
      exact ⟨1, hn⟩
  | exit id st =>
    refine ⟨?_, fun b hb => by simp at hb⟩
    intro code hc a w hs
    cases hc with
    | exit => exact wp_exit ⟨rfl, hs⟩
  | ret st =>
    refine ⟨?_, fun b hb => by simp at hb⟩
    intro code hc a w hs
    cases hc with
    | ret => exact wp_ret ⟨rfl, hs⟩
  | gcN ks a st st1 _ ih =>
    refine ⟨?_, fun b hb => by simp at hb⟩
    intro code hc a w hs
    cases hc with
    | gc h1 =>
      refine wp_mono (ih.1 _ h1 a w hs) ?_
      rintro x a' w' ⟨rfl, hs'⟩
      obtain ⟨z1, z2⟩ := gc_ok (nr := nr) (ks := ks) hnr hs'.sim
      exact ⟨rfl, z1, z2⟩
  | gcX ks a st e st1 _ hne ih =>
    refine ⟨?_, fun b hb => by simp at hb⟩
    intro code hc a w hs
    cases hc with
    | gc h1 => exact ih.1 _ h1 a w hs
end
end Go.Proofs.Ytdblfocadcgmaaa.Ev
namespace Go.Proofs.Ytdblfocadcgmaaa.Ev
open Go
set_option linter.unusedSimpArgs false
set_option linter.unusedVariables false

/-- A result and its short form. -/
inductive OkRV (P : Program) : ResultVar → RV → Prop where
  | tmp (i) : OkRV P (.tmp i) (.t i)
  | cell {i t n} : LdT P t n → OkRV P (.cell i t) (.c i n)

section
variable {P : Program} {R : Run} {cx : Cx} {N nr : Nat} {w : World} {S : Nat → Prop} {g : Gh} {h : Hp} {s : Env} {a : Act}

theorem ret1_right (hnr : nr = cx.nr) (w : World) (S : Nat → Prop) : AbsRight cx w S (ret1 nr) (fun _ t v => aggT t = false ∧ v.oneCell' = true) := by
  intro g h x v q hp hv hx
  unfold ret1 at hx
  split at hx
  · rename_i n
    split at hx
    · simp at hx
    rename_i hge
    simp only [Option.map_eq_some_iff] at hx
    obtain ⟨t, ht, rfl⟩ := hx
    obtain ⟨r, X, hr, hX, rfl⟩ := ptrA_inv hv
    rw [ht] at hr
    obtain rfl := by simpa using hr
    have ho := hp.own n t ht
    have hrv : (g n).1 = .pointer (some (X.add 0)) := by
      obtain ⟨rv, hrv⟩ : ∃ rv, (g n).1 = rv := ⟨_, rfl⟩
      rw [hrv] at hX ho ⊢
      cases ho <;> simp [rloc, loc] at hX
      simp [hX, Addr.add]
    rw [hrv] at ho
    have hsub : ∀ n' r0, upd h n none n' = some r0 → n' ≠ n ∧ h n' = some r0 := by
      intro n' r0 hr
      by_cases e : n' = n
      · subst e; simp at hr
      · rw [upd_ne _ _ e] at hr; exact ⟨e, hr⟩
    refine ⟨⟨g, (g n).2, ho, ?_, ?_, ?_, ?_, fun b hb => ⟨n, t, ht, hb⟩, ?_⟩, hp.row n t ht, rfl⟩
    · intro b hb
      exact ⟨hp.inM n t b ht hb, hp.lt n t b ht hb, hp.Sapart n t b ht hb⟩
    · intro n' r0 b hr hb hb'
      obtain ⟨e, hr⟩ := hsub n' r0 hr
      exact hp.apart n' n r0 t b hr ht e hb hb'
    · exact ⟨hp.fr, fun n r0 hr => hp.own n r0 (hsub n r0 hr).2, fun n r0 hr => hp.row n r0 (hsub n r0 hr).2, fun n r0 b hr => hp.inM n r0 b (hsub n r0 hr).2, fun n m' r0 r1 b hr hr' => hp.apart n m' r0 r1 b (hsub n r0 hr).2 (hsub m' r1 hr').2,
        fun n r0 b hr => hp.lt n r0 b (hsub n r0 hr).2, fun n r0 b hr => hp.Sapart n r0 b (hsub n r0 hr).2, hp.Slt, hp.SR, hp.RS, fun n' hn => by
          obtain ⟨r0, q1, q2, q3⟩ := hp.root n' hn
          have hne : n' ≠ n := by rintro rfl; exact hge (hnr ▸ hn)
          exact ⟨r0, by dsimp only; rw [upd_ne _ _ hne]; exact q1, q2, q3⟩⟩
    · intro y u hy hk
      exact hy.away (m := n) hk (fun n r0 hn hr => by dsimp only; rw [upd_ne _ _ hn]; exact hr) (fun n r0 hn hr => rfl) hp.own (fun n r0 b hn hr hb => rfl) (fun b hb => rfl)
    · intro n' r0 hr
      obtain ⟨e, hr⟩ := hsub n' r0 hr
      exact ⟨rfl, r0, hr, fun b hb => hb⟩
  · exact abs_ok hp hv hx

theorem retT_right (hnr : nr = cx.nr) (w : World) (S : Nat → Prop) : AbsRight cx w S (retT nr) (fun _ _ _ => True) := by
  intro g h x v q hp hv hx
  cases x with
  | agg xs =>
    simp only [retT, Option.map_eq_some_iff] at hx
    obtain ⟨q', hq', rfl⟩ := hx
    obtain ⟨cs, rfl⟩ : ∃ cs, v = .agg cs := by cases hv; exact ⟨_, rfl⟩
    obtain ⟨hall, hsz⟩ := agg_all2 hv
    obtain ⟨⟨g1, Fs, a⟩, hl, hk⟩ := absW_ok (ret1_right hnr w S) xs cs.toList g h q' hp hall hq'
    refine ⟨⟨g1, _, absL_agg a ?_⟩, trivial⟩
    intro j t hj
    have h1 := get_lt hj
    have h2 := a.len
    exact (hk j t cs.toList[j] xs[j] hj (List.getElem?_eq_getElem (by omega)) (List.getElem?_eq_getElem (by omega))).1
  | _ => exact ⟨(ret1_right hnr w S g h _ v q hp hv hx).1, trivial⟩

theorem ow_rs {rvs : List Value} {t : T} {v : Value} {F : Nat → Prop} (ho : Ow w S t v F) : Rs w S rvs t v F := by
  by_cases hna : aggT t = false
  · exact .own t v F hna ho
  · cases ho with
    | agg ts cs vs G _ h1 h2 h3 h4 h5 h6 => exact .agg ts cs vs G F h1 h2 (fun j t ht => ((h4 j t ht).one (h3 j t ht)).1) (fun j t ht => .own t _ _ (h3 j t ht) (h4 j t ht)) h5 h6
    | _ => simp [aggT] at hna

def rvOf (tmps : Array Value) : ResultVar → Sem Value
  | .tmp t => pure (tmps.getD t undef)
  | .cell d t => do loadVar t (← asAddr (tmps.getD d undef))

theorem mapM_run {α β : Type} {f : α → Sem β} : ∀ (xs : List α) (us : List β), All2 (fun x u => (f x).run P w = .ok u w) xs us → (xs.mapM f).run P w = .ok us w := by
  intro xs us h
  induction h with
  | nil => rfl
  | cons h1 _ ih => rw [List.mapM_cons, Sem.run_bind, h1, Result.andThen_ok, Sem.run_bind, ih, Result.andThen_ok]; rfl

theorem rv_ok {r : ResultVar} {rv : RV} {rs : List RV} {vs : List SV} (hp : HpOk cx w S g h) (hs : ∀ k, SvOk w S g h (s k) (a.tmps.getD k undef)) (hr : OkRV P r rv) (hvs : resSV s h (rv :: rs) = some vs) :
    ∃ v vs' u, vs = v :: vs' ∧ resSV s h rs = some vs' ∧ (rvOf a.tmps r).run P w = .ok u w ∧ SvOk w S g h v u := by
  cases hr with
  | tmp i =>
    simp only [resSV, Option.map_eq_some_iff] at hvs
    obtain ⟨vs', hv', rfl⟩ := hvs
    exact ⟨_, vs', _, rfl, hv', rfl, hs i⟩
  | @cell i t n ht =>
    simp only [resSV, Option.bind_eq_some_iff, Option.map_eq_some_iff] at hvs
    obtain ⟨v, hld, vs', hv', rfl⟩ := hvs
    obtain ⟨A, val, e, hrun, hok⟩ := ld_run hp (hs i) ht hld
    refine ⟨_, vs', val, rfl, hv', ?_, hok⟩
    show (asAddr (a.tmps.getD i undef) >>= fun A => loadVar t A).run P w = _
    rw [e, Sem.run_bind]
    exact hrun

theorem results_ok {fn : Func} {res : List RV} {vs : List SV} (hp : HpOk cx w S g h) (hs : ∀ k, SvOk w S g h (s k) (a.tmps.getD k undef)) (hres : All2 (OkRV P) fn.results.toList res) (hvs : resSV s h res = some vs) :
    ∃ us : List Value, (results fn a.tmps).run P w = .ok (if hh : us.length = 1 then us[0] else .tuple us.toArray) w ∧ All2 (SvOk w S g h) vs us := by
  have key : ∀ (rs : List ResultVar) (res : List RV) (vs : List SV), All2 (OkRV P) rs res → resSV s h res = some vs → ∃ us : List Value, All2 (fun x u => (rvOf a.tmps x).run P w = .ok u w) rs us ∧ All2 (SvOk w S g h) vs us := by
    intro rs res vs hall
    induction hall generalizing vs with
    | nil => intro hv; simp [resSV] at hv; subst hv; exact ⟨[], .nil, .nil⟩
    | cons hr _ ih =>
      intro hv
      obtain ⟨v, vs', u, rfl, h1, h2, h3⟩ := rv_ok hp hs hr hv
      obtain ⟨us, h4, h5⟩ := ih vs' h1
      exact ⟨u :: us, .cons h2 h4, .cons h3 h5⟩
  obtain ⟨us, h1, h2⟩ := key _ _ _ hres hvs
  refine ⟨us, ?_, h2⟩
  have hm : (fn.results.mapM (rvOf a.tmps)).run P w = .ok us.toArray w := by
    rw [Array.mapM_eq_mapM_toList, Sem.run_map, mapM_run _ _ h1, Result.andThen_ok]
  have hun : results fn a.tmps = (fn.results.mapM (rvOf a.tmps)) >>= fun vs => pure (if h : vs.size = 1 then vs[0] else .tuple vs) := by
    unfold results
    congr 1
  rw [hun, Sem.run_bind, hm, Result.andThen_ok]
  by_cases hh : us.length = 1
  · simp [hh]
  · simp [hh]
end
end Go.Proofs.Ytdblfocadcgmaaa.Ev
namespace Go.Proofs.Ytdblfocadcgmaaa.Ev
open Go
set_option linter.unusedSimpArgs false
set_option linter.unusedVariables false

/-- A body and its short form. -/
inductive OkHd (P : Program) (N np : Nat) : Option QH → Code → C → Prop where
  | plain {code c} : OkC P N code c → OkHd P N np none code c
  | nilq {i0 i1 d0 d1 d2 : Nat} {z0 : T} {o0 o1 o2 : Oper} {t t' e : TypeId} {kc kB : Code} {cc cB c : C} : OkG P N #[o0] o0 ⟨some d0, none, .mv (.c (.nilS z0))⟩ → OkG P N #[o1, o2] o1 ⟨some d1, none, .cp (.t 0)⟩ → o0.op = .assign (.const (.slice none 0 0)) → o1.op = .move (.tmp 0) → o2.dst = some d2 → d2 < N → o2.guard = none →
      o2.op = .binOp .eql t (.tmp d1) (.const (.slice none 0 0)) t' → P.underlying t = some (.slice e) → d0 ≠ 0 → 0 < np → OkC P N kc cc → OkC P N kB cB →
      OkHd P N np (some ⟨d0, d1, d2, z0, cc, cB⟩) (.seq (.region i0 #[o0] false) (.seq (.seq (.region i1 #[o1, o2] false) kc) kB)) c

structure OkFn (P : Program) (f : FuncId) (F : Fn) : Prop where
  ex : ∃ fn code, P.funcs[f]? = some fn ∧ fn.body = some code ∧ (fn.name == "runtime.NumGoroutine") = false ∧ F.np ≤ fn.ntmps ∧ OkHd P fn.ntmps F.np F.q code F.body ∧ All2 (OkRV P) fn.results.toList F.res

theorem innL_get : ∀ (ts : List T) (vs : List SV), innL ts = some vs → vs.length = ts.length ∧ ∀ (j : Nat) x, vs[j]? = some x → ∃ t, ts[j]? = some t ∧ inn t = some x := by
  intro ts
  induction ts with
  | nil => intro vs h; simp [innL] at h; subst h; simp
  | cons t ts ih =>
    intro vs h
    simp only [innL, Option.bind_eq_some_iff, Option.map_eq_some_iff] at h
    obtain ⟨x, h1, vs', h2, rfl⟩ := h
    obtain ⟨q1, q2⟩ := ih vs' h2
    refine ⟨by simp [q1], ?_⟩
    intro j y hj
    cases j with
    | zero => simp at hj; subst hj; exact ⟨t, rfl, h1⟩
    | succ j => simpa using q2 j y (by simpa using hj)

theorem entry_get : ∀ (vs : List SV) (k0 k : Nat), entry k0 vs k = if k0 ≤ k then (vs[k - k0]?).getD .undef else .undef := by
  intro vs
  induction vs with
  | nil => intro k0 k; simp [entry]
  | cons v vs ih =>
    intro k0 k
    simp only [entry, upd_app]
    by_cases e : k = k0
    · subst e; simp
    · rw [if_neg e, ih]
      by_cases hl : k0 ≤ k
      · have h1 : k0 + 1 ≤ k := by omega
        have h2 : k - k0 = (k - (k0 + 1)) + 1 := by omega
        rw [if_pos hl, if_pos h1, h2, List.getElem?_cons_succ]
      · rw [if_neg hl, if_neg (by omega)]

section
variable {P : Program} {R : Run} {w : World}

def cx0 (w : World) (Rd : Nat → Prop) (rvs : List Value) (Fs : Nat → Nat → Prop) (n : Nat) : Cx := ⟨w, fun b => ∃ k, Fs k b, Rd, n, fun n => rvs.getD n undef⟩
def g0 (rvs : List Value) (Fs : Nat → Nat → Prop) : Gh := fun n => (rvs.getD n undef, Fs n)

theorem hp0 {Rd : Nat → Prop} {rvs : List Value} {Fs : Nat → Nat → Prop} {sto : List T} (hsto : Sto w Rd sto rvs Fs) (hd : ∀ k b, Fs k b → ¬ Rd b) (hl : ∀ b, Rd b → b < w.heap.size) :
    HpOk (cx0 w Rd rvs Fs sto.length) w Rd (g0 rvs Fs) (fun n => sto[n]?) := by
  have hrv : ∀ n : Nat, n < sto.length → rvs[n]? = some (rvs.getD n undef) := by
    intro n hn
    have : n < rvs.length := by rw [hsto.len]; exact hn
    simp [this]
  refine ⟨Fr.refl _ w, ?_, ?_, ?_, ?_, ?_, ?_, hl, fun b hb => .inl hb, fun b hb => hb, ?_⟩
  · intro n r hr; exact hsto.own n r _ hr (hrv n (get_lt hr))
  · intro n r hr
    have := hsto.ptr n r hr
    cases r <;> simp_all [T.isPtr, aggT]
  · intro n r b hr hb; exact .inl ⟨n, hb⟩
  · intro n m r r' b _ _ hne hb hb'; exact hsto.disj n m b hne hb hb'
  · intro n r b hr hb; exact hsto.lt n b hb
  · intro n r b hr hb; exact hd n b hb
  · intro n hn
    have hn : n < sto.length := hn
    refine ⟨sto[n], List.getElem?_eq_getElem hn, ?_, rfl⟩
    have := hsto.ptr n _ (List.getElem?_eq_getElem hn)
    generalize sto[n] = r at this
    cases r <;> simp_all [T.isPtr, T.isV]

theorem inn_ok {Rd : Nat → Prop} {rvs : List Value} {Fs : Nat → Nat → Prop} {sto : List T} (hsto : Sto w Rd sto rvs Fs) {t : T} {v : Value} (ha : Ag w Rd rvs t v) : ∀ x, inn t = some x → SvOk w Rd (g0 rvs Fs) (fun n => sto[n]?) x v := by
  have hvw : ∀ {t : T} {v : Value}, aggT t = false → Vw w Rd t v → SvOk w Rd (g0 rvs Fs) (fun n => sto[n]?) (.vw [] t) v := fun hna hv => .vw [] _ _ (by simp) hna (hv.mono fun b hb => .inl hb)
  induction ha with
  | vw t v hna hv =>
    intro x hx
    cases hv with
    | sh t v hr hv =>
      simp only [inn, hr, if_true, Option.some.injEq] at hx
      subst hx
      exact hvw (by cases t <;> simp_all [T.isRow, aggT]) hv
    | agg ts cs vs h1 h2 h3 h4 => simp [aggT] at hna
    | dead v h => simp [inn] at hx
    | ptr t v h => simp [inn] at hx
    | int k n => obtain rfl := by simpa [inn] using hx
                 exact hvw hna (.int k n)
    | bool b => obtain rfl := by simpa [inn] using hx
                exact hvw hna (.bool b)
    | str s => obtain rfl := by simpa [inn] using hx
               exact hvw hna (.str s)
    | ints0 k => obtain rfl := by simpa [inn] using hx
                 exact hvw hna (.ints0 k)
    | rows0 sz => obtain rfl := by simpa [inn] using hx
                  exact hvw hna (.rows0 sz)
    | ints k xs a C h1 h2 h3 h4 =>
      obtain rfl := by simpa [inn] using hx
      exact hvw hna (.ints k xs a C h1 h2 h3 h4)
    | rows sz xs a C vs h1 h2 h3 h4 h5 h6 =>
      obtain rfl := by simpa [inn] using hx
      exact hvw hna (.rows sz xs a C vs h1 h2 h3 h4 h5 h6)
  | ref k v hk =>
    intro x hx
    obtain rfl := by simpa [inn] using hx
    have hlt : k < sto.length := by rw [← hsto.len]; exact get_lt hk
    have hs := List.getElem?_eq_getElem hlt
    have ho := hsto.own k _ v hs hk
    have hp := hsto.ptr k _ hs
    generalize hr : sto[k] = r at hs ho hp
    cases ho <;> simp [T.isPtr] at hp
    rename_i ts cs a G h1 h2 h3 h4 h5
    have hgd : (g0 rvs Fs k).1 = .pointer (some a) := by simp [g0, hk]
    have := SvOk.ptrA (w := w) (S := Rd) (g := g0 rvs Fs) (h := fun n => sto[n]?) k [] 0 _ a hs (by rw [hgd]; simp [rloc, loc])
    simpa [Addr.add] using this
  | vp t v A h1 h2 h3 h4 =>
    intro x hx
    obtain rfl := by simpa [inn] using hx
    exact .pv [] t v A (by simp) h1 (.inl h2) (h3.mono fun b hb => .inl hb) h4
  | agg ts cs vs h1 h2 h3 h4 ih =>
    intro x hx
    simp only [inn, Option.map_eq_some_iff] at hx
    obtain ⟨xs, hxs, rfl⟩ := hx
    obtain ⟨q1, q2⟩ := innL_get ts xs hxs
    refine .agg xs cs vs (by omega) ?_ ?_ ?_
    · intro j x hj; obtain ⟨t, ht, _⟩ := q2 j x hj; exact h2 j t ht
    · intro j x hj; obtain ⟨t, ht, _⟩ := q2 j x hj; exact h3 j t ht
    · intro j x hj; obtain ⟨t, ht, e⟩ := q2 j x hj; exact ih j t ht x e
  | fn f ts cs vs h1 h2 h4 ih =>
    intro x hx
    simp only [inn, Option.map_eq_some_iff] at hx
    obtain ⟨xs, hxs, rfl⟩ := hx
    obtain ⟨q1, q2⟩ := innL_get ts xs hxs
    refine .fn f xs cs vs (by omega) ?_ ?_
    · intro j x hj; obtain ⟨t, ht, _⟩ := q2 j x hj; exact h2 j t ht
    · intro j x hj; obtain ⟨t, ht, e⟩ := q2 j x hj; exact ih j t ht x e

theorem end_ok {w0 : World} {Rd : Nat → Prop} {rvs : List Value} {Fs : Nat → Nat → Prop} {n N : Nat} {fn : Func} {F : Fn} {st : St} {a : Act} {r : T × List T} (hn : rvs.length = n) (hs : SimE (cx0 w0 Rd rvs Fs n) N st.s st.h a w) (hres : All2 (OkRV P) fn.results.toList F.res) (hout : outs n F st = some r) :
    ∃ v, (results fn a.tmps).run P w = .ok v w ∧ Post w0 w Rd Fs rvs r v := by
  obtain ⟨⟨S, g, hp, hsl⟩, _, _⟩ := hs
  simp only [outs, Option.bind_eq_some_iff] at hout
  obtain ⟨vs, hvs, q, hq, sto, hsto, hr⟩ := hout
  split at hr
  case isFalse => simp at hr
  rename_i hpt
  obtain rfl := by simpa using hr
  obtain ⟨us, hrun, hall⟩ := results_ok hp hsl hres hvs
  obtain ⟨⟨g1, Gs, A⟩, hlen, _⟩ := absW_ok (retT_right (cx := cx0 w0 Rd rvs Fs n) rfl w S) vs us g st.h q hp hall hq
  refine ⟨_, hrun, ?_⟩
  obtain ⟨q1, q2⟩ := getAll_get _ _ hsto
  simp only [List.length_range] at q1
  have hg : ∀ (k : Nat) t, sto[k]? = some t → k < n ∧ q.2.2 k = some t ∧ rvs[k]? = some (g1 k).1 := by
    intro k t hk
    have hkn : k < n := by have := get_lt hk; omega
    obtain ⟨t', h1, h2⟩ := q2 k k (by simp [hkn])
    rw [hk] at h2
    obtain rfl := by simpa using h2
    obtain ⟨r0, z1, z2, z3⟩ := A.hp.root k hkn
    refine ⟨hkn, h1, ?_⟩
    rw [z3]
    simp [cx0, hn, hkn]
  have hg' : ∀ k b, (k < n ∧ (g1 k).2 b) → ∃ r, q.2.2 k = some r ∧ (g1 k).2 b := by
    rintro k b ⟨hk, hb⟩
    obtain ⟨r0, z1, _⟩ := A.hp.root k hk
    exact ⟨r0, z1, hb⟩
  refine ⟨S, fun k b => k < n ∧ (g1 k).2 b, fun b => ∃ j, Gs j b, A.hp.fr, ⟨hn.trans q1.symm, ?_, ?_, ?_, ?_, ?_⟩, ?_, ?_, ?_, ?_, A.hp.RS⟩
  · intro k t v hk hv
    obtain ⟨h1, h2, h3⟩ := hg k t hk
    rw [hv] at h3
    obtain rfl := by simpa using h3
    exact (A.hp.own k t h2).mono fun b hb => ⟨h1, hb⟩
  · intro k t hk; exact List.all_eq_true.1 hpt t (List.mem_of_getElem? hk)
  · intro i j b hij hi hj
    obtain ⟨r1, e1, e2⟩ := hg' i b hi
    obtain ⟨r2, e3, e4⟩ := hg' j b hj
    exact A.hp.apart i j r1 r2 b e1 e3 hij e2 e4
  · intro k b hk
    obtain ⟨r1, e1, e2⟩ := hg' k b hk
    exact A.hp.lt k r1 b e1 e2
  · rintro k b hk ⟨h1, _⟩
    have hk : sto.length ≤ k := hk
    omega
  · have hul := A.len
    by_cases h1 : us.length = 1
    · rw [dif_pos h1]
      obtain ⟨u, rfl⟩ := List.length_eq_one_iff.1 h1
      have h2 : q.1.length = 1 := by omega
      obtain ⟨t, ht⟩ := List.length_eq_one_iff.1 h2
      rw [ht]
      exact ow_rs ((A.own 0 t u (by rw [ht]; rfl) rfl).mono fun b hb => ⟨0, hb⟩)
    · rw [dif_neg h1]
      have hone : one q.1 = .tup q.1 := by
        cases hq1 : q.1 with
        | nil => rfl
        | cons t ts =>
          cases ts with
          | nil => rw [hq1] at hul; simp at hul; omega
          | cons _ _ => rfl
      rw [hone]
      refine .tup q.1 us.toArray (fun j => us.getD j default) Gs _ (by simpa using hul) ?_ ?_ A.disj (fun j b hb => ⟨j, hb⟩)
      · intro j t hj
        have := get_lt hj
        have : j < us.length := by omega
        simp [this]
      · intro j t hj
        have := get_lt hj
        have : j < us.length := by omega
        exact ow_rs (A.own j t _ hj (by simp [this]))
  · intro k b hk
    obtain ⟨r1, e1, e2⟩ := hg' k b hk
    exact ⟨fun ⟨j, hb⟩ => A.apart k r1 b e1 e2 j hb, A.hp.Sapart k r1 b e1 e2, A.hp.inM k r1 b e1 e2⟩
  · rintro b ⟨j, hb⟩
    have := A.ft j b hb
    exact ⟨this.2.2, this.2.1, this.1⟩
  · intro b hb
    exact ⟨A.hp.Slt b hb, A.hp.SR b hb⟩

/-- A slice: whether it is nil. -/
theorem vw_nil {S : Nat → Prop} {t : T} {v : Value} (h : Vw w S t v) (ht : t.aRow = true) : ∃ b n c, v = .slice b n c ∧ (b.isNone = true → t.void = true) := by
  induction h with
  | ints0 k => exact ⟨none, 0, 0, rfl, fun _ => rfl⟩
  | rows0 sz => exact ⟨none, 0, 0, rfl, fun _ => rfl⟩
  | ints k xs a C h1 h2 h3 h4 => exact ⟨some a, _, _, rfl, by simp⟩
  | rows sz xs a C vs h1 h2 h3 h4 h5 h6 => exact ⟨some a, _, _, rfl, by simp⟩
  | sh t v hr h ih => obtain ⟨b, n, c, e, hb⟩ := ih (by simpa [T.aRow] using ht); exact ⟨b, n, c, e, by simpa [T.void] using hb⟩
  | _ => simp [T.aRow] at ht

theorem seq_inv {nr : Nat} {x y : C} {st st' : St} {e : Ex} (h : Ev R nr (.seq x y) st e st') : (∃ st1, Ev R nr x st .normal st1 ∧ Ev R nr y st1 e st') ∨ (Ev R nr x st e st' ∧ e ≠ .normal) := by
  cases h with
  | seqN _ _ _ st1 _ _ h1 h2 => exact .inl ⟨st1, h1, h2⟩
  | seqX _ _ _ _ _ h1 h2 => exact .inr ⟨h1, h2⟩
theorem reg_inv {nr : Nat} {gs : List G} {st st' : St} {e : Ex} (h : Ev R nr (.reg gs) st e st') : e = .normal ∧ evReg R gs st = some st' := by
  cases h with
  | reg _ _ _ h => exact ⟨rfl, h⟩

/-- One operation whose value is known. -/
theorem wpOps_val {ops : Array Oper} {Q : Exit → Act → World → Prop} {i : Nat} {l : List Nat} {o : Oper} {a : Act} {v : Value} (ho : ops[i]? = some o) (hg : o.guard = none) (hr : (execOp a.eval o).run P w = .ok (.value v) w) (h : wpOps P ops Q l (a.put o.dst v) w) : wpOps P ops Q (i :: l) a w := by
  rw [wpOps_cons]
  unfold wpOp
  rw [ho]
  have hw : Region.wanted o (yielded ops a.tmps) = true := by simp [Region.wanted, hg]
  simp only [hw, if_true]
  left
  unfold Oper.wp
  rw [hr, Oper.upon_value]
  exact h

theorem getD_put {a : Act} {d k : Nat} {v : Value} : (a.put (some d) v).tmps.getD k undef = if k = d ∧ d < a.tmps.size then v else a.tmps.getD k undef := by
  simp only [Act.put, Array.getD_eq_getD_getElem?, Array.getElem?_setIfInBounds]
  by_cases h : d = k
  · subst h
    by_cases h2 : d < a.tmps.size
    · simp [h2]
    · simp [h2, Array.getElem?_eq_none (Nat.le_of_not_lt h2)]
  · have : ¬ k = d := fun e => h e.symm
    simp [h, this]

/-- The head: 'the first parameter == nil'. -/
theorem nilq_ok {cx : Cx} {N nr : Nat} {i0 i1 d0 d1 d2 : Nat} {z0 : T} {o0 o1 o2 : Oper} {t t' el : TypeId} {kc kB : Code} {cc cB : C} {st st' : St} {e : Ex} {a : Act} {b : Option Addr} {n cap : Nat} (hR : Right P R) (hm : P.follows .mixedOrders = true) (hnr : nr = cx.nr)
    (g0 : OkG P N #[o0] o0 ⟨some d0, none, .mv (.c (.nilS z0))⟩) (g1 : OkG P N #[o1, o2] o1 ⟨some d1, none, .cp (.t 0)⟩) (e0 : o0.op = .assign (.const (.slice none 0 0))) (e1 : o1.op = .move (.tmp 0)) (hd : o2.dst = some d2) (hdN : d2 < N) (hg : o2.guard = none)
    (ho : o2.op = .binOp .eql t (.tmp d1) (.const (.slice none 0 0)) t') (ht : P.underlying t = some (.slice el)) (hne : d0 ≠ 0) (hkc : OkC P N kc cc) (hkB : OkC P N kB cB) (hs : Stands cx N st a w) (h0 : a.tmps.getD 0 undef = .slice b n cap) (hev : Ev R nr (QH.body ⟨d0, d1, d2, z0, cc, cB⟩ b.isNone) st e st') :
    (Code.seq (.region i0 #[o0] false) (.seq (.seq (.region i1 #[o1, o2] false) kc) kB)).wp P (fun x a' w' => x = e.to ∧ Stands cx N st' a' w') a w := by
  obtain ⟨hsim, hfree⟩ := hs
  have gd0 : o0.guard = none := by
    rcases g0.gd with ⟨h, _⟩ | ⟨_, _, _, _, h, _⟩
    · exact h
    · simp at h
  have gd1 : o1.guard = none := by
    rcases g1.gd with ⟨h, _⟩ | ⟨_, _, _, _, h, _⟩
    · exact h
    · simp at h
  have hdst0 : o0.dst = some d0 := g0.d
  have hdst1 : o1.dst = some d1 := g1.d
  -- the run of the short form
  obtain ⟨st1, hA, hev⟩ : ∃ st1, evReg R [⟨some d0, none, .mv (.c (.nilS z0))⟩] st = some st1 ∧ Ev R nr (.seq (.seq (.reg [⟨some d1, none, .cp (.t 0)⟩, ⟨some d2, none, .cp (.c (.vw [] (.bool b.isNone)))⟩]) cc) cB) st1 e st' := by
    rcases seq_inv hev with ⟨st1, h1, h2⟩ | ⟨h1, h2⟩
    · exact ⟨st1, (reg_inv h1).2, h2⟩
    · exact absurd (reg_inv h1).1 h2
  simp only [evReg, Option.map_eq_some_iff, evL, Option.bind_eq_some_iff, stepG] at hA
  obtain ⟨q1, ⟨qa, hqa, hq1⟩, rfl⟩ := hA
  obtain rfl := by simpa using hq1
  have hr0 : (execOp a.eval o0).run P w = .ok (.value (.slice none 0 0)) w := by simp [execOp, e0, show a.eval (.const (.slice none 0 0)) = .slice none 0 0 from rfl]
  have s1 := stepI_ok (Q := fun _ _ _ => False) hR g0.i hsim (fun k h1 _ => hfree k h1) g0.lt (by rw [hdst0]; exact hqa)
  have sim1 : SimE cx N qa.1 qa.2 (a.put (some d0) (.slice none 0 0)) w := by
    have h := s1.1
    unfold Oper.wp at h
    rw [hr0, Oper.upon_value, hdst0] at h
    exact h
  have free1 : ∀ k : Nat, st.nx + 16 ≤ k → qa.2 k = none := fun k hk => s1.2 k (hfree k (by omega)) (.inr hk)
  have hsz : a.tmps.size = N := hsim.size
  have h0' : (a.put (some d0) (.slice none 0 0)).tmps.getD 0 undef = .slice b n cap := by
    rw [getD_put, if_neg (fun h => hne h.1.symm)]; exact h0
  -- the second region
  have key : ∀ (a2 : Act) (st2 : St), a2 = ((a.put (some d0) (.slice none 0 0)).put (some d1) (.slice b n cap)).put (some d2) (.bool b.isNone) → evReg R [⟨some d1, none, .cp (.t 0)⟩, ⟨some d2, none, .cp (.c (.vw [] (.bool b.isNone)))⟩] ⟨qa.1, qa.2, st.nx + 16⟩ = some st2 → Stands cx N st2 a2 w := by
    rintro a2 st2 rfl hB
    simp only [evReg, Option.map_eq_some_iff, evL, Option.bind_eq_some_iff, stepG] at hB
    obtain ⟨q2, ⟨qb, hqb, qc, hqc, hq2⟩, rfl⟩ := hB
    obtain rfl := by simpa using hq2
    have hr1 : (execOp (a.put (some d0) (.slice none 0 0)).eval o1).run P w = .ok (.value (.slice b n cap)) w := by
      simp [execOp, e1, show (a.put (some d0) (.slice none 0 0)).eval (.tmp 0) = .slice b n cap from h0']
    have s2 := stepI_ok (Q := fun _ _ _ => False) hR g1.i sim1 (fun k h1 _ => free1 k h1) g1.lt (by rw [hdst1]; exact hqb)
    have sim2 : SimE cx N qb.1 qb.2 ((a.put (some d0) (.slice none 0 0)).put (some d1) (.slice b n cap)) w := by
      have h := s2.1
      unfold Oper.wp at h
      rw [hr1, Oper.upon_value, hdst1] at h
      exact h
    simp only [stepI, I.isM, Bool.false_eq_true, if_false, den, Option.map_some, Option.some.injEq, X.ev, put] at hqc
    subst hqc
    obtain ⟨⟨S, g, hp, hsl⟩, k1, k2⟩ := sim2
    have := sim_next0 (cx := cx) (N := N) (w := w) (w' := w) (S := S) (S2 := S) (g := g) (g' := g) (h := qb.2) (h' := qb.2) (s := qb.1) (d := some d2) (sv := .vw [] (.bool b.isNone)) (val := .bool b.isNone) hsl (fun k hk => by cases hk; rw [k2]; exact hdN) hp (fun y u hy => hy) (mk_bool _) k1 k2
    refine ⟨this, ?_⟩
    intro k hk
    have hk : st.nx + 16 + 16 * 2 ≤ k := hk
    exact s2.2 k (free1 k (by omega)) (.inr (by omega))
  have run2 : ∀ (Q : Exit → Act → World → Prop), Q .normal (((a.put (some d0) (.slice none 0 0)).put (some d1) (.slice b n cap)).put (some d2) (.bool b.isNone)) w → (Code.region i1 #[o1, o2] false).wp P Q (a.put (some d0) (.slice none 0 0)) w := by
    intro Q hQ
    refine wp_region ?_
    show wpOps P #[o1, o2] _ (List.range 2) _ w
    rw [show List.range 2 = [0, 1] from rfl]
    refine wpOps_val (o := o1) (v := .slice b n cap) rfl gd1 (by simp [execOp, e1, show (a.put (some d0) (.slice none 0 0)).eval (.tmp 0) = .slice b n cap from h0']) ?_
    rw [hdst1]
    have hd1N : d1 < N := g1.lt d1 hdst1
    have hget : ((a.put (some d0) (.slice none 0 0)).put (some d1) (.slice b n cap)).eval (.tmp d1) = .slice b n cap := by
      show Array.getD _ d1 undef = _
      rw [getD_put, if_pos ⟨rfl, by rw [size_put, hsz]; exact hd1N⟩]
    refine wpOps_val (o := o2) (v := .bool b.isNone) rfl hg ?_ ?_
    · simp [execOp, ho, hget, show ((a.put (some d0) (.slice none 0 0)).put (some d1) (.slice b n cap)).eval (.const (.slice none 0 0)) = .slice none 0 0 from rfl, eqGuard_plain (P := P) (u := .slice b n cap) rfl (by simp) w, Lib.run_eql_slice_nil w t el b n cap 0 0 ht]
    · rw [hd]
      exact hQ
  refine wp_seq (wp_region ?_)
  show wpOps P #[o0] _ (List.range 1) a w
  rw [show List.range 1 = [0] from rfl]
  refine wpOps_val (o := o0) rfl gd0 hr0 ?_
  rw [hdst0]
  show Code.wp P (.seq (.seq (.region i1 #[o1, o2] false) kc) kB) _ (a.put (some d0) (.slice none 0 0)) w
  rcases seq_inv hev with ⟨st3, h1, h2⟩ | ⟨h1, h2⟩
  · rcases seq_inv h1 with ⟨st2, k1, k2⟩ | ⟨k1, k2⟩
    · refine wp_seq (wp_seq (run2 _ ?_))
      show Code.wp P kc _ _ w
      refine wp_mono ((code_ok (cx := cx) hR hm hnr k2).1 kc hkc _ w (key _ _ rfl (reg_inv k1).2)) ?_
      rintro x a' w' ⟨rfl, hs'⟩
      exact (code_ok (cx := cx) hR hm hnr h2).1 kB hkB _ w' hs'
    · exact absurd (reg_inv k1).1 k2
  · rcases seq_inv h1 with ⟨st2, k1, k2⟩ | ⟨k1, k2⟩
    · refine wp_seq (wp_seq (run2 _ ?_))
      show Code.wp P kc _ _ w
      refine wp_mono ((code_ok (cx := cx) hR hm hnr k2).1 kc hkc _ w (key _ _ rfl (reg_inv k1).2)) ?_
      rintro x a' w' ⟨rfl, hs'⟩
      cases e with
      | normal => exact absurd rfl h2
      | exit id => exact ⟨rfl, hs'⟩
      | ret => exact ⟨rfl, hs'⟩
    · exact absurd (reg_inv k1).1 k2

theorem fn_ok (hR : Right P R) (hm : P.follows .mixedOrders = true) {f : FuncId} {F : Fn} (hF : OkFn P f F) {ts sto : List T} {r : T × List T} (hrun : RunF R F ts sto r) (w : World) (vs : Array Value) (Rd : Nat → Prop) (rvs : List Value) (Fs : Nat → Nat → Prop)
    (ha : All2 (Ag w Rd rvs) ts vs.toList) (hsto : Sto w Rd sto rvs Fs) (hd : ∀ k b, Fs k b → ¬ Rd b) (hl : ∀ b, Rd b → b < w.heap.size) :
    ∃ fn, P.funcs[f]? = some fn ∧ fn.body.isSome = true ∧ (fn.name == "runtime.NumGoroutine") = false ∧ Calls P f vs w fun e w' => ∃ v, e = .returned v ∧ Post w w' Rd Fs rvs r v := by
  obtain ⟨fn, code, h1, h2, h3, h4, h5, h6⟩ := hF.ex
  refine ⟨fn, h1, by simp [h2], h3, ?_⟩
  obtain ⟨hne, hall⟩ := hrun
  obtain ⟨a1, a2⟩ := forall2_get ha
  simp only [Array.length_toList] at a1
  have stands : ∀ xs : List SV, innL ts = some xs → ts.length = F.np → Stands (cx0 w Rd rvs Fs sto.length) fn.ntmps ⟨entry 0 xs, fun n => sto[n]?, sto.length⟩ { tmps := vs ++ Array.replicate (fn.ntmps - vs.size) undef, defers := [] } w := by
    intro xs hxs hnp
    obtain ⟨i1, i2⟩ := innL_get ts xs hxs
    refine ⟨⟨⟨Rd, g0 rvs Fs, hp0 hsto hd hl, ?_⟩, rfl, ?_⟩, ?_⟩
    · intro k
      simp only [entry_get, Nat.zero_le, if_true, Nat.sub_zero]
      cases hk : xs[k]? with
      | some x =>
        obtain ⟨t, ht, hin⟩ := i2 k x hk
        obtain ⟨u, hu, hag⟩ := a2 k t ht
        have hkv : k < vs.size := by have := get_lt ht; omega
        have : (vs ++ Array.replicate (fn.ntmps - vs.size) undef).getD k undef = u := by
          simp only [Array.getElem?_toList] at hu
          simp [Array.getD_eq_getD_getElem?, Array.getElem?_append, hkv] at hu ⊢
          exact hu
        simp only [Option.getD_some]
        rw [this]
        exact inn_ok hsto hag x hin
      | none =>
        have hkv : ¬ k < vs.size := by
          have := List.getElem?_eq_none_iff.1 hk
          omega
        have : (vs ++ Array.replicate (fn.ntmps - vs.size) undef).getD k undef = undef := by
          simp only [Array.getD_eq_getD_getElem?, Array.getElem?_append, hkv, if_false, Array.getElem?_replicate]
          split <;> rfl
        simp only [Option.getD_none]
        rw [this]
        exact .undef
    · simp; omega
    · intro n hn
      exact List.getElem?_eq_none hn
  refine calls_of_wp h1 h2 ?_
  suffices hex : ∃ (e : Ex) (st' : St), e.ends ∧ outs sto.length F st' = some r ∧ code.wp P (fun x a' w' => x = e.to ∧ Stands (cx0 w Rd rvs Fs sto.length) fn.ntmps st' a' w') { tmps := vs ++ Array.replicate (fn.ntmps - vs.size) undef, defers := [] } w by
    obtain ⟨e, st', hend, hout, hwp⟩ := hex
    refine wp_mono hwp ?_
    rintro x a' w' ⟨rfl, hs⟩
    obtain ⟨v, hv, hpost⟩ := end_ok hsto.len hs.sim h6 hout
    cases e with
    | normal => exact ⟨hs.sim.defers, v, hv, v, rfl, hpost⟩
    | ret => exact ⟨hs.sim.defers, v, hv, v, rfl, hpost⟩
    | exit id => exact hend.elim
  have begin_ : ∀ st, start F ts sto = some st → st.h = (fun n => sto[n]?) ∧ st.nx = sto.length ∧ Stands (cx0 w Rd rvs Fs sto.length) fn.ntmps st { tmps := vs ++ Array.replicate (fn.ntmps - vs.size) undef, defers := [] } w := by
    intro st hst
    unfold start at hst
    split at hst
    case isFalse => simp at hst
    rename_i hc
    simp only [Option.map_eq_some_iff] at hst
    obtain ⟨xs, hxs, rfl⟩ := hst
    exact ⟨rfl, rfl, stands xs hxs hc.1⟩
  unfold guess at hne hall
  generalize hq : F.q = q at h5 hne hall
  generalize hB : F.body = B at h5 hne hall
  cases h5 with
  | plain hc =>
    obtain ⟨st, e, st', hst, hev, hend, hout⟩ := hall B (by simp)
    obtain ⟨_, _, hs⟩ := begin_ st hst
    exact ⟨e, st', hend, hout, (code_ok (cx := cx0 w Rd rvs Fs sto.length) hR hm rfl hev).1 _ hc _ w hs⟩
  | @nilq i0 i1 d0 d1 d2 z0 o0 o1 o2 t t' el kc kB cc cB _ g0 g1 e0 e1 hd hdN hg ho ht hne0 hnp hkc hkB =>
    cases ts with
    | nil => simp at hne
    | cons t0 ts' =>
    obtain ⟨v0, hv0, hag⟩ := a2 0 t0 rfl
    have hrow : t0.aRow = true := by
      by_cases hr : t0.aRow = true
      · exact hr
      · simp [hr] at hne
    have hvw : Vw w Rd t0 v0 := by
      cases hag with
      | vw _ _ _ hv => exact hv
      | ref => simp [T.aRow] at hrow
      | vp => simp [T.aRow] at hrow
      | agg => simp [T.aRow] at hrow
      | fn => simp [T.aRow] at hrow
    obtain ⟨b, n, cap, rfl, hb⟩ := vw_nil hvw hrow
    simp only [hrow, if_true] at hall
    have hvs : 0 < vs.size := by rw [← a1]; simp
    have h0 : (vs ++ Array.replicate (fn.ntmps - vs.size) undef).getD 0 undef = .slice b n cap := by
      simp only [Array.getElem?_toList] at hv0
      simp [Array.getD_eq_getD_getElem?, Array.getElem?_append, hvs] at hv0 ⊢
      exact hv0
    obtain ⟨st, e, st', hst, hev, hend, hout⟩ := hall (QH.body ⟨d0, d1, d2, z0, cc, cB⟩ b.isNone) (by
      cases hbn : b.isNone with
      | true => rw [if_pos (hb hbn)]; simp
      | false => split <;> simp)
    obtain ⟨_, _, hs⟩ := begin_ st hst
    exact ⟨e, st', hend, hout, nilq_ok (cx := cx0 w Rd rvs Fs sto.length) hR hm rfl g0 g1 e0 e1 hd hdN hg ho ht hne0 hkc hkB hs h0 hev⟩
end
end Go.Proofs.Ytdblfocadcgmaaa.Ev
namespace Go.Proofs.Ytdblfocadcgmaaa.Ev
open Go
set_option linter.unusedSimpArgs false
set_option linter.unusedVariables false

abbrev Tell := FuncId × List T × List T × (T × List T)
def tells (R : Run) (x : Tell) : Prop := R x.1 x.2.1 x.2.2.1 = some x.2.2.2

/-- It leans on finitely many calls. -/
def Few (R : Run) (p : Run → Prop) : Prop := ∃ l : List Tell, (∀ x, x ∈ l → tells R x) ∧ ∀ R', (∀ x, x ∈ l → tells R' x) → p R'

theorem Few.none {R : Run} {p : Run → Prop} (h : ∀ R', p R') : Few R p := ⟨[], by simp, fun R' _ => h R'⟩
theorem Few.map {R : Run} {p q : Run → Prop} (h : Few R p) (f : ∀ R', p R' → q R') : Few R q := by
  obtain ⟨l, h1, h2⟩ := h
  exact ⟨l, h1, fun R' h => f R' (h2 R' h)⟩
theorem Few.both {R : Run} {p q r : Run → Prop} (h : Few R p) (k : Few R q) (f : ∀ R', p R' → q R' → r R') : Few R r := by
  obtain ⟨l, h1, h2⟩ := h
  obtain ⟨m, k1, k2⟩ := k
  refine ⟨l ++ m, ?_, fun R' h => f R' (h2 R' fun x hx => h x (by simp [hx])) (k2 R' fun x hx => h x (by simp [hx]))⟩
  intro x hx
  rcases List.mem_append.1 hx with hx | hx
  · exact h1 x hx
  · exact k1 x hx

theorem callSV_few0 {R : Run} {m : Bool} {f : FuncId} {vs : List SV} {h : Hp} {nm : Name} {q : SV × Kill × Hp} (hq : callSV0 R m f vs h nm = some q) : Few R (fun R' => callSV0 R' m f vs h nm = some q) := by
  unfold callSV0 at hq
  split at hq
  · simp at hq
  rename_i c1
  split at hq
  · simp at hq
  rename_i c2
  simp only [Option.bind_eq_some_iff] at hq
  obtain ⟨ts, hts, sto, hsto, hq⟩ := hq
  split at hq
  · simp at hq
  rename_i c3
  simp only [Option.bind_eq_some_iff] at hq
  obtain ⟨r, hr, hq⟩ := hq
  refine ⟨[(f, ts, sto, r)], by simpa [tells] using hr, ?_⟩
  intro R' h'
  have h' : R' f ts sto = some r := h' (f, ts, sto, r) (by simp)
  unfold callSV0
  rw [if_neg c1, if_neg c2]
  simp only [Option.bind_eq_some_iff]
  refine ⟨ts, hts, sto, hsto, ?_⟩
  rw [if_neg c3, h']
  exact hq

theorem callSV_few {R : Run} {m : Bool} {f : FuncId} {vs : List SV} {h : Hp} {nm : Name} {q : SV × Kill × Hp} (hq : callSV R m f vs h nm = some q) : Few R (fun R' => callSV R' m f vs h nm = some q) := callSV_few0 hq

theorem stepI_few {R : Run} {i : I} {s : Env} {h : Hp} {nm : Name} {d : Option Nat} {q : Env × Hp} (hq : stepI R i s h nm d = some q) : Few R (fun R' => stepI R' i s h nm d = some q) := by
  cases i with
  | call m f xs =>
    cases m with
    | false =>
      simp only [stepI, Option.map_eq_some_iff] at hq
      obtain ⟨a, ha, rfl⟩ := hq
      exact (callSV_few ha).map fun R' h' => by simp [stepI, h']
    | true =>
      simp only [stepI, Option.map_eq_some_iff] at hq
      obtain ⟨a, ha, rfl⟩ := hq
      exact (callSV_few ha).map fun R' h' => by simp [stepI, h']
  | callv x xs =>
    simp only [stepI] at hq
    split at hq
    · rename_i f cs e
      simp only [Option.map_eq_some_iff] at hq
      obtain ⟨a, ha, rfl⟩ := hq
      exact (callSV_few ha).map fun R' h' => by simp [stepI, e, h']
    · simp at hq
  | _ => exact .none fun R' => hq

theorem stepG_few {R : Run} {gg : G} {s : Env} {h : Hp} {nm : Name} {q : Env × Hp} (hq : stepG R gg s h nm = some q) : Few R (fun R' => stepG R' gg s h nm = some q) := by
  unfold stepG at hq
  split at hq
  · rename_i e
    exact (stepI_few hq).map fun R' h' => by unfold stepG; split <;> simp_all
  · rename_i j want e
    split at hq
    · rename_i b eb
      split at hq
      · rename_i hb
        exact (stepI_few hq).map fun R' h' => by simp [stepG, e, eb, hb, h']
      · rename_i hb
        exact .none fun R' => by simp [stepG, e, eb, hb]; simpa using hq
    · rename_i eb
      exact .none fun R' => by simp [stepG, e, eb]; simpa using hq
    · simp at hq

theorem evL_few {R : Run} : ∀ (gs : List G) (nm : Name) (s : Env) (h : Hp) (q : Env × Hp), evL R nm gs s h = some q → Few R (fun R' => evL R' nm gs s h = some q) := by
  intro gs
  induction gs with
  | nil => intro nm s h q hq; exact .none fun _ => hq
  | cons g gs ih =>
    intro nm s h q hq
    simp only [evL, Option.bind_eq_some_iff] at hq
    obtain ⟨a, ha, hq⟩ := hq
    exact (stepG_few ha).both (ih _ _ _ _ hq) fun R' h1 h2 => by simp [evL, h1, h2]

theorem runL_few {R : Run} {gs : List G} {base : Nat} : ∀ (l : List Nat) (st q : Env × Hp), runL R gs base l st = some q → Few R (fun R' => runL R' gs base l st = some q) := by
  intro l
  induction l with
  | nil => intro st q hq; exact .none fun _ => hq
  | cons i l ih =>
    intro st q hq
    simp only [runL, Option.bind_eq_some_iff] at hq
    obtain ⟨a, ha, hq⟩ := hq
    simp only [stepAt, Option.bind_eq_some_iff] at ha
    obtain ⟨g, hg, ha⟩ := ha
    exact (stepG_few ha).both (ih _ _ hq) fun R' h1 h2 => by simp [runL, stepAt, hg, h1, h2]

theorem runA_few {R : Run} {nr : Nat} {ks : List Nat} {gs : List G} {st st' : St} : ∀ (ords : List (List Nat)), (∀ l, l ∈ ords → ∃ q, runL R gs st.nx l (st.s, st.h) = some q ∧ gc nr ks ⟨q.1, q.2, st.nx + 16 * gs.length⟩ = st') →
    Few R (fun R' => ∀ l, l ∈ ords → ∃ q, runL R' gs st.nx l (st.s, st.h) = some q ∧ gc nr ks ⟨q.1, q.2, st.nx + 16 * gs.length⟩ = st') := by
  intro ords
  induction ords with
  | nil => intro _; exact .none fun _ => by simp
  | cons l ords ih =>
    intro h
    obtain ⟨q, hq, he⟩ := h l (by simp)
    refine (runL_few _ _ _ hq).both (ih fun l' hl' => h l' (by simp [hl'])) fun R' h1 h2 => ?_
    intro l' hl'
    rcases List.mem_cons.1 hl' with rfl | hl'
    · exact ⟨q, h1, he⟩
    · exact h2 l' hl'

theorem ev_few {R : Run} {nr : Nat} {c : C} {st st' : St} {e : Ex} (h : Ev R nr c st e st') : Few R (fun R' => Ev R' nr c st e st') := by
  induction h with
  | skip st => exact .none fun _ => .skip st
  | reg gs st st' hr =>
    simp only [evReg, Option.map_eq_some_iff] at hr
    obtain ⟨q, hq, rfl⟩ := hr
    exact (evL_few _ _ _ _ _ hq).map fun R' h' => .reg gs st _ (by simp [evReg, h'])
  | regA ks gs ords st st' hne hr => exact (runA_few _ hr).map fun R' h' => .regA ks gs ords st st' hne h'
  | pre ks a st e st' _ ih => exact ih.map fun R' h => .pre ks a st e st' h
  | seqN a b st st' e st'' _ _ ih1 ih2 => exact ih1.both ih2 fun R' h1 h2 => .seqN a b st st' e st'' h1 h2
  | seqX a b st e st' _ hne ih => exact ih.map fun R' h => .seqX a b st e st' h hne
  | condT x a b st e st' hx _ ih => exact ih.map fun R' h => .condT x a b st e st' hx h
  | condF x a b st e st' hx _ ih => exact ih.map fun R' h => .condF x a b st e st' hx h
  | block id a st e st' _ ih => exact ih.map fun R' h => .block id a st e st' h
  | loopN a st st' e st'' _ _ ih1 ih2 => exact ih1.both ih2 fun R' h1 h2 => .loopN a st st' e st'' h1 h2
  | loopX a st e st' _ hne ih => exact ih.map fun R' h => .loopX a st e st' h hne
  | exit id st => exact .none fun _ => .exit id st
  | ret st => exact .none fun _ => .ret st
  | gcN ks a st st' _ ih => exact ih.map fun R' h => .gcN ks a st st' h
  | gcX ks a st e st' _ hne ih => exact ih.map fun R' h => .gcX ks a st e st' h hne

theorem ev_det {R : Run} {nr : Nat} {c : C} {st st1 : St} {e1 : Ex} (h : Ev R nr c st e1 st1) : ∀ {e2 : Ex} {st2 : St}, Ev R nr c st e2 st2 → e1 = e2 ∧ st1 = st2 := by
  induction h with
  | skip st => intro e2 st2 k; cases k; exact ⟨rfl, rfl⟩
  | reg gs st st' hr =>
    intro e2 st2 k
    cases k with | reg _ _ _ hr2 =>
    rw [hr] at hr2
    exact ⟨rfl, by simpa using hr2⟩
  | regA ks gs ords st st' hne hr =>
    intro e2 st2 k
    cases k with | regA _ _ _ _ _ _ hr2 =>
    obtain ⟨l, hl⟩ := List.exists_mem_of_ne_nil _ hne
    obtain ⟨q, h1, rfl⟩ := hr l hl
    obtain ⟨q2, h2, rfl⟩ := hr2 l hl
    rw [h1] at h2
    obtain rfl := by simpa using h2
    exact ⟨rfl, rfl⟩
  | pre ks a st e st' _ ih =>
    intro e2 st2 k
    cases k with | pre _ _ _ _ _ k1 => exact ih k1
  | seqN a b st st' e st'' _ _ ih1 ih2 =>
    intro e2 st2 k
    cases k with
    | seqN _ _ _ _ _ _ k1 k2 => obtain ⟨_, rfl⟩ := ih1 k1; exact ih2 k2
    | seqX _ _ _ _ _ k1 hne => exact absurd (ih1 k1).1.symm hne
  | seqX a b st e st' _ hne ih =>
    intro e2 st2 k
    cases k with
    | seqN _ _ _ _ _ _ k1 k2 => exact absurd (ih k1).1 hne
    | seqX _ _ _ _ _ k1 hne => exact ih k1
  | condT x a b st e st' hx _ ih =>
    intro e2 st2 k
    cases k with
    | condT _ _ _ _ _ _ _ k1 => exact ih k1
    | condF _ _ _ _ _ _ hx2 k1 => rw [hx] at hx2; simp at hx2
  | condF x a b st e st' hx _ ih =>
    intro e2 st2 k
    cases k with
    | condT _ _ _ _ _ _ hx2 k1 => rw [hx] at hx2; simp at hx2
    | condF _ _ _ _ _ _ _ k1 => exact ih k1
  | block id a st e st' _ ih =>
    intro e2 st2 k
    cases k with | block _ _ _ e' _ k1 =>
    obtain ⟨rfl, rfl⟩ := ih k1
    exact ⟨rfl, rfl⟩
  | loopN a st st' e st'' _ _ ih1 ih2 =>
    intro e2 st2 k
    cases k with
    | loopN _ _ _ _ _ k1 k2 => obtain ⟨_, rfl⟩ := ih1 k1; exact ih2 k2
    | loopX _ _ _ _ k1 hne => exact absurd (ih1 k1).1.symm hne
  | loopX a st e st' _ hne ih =>
    intro e2 st2 k
    cases k with
    | loopN _ _ _ _ _ k1 k2 => exact absurd (ih k1).1 hne
    | loopX _ _ _ _ k1 hne => exact ih k1
  | exit id st => intro e2 st2 k; cases k; exact ⟨rfl, rfl⟩
  | ret st => intro e2 st2 k; cases k; exact ⟨rfl, rfl⟩
  | gcN ks a st st' _ ih =>
    intro e2 st2 k
    cases k with
    | gcN _ _ _ _ k1 => obtain ⟨_, rfl⟩ := ih k1; exact ⟨rfl, rfl⟩
    | gcX _ _ _ _ _ k1 hne => exact absurd (ih k1).1.symm hne
  | gcX ks a st e st' _ hne ih =>
    intro e2 st2 k
    cases k with
    | gcN _ _ _ _ k1 => exact absurd (ih k1).1 hne
    | gcX _ _ _ _ _ k1 hne => exact ih k1

theorem runF_few {R : Run} {F : Fn} {ts sto : List T} {r : T × List T} (h : RunF R F ts sto r) : Few R (fun R' => RunF R' F ts sto r) := by
  obtain ⟨h1, h2⟩ := h
  have key : ∀ gs : List C, (∀ g, g ∈ gs → RunG R F ts sto r g) → Few R (fun R' => ∀ g, g ∈ gs → RunG R' F ts sto r g) := by
    intro gs
    induction gs with
    | nil => intro _; exact .none fun _ => by simp
    | cons g gs ih =>
      intro hg
      obtain ⟨st, e, st', k1, k2, k3, k4⟩ := hg g (by simp)
      refine (ev_few k2).both (ih fun g' hg' => hg g' (by simp [hg'])) fun R' z1 z2 => ?_
      intro g' hg'
      rcases List.mem_cons.1 hg' with rfl | hg'
      · exact ⟨st, e, st', k1, z1, k3, k4⟩
      · exact z2 g' hg'
  exact (key _ h2).map fun R' h => ⟨h1, h⟩

theorem runF_det {R : Run} {F : Fn} {ts sto : List T} {r r' : T × List T} (h : RunF R F ts sto r) (k : RunF R F ts sto r') : r = r' := by
  obtain ⟨g, hg⟩ := List.exists_mem_of_ne_nil _ h.1
  obtain ⟨st, e, st', h1, h2, h3, h4⟩ := h.2 g hg
  obtain ⟨st1, e1, st1', k1, k2, k3, k4⟩ := k.2 g hg
  rw [h1] at k1
  obtain rfl := by simpa using k1
  obtain ⟨rfl, rfl⟩ := ev_det h2 k2
  rw [h4] at k4
  simpa using k4

section
variable {P : Program} {fns : FuncId → Option Fn} {giv : Run}

theorem runN_giv {n : Nat} {f : FuncId} {ts sto : List T} {r : T × List T} (h : giv f ts sto = some r) : runN fns giv n f ts sto = some r := by
  cases n with
  | zero => exact h
  | succ n => simp [runN, h]

theorem runN_fn {n : Nat} {f : FuncId} {F : Fn} {ts sto : List T} {r : T × List T} (hg : giv f ts sto = none) (hf : fns f = some F) (h : RunF (runN fns giv n) F ts sto r) : runN fns giv (n + 1) f ts sto = some r := by
  have hex : ∃ r, RunF (runN fns giv n) F ts sto r := ⟨r, h⟩
  simp only [runN, hg, hf]
  rw [dif_pos hex, runF_det hex.choose_spec h]

theorem runN_inv {n : Nat} {f : FuncId} {ts sto : List T} {r : T × List T} (h : runN fns giv (n + 1) f ts sto = some r) : giv f ts sto = some r ∨ giv f ts sto = none ∧ ∃ F, fns f = some F ∧ RunF (runN fns giv n) F ts sto r := by
  simp only [runN] at h
  split at h
  · rename_i r' hg
    obtain rfl := by simpa using h
    exact .inl hg
  · rename_i hg
    split at h
    · simp at h
    · rename_i F hF
      split at h
      · rename_i hex
        obtain rfl := by simpa using h
        exact .inr ⟨hg, F, hF, hex.choose_spec⟩
      · simp at h

theorem runN_step : ∀ (n : Nat) (f : FuncId) (ts sto : List T) (r : T × List T), runN fns giv n f ts sto = some r → runN fns giv (n + 1) f ts sto = some r := by
  intro n
  induction n with
  | zero => intro f ts sto r h; exact runN_giv h
  | succ n ih =>
    intro f ts sto r h
    rcases runN_inv h with h | ⟨hg, F, hF, h⟩
    · exact runN_giv h
    · obtain ⟨l, h1, h2⟩ := runF_few h
      exact runN_fn hg hF (h2 _ fun x hx => ih _ _ _ _ (h1 x hx))

theorem runN_le {n m : Nat} (hnm : n ≤ m) {f : FuncId} {ts sto : List T} {r : T × List T} (h : runN fns giv n f ts sto = some r) : runN fns giv m f ts sto = some r := by
  induction hnm with
  | refl => exact h
  | step _ ih => exact runN_step _ _ _ _ _ ih

theorem run_iff {f : FuncId} {ts sto : List T} {r : T × List T} : run fns giv f ts sto = some r ↔ ∃ n, runN fns giv n f ts sto = some r := by
  unfold run
  constructor
  · intro h
    split at h
    · rename_i hex
      obtain rfl := by simpa using h
      exact hex.choose_spec
    · simp at h
  · rintro ⟨n, h⟩
    have hex : ∃ r n, runN fns giv n f ts sto = some r := ⟨r, n, h⟩
    rw [dif_pos hex]
    obtain ⟨m, hm⟩ := hex.choose_spec
    have h1 := runN_le (Nat.le_max_left n m) h
    have h2 := runN_le (Nat.le_max_right n m) hm
    rw [h1] at h2
    exact h2.symm

theorem run_many (l : List Tell) (h : ∀ x, x ∈ l → tells (run fns giv) x) : ∃ n, ∀ x, x ∈ l → tells (runN fns giv n) x := by
  induction l with
  | nil => exact ⟨0, by simp⟩
  | cons y l ih =>
    obtain ⟨n, hn⟩ := ih fun x hx => h x (by simp [hx])
    obtain ⟨m, hm⟩ := run_iff.1 (h y (by simp))
    refine ⟨max n m, fun x hx => ?_⟩
    rcases List.mem_cons.1 hx with rfl | hx
    · exact runN_le (Nat.le_max_right n m) hm
    · exact runN_le (Nat.le_max_left n m) (hn x hx)

/-- What a function of its own comes to. -/
theorem run_fn {f : FuncId} {F : Fn} {ts sto : List T} {r : T × List T} (hg : giv f ts sto = none) (hf : fns f = some F) (h : RunF (run fns giv) F ts sto r) : run fns giv f ts sto = some r := by
  obtain ⟨l, h1, h2⟩ := runF_few h
  obtain ⟨n, hn⟩ := run_many l h1
  exact run_iff.2 ⟨n + 1, runN_fn hg hf (h2 _ hn)⟩

theorem run_giv {f : FuncId} {ts sto : List T} {r : T × List T} (h : giv f ts sto = some r) : run fns giv f ts sto = some r := run_iff.2 ⟨0, h⟩

theorem runN_right (hm : P.follows .mixedOrders = true) (hg : Right P giv) (hf : ∀ f F, fns f = some F → OkFn P f F) : ∀ n, Right P (runN fns giv n) := by
  intro n
  induction n with
  | zero => exact hg
  | succ n ih =>
    intro f ts sto r h
    rcases runN_inv h with h | ⟨_, F, hF, h⟩
    · exact hg f ts sto r h
    · exact fn_ok ih hm (hf f F hF) h

/-- All that the run tells is what the program returns. -/
theorem run_right (hm : P.follows .mixedOrders = true) (hg : Right P giv) (hf : ∀ f F, fns f = some F → OkFn P f F) : Right P (run fns giv) := by
  intro f ts sto r h
  obtain ⟨n, h⟩ := run_iff.1 h
  exact runN_right hm hg hf n f ts sto r h
end
end Go.Proofs.Ytdblfocadcgmaaa.Ev
