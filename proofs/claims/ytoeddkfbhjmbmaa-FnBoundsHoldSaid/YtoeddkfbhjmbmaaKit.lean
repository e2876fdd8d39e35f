/- What every row of a law shares: a law that returns true and turns nothing that was there holds as its row says; no condition. -/
import Derived.Test.YtoeddkfbhjmbmaaRows
import Derived.WalkKit
import Derived.ProofKit
import Derived.OpenShut
import Derived.ShutString
import Derived.ChangeOld
import Derived.Below
import Derived.SizedLaws
import Derived.Lib.SmallJoins
import Derived.Deep.Slices
import Derived.Test.YtoeddkfbhjmbmaaZMore
namespace Go.Proofs.Ytoeddkfbhjmbmaa.Kit
open Go.ChangeShapes Go.WideShapes Go.ChangeAt Go.RowKit Go.Joins Go.Deep

theorem own : ownKnob Try.prog.godebug = none := by kernel_rfl
theorem laidOut : laidOutB Try.prog = true := by kernel_rfl

def Readable (P : Program) (ts : List TypeId) : Prop := ∀ t ∈ ts, P.readableRec t = true ∧ t < P.types.size

theorem trodAll_below {H : Type} {enc : TypeId × Value → H} {P : Program} (hl : laidOutB P = true) {W W' : World} (hb : Below W.heap.size W W') :
    ∀ (ts : List TypeId) (vs : List Value) (ds : List (DataW H)) (ps : List MemPlace), Readable P ts →
      DataW.TrodAll enc P W 0 (fun _ => true) true ts vs ds ps → DataW.TrodAll enc P W' 0 (fun b => decide (b < W.heap.size)) true ts vs ds ps
  | [], vs, ds, ps, _, h => by
    obtain ⟨rfl, rfl, rfl⟩ := trodAll_nil h
    exact trodAll_mk0
  | t :: ts, vs, ds, ps, hr, h => by
    obtain ⟨v, vs', d, ds', p, q, rfl, rfl, rfl, h0, h1⟩ := trodAll_cons h
    have ht := hr t (by simp)
    refine trodAll_cons_mk (Below.trod hl ht.1 ht.2 h0 hb ?_) (trodAll_below hl hb ts vs' ds' q (fun x hx => hr x (by simp [hx])) h1)
    obtain ⟨m, hm⟩ := h0
    exact DataW.trod_lt m _ _ _ hm

theorem trodAll_length {H : Type} {enc : TypeId × Value → H} {P : Program} {W : World} : ∀ (ts : List TypeId) (vs : List Value) (ds : List (DataW H)) (ps : List MemPlace),
      DataW.TrodAll enc P W 0 (fun _ => true) true ts vs ds ps → ds.length = ts.length
  | [], vs, ds, ps, h => by
    obtain ⟨rfl, rfl, rfl⟩ := trodAll_nil h
    rfl
  | t :: ts, vs, ds, ps, h => by
    obtain ⟨v, vs', d, ds', p, q, rfl, rfl, rfl, h0, h1⟩ := trodAll_cons h
    simp [trodAll_length ts vs' ds' q h1]

/-- A law: it returns true and turns nothing that was there. -/
theorem law_lifted {H : Type} {enc : TypeId × Value → H} {C : Checked} {os : Os} {f : FuncId} {fn : Func} {s : ChangeSpec} {rt : TypeId} (hl : laidOutB C.prog = true)
    (own : ownKnob C.prog.godebug = none) (started : os.Started) (noInit : C.prog.inits.idxOf? f = none) (hfn : C.prog.funcs[f]? = some fn)
    (hvars : s.vars = []) (hspec : ∀ ds : List (DataW H), ds.length = fn.params.toList.length → (s.fn H ds).results = [.lit (.bool true)] ∧ (s.fn H ds).args = ds ∧ (s.fn H ds).vars = [])
    (hres : fn.resultTypes = #[rt]) (hbool : C.prog.underlying rt = some .bool) (hread : Readable C.prog fn.params.toList)
    (witness : ∃ (w : World) (tape : Tape) (i : Input), w.os = os ∧ (w.forCall tape i).Shaped C.prog ∧ i.vars = [] ∧ Input.okWide C.prog (w.forCall tape i) .any w.heap.size f i ∧
      s.pre6 enc C.prog fn [] false (w.forCall tape i).memory i.args ∧ ({} : Assume).holds C.prog (lone (Frame.enter C.prog f i.args .normal) [] (w.forCall tape i)))
    (calls : ∀ (W : World) (base : Nat) (args : Array Value) (ds : List (DataW H)) (p : List MemPlace),
      (∀ (j : Nat) t v, fn.params[j]? = some t → args[j]? = some v → Value.okWide C.prog W .any base t v) →
      DataW.TrodAll enc C.prog W 0 (fun _ => true) true fn.params.toList args.toList ds p →
      (DataW.weightsEach C.prog fn.params.toList ds).all (· ≤ reachBytes) = true →
      Calls C.prog f args W fun e W' => e = .returned (.bool true) ∧ Below W.heap.size W W') :
    ReturnsInHanded {} C os f .any (s.pre6 enc C.prog fn [] false) (s.post enc C.prog fn false true false false) := by
  refine returnsInHanded_of_change_sized own started noInit hfn witness ?_
  intro W base args ds gs before hval hW hcnd hsz _
  have hW' := hW
  obtain ⟨p, q, hA, hV, hb, hfz, hnd⟩ := hW
  have hV' := hV
  rw [hvars] at hV'
  obtain ⟨rfl, rfl⟩ := trodVars_none hV'
  have hpv : s.plain.varTypes C.prog = [] := by simp [ChangeSpec.plain, DataSpec.varTypes, hvars]
  rw [hpv, List.append_nil, List.append_nil] at hsz
  have hlen := trodAll_length _ _ _ _ hA
  obtain ⟨e1, e2, e3⟩ := hspec ds hlen
  refine (calls W base args ds p hval hA hsz).mono fun e W' ⟨he, bel⟩ => ?_
  subst he
  refine ⟨_, rfl, ds, [], before, [], p, [], hW', ?_, ?_, ?_, bel.frame _, fun h => by cases h⟩
  · rw [List.append_nil, e1, hres]
    exact trodAll_mk1 (shut_bool hbool _)
  · rw [List.append_nil, e2]
    exact trodAll_below hl bel _ _ _ _ hread hA
  · rw [List.append_nil, e3, hvars]
    rfl

/-! what a struct by value holds -/
theorem int_cell {H : Type} {enc : TypeId × Value → H} {P : Program} {W : World} {n : Nat} {t : TypeId} {v : Value} {y : DataW H × List MemPlace} (ht : P.underlying t = some (.int .i64))
    (h : DataW.trod enc P W 0 (fun _ => true) true n t [v] = some y) : ∃ a : Int, v = .int .i64 a ∧ (Lit.int .i64 a).wf = true := by
  obtain ⟨a, e, rfl, wa⟩ := DataW.trod_int ht h
  simp at e
  exact ⟨a, e, wa⟩
theorem open_i {H : Type} {enc : TypeId × Value → H} {P : Program} {W : World} {base : Nat} {t : TypeId} {v : Value} {d : DataW H} {p : List MemPlace}
    (ht : P.underlying t = some (.int .i64)) (hv : Value.okWide P W .any base t v) (h : DataW.Trod enc P W 0 (fun _ => true) true t v d p) : ∃ a : Int, v = .int .i64 a ∧ (Lit.int .i64 a).wf = true := by
  obtain ⟨a, rfl, _, _, w⟩ := open_int ht hv h
  exact ⟨a, rfl, w⟩
theorem open_b {H : Type} {enc : TypeId × Value → H} {P : Program} {W : World} {base : Nat} {t : TypeId} {v : Value} {d : DataW H} {p : List MemPlace}
    (ht : P.underlying t = some .bool) (hv : Value.okWide P W .any base t v) (h : DataW.Trod enc P W 0 (fun _ => true) true t v d p) : ∃ a : Bool, v = .bool a ∧ True := by
  obtain ⟨a, rfl, _, _⟩ := open_bool ht hv h
  exact ⟨a, rfl, trivial⟩
theorem open_ii {H : Type} {enc : TypeId × Value → H} {P : Program} {W : World} {base : Nat} {t : TypeId} {f0 f1 : Field} {v : Value} {d : DataW H} {p : List MemPlace}
    (hs : P.underlying t = some (.struct #[f0, f1])) (hone : oneCellFields P #[f0, f1] = true) (hC : P.cellsOf t = 2) (i0 : P.underlying f0.type = some (.int .i64)) (i1 : P.underlying f1.type = some (.int .i64))
    (hv : Value.okWide P W .any base t v) (h : DataW.Trod enc P W 0 (fun _ => true) true t v d p) :
    ∃ a b : Int, v = .agg #[.int .i64 a, .int .i64 b] ∧ (Lit.int .i64 a).wf = true ∧ (Lit.int .i64 b).wf = true := by
  obtain ⟨c0, c1, y0, y1, m, rfl, rfl, rfl, hy0, hy1⟩ := open_agg2 hs hone hC hv h
  obtain ⟨a, rfl, wa⟩ := int_cell i0 hy0
  obtain ⟨b, rfl, wb⟩ := int_cell i1 hy1
  exact ⟨a, b, rfl, wa, wb⟩

/-! ### what a parameter holds, by its type -/
section
open Go.Proofs.YtoeddkfbhjmbmaaW.PrintWords
def Light {H : Type} (P : Program) (t : TypeId) (d : DataW H) : Prop := ∀ m ∈ d.weights P t, m ≤ 140737488351232
theorem light_of {H : Type} {P : Program} {ts : List TypeId} {ds : List (DataW H)} {j : Nat} {t : TypeId} {d : DataW H} (h : (DataW.weightsEach P ts ds).all (· ≤ reachBytes) = true) (ht : ts[j]? = some t) (hd : ds[j]? = some d) : Light P t d := fun m hm => by
  have := List.all_eq_true.1 h m (DataW.weights_mem_each ht hd m hm)
  exact of_decide_eq_true this
theorem light_part {H : Type} {P : Program} {t : TypeId} {fs : Array Field} {xs : List (DataW H)} (ht : P.underlying t = some (.struct fs)) (h : Light P t (.agg xs)) {j : Nat} {f : Field} {d : DataW H} (hf : fs[j]? = some f) (hd : xs[j]? = some d) : Light P f.type d := fun m hm => by
  refine h m ?_
  simp only [DataW.weights, ht]
  exact DataW.weights_mem_each (j := j) (t := f.type) (by simp [hf]) hd m hm
theorem light_all {H : Type} {P : Program} {e : TypeId} : ∀ (xs : List (DataW H)) (d : DataW H), d ∈ xs → ∀ m ∈ d.weights P e, m ∈ DataW.weightsAll P e xs
  | x :: xs, d, hd, m, hm => by
    simp only [DataW.weightsAll, List.mem_append]
    rcases List.mem_cons.1 hd with rfl | hd
    · exact .inl hm
    · exact .inr (light_all xs d hd m hm)

theorem exists_list {α : Type} (n : Nat) (Q : Nat → α → Prop) (h : ∀ i, i < n → ∃ x, Q i x) : ∃ l : List α, l.length = n ∧ ∀ i x, l[i]? = some x → Q i x := by
  induction n with
  | zero => exact ⟨[], rfl, fun i x hx => by simp at hx⟩
  | succ n ih =>
    obtain ⟨l, hl, hq⟩ := ih (fun i hi => h i (by omega))
    obtain ⟨x, hx⟩ := h n (by omega)
    refine ⟨l ++ [x], by simp [hl], fun i y hy => ?_⟩
    by_cases hi : i < l.length
    · rw [List.getElem?_append_left hi] at hy
      exact hq i y hy
    · have : i = n := by
        have := (List.getElem?_eq_some_iff.1 hy).1
        simp at this
        omega
      subst this
      rw [List.getElem?_append_right (by omega)] at hy
      simp [hl] at hy
      exact hy ▸ hx
/-- Whatever is read at a type is a value of a kind, of which something holds. -/
def Opens {α : Type} (P : Program) (W : World) (t : TypeId) (k : Kd α) (ok : α → Prop) : Prop :=
  ∀ {H : Type} (enc : TypeId × Value → H) (n : Nat) (cs : List Value) (y : DataW H × List MemPlace), DataW.trod enc P W 0 (fun _ => true) true n t cs = some y → Light P t y.1 → ∃ x, k.K W x cs ∧ ok x
theorem opens_int {P : Program} {W : World} {t : TypeId} {k : IntKind} (ht : P.underlying t = some (.int k)) : Opens P W t (Kd.int k) (fun x => (Lit.int k x).wf = true) := by
  intro H enc n cs y h _
  obtain ⟨a, e, _, wa⟩ := DataW.trod_int ht h
  exact ⟨a, e, wa⟩
theorem opens_bool {P : Program} {W : World} {t : TypeId} (ht : P.underlying t = some .bool) : Opens P W t Kd.bool (fun _ => True) := by
  intro H enc n cs y h _
  cases n with
  | zero => simp [DataW.trod] at h
  | succ m =>
    unfold DataW.trod at h
    rw [ht] at h
    split at h <;> first | (rename_i b _; exact ⟨b, rfl, trivial⟩) | (rename_i b; exact ⟨b, rfl, trivial⟩) | (simp_all; done)
theorem opens_slice {α : Type} {P : Program} {W : World} {t e : TypeId} {k : Kd α} {ok : α → Prop} {B : Nat} (ht : P.underlying t = some (.slice e)) (hs : k.sz = P.cellsOf e) (hB : P.bytesOf e = B) (he : Opens P W e k ok) :
    Opens P W t (Kd.slice e k) (fun l => l.length * B ≤ 140737488351232 ∧ ∀ x ∈ l, ok x) := by
  intro H enc n cs y h hw
  rcases open_slice ht h with ⟨rfl, rfl⟩ | ⟨a, len, cap, m, n', D, Pl, rfl, _, hl, hm, hmm, rfl, hx⟩
  · exact ⟨[], ⟨none, 0, rfl, Nat.le_refl _, rfl, by simp, fun h => by simp at h⟩, by simp, by simp⟩
  · have hmc : m = cap := by simpa using hmm
    have hw0 := hw ((((List.range len).map D).length + ((List.range (m - len)).map fun j => D (len + j)).length) * P.bytesOf e) (by simp [DataW.weights, ht])
    have hwD : ∀ i, i < len → Light P e (D i) := fun i hi q hq => by
      refine hw q ?_
      simp only [DataW.weights, ht, List.mem_cons, List.mem_append]
      exact .inr (.inl (light_all _ _ (List.mem_map.2 ⟨i, List.mem_range.2 hi, rfl⟩) q hq))
    have hex : ∀ i, i < len → ∃ x c, c.length = k.sz ∧ k.K W x c ∧ ok x ∧ ∀ j u, c[j]? = some u → W.cell? (a.add (i * k.sz + j)) = some u := fun i hi => by
      obtain ⟨cs', hc, ht'⟩ := hx i (by omega)
      obtain ⟨x, hk, hok⟩ := he enc n' cs' _ ht' (hwD i hi)
      refine ⟨x, cs', k.K_len hk, hk, hok, fun j u hu => ?_⟩
      obtain ⟨_, hlen, hcell⟩ := World.cells?_some hc
      have hj : j < P.cellsOf e := by
        have := (List.getElem?_eq_some_iff.1 hu).1
        omega
      rw [← Go.Addr.add_add, hs, hcell j hj, hu]
    obtain ⟨l, hll, hq⟩ := exists_list len (fun i x => ∃ c, c.length = k.sz ∧ k.K W x c ∧ ok x ∧ ∀ j u, c[j]? = some u → W.cell? (a.add (i * k.sz + j)) = some u) hex
    subst hll
    have hcap : cap ≤ 9223372036854775807 := hm
    refine ⟨l, ⟨some a, cap, rfl, hl, rfl, by omega, fun _ => ⟨a, rfl, fun j p hp => ?_⟩⟩, ?_, fun x hxl => ?_⟩
    · obtain ⟨c, h1, h2, _, h4⟩ := hq j p hp
      exact ⟨c, h1, h2, h4⟩
    · rw [hB] at hw0
      simp only [List.length_map, List.length_range] at hw0
      exact Nat.le_trans (Nat.mul_le_mul_right _ (by omega)) hw0
    · obtain ⟨j, hj⟩ := List.getElem?_of_mem hxl
      obtain ⟨_, _, _, h3, _⟩ := hq j x hj
      exact h3
/-- A slice of numbers. -/
theorem open_li {H : Type} {enc : TypeId × Value → H} {P : Program} {W : World} {base : Nat} {t e : TypeId} {v : Value} {d : DataW H} {p : List MemPlace} (ht : P.underlying t = some (.slice e)) (he : P.underlying e = some (.int .i64)) (hc : P.cellsOf e = 1) (hB : P.bytesOf e = 8)
    (hv : Value.okWide P W .any base t v) {ts : List TypeId} {ds : List (DataW H)} (hsz : (DataW.weightsEach P ts ds).all (· ≤ reachBytes) = true) {j : Nat} (hj : ts[j]? = some t) (hd : ds[j]? = some d) (h : DataW.Trod enc P W 0 (fun _ => true) true t v d p) :
    ∃ (A : Option Addr) (l : List Int) (c : Nat), v = .slice A l.length c ∧ Kd.C (Kd.int .i64) W A l.length l ∧ l.length ≤ c ∧ l.length ≤ 17592186044416 ∧ ∀ x ∈ l, (Lit.int .i64 x).wf = true := by
  obtain ⟨a, len, cap, rfl⟩ := okWide_slice ht hv
  obtain ⟨n, hn⟩ := h
  obtain ⟨l, ⟨A, c, hcs, hlc, hC⟩, hl, hok⟩ := opens_slice (k := Kd.int .i64) ht hc.symm hB (opens_int he) enc n _ _ hn (light_of hsz hj hd)
  simp [Value.cells] at hcs
  obtain ⟨rfl, rfl, rfl⟩ := hcs
  exact ⟨a, l, cap, rfl, hC, hlc, by omega, hok⟩
/-- A slice of bytes. -/
theorem open_lu {H : Type} {enc : TypeId × Value → H} {P : Program} {W : World} {base : Nat} {t e : TypeId} {v : Value} {d : DataW H} {p : List MemPlace} (ht : P.underlying t = some (.slice e)) (he : P.underlying e = some (.int .u8)) (hc : P.cellsOf e = 1) (hB : P.bytesOf e = 1)
    (hv : Value.okWide P W .any base t v) {ts : List TypeId} {ds : List (DataW H)} (hsz : (DataW.weightsEach P ts ds).all (· ≤ reachBytes) = true) {j : Nat} (hj : ts[j]? = some t) (hd : ds[j]? = some d) (h : DataW.Trod enc P W 0 (fun _ => true) true t v d p) :
    ∃ (A : Option Addr) (l : List Int) (c : Nat), v = .slice A l.length c ∧ Kd.C (Kd.int .u8) W A l.length l ∧ l.length ≤ c ∧ l.length ≤ 140737488351232 ∧ ∀ x ∈ l, (Lit.int .u8 x).wf = true := by
  obtain ⟨a, len, cap, rfl⟩ := okWide_slice ht hv
  obtain ⟨n, hn⟩ := h
  obtain ⟨l, ⟨A, c, hcs, hlc, hC⟩, hl, hok⟩ := opens_slice (k := Kd.int .u8) ht hc.symm hB (opens_int he) enc n _ _ hn (light_of hsz hj hd)
  simp [Value.cells] at hcs
  obtain ⟨rfl, rfl, rfl⟩ := hcs
  exact ⟨a, l, cap, rfl, hC, hlc, by omega, hok⟩
/-- Rows of numbers. -/
theorem open_lli {H : Type} {enc : TypeId × Value → H} {P : Program} {W : World} {base : Nat} {t e u : TypeId} {v : Value} {d : DataW H} {p : List MemPlace} (ht : P.underlying t = some (.slice e)) (hc : P.cellsOf e = 1) (hB : P.bytesOf e = 24) (he : P.underlying e = some (.slice u))
    (hu : P.underlying u = some (.int .i64)) (hcu : P.cellsOf u = 1) (hBu : P.bytesOf u = 8)
    (hv : Value.okWide P W .any base t v) {ts : List TypeId} {ds : List (DataW H)} (hsz : (DataW.weightsEach P ts ds).all (· ≤ reachBytes) = true) {j : Nat} (hj : ts[j]? = some t) (hd : ds[j]? = some d) (h : DataW.Trod enc P W 0 (fun _ => true) true t v d p) :
    ∃ (A : Option Addr) (l : List (List Int)) (c : Nat), v = .slice A l.length c ∧ Kd.C (Kd.slice u (Kd.int .i64)) W A l.length l ∧ l.length ≤ c ∧ l.length ≤ 5864062014805 ∧ ∀ r ∈ l, r.length ≤ 17592186044416 ∧ ∀ x ∈ r, (Lit.int .i64 x).wf = true := by
  obtain ⟨a, len, cap, rfl⟩ := okWide_slice ht hv
  obtain ⟨n, hn⟩ := h
  obtain ⟨l, ⟨A, c, hcs, hlc, hC⟩, hl, hok⟩ := opens_slice (k := Kd.slice u (Kd.int .i64)) ht hc.symm hB (opens_slice (k := Kd.int .i64) he hcu.symm hBu (opens_int hu)) enc n _ _ hn (light_of hsz hj hd)
  simp [Value.cells] at hcs
  obtain ⟨rfl, rfl, rfl⟩ := hcs
  exact ⟨a, l, cap, rfl, hC, hlc, by omega, fun r hr => ⟨by have := (hok r hr).1; omega, (hok r hr).2⟩⟩
/-- A struct by value, its fields of one cell each. -/
theorem open_agg2_ {α β : Type} {k0 : Kd α} {k1 : Kd β} {ok0 : α → Prop} {ok1 : β → Prop} {H : Type} {enc : TypeId × Value → H} {P : Program} {W : World} {base : Nat} {t : TypeId} {f0 f1 : Field} {v : Value} {d : DataW H} {p : List MemPlace}
    (hs : P.underlying t = some (.struct #[f0, f1])) (hone : oneCellFields P #[f0, f1] = true) (hC : P.cellsOf t = 2) (o0 : Opens P W f0.type k0 ok0) (o1 : Opens P W f1.type k1 ok1)
    (hv : Value.okWide P W .any base t v) {ts : List TypeId} {ds : List (DataW H)} (hsz : (DataW.weightsEach P ts ds).all (· ≤ reachBytes) = true) {j : Nat} (hj : ts[j]? = some t) (hd : ds[j]? = some d) (h : DataW.Trod enc P W 0 (fun _ => true) true t v d p) :
    ∃ (x0 : α) (x1 : β) (c0 c1 : Value), v = .agg #[c0, c1] ∧ (k0.K W x0 [c0] ∧ ok0 x0) ∧ k1.K W x1 [c1] ∧ ok1 x1 := by
  obtain ⟨c0, c1, y0, y1, m, rfl, rfl, rfl, hy0, hy1⟩ := open_agg2 hs hone hC hv h
  have hl := light_of hsz hj hd
  obtain ⟨x0, z0⟩ := o0 enc m _ _ hy0 (light_part hs hl (j := 0) rfl rfl)
  obtain ⟨x1, z1⟩ := o1 enc m _ _ hy1 (light_part hs hl (j := 1) rfl rfl)
  exact ⟨x0, x1, c0, c1, rfl, z0, z1⟩
theorem open_agg3_ {α β γ : Type} {k0 : Kd α} {k1 : Kd β} {k2 : Kd γ} {ok0 : α → Prop} {ok1 : β → Prop} {ok2 : γ → Prop} {H : Type} {enc : TypeId × Value → H} {P : Program} {W : World} {base : Nat} {t : TypeId} {f0 f1 f2 : Field} {v : Value} {d : DataW H} {p : List MemPlace}
    (hs : P.underlying t = some (.struct #[f0, f1, f2])) (hone : oneCellFields P #[f0, f1, f2] = true) (hC : P.cellsOf t = 3) (o0 : Opens P W f0.type k0 ok0) (o1 : Opens P W f1.type k1 ok1) (o2 : Opens P W f2.type k2 ok2)
    (hv : Value.okWide P W .any base t v) {ts : List TypeId} {ds : List (DataW H)} (hsz : (DataW.weightsEach P ts ds).all (· ≤ reachBytes) = true) {j : Nat} (hj : ts[j]? = some t) (hd : ds[j]? = some d) (h : DataW.Trod enc P W 0 (fun _ => true) true t v d p) :
    ∃ (x0 : α) (x1 : β) (x2 : γ) (c0 c1 c2 : Value), v = .agg #[c0, c1, c2] ∧ (k0.K W x0 [c0] ∧ ok0 x0) ∧ (k1.K W x1 [c1] ∧ ok1 x1) ∧ k2.K W x2 [c2] ∧ ok2 x2 := by
  obtain ⟨c0, c1, c2, y0, y1, y2, m, rfl, rfl, rfl, hy0, hy1, hy2⟩ := open_agg3 hs hone hC hv h
  have hl := light_of hsz hj hd
  obtain ⟨x0, z0⟩ := o0 enc m _ _ hy0 (light_part hs hl (j := 0) rfl rfl)
  obtain ⟨x1, z1⟩ := o1 enc m _ _ hy1 (light_part hs hl (j := 1) rfl rfl)
  obtain ⟨x2, z2⟩ := o2 enc m _ _ hy2 (light_part hs hl (j := 2) rfl rfl)
  exact ⟨x0, x1, x2, c0, c1, c2, rfl, z0, z1, z2⟩
/-- A struct of two numbers and a slice of numbers. -/
theorem open_iili {H : Type} {enc : TypeId × Value → H} {P : Program} {W : World} {base : Nat} {t e : TypeId} {f0 f1 f2 : Field} {v : Value} {d : DataW H} {p : List MemPlace}
    (hs : P.underlying t = some (.struct #[f0, f1, f2])) (hone : oneCellFields P #[f0, f1, f2] = true) (hC : P.cellsOf t = 3) (i0 : P.underlying f0.type = some (.int .i64)) (i1 : P.underlying f1.type = some (.int .i64)) (i2 : P.underlying f2.type = some (.slice e))
    (he : P.underlying e = some (.int .i64)) (hc : P.cellsOf e = 1) (hB : P.bytesOf e = 8)
    (hv : Value.okWide P W .any base t v) {ts : List TypeId} {ds : List (DataW H)} (hsz : (DataW.weightsEach P ts ds).all (· ≤ reachBytes) = true) {j : Nat} (hj : ts[j]? = some t) (hd : ds[j]? = some d) (h : DataW.Trod enc P W 0 (fun _ => true) true t v d p) :
    ∃ (a b : Int) (A : Option Addr) (l : List Int) (c : Nat), v = .agg #[.int .i64 a, .int .i64 b, .slice A l.length c] ∧ ((Lit.int .i64 a).wf = true ∧ (Lit.int .i64 b).wf = true) ∧ Kd.C (Kd.int .i64) W A l.length l ∧ l.length ≤ c ∧ l.length ≤ 17592186044416 ∧ ∀ x ∈ l, (Lit.int .i64 x).wf = true := by
  obtain ⟨x0, x1, x2, c0, c1, c2, rfl, ⟨h0, w0⟩, ⟨h1, w1⟩, h2, w2⟩ := open_agg3_ hs hone hC (opens_int i0) (opens_int i1) (opens_slice (k := Kd.int .i64) i2 hc.symm hB (opens_int he)) hv hsz hj hd h
  obtain ⟨A, c, e2, hl, hC2⟩ := h2
  have e0 : [c0] = [Value.int .i64 x0] := h0
  have e1 : [c1] = [Value.int .i64 x1] := h1
  simp only [List.cons.injEq, and_true] at e0 e1 e2
  subst e0 e1 e2
  exact ⟨x0, x1, A, x2, c, rfl, ⟨w0, w1⟩, hC2, hl, by have := w2.1; omega, w2.2⟩
/-- Whatever is read at a type is of a shape. -/
structure OpensR (P : Program) (W : World) (t : TypeId) (R : List Value → Prop) : Prop where
  out : ∀ (H : Type) (enc : TypeId × Value → H) (n : Nat) (cs : List Value) (y : DataW H × List MemPlace), DataW.trod enc P W 0 (fun _ => true) true n t cs = some y → Light P t y.1 → R cs
theorem opensR_struct {P : Program} {W : World} {t : TypeId} {fs : Array Field} {R : Nat → List Value → Prop} (ht : P.underlying t = some (.struct fs)) (ho : ∀ i f, fs[i]? = some f → OpensR P W f.type (R i)) :
    OpensR P W t (fun cs => cs.length = P.cellsOf t ∧ ∀ i f, fs[i]? = some f → R i ((cs.drop f.offset).take (P.cellsOf f.type))) := by
  constructor
  intro H enc n cs y h hw
  obtain ⟨xs, m, _, rfl, hl, hlen, hf⟩ := DataW.trod_struct ht h
  refine ⟨hl, fun i f hi => ?_⟩
  have hlt : i < xs.length := by
    have := (Array.getElem?_eq_some_iff.1 hi).1
    simpa [hlen] using this
  have e : xs[i]? = some xs[i] := List.getElem?_eq_some_iff.2 ⟨hlt, rfl⟩
  have hx := hf i f hi
  rw [e] at hx
  exact (ho i f hi).out H enc m _ _ hx (light_part ht hw hi (by simp [e]))
theorem opensR_of {α : Type} {P : Program} {W : World} {t : TypeId} {k : Kd α} {ok : α → Prop} (h : Opens P W t k ok) : OpensR P W t (fun cs => ∃ x, k.K W x cs ∧ ok x) := ⟨fun _ enc n cs y hy hl => h enc n cs y hy hl⟩
theorem opensR_mono {P : Program} {W : World} {t : TypeId} {R R' : List Value → Prop} (h : OpensR P W t R) (i : ∀ cs, R cs → R' cs) : OpensR P W t R' := ⟨fun H enc n cs y hy hl => i cs (h.out H enc n cs y hy hl)⟩
theorem open_agg {R : List Value → Prop} {H : Type} {enc : TypeId × Value → H} {P : Program} {W : World} {base : Nat} {t : TypeId} {fs : Array Field} {v : Value} {d : DataW H} {p : List MemPlace}
    (hs : P.underlying t = some (.struct fs)) (o : OpensR P W t R) (hv : Value.okWide P W .any base t v) {ts : List TypeId} {ds : List (DataW H)} (hsz : (DataW.weightsEach P ts ds).all (· ≤ reachBytes) = true) {j : Nat} (hj : ts[j]? = some t) (hd : ds[j]? = some d) (h : DataW.Trod enc P W 0 (fun _ => true) true t v d p) :
    ∃ cs : List Value, v = .agg cs.toArray ∧ R cs := by
  obtain ⟨cs, rfl, _⟩ := okWide_struct hs hv
  obtain ⟨n, hn⟩ := h
  exact ⟨cs.toList, by simp, o.out H enc n _ _ (by simpa [Value.cells] using hn) (light_of hsz hj hd)⟩
def LiFacts (W : World) (A : Option Addr) (l : List Int) (c : Nat) : Prop := Kd.C (Kd.int .i64) W A l.length l ∧ l.length ≤ c ∧ l.length ≤ 17592186044416 ∧ ∀ x ∈ l, (Lit.int .i64 x).wf = true
theorem opensR_int {P : Program} {W : World} {t : TypeId} (ht : P.underlying t = some (.int .i64)) : OpensR P W t (fun cs => ∃ a : Int, cs = [.int .i64 a] ∧ (Lit.int .i64 a).wf = true) := opensR_mono (opensR_of (opens_int ht)) fun _ ⟨x, h, w⟩ => ⟨x, h, w⟩
theorem opensR_li {P : Program} {W : World} {t e : TypeId} (ht : P.underlying t = some (.slice e)) (he : P.underlying e = some (.int .i64)) (hc : P.cellsOf e = 1) (hB : P.bytesOf e = 8) :
    OpensR P W t (fun cs => ∃ (A : Option Addr) (l : List Int) (c : Nat), cs = [.slice A l.length c] ∧ LiFacts W A l c) := by
  refine opensR_mono (opensR_of (opens_slice (k := Kd.int .i64) ht hc.symm hB (opens_int he))) fun cs ⟨l, ⟨A, c, e2, hl, hC⟩, w⟩ => ?_
  exact ⟨A, l, c, e2, hC, hl, by have := w.1; omega, w.2⟩
theorem opensR_ring {P : Program} {W : World} {t e : TypeId} {f0 f1 : Field} (hs : P.underlying t = some (.struct #[f0, f1])) (hone : oneCellFields P #[f0, f1] = true) (hC : P.cellsOf t = 2)
    (i0 : P.underlying f0.type = some (.int .i64)) (i1 : P.underlying f1.type = some (.slice e)) (he : P.underlying e = some (.int .i64)) (hc : P.cellsOf e = 1) (hB : P.bytesOf e = 8) :
    OpensR P W t (fun cs => ∃ (a : Int) (A : Option Addr) (l : List Int) (c : Nat), cs = [.int .i64 a, .slice A l.length c] ∧ (Lit.int .i64 a).wf = true ∧ LiFacts W A l c) := by
  refine opensR_mono (opensR_struct (R := fun i cs => match i with
    | 0 => ∃ a : Int, cs = [.int .i64 a] ∧ (Lit.int .i64 a).wf = true
    | _ => ∃ (A : Option Addr) (l : List Int) (c : Nat), cs = [.slice A l.length c] ∧ LiFacts W A l c) hs (fun i f hi => ?_)) fun cs ⟨hl, h⟩ => ?_
  · match i, hi with
    | 0, hi => obtain rfl := Option.some.inj (hi : some f0 = some f); exact opensR_int i0
    | 1, hi => obtain rfl := Option.some.inj (hi : some f1 = some f); exact opensR_li i1 he hc hB
    | n + 2, hi => simp at hi
  · obtain ⟨o0, k0⟩ := hone_of hone 0 f0 rfl
    obtain ⟨o1, k1⟩ := hone_of hone 1 f1 rfl
    have h0 := h 0 f0 rfl
    have h1 := h 1 f1 rfl
    rw [o0, k0] at h0
    rw [o1, k1] at h1
    match cs, hl.trans hC with
    | [c0, c1], _ =>
      obtain ⟨a, e0, w0⟩ := h0
      obtain ⟨A, l, c, e1, w1⟩ := h1
      simp at e0 e1
      subst e0 e1
      exact ⟨a, A, l, c, rfl, w0, w1⟩
theorem opensR_frame {P : Program} {W : World} {t e : TypeId} {f0 f1 f2 f3 : Field} (hs : P.underlying t = some (.struct #[f0, f1, f2, f3])) (hone : oneCellFields P #[f0, f1, f2, f3] = true) (hC : P.cellsOf t = 4)
    (i0 : P.underlying f0.type = some (.int .i64)) (i1 : P.underlying f1.type = some (.int .i64)) (i2 : P.underlying f2.type = some (.int .i64)) (i3 : P.underlying f3.type = some (.slice e)) (he : P.underlying e = some (.int .i64)) (hc : P.cellsOf e = 1) (hB : P.bytesOf e = 8) :
    OpensR P W t (fun cs => ∃ (a b d : Int) (A : Option Addr) (l : List Int) (c : Nat), cs = [.int .i64 a, .int .i64 b, .int .i64 d, .slice A l.length c] ∧ ((Lit.int .i64 a).wf = true ∧ (Lit.int .i64 b).wf = true ∧ (Lit.int .i64 d).wf = true) ∧ LiFacts W A l c) := by
  refine opensR_mono (opensR_struct (R := fun i cs => match i with
    | 3 => ∃ (A : Option Addr) (l : List Int) (c : Nat), cs = [.slice A l.length c] ∧ LiFacts W A l c
    | _ => ∃ a : Int, cs = [.int .i64 a] ∧ (Lit.int .i64 a).wf = true) hs (fun i f hi => ?_)) fun cs ⟨hl, h⟩ => ?_
  · match i, hi with
    | 0, hi => obtain rfl := Option.some.inj (hi : some f0 = some f); exact opensR_int i0
    | 1, hi => obtain rfl := Option.some.inj (hi : some f1 = some f); exact opensR_int i1
    | 2, hi => obtain rfl := Option.some.inj (hi : some f2 = some f); exact opensR_int i2
    | 3, hi => obtain rfl := Option.some.inj (hi : some f3 = some f); exact opensR_li i3 he hc hB
    | n + 4, hi => simp at hi
  · obtain ⟨o0, k0⟩ := hone_of hone 0 f0 rfl
    obtain ⟨o1, k1⟩ := hone_of hone 1 f1 rfl
    obtain ⟨o2, k2⟩ := hone_of hone 2 f2 rfl
    obtain ⟨o3, k3⟩ := hone_of hone 3 f3 rfl
    have h0 := h 0 f0 rfl
    have h1 := h 1 f1 rfl
    have h2 := h 2 f2 rfl
    have h3 := h 3 f3 rfl
    rw [o0, k0] at h0
    rw [o1, k1] at h1
    rw [o2, k2] at h2
    rw [o3, k3] at h3
    match cs, hl.trans hC with
    | [c0, c1, c2, c3], _ =>
      obtain ⟨a, e0, w0⟩ := h0
      obtain ⟨b, e1, w1⟩ := h1
      obtain ⟨d, e2, w2⟩ := h2
      obtain ⟨A, l, c, e3, w3⟩ := h3
      simp at e0 e1 e2 e3
      subst e0 e1 e2 e3
      exact ⟨a, b, d, A, l, c, rfl, ⟨w0, w1, w2⟩, w3⟩
/-- A ring and a frame, one behind the other. -/
theorem opensR_desk {P : Program} {W : World} {t e : TypeId} {f0 f1 g0 g1 h0 h1 h2 h3 : Field} (hs : P.underlying t = some (.struct #[f0, f1])) (hC : P.cellsOf t = 6) (o0 : f0.offset = 0) (k0 : P.cellsOf f0.type = 2) (o1 : f1.offset = 2) (k1 : P.cellsOf f1.type = 4)
    (hr : P.underlying f0.type = some (.struct #[g0, g1])) (hro : oneCellFields P #[g0, g1] = true) (hf : P.underlying f1.type = some (.struct #[h0, h1, h2, h3])) (hfo : oneCellFields P #[h0, h1, h2, h3] = true)
    (a0 : P.underlying g0.type = some (.int .i64)) (a1 : P.underlying g1.type = some (.slice e)) (b0 : P.underlying h0.type = some (.int .i64)) (b1 : P.underlying h1.type = some (.int .i64)) (b2 : P.underlying h2.type = some (.int .i64)) (b3 : P.underlying h3.type = some (.slice e)) (he : P.underlying e = some (.int .i64)) (hc : P.cellsOf e = 1) (hB : P.bytesOf e = 8) :
    OpensR P W t (fun cs => ∃ (n : Int) (A : Option Addr) (l : List Int) (c : Nat) (a b d : Int) (A' : Option Addr) (l' : List Int) (c' : Nat), cs = [.int .i64 n, .slice A l.length c, .int .i64 a, .int .i64 b, .int .i64 d, .slice A' l'.length c'] ∧
      ((Lit.int .i64 n).wf = true ∧ LiFacts W A l c) ∧ ((Lit.int .i64 a).wf = true ∧ (Lit.int .i64 b).wf = true ∧ (Lit.int .i64 d).wf = true) ∧ LiFacts W A' l' c') := by
  refine opensR_mono (opensR_struct (R := fun i cs => match i with
    | 0 => ∃ (a : Int) (A : Option Addr) (l : List Int) (c : Nat), cs = [.int .i64 a, .slice A l.length c] ∧ (Lit.int .i64 a).wf = true ∧ LiFacts W A l c
    | _ => ∃ (a b d : Int) (A : Option Addr) (l : List Int) (c : Nat), cs = [.int .i64 a, .int .i64 b, .int .i64 d, .slice A l.length c] ∧ ((Lit.int .i64 a).wf = true ∧ (Lit.int .i64 b).wf = true ∧ (Lit.int .i64 d).wf = true) ∧ LiFacts W A l c) hs (fun i f hi => ?_)) fun cs ⟨hl, h⟩ => ?_
  · match i, hi with
    | 0, hi => obtain rfl := Option.some.inj (hi : some f0 = some f); exact opensR_ring hr hro k0 a0 a1 he hc hB
    | 1, hi => obtain rfl := Option.some.inj (hi : some f1 = some f); exact opensR_frame hf hfo k1 b0 b1 b2 b3 he hc hB
    | n + 2, hi => simp at hi
  · have z0 := h 0 f0 rfl
    have z1 := h 1 f1 rfl
    rw [o0, k0] at z0
    rw [o1, k1] at z1
    match cs, hl.trans hC with
    | [c0, c1, c2, c3, c4, c5], _ =>
      obtain ⟨n, A, l, c, e0, w0⟩ := z0
      obtain ⟨a, b, d, A', l', c', e1, w1⟩ := z1
      simp at e0 e1
      obtain ⟨rfl, rfl⟩ := e0
      obtain ⟨rfl, rfl, rfl, rfl⟩ := e1
      exact ⟨n, A, l, c, a, b, d, A', l', c', rfl, w0, w1⟩
end
end Go.Proofs.Ytoeddkfbhjmbmaa.Kit
