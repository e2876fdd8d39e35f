/- Rules for stepping through short codes, rows of laws, and plain loops; no condition but what each theorem names. -/
import Derived.Test.YtdblfocadcgmaaaEvB
import Derived.WalkKit
import Derived.ProofKit
import Derived.OpenShut
import Derived.ChangeOld
import Derived.Below
import Derived.SizedLaws
import Derived.Lib.SmallJoins
import Derived.Deep.Slices
set_option linter.unusedVariables false
set_option linter.unusedSimpArgs false
namespace Go.Proofs.Ytdblfocadcgmaaa.Ev
open Go
set_option linter.unusedSimpArgs false
set_option linter.unusedVariables false

def eqL : List UInt8 → List UInt8 → Bool
  | [], [] => true
  | a :: as, b :: bs => a == b && eqL as bs
  | _, _ => false

theorem eqL_eq : ∀ (a b : List UInt8), eqL a b = true → a = b := by
  intro a
  induction a with
  | nil => intro b h; cases b <;> simp_all [eqL]
  | cons x xs ih =>
    intro b h
    cases b with
    | nil => simp [eqL] at h
    | cons y ys => simp only [eqL, Bool.and_eq_true, beq_iff_eq] at h; rw [h.1, ih ys h.2]

def chkX : Operand → X → Bool
  | .tmp i, .t j => i == j
  | .const (.int k n), .c (.vw [] (.int k' n')) => decide (k = k') && decide (n = n')
  | .const (.bool b), .c (.vw [] (.bool b')) => b == b'
  | .const (.string ⟨⟨s⟩⟩), .c (.vw [] (.str l)) => eqL s l
  | .const (.slice none 0 0), .c (.nilS (.ints _ [])) => true
  | .const (.slice none 0 0), .c (.nilS (.rows _ [])) => true
  | .const (.pointer none), .c (.nilS .dead) => true
  | .func f, .c (.fn g []) => f == g
  | _, _ => false

theorem chkX_ok {o : Operand} {x : X} (h : chkX o x = true) : OkX o x := by
  unfold chkX at h
  split at h
  · obtain rfl := by simpa using h
    exact .t _
  · obtain ⟨rfl, rfl⟩ := by simpa using h
    exact .int _ _
  · obtain rfl := by simpa using h
    exact .bool _
  · obtain rfl := eqL_eq _ _ h
    exact .str _
  · exact .nilI _
  · exact .nilR _
  · exact .nilP
  · obtain rfl := by simpa using h
    exact .fn _
  · simp at h

def all2 {α β : Type} (f : α → β → Bool) : List α → List β → Bool
  | [], [] => true
  | a :: as, b :: bs => f a b && all2 f as bs
  | _, _ => false

theorem all2_ok {α β : Type} {f : α → β → Bool} {R : α → β → Prop} (hf : ∀ a b, f a b = true → R a b) : ∀ (as : List α) (bs : List β), all2 f as bs = true → All2 R as bs := by
  intro as
  induction as with
  | nil => intro bs h; cases bs with
    | nil => exact .nil
    | cons b bs => simp [all2] at h
  | cons a as ih =>
    intro bs h
    cases bs with
    | nil => simp [all2] at h
    | cons b bs => simp only [all2, Bool.and_eq_true] at h; exact .cons (hf a b h.1) (ih bs h.2)

def chkO : Option Operand → Option X → Bool
  | none, none => true
  | some o, some x => chkX o x
  | _, _ => false

theorem chkO_ok {o : Option Operand} {x : Option X} (h : chkO o x = true) : OkO o x := by
  unfold chkO at h
  split at h
  · exact .none
  · exact .some (chkX_ok h)
  · simp at h

/-! ### types -/
section
variable (P : Program)

def chkZ (e : TypeId) (n : Nat) : Bool :=
  match P.info? e with
  | some i => i.size == n
  | none => false

def isStr (t : TypeId) : Bool :=
  match P.underlying t with
  | some .string => true
  | _ => false

def elOf (t : TypeId) : Option TypeId :=
  match P.underlying t with
  | some (.slice e) => some e
  | _ => none

def intOf (t : TypeId) : Option IntKind :=
  match P.underlying t with
  | some (.int k) => some k
  | _ => none

def isBool (t : TypeId) : Bool :=
  match P.underlying t with
  | some .bool => true
  | _ => false

def chkCell (t : TypeId) : Bool :=
  match P.underlying t with
  | some (.struct _) => false
  | some (.array _ _) => false
  | some _ => true
  | none => false

def chkAgg (t : TypeId) : Bool :=
  match P.underlying t with
  | some (.struct _) => true
  | some (.array _ _) => true
  | _ => false

def chkLd (t : TypeId) : Option Nat → Bool
  | none => chkCell P t
  | some k => chkAgg P t && chkZ P t k

/-- A slice's elements: their size and zero value. -/
def elT (t : TypeId) (sz : Nat) : Option Value :=
  (elOf P t).bind fun e => (P.info? e).bind fun i => i.zero.bind fun z =>
    if i.size == sz && decide (i.bytes ≤ 4096) && z.cells.size == sz && decide (0 < sz) then some z else none

def chkZc : T → Value → Bool
  | .int k n, .int k' n' => decide (k = k') && decide (n = n')
  | .bool b, .bool b' => b == b'
  | .str l, .string ⟨⟨s⟩⟩ => eqL l s
  | .ints _ [], .slice none 0 0 => true
  | .rows _ [], .slice none 0 0 => true
  | _, _ => false

def chkZa : T → Value → Bool
  | .agg ts, .agg cs => all2 chkZc ts cs.toList
  | t, v => chkZc t v

def chkZero : Knd → T → Value → Bool
  | .ik k, _, .int k' n => decide (k = k') && decide (n = 0)
  | .flat sz, t, v => chkZa t v && v.cells.size == sz
  | .deep sz, t, v => chkZa t v && v.cells.size == sz
  | _, _, _ => false

def one' : Value → Bool
  | .agg _ => false
  | .tuple _ => false
  | _ => true

def chkZs : SV → Value → Bool
  | .vw [] (.int k n), .int k' n' => decide (k = k') && decide (n = n')
  | .vw [] (.bool b), .bool b' => b == b'
  | .vw [] (.str l), .string ⟨⟨s⟩⟩ => eqL l s
  | .nilS (.ints _ []), .slice none 0 0 => true
  | .nilS (.rows _ []), .slice none 0 0 => true
  | .dead, v => v.oneCell'
  | _, _ => false

variable {P}

theorem chkZ_ok {e : TypeId} {n : Nat} (h : chkZ P e n = true) : IsZ P e n := by
  unfold chkZ at h
  split at h
  · rename_i i hi; exact ⟨i, hi, by simpa using h⟩
  · simp at h

theorem isStr_ok {t : TypeId} (h : isStr P t = true) : P.underlying t = some .string := by
  unfold isStr at h
  split at h
  · assumption
  · simp at h

theorem elOf_ok {t e : TypeId} (h : elOf P t = some e) : P.underlying t = some (.slice e) := by
  unfold elOf at h
  split at h
  · rename_i e' he; simp at h; rw [he, h]
  · simp at h

theorem intOf_ok {t : TypeId} {k : IntKind} (h : intOf P t = some k) : P.underlying t = some (.int k) := by
  unfold intOf at h
  split at h
  · rename_i e' he; simp at h; rw [he, h]
  · simp at h

theorem isBool_ok {t : TypeId} (h : isBool P t = true) : P.underlying t = some .bool := by
  unfold isBool at h
  split at h
  · assumption
  · simp at h

theorem chkCell_ok {t : TypeId} (h : chkCell P t = true) : Cell? P t := by
  unfold chkCell at h
  split at h
  · simp at h
  · simp at h
  · rename_i d h1 h2 h3; exact ⟨d, h3, fun fs e => h1 fs e, fun n el e => h2 n el e⟩
  · simp at h

theorem chkAgg_ok {t : TypeId} (h : chkAgg P t = true) : Agg? P t := by
  unfold chkAgg at h
  split at h
  · rename_i fs he; exact .inl ⟨fs, he⟩
  · rename_i n e he; exact .inr ⟨n, e, he⟩
  · simp at h

theorem chkLd_ok {t : TypeId} {n : Option Nat} (h : chkLd P t n = true) : LdT P t n := by
  cases n with
  | none => exact chkCell_ok h
  | some k => simp only [chkLd, Bool.and_eq_true] at h; exact ⟨chkAgg_ok h.1, chkZ_ok h.2⟩

theorem elT_ok {t : TypeId} {sz : Nat} {z : Value} (h : elT P t sz = some z) : ∃ e, ElT P t e sz z := by
  simp only [elT, Option.bind_eq_some_iff] at h
  obtain ⟨e, he, i, hi, z', hz, h⟩ := h
  split at h
  · rename_i hc
    obtain rfl := by simpa using h
    simp only [Bool.and_eq_true, beq_iff_eq, decide_eq_true_eq] at hc
    exact ⟨e, elOf_ok he, ⟨i, hi, hc.1.1.1, hz, hc.1.1.2⟩, hc.1.2, hc.2⟩
  · simp at h

theorem chkZc_ok {t : T} {v : Value} (h : chkZc t v = true) : Zc t v := by
  unfold chkZc at h
  split at h
  · obtain ⟨rfl, rfl⟩ := by simpa using h
    exact .int _ _
  · obtain rfl := by simpa using h
    exact .bool _
  · obtain rfl := eqL_eq _ _ h
    exact .str _
  · exact .nilI _
  · exact .nilR _
  · simp at h

theorem chkZa_ok {t : T} {v : Value} (h : chkZa t v = true) : Za t v := by
  unfold chkZa at h
  split at h
  · exact .a (all2_ok (fun _ _ h => chkZc_ok h) _ _ h)
  · exact .c (chkZc_ok h)

theorem chkZero_ok {k : Knd} {t : T} {v : Value} (h : chkZero k t v = true) : ZeroT k t v := by
  unfold chkZero at h
  split at h
  · obtain ⟨rfl, rfl⟩ := by simpa using h
    exact .ik _ _
  · simp only [Bool.and_eq_true, beq_iff_eq] at h; exact .flat (chkZa_ok h.1) h.2
  · simp only [Bool.and_eq_true, beq_iff_eq] at h; exact .deep (chkZa_ok h.1) h.2
  · simp at h

theorem chkZs_ok {x : SV} {v : Value} (h : chkZs x v = true) : Zs x v := by
  unfold chkZs at h
  split at h
  · obtain ⟨rfl, rfl⟩ := by simpa using h
    exact .int _ _
  · obtain rfl := by simpa using h
    exact .bool _
  · obtain rfl := eqL_eq _ _ h
    exact .str _
  · exact .nilI _
  · exact .nilR _
  · exact .dead _ h
  · simp at h
end
end Go.Proofs.Ytdblfocadcgmaaa.Ev
namespace Go.Proofs.Ytdblfocadcgmaaa.Ev
open Go
set_option linter.unusedSimpArgs false
set_option linter.unusedVariables false

section
variable (P : Program)

def chkXs (os : Array Operand) (xs : List X) : Bool := all2 chkX os.toList xs
def chkP (p : Nat × Operand) (q : Nat × X) : Bool := p.1 == q.1 && chkX p.2 q.2
def chkPs (ps : Array (Nat × Operand)) (qs : List (Nat × X)) : Bool := all2 chkP ps.toList qs

def chkCall (c : Call) (i : I) : Bool :=
  match c.callee, c.args.toList, c.argTypes.toList, i with
  | .builtin .len, [x'], [t], .len st x => chkX x' x && (if st then isStr P t else (elOf P t).isSome)
  | .builtin .append, [x', y'], [t, t'], .app k x y => chkX x' x && chkX y' y && (elT P t k.sz).isSome && (P.underlying t').isSome && (intOf P t').isNone
  | .builtin .copy, [x', y'], [t, _], .cpy _ x y => chkX x' x && chkX y' y && (match elOf P t with | some e => chkZ P e 1 | none => false)
  | .builtin .max, x' :: os, _, .mnx true x xs => chkX x' x && all2 chkX os xs
  | .builtin .min, x' :: os, _, .mnx false x xs => chkX x' x && all2 chkX os xs
  | .value (.func f), os, _, .call _ g xs => f == g && all2 chkX os xs
  | .value x', os, _, .callv x xs => chkX x' x && all2 chkX os xs
  | _, _, _, _ => false

def fieldOf (t : TypeId) (i : Nat) : Option Field :=
  match P.underlying t with
  | some (.struct fs) => fs[i]?
  | _ => none

def placesOf (t : TypeId) : Option (List (Nat × Nat)) :=
  match P.underlying t with
  | some (.struct fs) => fs.toList.mapM fun f => (P.info? f.type).map fun i => (f.offset, i.size)
  | _ => none

def zeroOf (t : TypeId) : Option Value := (P.info? t).bind (·.zero)

def chkBld (t : TypeId) (ps : Array (Nat × Operand)) (zs : List SV) (qs : List (Nat × Nat × X)) : Bool :=
  match placesOf P t, zeroOf P t with
  | some pl, some z => all2 chkZs zs z.cells.toList && all2 (fun p q => decide (pl[p.1]? = some (q.1, q.2.1)) && chkX p.2 q.2.2) ps.toList qs
  | _, _ => false

def chkEq (t : TypeId) (ks : List Nat) : Bool := (match P.underlying t with | some (.struct _) => true | _ => false) && flatFs P 0 ks (P.fieldsOf t).toList && !P.stoodInHeld t && !P.eqGuardType P.depth t

def chkI : Op → I → Bool
  | .move x', .mv x => chkX x' x
  | .assign x', .mv x => chkX x' x
  | .move x', .cp x => chkX x' x
  | .assign x', .cp x => chkX x' x
  | .pick c' a' b', .pick c a b => chkX c' c && chkX a' a && chkX b' b
  | .binOp op ty x' y' _, .eqs ne ks x y => decide (op = if ne then .neq else .eql) && chkX x' x && chkX y' y && chkEq P ty ks
  | .binOp op ty x' y' _, .bin bb op2 x y => decide (op = op2) && chkX x' x && chkX y' y && (!bb || isBool P ty)
  | .unOp op _ x', .un op2 x => decide (op = op2) && chkX x' x
  | .convert src dst x', .cvi k x => chkX x' x && (P.underlying src).isSome && decide (intOf P dst = some k)
  | .convert src dst x', .cvsb x => chkX x' x && isStr P src && decide ((elOf P dst).bind (intOf P) = some .u8)
  | .indexAddr t x' i', .idx z _ x i => chkX x' x && chkX i' i && (match elOf P t with | some e => chkZ P e z | none => false)
  | .index t x' i', .sidx x i => chkX x' x && chkX i' i && isStr P t
  | .fieldAddr t x' i, .fa x o => chkX x' x && (match fieldOf P t i with | some f => f.offset == o && (match P.info? f.type with | some j => decide (j.size ≠ 0) | none => false) | none => false)
  | .field t x' i, .fld x o n => chkX x' x && (match fieldOf P t i with | some f => f.offset == o && chkLd P f.type n | none => false)
  | .load t x', .ld x n => chkX x' x && chkLd P t n
  | .store t x' y', .st z x y => chkX x' x && chkX y' y && chkZ P t z
  | .alloc el, .new (.agg ts) => (match zeroOf P el with | some z => all2 chkZc ts z.cells.toList | none => false)
  | .box _ x', .box x => chkX x' x
  | .build t ps', .bld zs ps => chkBld P t ps' zs ps
  | .buildSlice t n ps', .bsl k m ps => n == m && (elT P t k.sz).isSome && decide (n * k.sz ≤ 2 ^ 24) && chkPs ps' ps
  | .buildSlice t n ps', .lit k m ps => n == m && (elT P t 1).isSome && decide (n ≤ 2 ^ 24) && chkPs ps' ps
  | .makeSlice t n' c', .mks k zt n c => (match elT P t k.sz with | some z => chkZero k zt z | none => false) && chkX n' n && chkX c' c
  | .slice t x' lo' hi' none, .slc st z x lo hi => chkX x' x && chkO lo' lo && chkO hi' hi && (if st then isStr P t else match elOf P t with | some e => chkZ P e z | none => false)
  | .slice t x' lo' hi' none, .trm z x lo hi => chkX x' x && chkO lo' lo && chkO hi' hi && (match elOf P t with | some e => chkZ P e z | none => false)
  | .makeFunc (.func f) fs os, .mkf g xs => fs.size == 0 && f == g && chkXs os xs
  | .extract x' i, .ext x j => chkX x' x && i == j
  | .nilCheck x', .nilc x => chkX x' x
  | .call c, i => chkCall P c i
  | _, _ => false

variable {P}

theorem chkXs_ok {os : Array Operand} {xs : List X} (h : chkXs os xs = true) : All2 OkX os.toList xs := all2_ok (fun _ _ h => chkX_ok h) _ _ h
theorem chkPs_ok {os : Array (Nat × Operand)} {xs : List (Nat × X)} (h : chkPs os xs = true) : All2 OkP os.toList xs :=
  all2_ok (fun p q h => by simp only [chkP, Bool.and_eq_true, beq_iff_eq] at h; exact ⟨h.1, chkX_ok h.2⟩) _ _ h

theorem elT_some {t : TypeId} {sz : Nat} (h : (elT P t sz).isSome = true) : ∃ e z, ElT P t e sz z := by
  obtain ⟨z, hz⟩ := Option.isSome_iff_exists.1 h
  obtain ⟨e, he⟩ := elT_ok hz
  exact ⟨e, z, he⟩

theorem fieldOf_ok {t : TypeId} {i : Nat} {f : Field} (h : fieldOf P t i = some f) : ∃ fs, P.underlying t = some (.struct fs) ∧ fs[i]? = some f := by
  unfold fieldOf at h
  split at h
  · rename_i fs he; exact ⟨fs, he, h⟩
  · simp at h

theorem chkBld_ok {t : TypeId} {ps : Array (Nat × Operand)} {zs : List SV} {qs : List (Nat × Nat × X)} (h : chkBld P t ps zs qs = true) : OkI P (.build t ps) (.bld zs qs) := by
  unfold chkBld at h
  split at h
  · rename_i pl z hpl hz
    simp only [Bool.and_eq_true] at h
    simp only [zeroOf, Option.bind_eq_some_iff] at hz
    obtain ⟨it, hit, hz⟩ := hz
    unfold placesOf at hpl
    split at hpl
    · rename_i fs hfs
      exact .bld ⟨it, fs, z, hit, hfs, hz, hpl, all2_ok (fun _ _ h => chkZs_ok h) _ _ h.1⟩ (all2_ok (fun p q h => by
        simp only [Bool.and_eq_true, decide_eq_true_eq] at h
        exact ⟨h.1, chkX_ok h.2⟩) _ _ h.2)
    · simp at hpl
  · simp at h

theorem arr1 {α : Type} {a : Array α} {x : α} (h : a.toList = [x]) : a = #[x] := by cases a; simp at h; subst h; rfl
theorem arr2 {α : Type} {a : Array α} {x y : α} (h : a.toList = [x, y]) : a = #[x, y] := by cases a; simp at h; subst h; rfl

theorem chkCall_ok {c : Call} {i : I} (h : chkCall P c i = true) : OkI P (.call c) i := by
  obtain ⟨cal, args, tys⟩ := c
  unfold chkCall at h
  dsimp only at h
  split at h
  · rename_i x' t st x h1 h2
    obtain rfl := arr1 h1
    obtain rfl := arr1 h2
    simp only [Bool.and_eq_true] at h
    refine .len (chkX_ok h.1) ?_
    cases st with
    | true => simpa using isStr_ok (by simpa using h.2)
    | false =>
      obtain ⟨e, he⟩ := Option.isSome_iff_exists.1 (by simpa using h.2)
      simpa using ⟨e, elOf_ok he⟩
  · rename_i x' y' t t' k x y h1 h2
    obtain rfl := arr2 h1
    obtain rfl := arr2 h2
    simp only [Bool.and_eq_true] at h
    obtain ⟨⟨⟨⟨a1, a2⟩, a3⟩, a4⟩, a5⟩ := h
    obtain ⟨e, z, he⟩ := elT_some a3
    obtain ⟨d, hd⟩ := Option.isSome_iff_exists.1 a4
    refine .app ⟨he, d, hd, ?_⟩ (chkX_ok a1) (chkX_ok a2)
    rintro k rfl
    simp [intOf, hd] at a5
  · rename_i x' y' t t' k x y h1 h2
    obtain rfl := arr2 h1
    obtain rfl := arr2 h2
    simp only [Bool.and_eq_true] at h
    obtain ⟨⟨a1, a2⟩, a3⟩ := h
    split at a3
    · rename_i e he; exact .cpy (chkX_ok a1) (chkX_ok a2) (elOf_ok he) (chkZ_ok a3)
    · simp at a3
  · rename_i x' os x xs h1
    obtain rfl : args = (x' :: os).toArray := by cases args; simp at h1; subst h1; rfl
    simp only [Bool.and_eq_true] at h
    exact .mnx (mx := true) (chkX_ok h.1) (all2_ok (fun _ _ h => chkX_ok h) _ _ h.2)
  · rename_i x' os x xs h1
    obtain rfl : args = (x' :: os).toArray := by cases args; simp at h1; subst h1; rfl
    simp only [Bool.and_eq_true] at h
    exact .mnx (mx := false) (chkX_ok h.1) (all2_ok (fun _ _ h => chkX_ok h) _ _ h.2)
  · simp only [Bool.and_eq_true, beq_iff_eq] at h
    obtain ⟨rfl, h⟩ := h
    exact .call (all2_ok (fun _ _ h => chkX_ok h) _ _ h)
  · simp only [Bool.and_eq_true] at h
    exact .callv (chkX_ok h.1) (all2_ok (fun _ _ h => chkX_ok h) _ _ h.2)
  · simp at h

theorem chkI_ok {op : Op} {i : I} (h : chkI P op i = true) : OkI P op i := by
  unfold chkI at h
  split at h
  · exact .mv (chkX_ok h)
  · exact .as (chkX_ok h)
  · exact .cp (chkX_ok h)
  · exact .cpa (chkX_ok h)
  · simp only [Bool.and_eq_true] at h; exact .pick (chkX_ok h.1.1) (chkX_ok h.1.2) (chkX_ok h.2)
  · simp only [Bool.and_eq_true, decide_eq_true_eq, chkEq, Bool.not_eq_true'] at h
    obtain ⟨⟨⟨rfl, a1⟩, a2⟩, ⟨⟨a3, a4⟩, a5⟩, a6⟩ := h
    refine .eqs (chkX_ok a1) (chkX_ok a2) ⟨?_, a4, a5, a6⟩
    split at a3
    · rename_i fs e; simp [Program.fieldsOf, e]
    · simp at a3
  · simp only [Bool.and_eq_true, decide_eq_true_eq] at h
    obtain ⟨⟨⟨rfl, a1⟩, a2⟩, a3⟩ := h
    exact .bin (chkX_ok a1) (chkX_ok a2) fun hb => isBool_ok (by simpa [hb] using a3)
  · simp only [Bool.and_eq_true, decide_eq_true_eq] at h
    obtain ⟨rfl, a1⟩ := h
    exact .un (chkX_ok a1)
  · simp only [Bool.and_eq_true, decide_eq_true_eq] at h
    obtain ⟨d, hd⟩ := Option.isSome_iff_exists.1 h.1.2
    exact .cvi (chkX_ok h.1.1) hd (intOf_ok h.2)
  · simp only [Bool.and_eq_true, decide_eq_true_eq, Option.bind_eq_some_iff] at h
    obtain ⟨⟨a1, a2⟩, e, a3, a4⟩ := h
    exact .cvsb (chkX_ok a1) (isStr_ok a2) (elOf_ok a3) (intOf_ok a4)
  · simp only [Bool.and_eq_true] at h
    obtain ⟨⟨a1, a2⟩, a3⟩ := h
    split at a3
    · rename_i e he; exact .idx (chkX_ok a1) (chkX_ok a2) (elOf_ok he) (chkZ_ok a3)
    · simp at a3
  · simp only [Bool.and_eq_true] at h; exact .sidx (chkX_ok h.1.1) (chkX_ok h.1.2) (isStr_ok h.2)
  · simp only [Bool.and_eq_true] at h
    obtain ⟨a1, a2⟩ := h
    split at a2
    · rename_i f hf
      obtain ⟨fs, b1, b2⟩ := fieldOf_ok hf
      simp only [Bool.and_eq_true, beq_iff_eq] at a2
      obtain ⟨c1, c2⟩ := a2
      split at c2
      · rename_i j hj; exact .fa (chkX_ok a1) b1 b2 c1 ⟨j, hj, rfl⟩ (by simpa using c2)
      · simp at c2
    · simp at a2
  · simp only [Bool.and_eq_true] at h
    obtain ⟨a1, a2⟩ := h
    split at a2
    · rename_i f hf
      obtain ⟨fs, b1, b2⟩ := fieldOf_ok hf
      simp only [Bool.and_eq_true, beq_iff_eq] at a2
      exact .fld (chkX_ok a1) b1 b2 a2.1 (chkLd_ok a2.2)
    · simp at a2
  · simp only [Bool.and_eq_true] at h; exact .ld (chkX_ok h.1) (chkLd_ok h.2)
  · simp only [Bool.and_eq_true] at h; exact .st (chkX_ok h.1.1) (chkX_ok h.1.2) (chkZ_ok h.2)
  · split at h
    · rename_i z hz
      simp only [zeroOf, Option.bind_eq_some_iff] at hz
      obtain ⟨it, hit, hz⟩ := hz
      exact .new hit hz (all2_ok (fun _ _ h => chkZc_ok h) _ _ h)
    · simp at h
  · exact .box (chkX_ok h)
  · exact chkBld_ok h
  · rename_i t n ps' k m ps
    simp only [Bool.and_eq_true, beq_iff_eq, decide_eq_true_eq] at h
    obtain ⟨⟨⟨rfl, a1⟩, a2⟩, a3⟩ := h
    obtain ⟨e, z, he⟩ := elT_some a1
    cases k with
    | ik k => exact .bslI he (by simpa [Knd.sz] using a2) (chkPs_ok a3)
    | flat sz => exact .bslF he a2 (chkPs_ok a3)
    | deep sz => exact .bslD he a2 (chkPs_ok a3)
  · rename_i t n ps' k m ps
    simp only [Bool.and_eq_true, beq_iff_eq, decide_eq_true_eq] at h
    obtain ⟨⟨⟨rfl, a1⟩, a2⟩, a3⟩ := h
    obtain ⟨e, z, he⟩ := elT_some a1
    exact .litI he a2 (chkPs_ok a3)
  · simp only [Bool.and_eq_true] at h
    obtain ⟨⟨a1, a2⟩, a3⟩ := h
    split at a1
    · rename_i z hz
      obtain ⟨e, he⟩ := elT_ok hz
      exact .mks he (chkZero_ok a1) (chkX_ok a2) (chkX_ok a3)
    · simp at a1
  · rename_i t x' lo' hi' st z x lo hi
    simp only [Bool.and_eq_true] at h
    obtain ⟨⟨⟨a1, a2⟩, a3⟩, a4⟩ := h
    refine .slc (chkX_ok a1) (chkO_ok a2) (chkO_ok a3) ?_
    cases st with
    | true => simpa using isStr_ok (by simpa using a4)
    | false =>
      simp only [Bool.false_eq_true, if_false] at a4 ⊢
      split at a4
      · rename_i e he; exact ⟨e, elOf_ok he, chkZ_ok a4⟩
      · simp at a4
  · rename_i t x' lo' hi' z x lo hi
    simp only [Bool.and_eq_true] at h
    obtain ⟨⟨⟨a1, a2⟩, a3⟩, a4⟩ := h
    split at a4
    · rename_i e he; exact .trm (chkX_ok a1) (chkO_ok a2) (chkO_ok a3) (elOf_ok he) (chkZ_ok a4)
    · simp at a4
  · simp only [Bool.and_eq_true, beq_iff_eq] at h
    obtain ⟨⟨a1, rfl⟩, a2⟩ := h
    obtain rfl := Array.eq_empty_of_size_eq_zero a1
    exact .mkf (chkXs_ok a2)
  · simp only [Bool.and_eq_true, beq_iff_eq] at h
    obtain ⟨a1, rfl⟩ := h
    exact .ext (chkX_ok a1)
  · exact .nilc (chkX_ok h)
  · exact chkCall_ok h
  · simp at h
end
end Go.Proofs.Ytdblfocadcgmaaa.Ev
namespace Go.Proofs.Ytdblfocadcgmaaa.Ev
open Go
set_option linter.unusedSimpArgs false
set_option linter.unusedVariables false

section
variable (P : Program) (N : Nat)

def chkGd (ops : Array Oper) : Option (Nat × Bool) → Option (Nat × Bool) → Bool
  | none, none => true
  | some (j, w), some (k, w') => w == w' && decide ((ops[j]?).bind (·.dst) = some k)
  | _, _ => false

def chkD (o : Option Nat) (d : Option Nat) : Bool :=
  match o, d with
  | none, none => true
  | some k, some j => k == j && decide (k < N)
  | _, _ => false

def chkG (ops : Array Oper) (o : Oper) (gg : G) : Bool := chkD N o.dst gg.d && chkGd ops o.guard gg.g && chkI P o.op gg.i

def chkReg (ops : Array Oper) (gs : List G) : Bool := all2 (chkG P N ops) ops.toList gs

/-- The operations that may not change places with one that the order leaves open. -/
def confl (ops : Array Oper) (gs : List G) : List Nat :=
  let an := closure [] (ops.toList.map predsOf)
  (List.range gs.length).filter fun i => (List.range gs.length).any fun j => i != j && !(an.getD i []).contains j && !(an.getD j []).contains i && !(indepAt gs i j && indepAt gs j i)

def chkC : C → Code → Bool
  | .regA _ gs ords, .region _ ops draw => draw && chkReg P N ops gs && ordsOk ops gs (confl ops gs) ords
  | .gc _ a, code => chkC a code
  | .pre _ a, code => chkC a code
  | .bad, _ => true
  | .skip, .skip => true
  | .skip, .label _ => true
  | .reg gs, .region _ ops draw => chkReg P N ops gs && (!draw || drawOk ops gs)
  | .seq a b, .seq x y => chkC a x && chkC b y
  | .cond c a b, .cond o x y => chkX o c && chkC a x && chkC b y
  | .block i a, .block j x => i == j && chkC a x
  | .loop a, .loop x => chkC a x
  | .exit i, .exit j => i == j
  | .ret, .ret => true
  | _, _ => false

def chkRV : ResultVar → RV → Bool
  | .tmp i, .t j => i == j
  | .cell i t, .c j n => i == j && chkLd P t n
  | _, _ => false

/-- A body, with its head. -/
def chkHd (np : Nat) : Option QH → Code → C → Bool
  | none, code, c => chkC P N c code
  | some q, .seq (.region _ ops0 false) (.seq (.seq (.region _ ops1 false) kc) kB), _ =>
    match ops0.toList, ops1.toList with
    | [o0], [o1, o2] => chkG P N #[o0] o0 ⟨some q.d0, none, .mv (.c (.nilS q.z0))⟩ && chkG P N #[o1, o2] o1 ⟨some q.d1, none, .cp (.t 0)⟩ && decide (o2.dst = some q.d2) && decide (q.d2 < N) && o2.guard.isNone && decide (q.d0 ≠ 0) && decide (0 < np) && chkC P N q.cc kc && chkC P N q.cB kB &&
      (match o0.op, o1.op, o2.op with
      | .assign (.const (.slice none 0 0)), .move (.tmp 0), .binOp .eql t (.tmp d) (.const (.slice none 0 0)) _ => d == q.d1 && (elOf P t).isSome
      | _, _, _ => false)
    | _, _ => false
  | _, _, _ => false

def chkFn (f : FuncId) (F : Fn) : Bool :=
  match P.funcs[f]? with
  | some fn =>
    match fn.body with
    | some code => !(fn.name == "runtime.NumGoroutine") && decide (F.np ≤ fn.ntmps) && chkHd P fn.ntmps F.np F.q code F.body && all2 (chkRV P) fn.results.toList F.res
    | none => false
  | none => false

variable {P N}

theorem chkG_ok {ops : Array Oper} {o : Oper} {gg : G} (h : chkG P N ops o gg = true) : OkG P N ops o gg := by
  simp only [chkG, Bool.and_eq_true] at h
  obtain ⟨⟨h1, h2⟩, h3⟩ := h
  have hd : o.dst = gg.d ∧ ∀ k, o.dst = some k → k < N := by
    unfold chkD at h1
    split at h1
    · rename_i e1 e2; rw [e1, e2]; exact ⟨rfl, by simp⟩
    · rename_i k j e1 e2
      simp only [Bool.and_eq_true, beq_iff_eq, decide_eq_true_eq] at h1
      rw [e1, e2]
      refine ⟨by rw [h1.1], ?_⟩
      intro k' hk
      obtain rfl := by simpa using hk
      exact h1.2
    · simp at h1
  refine ⟨hd.1, chkI_ok h3, hd.2, ?_⟩
  unfold chkGd at h2
  split at h2
  · rename_i e1 e2; exact .inl ⟨e1, e2⟩
  · rename_i j w k w' e1 e2
    simp only [Bool.and_eq_true, beq_iff_eq, decide_eq_true_eq] at h2
    obtain ⟨rfl, h2⟩ := h2
    exact .inr ⟨j, k, w, e1, e2, h2⟩
  · simp at h2

theorem chkReg_ok {ops : Array Oper} {gs : List G} (h : chkReg P N ops gs = true) : OkReg P N ops gs := by
  have hall := all2_ok (R := OkG P N ops) (fun _ _ h => chkG_ok h) _ _ h
  obtain ⟨h1, h2⟩ := forall2_get hall
  refine ⟨by simpa using h1.symm, ?_⟩
  intro i o ho
  exact h2 i o (by simpa using ho)

theorem chkC_ok : ∀ (c : C) (code : Code), chkC P N c code = true → OkC P N code c := by
  intro c
  induction c with
  | gc ks a ih => intro code h; unfold chkC at h; exact .gc (ih code h)
  | pre ks a ih => intro code h; unfold chkC at h; exact .pre (ih code h)
  | bad => intro code _; exact .bad
  | skip =>
    intro code h
    cases code <;> simp [chkC] at h
    · exact .skip
    · exact .label _
  | reg gs =>
    intro code h
    cases code <;> simp [chkC] at h
    exact .reg (chkReg_ok h.1) fun hd => by simpa [hd] using h.2
  | regA ks gs ords =>
    intro code h
    cases code <;> simp [chkC] at h
    obtain ⟨⟨rfl, h2⟩, h3⟩ := h
    exact .regA _ (chkReg_ok h2) h3
  | seq a b ih1 ih2 =>
    intro code h
    cases code <;> simp [chkC] at h
    exact .seq (ih1 _ h.1) (ih2 _ h.2)
  | cond x a b ih1 ih2 =>
    intro code h
    cases code <;> simp [chkC] at h
    exact .cond (chkX_ok h.1.1) (ih1 _ h.1.2) (ih2 _ h.2)
  | block i a ih =>
    intro code h
    cases code <;> simp [chkC] at h
    obtain ⟨rfl, h⟩ := h
    exact .block (ih _ h)
  | loop a ih =>
    intro code h
    cases code <;> simp [chkC] at h
    exact .loop (ih _ h)
  | exit i =>
    intro code h
    cases code <;> simp [chkC] at h
    subst h
    exact .exit _
  | ret =>
    intro code h
    cases code <;> simp [chkC] at h
    exact .ret

theorem chkHd_ok {np : Nat} {q : Option QH} {code : Code} {c : C} (h : chkHd P N np q code c = true) : OkHd P N np q code c := by
  unfold chkHd at h
  split at h
  · exact .plain (chkC_ok _ _ h)
  · rename_i q i0 ops0 i1 ops1 kc kB c
    split at h
    · rename_i o0 o1 o2 ho0 ho1
      obtain rfl := arr1 ho0
      obtain rfl := arr2 ho1
      simp only [Bool.and_eq_true, decide_eq_true_eq] at h
      obtain ⟨⟨⟨⟨⟨⟨⟨⟨⟨a1, a2⟩, a3⟩, a4⟩, a5⟩, a6⟩, a7⟩, a8⟩, a9⟩, a10⟩ := h
      split at a10
      · rename_i t d t' e0 e1 e2
        simp only [Bool.and_eq_true, beq_iff_eq] at a10
        obtain ⟨rfl, b2⟩ := a10
        obtain ⟨el, hel⟩ := Option.isSome_iff_exists.1 b2
        exact .nilq (chkG_ok a1) (chkG_ok a2) e0 e1 a3 a4 (by simpa using a5) e2 (elOf_ok hel) a6 a7 (chkC_ok _ _ a8) (chkC_ok _ _ a9)
      · simp at a10
    · simp at h
  · simp at h

theorem chkFn_ok {f : FuncId} {F : Fn} (h : chkFn P f F = true) : OkFn P f F := by
  unfold chkFn at h
  split at h
  · rename_i fn hf
    split at h
    · rename_i code hc
      simp only [Bool.and_eq_true, Bool.not_eq_true', decide_eq_true_eq] at h
      obtain ⟨⟨⟨h1, h2⟩, h3⟩, h4⟩ := h
      refine ⟨fn, code, hf, hc, h1, h2, chkHd_ok h3, all2_ok ?_ _ _ h4⟩
      intro r v hv
      unfold chkRV at hv
      split at hv
      · obtain rfl := by simpa using hv
        exact .tmp _
      · simp only [Bool.and_eq_true, beq_iff_eq] at hv
        obtain ⟨rfl, hv⟩ := hv
        exact .cell (chkLd_ok hv)
      · simp at hv
    · simp at h
  · simp at h
end
end Go.Proofs.Ytdblfocadcgmaaa.Ev
namespace Go.Proofs.Ytdblfocadcgmaaa.Ev
open Go

/-! ### plain helpers -/
def at? {α : Type} (xs : List α) (i : Int) : Option α := if 0 ≤ i then xs[i.toNat]? else none
def app? {α : Type} (xs ys : List α) : Option (List α) := if xs.length + ys.length < 4294967296 then some (xs ++ ys) else none
def mk? (n c : Int) : Option Unit := if 0 ≤ n ∧ n ≤ c ∧ c < 4294967296 then some () else none
def sub? {α : Type} (xs : List α) (lo hi : Int) : Option (List α) := if 0 ≤ lo ∧ lo ≤ hi ∧ hi ≤ (xs.length : Int) then some ((xs.drop lo.toNat).take (hi.toNat - lo.toNat)) else none
def nz? (b : Int) : Option Unit := if b = 0 then none else some ()
def nn? (b : Int) : Option Unit := if b < 0 then none else some ()
def cat? (a b : List UInt8) : Option (List UInt8) := if a.length + b.length < 4294967296 then some (a ++ b) else none
def len? {α : Type} (a : List α) : Option Unit := if a.length < 4294967296 then some () else none
abbrev w64 (n : Int) : Int := IntKind.wrap .i64 n

theorem at_lt {α : Type} {xs : List α} {i : Int} {v : α} (h : at? xs i = some v) : 0 ≤ i ∧ i < xs.length := by
  unfold at? at h
  split at h
  · rename_i h0
    obtain ⟨h1, _⟩ := List.getElem?_eq_some_iff.1 h
    exact ⟨h0, by omega⟩
  · cases h
theorem at_get {α : Type} {xs : List α} {i : Int} {v : α} (h : at? xs i = some v) : xs[i.toNat]? = some v := by
  unfold at? at h
  split at h
  · exact h
  · cases h
theorem at_0 {α : Type} {xs : List α} {i : Int} {v : α} (h : at? xs i = some v) : 0 ≤ i := (at_lt h).1
theorem app_eq {α : Type} {xs ys zs : List α} (h : app? xs ys = some zs) : zs = xs ++ ys ∧ xs.length + ys.length < 4294967296 := by
  unfold app? at h
  split at h
  · rename_i h0; exact ⟨(Option.some.inj h).symm, h0⟩
  · cases h

theorem bs {α β : Type} {x : Option α} {f : α → Option β} {o : β} (h : x.bind f = some o) : ∃ v, x = some v ∧ f v = some o := Option.bind_eq_some_iff.1 h
theorem its {α : Type} {b : Bool} {x y : Option α} {o : α} (h : (if b = true then x else y) = some o) : b = true ∧ x = some o ∨ b = false ∧ y = some o := by
  cases b
  · exact .inr ⟨rfl, by simpa using h⟩
  · exact .inl ⟨rfl, by simpa using h⟩

/-! ### loops -/
inductive It {σ ρ : Type} (step : σ → Option (σ ⊕ ρ)) : σ → ρ → Prop
  | stop (s : σ) (r : ρ) : step s = some (.inr r) → It step s r
  | go (s s' : σ) (r : ρ) : step s = some (.inl s') → It step s' r → It step s r

theorem It.det {σ ρ : Type} {step : σ → Option (σ ⊕ ρ)} {s : σ} {r r' : ρ} (h : It step s r) (k : It step s r') : r = r' := by
  induction h with
  | stop s r h =>
    cases k with
    | stop _ _ h' => rw [h] at h'; simpa using h'
    | go _ s' _ h' _ => rw [h] at h'; simp at h'
  | go s s' r h _ ih =>
    cases k with
    | stop _ _ h' => rw [h] at h'; simp at h'
    | go _ s2 _ h' k' =>
      rw [h] at h'
      obtain rfl : s' = s2 := by simpa using h'
      exact ih k'

open Classical in
noncomputable def iter {σ ρ : Type} (step : σ → Option (σ ⊕ ρ)) (s : σ) : Option ρ := if h : ∃ r, It step s r then some h.choose else none

theorem iter_it {σ ρ : Type} {step : σ → Option (σ ⊕ ρ)} {s : σ} {r : ρ} : iter step s = some r ↔ It step s r := by
  unfold iter
  constructor
  · intro h
    split at h
    · rename_i hex
      obtain rfl := by simpa using h
      exact hex.choose_spec
    · cases h
  · intro h
    have hex : ∃ r, It step s r := ⟨r, h⟩
    rw [dif_pos hex, hex.choose_spec.det h]

theorem iter_stop {σ ρ : Type} {step : σ → Option (σ ⊕ ρ)} {s : σ} {r : ρ} (h : step s = some (.inr r)) : iter step s = some r := iter_it.2 (.stop _ _ h)
theorem iter_go {σ ρ : Type} {step : σ → Option (σ ⊕ ρ)} {s s' : σ} (h : step s = some (.inl s')) : iter step s = iter step s' := by
  cases h' : iter step s' with
  | some r => exact iter_it.2 (.go _ _ _ h (iter_it.1 h'))
  | none =>
    cases h2 : iter step s with
    | none => rfl
    | some r =>
      cases iter_it.1 h2 with
      | stop _ _ k => rw [h] at k; simp at k
      | go _ s2 _ k k2 =>
        rw [h] at k
        obtain rfl : s' = s2 := by simpa using k
        rw [iter_it.2 k2] at h'
        cases h'

/-! ### codes -/
section
variable {R : Run} {nr : Nat} {ρ : Type} {Q : ρ → Ex → St → Prop} {o : ρ}

def Wp (R : Run) (nr : Nat) (c : C) (st : St) (Q : ρ → Ex → St → Prop) (o : ρ) : Prop := ∃ e st', Ev R nr c st e st' ∧ Q o e st'

theorem wp_mono {ρ' : Type} {c : C} {st : St} {Q' : ρ' → Ex → St → Prop} {o' : ρ'} (h : Wp R nr c st Q' o') (hq : ∀ e st', Q' o' e st' → Q o e st') : Wp R nr c st Q o := by
  obtain ⟨e, st', h1, h2⟩ := h
  exact ⟨e, st', h1, hq _ _ h2⟩
theorem wp_skip {st : St} (h : Q o .normal st) : Wp R nr .skip st Q o := ⟨_, _, .skip _, h⟩
theorem wp_ret {st : St} (h : Q o .ret st) : Wp R nr .ret st Q o := ⟨_, _, .ret _, h⟩
theorem wp_exit {id : Nat} {st : St} (h : Q o (.exit id) st) : Wp R nr (.exit id) st Q o := ⟨_, _, .exit _ _, h⟩
theorem wp_reg {gs : List G} {s s' : Env} {hp hp' : Hp} {nx nx' : Nat} (n : nx + 16 * gs.length = nx') (h : evL R nx gs s hp = some (s', hp')) (q : Q o .normal ⟨s', hp', nx'⟩) : Wp R nr (.reg gs) ⟨s, hp, nx⟩ Q o := by
  subst n
  exact ⟨_, _, .reg _ _ _ (by simp [evReg, h]), q⟩

def seqQ (R : Run) (nr : Nat) (b : C) (Q : ρ → Ex → St → Prop) (o : ρ) : Ex → St → Prop
  | .normal, st => Wp R nr b st Q o
  | .exit id, st => Q o (.exit id) st
  | .ret, st => Q o .ret st
theorem seqQ_n {b : C} {st : St} (h : Wp R nr b st Q o) : seqQ R nr b Q o .normal st := h
theorem seqQ_e {b : C} {st : St} {id : Nat} (h : Q o (.exit id) st) : seqQ R nr b Q o (.exit id) st := h
theorem seqQ_r {b : C} {st : St} (h : Q o .ret st) : seqQ R nr b Q o .ret st := h
theorem wp_seq {a b : C} {st : St} (h : Wp R nr a st (seqQ R nr b Q) o) : Wp R nr (.seq a b) st Q o := by
  obtain ⟨e, st', h1, h2⟩ := h
  cases e with
  | normal => obtain ⟨e2, st2, h3, h4⟩ := h2; exact ⟨_, _, .seqN _ _ _ _ _ _ h1 h3, h4⟩
  | exit id => exact ⟨_, _, .seqX _ _ _ _ _ h1 (by simp), h2⟩
  | ret => exact ⟨_, _, .seqX _ _ _ _ _ h1 (by simp), h2⟩

theorem wp_ct {x : X} {a b : C} {s : Env} {hp : Hp} {nx : Nat} {c : Bool} (hx : x.ev s = .vw [] (.bool c)) (hc : c = true) (h : Wp R nr a ⟨s, hp, nx⟩ Q o) : Wp R nr (.cond x a b) ⟨s, hp, nx⟩ Q o := by
  subst hc
  obtain ⟨e, st', h1, h2⟩ := h
  exact ⟨_, _, .condT _ _ _ _ _ _ hx h1, h2⟩
theorem wp_cf {x : X} {a b : C} {s : Env} {hp : Hp} {nx : Nat} {c : Bool} (hx : x.ev s = .vw [] (.bool c)) (hc : c = false) (h : Wp R nr b ⟨s, hp, nx⟩ Q o) : Wp R nr (.cond x a b) ⟨s, hp, nx⟩ Q o := by
  subst hc
  obtain ⟨e, st', h1, h2⟩ := h
  exact ⟨_, _, .condF _ _ _ _ _ _ hx h1, h2⟩

def blkQ (id : Nat) (Q : ρ → Ex → St → Prop) : ρ → Ex → St → Prop := fun o e st => Q o (e.blk id) st
theorem blkQ_n {id : Nat} {st : St} (h : Q o .normal st) : blkQ id Q o .normal st := h
theorem blkQ_r {id : Nat} {st : St} (h : Q o .ret st) : blkQ id Q o .ret st := h
theorem blkQ_h {id : Nat} {st : St} (h : Q o .normal st) : blkQ id Q o (.exit id) st := by simpa [blkQ, Ex.blk] using h
theorem blkQ_e {id i : Nat} {st : St} (hn : Nat.beq i id = false) (h : Q o (.exit i) st) : blkQ id Q o (.exit i) st := by
  have : i ≠ id := by intro hc; subst hc; simp at hn
  simpa [blkQ, Ex.blk, this] using h
theorem wp_blk {id : Nat} {a : C} {st : St} (h : Wp R nr a st (blkQ id Q) o) : Wp R nr (.block id a) st Q o := by
  obtain ⟨e, st', h1, h2⟩ := h
  exact ⟨_, _, .block _ _ _ _ _ h1, h2⟩

def gcQ (nr : Nat) (ks : List Nat) (Q : ρ → Ex → St → Prop) (o : ρ) : Ex → St → Prop
  | .normal, st => Q o .normal (gc nr ks st)
  | .exit id, st => Q o (.exit id) st
  | .ret, st => Q o .ret st
theorem gcQ_n {ks : List Nat} {st st' : St} (he : gc nr ks st = st') (h : Q o .normal st') : gcQ nr ks Q o .normal st := by subst he; exact h
theorem gcQ_e {ks : List Nat} {st : St} {id : Nat} (h : Q o (.exit id) st) : gcQ nr ks Q o (.exit id) st := h
theorem gcQ_r {ks : List Nat} {st : St} (h : Q o .ret st) : gcQ nr ks Q o .ret st := h
theorem wp_gc {ks : List Nat} {a : C} {st : St} (h : Wp R nr a st (gcQ nr ks Q) o) : Wp R nr (.gc ks a) st Q o := by
  obtain ⟨e, st', h1, h2⟩ := h
  cases e with
  | normal => exact ⟨_, _, .gcN _ _ _ _ h1, h2⟩
  | exit id => exact ⟨_, _, .gcX _ _ _ _ _ h1 (by simp), h2⟩
  | ret => exact ⟨_, _, .gcX _ _ _ _ _ h1 (by simp), h2⟩

theorem wp_pre {ks : List Nat} {a : C} {st st' : St} (he : gc nr ks st = st') (h : Wp R nr a st' Q o) : Wp R nr (.pre ks a) st Q o := by
  subst he
  obtain ⟨e, st2, h1, h2⟩ := h
  exact ⟨e, st2, .pre _ _ _ _ _ h1, h2⟩
/-- Ways that meet again. -/
def joinQ {ν : Type} (nr : Nat) (ks : List Nat) (J : ν → Option ρ) (S : ν → St) (Q : ρ → Ex → St → Prop) (o : ρ) : Ex → St → Prop
  | .normal, st => ∃ v, J v = some o ∧ gc nr ks st = S v
  | .exit id, st => Q o (.exit id) st
  | .ret, st => Q o .ret st
theorem joinQ_n {ν : Type} {ks : List Nat} {J : ν → Option ρ} {S : ν → St} {st : St} (v : ν) (h : J v = some o) (hs : gc nr ks st = S v) : joinQ nr ks J S Q o .normal st := ⟨v, h, hs⟩
theorem joinQ_e {ν : Type} {ks : List Nat} {J : ν → Option ρ} {S : ν → St} {st : St} {id : Nat} (h : Q o (.exit id) st) : joinQ nr ks J S Q o (.exit id) st := h
theorem joinQ_r {ν : Type} {ks : List Nat} {J : ν → Option ρ} {S : ν → St} {st : St} (h : Q o .ret st) : joinQ nr ks J S Q o .ret st := h
theorem wp_join {ν : Type} {ks : List Nat} {a : C} {st : St} (J : ν → Option ρ) (S : ν → St) (hj : ∀ v o, J v = some o → Q o .normal (S v)) (h : Wp R nr a st (joinQ nr ks J S Q) o) : Wp R nr (.gc ks a) st Q o := by
  obtain ⟨e, st', h1, h2⟩ := h
  cases e with
  | normal => obtain ⟨v, h3, h4⟩ := h2; exact ⟨_, _, .gcN _ _ _ _ h1, h4 ▸ hj v o h3⟩
  | exit id => exact ⟨_, _, .gcX _ _ _ _ _ h1 (by simp), h2⟩
  | ret => exact ⟨_, _, .gcX _ _ _ _ _ h1 (by simp), h2⟩

def loopQ {σ : Type} (S : σ → St) (Q : ρ → Ex → St → Prop) : σ ⊕ ρ → Ex → St → Prop
  | .inl s, e, st => e = .normal ∧ st = S s
  | .inr r, e, st => e ≠ .normal ∧ Q r e st
theorem loopQ_n {σ : Type} {S : σ → St} {s : σ} {st : St} (h : st = S s) : loopQ S Q (.inl s) .normal st := ⟨rfl, h⟩
theorem loopQ_e {σ : Type} {S : σ → St} {r : ρ} {id : Nat} {st : St} (h : Q r (.exit id) st) : loopQ S Q (.inr r) (.exit id) st := ⟨by simp, h⟩
theorem loopQ_r {σ : Type} {S : σ → St} {r : ρ} {st : St} (h : Q r .ret st) : loopQ S Q (.inr r) .ret st := ⟨by simp, h⟩
theorem wp_loop {σ : Type} {a : C} {step : σ → Option (σ ⊕ ρ)} {s0 : σ} {v : ρ} (S : σ → St) (Q : ρ → Ex → St → Prop) (h : iter step s0 = some v) (hb : ∀ s o, step s = some o → Wp R nr a (S s) (loopQ S Q) o) : Wp R nr (.loop a) (S s0) Q v := by
  replace h := iter_it.1 h
  induction h with
  | stop s r h =>
    obtain ⟨e, st', h1, h2, h3⟩ := hb _ _ h
    exact ⟨e, st', .loopX _ _ _ _ h1 h2, h3⟩
  | go s s' r h _ ih =>
    obtain ⟨e, st', h1, h2, h3⟩ := hb _ _ h
    subst h2
    subst h3
    obtain ⟨e2, st2, h4, h5⟩ := ih
    exact ⟨e2, st2, .loopN _ _ _ _ _ h1 h4, h5⟩
end
variable {R : Run} {nr : Nat}

/-! ### names anew -/
def al {α : Type} (d : α) : List (Nat × α) → Nat → α
  | [] => fun _ => d
  | (k, v) :: r => upd (al d r) k v

def gcHL (nr : Nat) (h : Hp) (l : List Name) : List (Option T) := (List.range nr).map h ++ l.map h
def hl (ts : List (Option T)) : Hp := fun n => (ts[n]?).join
theorem gcH_hl (h : Hp) (l : List Name) : gcH nr h l = hl (gcHL nr h l) := by
  funext n
  unfold gcH hl gcHL
  by_cases hn : n < nr
  · rw [if_pos hn, List.getElem?_append_left (by simpa using hn)]
    simp [hn]
  · rw [if_neg hn, List.getElem?_append_right (by simpa using Nat.le_of_not_lt hn)]
    simp only [List.length_map, List.length_range, List.getElem?_map]
    cases l[n - nr]? <;> rfl

theorem gcE_al (l : List Name) (s : Env) (ks : List Nat) : gcE nr l s ks = al .dead (ks.map fun k => (k, gcS nr l (s k))) := by
  induction ks with
  | nil => rfl
  | cons k ks ih => simp only [gcE, List.map, al, ih]

theorem gc_to {ks : List Nat} {s : Env} {h : Hp} {nx : Nat} (l : List Name) {e : List (Nat × SV)} {ts : List (Option T)} {n : Nat} (hl' : insL [] (old nr (namesOf s ks)) = l) (he : (ks.map fun k => (k, gcS nr l (s k))) = e) (hh : gcHL nr h l = ts) (hn : nr + l.length = n) : gc nr ks ⟨s, h, nx⟩ = ⟨al .dead e, hl ts, n⟩ := by
  subst hn hh he hl'
  simp only [gc, gcE_al, gcH_hl]

/-! ### functions -/
def QF {ρ : Type} (nr : Nat) (F : Fn) (enc : ρ → T × List T) : ρ → Ex → St → Prop := fun o e st => e.ends ∧ outs nr F st = some (enc o)
theorem qf_r {ρ : Type} {F : Fn} {enc : ρ → T × List T} {o : ρ} {st : St} (h : outs nr F st = some (enc o)) : QF nr F enc o .ret st := ⟨trivial, h⟩
theorem qf_n {ρ : Type} {F : Fn} {enc : ρ → T × List T} {o : ρ} {st : St} (h : outs nr F st = some (enc o)) : QF nr F enc o .normal st := ⟨trivial, h⟩

theorem fn_run {ρ : Type} {fns : FuncId → Option Fn} {giv : Run} {f : FuncId} {F : Fn} {ts sto : List T} {st : St} {o : ρ} {nr : Nat} (enc : ρ → T × List T) (hg : giv f ts sto = none) (hf : fns f = some F) (hq : F.q = none) (hn : sto.length = nr) (hs : start F ts sto = some st) (h : Wp (run fns giv) nr F.body st (QF nr F enc) o) : run fns giv f ts sto = some (enc o) := by
  subst hn
  obtain ⟨e, st', h1, h2, h3⟩ := h
  refine run_fn hg hf ⟨by simp [hq, guess], fun c hc => ?_⟩
  obtain rfl : c = F.body := by simpa [hq, guess] using hc
  exact ⟨st, e, st', hs, h1, h2, h3⟩

/-- A function that begins with 'the first parameter == nil'. -/
theorem fn_runq {ρ : Type} {fns : FuncId → Option Fn} {giv : Run} {f : FuncId} {F : Fn} {t : T} {ts sto : List T} {st : St} {o : ρ} {nr : Nat} {q : QH} (enc : ρ → T × List T) (hg : giv f (t :: ts) sto = none) (hf : fns f = some F) (hq : F.q = some q) (hn : sto.length = nr) (hr : t.aRow = true) (hs : start F (t :: ts) sto = some st)
    (h0 : Wp (run fns giv) nr (q.body false) st (QF nr F enc) o) (h1 : t.void = true → Wp (run fns giv) nr (q.body true) st (QF nr F enc) o) : run fns giv f (t :: ts) sto = some (enc o) := by
  subst hn
  refine run_fn hg hf ⟨by simp only [hq, guess, hr, if_true]; split <;> simp, fun c hc => ?_⟩
  have : c = q.body false ∨ c = q.body true ∧ t.void = true := by
    simp only [hq, guess, hr, if_true] at hc
    split at hc
    · rename_i hv; simp at hc; rcases hc with h | h; exact .inl h; exact .inr ⟨h, hv⟩
    · simp at hc; exact .inl hc
  rcases this with rfl | ⟨rfl, hv⟩
  · obtain ⟨e, st', k1, k2, k3⟩ := h0
    exact ⟨_, e, st', hs, k1, k2, k3⟩
  · obtain ⟨e, st', k1, k2, k3⟩ := h1 hv
    exact ⟨_, e, st', hs, k1, k2, k3⟩

theorem outs_ok {F : Fn} {s : Env} {h : Hp} {nx : Nat} {vs : List SV} {ts : List T} {φ : Kill} {h' : Hp} {sto : List T} (hv : resSV s h F.res = some vs) (ha : retL nr h vs = some (ts, φ, h')) (hg : getAll h' (List.range nr) = some sto) (hp : sto.all T.isPtr = true) : outs nr F ⟨s, h, nx⟩ = some (one ts, sto) := by
  simp only [outs, hv, ha, hg, hp, Option.bind_some, if_true]

theorem absW_nil {f : Hp → SV → Option (T × Kill × Hp)} {h : Hp} : absW f h [] = some ([], fun _ => false, h) := rfl
theorem absW_cons {f : Hp → SV → Option (T × Kill × Hp)} {h h' h'' : Hp} {v : SV} {vs : List SV} {t : T} {ts : List T} {φ φ' : Kill} (h1 : f h v = some (t, φ, h')) (h2 : vs.any φ = false) (h3 : absW f h' vs = some (ts, φ', h'')) : absW f h (v :: vs) = some (t :: ts, fun x => φ x || φ' x, h'') := by
  simp only [absW, h1, h2, h3, Option.bind_some, Option.map_some, Bool.false_eq_true, if_false]
theorem retT_agg {h h' : Hp} {xs : List SV} {ts : List T} {φ : Kill} (h1 : absW (ret1 nr) h xs = some (ts, φ, h')) : retT nr h (.agg xs) = some (.agg ts, φ, h') := by simp [retT, h1]
theorem abs_ref {h : Hp} {m z off l : Nat} {r t : T} (hm : h m = some r) (hs : r.sub off l = some t) : SV.abs h (.ref m [] z off l) = some (t, SV.nam m, upd h m none) := by simp [SV.abs, hm, hs]
theorem ret1_ref {h : Hp} {m z off l : Nat} {p : Path} {o : T × Kill × Hp} (h1 : SV.abs h (.ref m p z off l) = some o) : ret1 nr h (.ref m p z off l) = some o := h1
theorem retT_ref {h : Hp} {m z off l : Nat} {p : Path} {o : T × Kill × Hp} (h1 : SV.abs h (.ref m p z off l) = some o) : retT nr h (.ref m p z off l) = some o := h1
theorem abs_refp {h : Hp} {m z off l : Nat} {s : Step} {p : Path} {r u t r' : T} (hm : h m = some r) (hu : r.rget (s :: p) = some u) (hs : u.sub off l = some t) (hp : r.rput .dead (s :: p) = some r') : SV.abs h (.ref m (s :: p) z off l) = some (t, SV.und m (s :: p), upd h m (some r')) := by
  simp only [SV.abs, hm, Option.bind_some, hu, hs, hp, Option.map_some]
theorem sub_i {k : IntKind} {xs : List Int} : (T.ints k xs).sub 0 xs.length = some (.ints k xs) := by simp [T.sub]
theorem sub_r {α : Type} {z : Nat} {e : α → T} {xs : List α} : (T.rows z (xs.map e)).sub 0 xs.length = some (.rows z (xs.map e)) := by simp [T.sub]
end Go.Proofs.Ytdblfocadcgmaaa.Ev
namespace Go.Proofs.Ytdblfocadcgmaaa.Ev
open Go
theorem z.{u} {α : Sort u} {a : α} : a = a := rfl
variable {R : Run} {nr : Nat}

def I.pl : I → Bool
  | .st _ _ _ => false
  | .box _ => false
  | .bsl k _ _ => match k with | .deep _ => false | _ => true
  | .app _ _ _ => false
  | .call _ _ _ => false
  | .callv _ _ => false
  | .cpy _ _ _ => false
  | .trm _ _ _ _ => false
  | _ => true

theorem pl_step {i : I} (hc : i.pl = true) (s : Env) (h : Hp) (nm : Name) (d : Option Nat) : stepI R i s h nm d = (den i s h nm).map fun q => (put s d q.1, match q.2 with | some t => upd h nm (some t) | none => h) := by
  cases i <;> first | rfl | skip
  · simp [I.pl] at hc
  · simp [I.pl] at hc
  · rename_i k n ps
    cases k <;> first | rfl | simp [I.pl] at hc
  · simp [I.pl] at hc
  · simp [I.pl] at hc
  · simp [I.pl] at hc
  · simp [I.pl] at hc
  · simp [I.pl] at hc

/-- What is killed, the value looked at once. -/
def kvS (φ : Kill) : SV → SV
  | .vw a b => bif φ (.vw a b) then .dead else .vw a b
  | .pv a b => bif φ (.pv a b) then .dead else .pv a b
  | .nilS a => bif φ (.nilS a) then .dead else .nilS a
  | .ref a b c d e => bif φ (.ref a b c d e) then .dead else .ref a b c d e
  | .ptr a b c => bif φ (.ptr a b c) then .dead else .ptr a b c
  | .agg a => bif φ (.agg a) then .dead else .agg a
  | .tup a => bif φ (.tup a) then .dead else .tup a
  | .fn a b => bif φ (.fn a b) then .dead else .fn a b
  | .undef => bif φ (.undef) then .dead else .undef
  | .dead => bif φ (.dead) then .dead else .dead
def kilS (φ : Kill) (s : Env) : Env := fun k => kvS φ (s k)
theorem kilS_eq (φ : Kill) (s : Env) : kilS φ s = kil φ s := by
  funext k
  unfold kilS kil
  generalize s k = v
  cases v <;> simp only [kvS] <;> generalize φ _ = b <;> cases b <;> rfl

section
variable {nm d j : Nat} {i : I} {gs : List G} {s s' : Env} {h h' : Hp} {q : Env × Hp}
theorem ev_nil : evL R nm [] s h = some (s, h) := rfl
theorem ev_den (v : SV) (hc : i.pl = true) (hd : den i s h nm = some (v, none)) (r : evL R (nm + 16) gs (upd s d v) h = some q) : evL R nm (⟨some d, none, i⟩ :: gs) s h = some q := by
  simp only [evL, stepG, pl_step hc, hd, Option.map_some, Option.bind_some, put]
  exact r
theorem ev_v {ds : List Name} {t : T} (hc : i.pl = true) (hd : den i s h nm = some (.vw ds t, none)) (r : evL R (nm + 16) gs (upd s d (.vw ds t)) h = some q) : evL R nm (⟨some d, none, i⟩ :: gs) s h = some q := ev_den _ hc hd r
theorem ev_new (v : SV) (t : T) (hc : i.pl = true) (hd : den i s h nm = some (v, some t)) (r : evL R (nm + 16) gs (upd s d v) (upd h nm (some t)) = some q) : evL R nm (⟨some d, none, i⟩ :: gs) s h = some q := by
  simp only [evL, stepG, pl_step hc, hd, Option.map_some, Option.bind_some, put]
  exact r
theorem ev_wr {v : SV} {φ : Kill} (hc : i.isM = true) (hd : wr i s h nm = some (v, φ, h')) (r : evL R (nm + 16) gs (upd (kilS φ s) d v) h' = some q) : evL R nm (⟨some d, none, i⟩ :: gs) s h = some q := by
  rw [kilS_eq] at r
  have : stepI R i s h nm (some d) = some (upd (kil φ s) d v, h') := by
    cases i <;> first | (simp [I.isM] at hc; done) | simp only [stepI, hd, hc, if_true, Option.map_some, put]
  simp only [evL, stepG, this, Option.bind_some]
  exact r
theorem ev_wr0 {v : SV} {φ : Kill} (hc : i.isM = true) (hd : wr i s h nm = some (v, φ, h')) (r : evL R (nm + 16) gs (kilS φ s) h' = some q) : evL R nm (⟨none, none, i⟩ :: gs) s h = some q := by
  rw [kilS_eq] at r
  have : stepI R i s h nm none = some (kil φ s, h') := by
    cases i <;> first | (simp [I.isM] at hc; done) | simp only [stepI, hd, hc, if_true, Option.map_some, put]
  simp only [evL, stepG, this, Option.bind_some]
  exact r
theorem ev_on {b want : Bool} {d : Option Nat} (hj : s j = .vw [] (.bool b)) (hb : b = want) (r : evL R nm (⟨d, none, i⟩ :: gs) s h = some q) : evL R nm (⟨d, some (j, want), i⟩ :: gs) s h = some q := by
  subst hb
  simpa only [evL, stepG, hj, if_true] using r
theorem ev_off {b want : Bool} (hj : s j = .vw [] (.bool b)) (hb : b = !want) (r : evL R (nm + 16) gs (upd s d .undef) h = some q) : evL R nm (⟨some d, some (j, want), i⟩ :: gs) s h = some q := by
  subst hb
  simp only [evL, stepG, hj]
  rw [if_neg (by simp)]
  exact r
theorem ev_un {want : Bool} (hj : s j = .undef) (r : evL R (nm + 16) gs (upd s d .undef) h = some q) : evL R nm (⟨some d, some (j, want), i⟩ :: gs) s h = some q := by
  simp only [evL, stepG, hj, Option.bind_some, put]
  exact r
theorem ev_off0 {b want : Bool} (hj : s j = .vw [] (.bool b)) (hb : b = !want) (r : evL R (nm + 16) gs s h = some q) : evL R nm (⟨none, some (j, want), i⟩ :: gs) s h = some q := by
  subst hb
  simp only [evL, stepG, hj]
  rw [if_neg (by simp)]
  exact r
theorem ev_un0 {want : Bool} (hj : s j = .undef) (r : evL R (nm + 16) gs s h = some q) : evL R nm (⟨none, some (j, want), i⟩ :: gs) s h = some q := by
  simp only [evL, stepG, hj, Option.bind_some, put]
  exact r
theorem ev_call0 {f : FuncId} {xs : List X} {v : SV} {φ : Kill} (vs : List SV) (hv : xs.map (X.ev s) = vs) (hd : callSV R false f vs h nm = some (v, φ, h')) (r : evL R (nm + 16) gs (upd s d v) h' = some q) : evL R nm (⟨some d, none, .call false f xs⟩ :: gs) s h = some q := by
  subst hv
  simp only [evL, stepG, stepI, hd, Option.map_some, Option.bind_some, put]
  exact r
theorem ev_call1 {f : FuncId} {xs : List X} {v : SV} {φ : Kill} (vs : List SV) (hv : xs.map (X.ev s) = vs) (hd : callSV R true f vs h nm = some (v, φ, h')) (r : evL R (nm + 16) gs (upd (kilS φ s) d v) h' = some q) : evL R nm (⟨some d, none, .call true f xs⟩ :: gs) s h = some q := by
  rw [kilS_eq] at r
  subst hv
  simp only [evL, stepG, stepI, hd, Option.map_some, Option.bind_some, put]
  exact r
theorem ev_callv {f : FuncId} {x : X} {cs : List SV} {xs : List X} {v : SV} {φ : Kill} (vs : List SV) (hx : x.ev s = .fn f cs) (hv : xs.map (X.ev s) ++ cs = vs) (hd : callSV R true f vs h nm = some (v, φ, h')) (r : evL R (nm + 16) gs (upd (kilS φ s) d v) h' = some q) : evL R nm (⟨some d, none, .callv x xs⟩ :: gs) s h = some q := by
  rw [kilS_eq] at r
  subst hv
  simp only [evL, stepG, stepI, hx, hd, Option.map_some, Option.bind_some, put]
  exact r
/-- A call without a result that is kept. -/
theorem ev_call1n {f : FuncId} {xs : List X} {v : SV} {φ : Kill} (vs : List SV) (hv : xs.map (X.ev s) = vs) (hd : callSV R true f vs h nm = some (v, φ, h')) (r : evL R (nm + 16) gs (kilS φ s) h' = some q) : evL R nm (⟨none, none, .call true f xs⟩ :: gs) s h = some q := by
  rw [kilS_eq] at r
  subst hv
  simp only [evL, stepG, stepI, hd, Option.map_some, Option.bind_some, put]
  exact r
theorem ev_callvn {f : FuncId} {x : X} {cs : List SV} {xs : List X} {v : SV} {φ : Kill} (vs : List SV) (hx : x.ev s = .fn f cs) (hv : xs.map (X.ev s) ++ cs = vs) (hd : callSV R true f vs h nm = some (v, φ, h')) (r : evL R (nm + 16) gs (kilS φ s) h' = some q) : evL R nm (⟨none, none, .callv x xs⟩ :: gs) s h = some q := by
  rw [kilS_eq] at r
  subst hv
  simp only [evL, stepG, stepI, hx, hd, Option.map_some, Option.bind_some, put]
  exact r
end

/-! ### values -/
section
variable {s : Env} {h h' : Hp} {nm : Nat} {α : Type}

theorem d_quo {x y : X} {k : IntKind} {a b : Int} {u : Unit} (hx : x.ev s = .vw [] (.int k a)) (hy : y.ev s = .vw [] (.int k b)) (hb : nz? b = some u) : den (.bin false .quo x y) s h nm = some (.vw [] (.int k (k.wrap (a.tdiv b))), none) := by
  have : b ≠ 0 := by intro hc; simp [nz?, hc] at hb
  simp [den, hx, hy, binSV, intBin, this]
theorem d_rem {x y : X} {k : IntKind} {a b : Int} {u : Unit} (hx : x.ev s = .vw [] (.int k a)) (hy : y.ev s = .vw [] (.int k b)) (hb : nz? b = some u) : den (.bin false .rem x y) s h nm = some (.vw [] (.int k (a.tmod b)), none) := by
  have : b ≠ 0 := by intro hc; simp [nz?, hc] at hb
  simp [den, hx, hy, binSV, intBin, this]
theorem d_shl {x y : X} {k k' : IntKind} {a b : Int} {u : Unit} (hx : x.ev s = .vw [] (.int k a)) (hy : y.ev s = .vw [] (.int k' b)) (hb : nn? b = some u) : den (.bin false .shl x y) s h nm = some (.vw [] (.int k (k.wrap (a * 2 ^ (min b.toNat k.bits)))), none) := by
  have : ¬ b < 0 := by intro hc; simp [nn?, hc] at hb
  simp [den, hx, hy, binSV, shBin, this]
theorem d_shr {x y : X} {k k' : IntKind} {a b : Int} {u : Unit} (hx : x.ev s = .vw [] (.int k a)) (hy : y.ev s = .vw [] (.int k' b)) (hb : nn? b = some u) : den (.bin false .shr x y) s h nm = some (.vw [] (.int k (a.fdiv (2 ^ (min b.toNat k.bits)))), none) := by
  have : ¬ b < 0 := by intro hc; simp [nn?, hc] at hb
  simp [den, hx, hy, binSV, shBin, this]
theorem d_cat {x y : X} {a b c : List UInt8} (hx : x.ev s = .vw [] (.str a)) (hy : y.ev s = .vw [] (.str b)) (hb : cat? a b = some c) : den (.bin false .add x y) s h nm = some (.vw [] (.str c), none) := by
  unfold cat? at hb
  split at hb
  · rename_i hl
    obtain rfl := by simpa using hb
    simp [den, hx, hy, binSV, strBin, maxN, hl]
  · cases hb
theorem d_pick_t {c a b : X} {t : Bool} {v : SV} (hc : c.ev s = .vw [] (.bool t)) (ht : t = true) (ha : a.ev s = v) : den (.pick c a b) s h nm = some (v, none) := by
  subst ht ha
  simp only [den, hc]
  split <;> simp_all
theorem d_pick_f {c a b : X} {t : Bool} {v : SV} (hc : c.ev s = .vw [] (.bool t)) (ht : t = false) (ha : b.ev s = v) : den (.pick c a b) s h nm = some (v, none) := by
  subst ht ha
  simp only [den, hc]
  split <;> simp_all

theorem d_len_vr {x : X} {ds : List Name} {z : Nat} {xs : List α} {e : α → T} (hx : x.ev s = .vw ds (.rows z (xs.map e))) : den (.len false x) s h nm = some (.vw [] (.int .i64 (xs.length : Int)), none) := by
  simp [den, hx, lenSV]
theorem d_idx_vi {a : Bool} {x i : X} {ds : List Name} {k ki : IntKind} {xs : List Int} {n v : Int} (hx : x.ev s = .vw ds (.ints k xs)) (hi : i.ev s = .vw [] (.int ki n)) (hv : at? xs n = some v) : den (.idx 1 a x i) s h nm = some (.pv ds (.int k v), none) := by
  simp [den, hx, hi, SV.int?, idxSV, at_0 hv, at_get hv]
theorem d_idx_vr {z : Nat} {a : Bool} {x i : X} {ds : List Name} {ki : IntKind} {xs : List α} {n : Int} {v : α} (e : α → T) (hx : x.ev s = .vw ds (.rows z (xs.map e))) (hi : i.ev s = .vw [] (.int ki n)) (hv : at? xs n = some v) : den (.idx z a x i) s h nm = some (.pv ds (e v), none) := by
  simp [den, hx, hi, SV.int?, idxSV, at_0 hv, at_get hv]
theorem d_idx_r {z m : Nat} {p : Path} {a : Bool} {x i : X} {ki : IntKind} {xs : List α} {n : Int} {v : α} (hx : x.ev s = .ref m p z 0 xs.length) (hi : i.ev s = .vw [] (.int ki n)) (hv : at? xs n = some v) : den (.idx z a x i) s h nm = some (.ptr m (p ++ [.e n.toNat]) (if a then some 0 else none), none) := by
  simp [den, hx, hi, SV.int?, idxSV, (at_lt hv).1, (at_lt hv).2, addNat]
theorem d_sidx {x i : X} {k : IntKind} {b : List UInt8} {n : Int} {c : UInt8} (hx : x.ev s = .vw [] (.str b)) (hi : i.ev s = .vw [] (.int k n)) (hv : at? b n = some c) : den (.sidx x i) s h nm = some (.vw [] (.int .u8 c.toNat), none) := by
  simp [den, hx, hi, SV.int?, at_0 hv, at_get hv]
theorem d_mks_i {k ka kb : IntKind} {z : T} {n c : X} {a b : Int} {u : Unit} (hn : n.ev s = .vw [] (.int ka a)) (hc : c.ev s = .vw [] (.int kb b)) (hm : mk? a b = some u) : den (.mks (.ik k) z n c) s h nm = some (.ref nm [] 1 0 (List.replicate a.toNat (0 : Int)).length, some (.ints k (List.replicate a.toNat 0))) := by
  unfold mk? at hm
  split at hm
  · rename_i h0
    simp [den, hn, hc, SV.int?, maxN, h0, Knd.sz, T.zeros]
  · cases hm
theorem d_mks_r {sz : Nat} {ka kb : IntKind} {z : T} {n c : X} {a b : Int} {u : Unit} (fl : Bool) (e : α → T) (z0 : α) (hz : e z0 = z) (hn : n.ev s = .vw [] (.int ka a)) (hc : c.ev s = .vw [] (.int kb b)) (hm : mk? a b = some u) : den (.mks (if fl then .flat sz else .deep sz) z n c) s h nm = some (.ref nm [] sz 0 (List.replicate a.toNat z0).length, some (.rows sz ((List.replicate a.toNat z0).map e))) := by
  unfold mk? at hm
  subst hz
  split at hm
  · rename_i h0
    cases fl <;> simp [den, hn, hc, SV.int?, maxN, h0, Knd.sz, T.zeros]
  · cases hm
theorem si_some {i : X} {k : IntKind} {n : Int} {d : Nat} (hi : i.ev s = .vw [] (.int k n)) (h0 : 0 ≤ n) : sliceInts (opt s (some i)) d = some n.toNat := by simp [opt, hi, SV.int?, sliceInts, h0]
theorem si_none {d : Nat} : sliceInts (opt s none) d = some d := rfl
/-- A part of a slice that is read; lo, hi: what the bounds come to. -/
theorem d_slc_vi {x : X} {lo hi : Option X} {ds : List Name} {k : IntKind} {xs ys : List Int} {a b : Int} (hx : x.ev s = .vw ds (.ints k xs)) (hs : sub? xs a b = some ys) (hlo : 0 ≤ a → sliceInts (opt s lo) 0 = some a.toNat) (hhi : 0 ≤ b → sliceInts (opt s hi) xs.length = some b.toNat) : den (.slc false 1 x lo hi) s h nm = some (.vw ds (.ints k ys), none) := by
  unfold sub? at hs
  split at hs
  · rename_i h0
    obtain ⟨h1, h2, h3⟩ := h0
    obtain rfl := Option.some.inj hs
    have hb : a.toNat ≤ b.toNat ∧ b.toNat ≤ xs.length := by omega
    simp [den, hx, slcSV, hlo h1, hhi (by omega), hb]; omega
  · cases hs
theorem d_slc_vr {x : X} {z : Nat} {lo hi : Option X} {ds : List Name} {xs ys : List α} {e : α → T} {a b : Int} (hx : x.ev s = .vw ds (.rows z (xs.map e))) (hs : sub? xs a b = some ys) (hlo : 0 ≤ a → sliceInts (opt s lo) 0 = some a.toNat) (hhi : 0 ≤ b → sliceInts (opt s hi) xs.length = some b.toNat) : den (.slc false z x lo hi) s h nm = some (.vw ds (.rows z (ys.map e)), none) := by
  unfold sub? at hs
  split at hs
  · rename_i h0
    obtain ⟨h1, h2, h3⟩ := h0
    obtain rfl := Option.some.inj hs
    have hb : a.toNat ≤ b.toNat ∧ b.toNat ≤ xs.length := by omega
    simp [den, hx, slcSV, hlo h1, hhi (by omega), hb, List.map_take, List.map_drop]; omega
  · cases hs
theorem d_slc_s {x : X} {z : Nat} {lo hi : Option X} {ds : List Name} {xs ys : List UInt8} {a b : Int} (hx : x.ev s = .vw ds (.str xs)) (hs : sub? xs a b = some ys) (hlo : 0 ≤ a → sliceInts (opt s lo) 0 = some a.toNat) (hhi : 0 ≤ b → sliceInts (opt s hi) xs.length = some b.toNat) : den (.slc true z x lo hi) s h nm = some (.vw ds (.str ys), none) := by
  unfold sub? at hs
  split at hs
  · rename_i h0
    obtain ⟨h1, h2, h3⟩ := h0
    obtain rfl := Option.some.inj hs
    have hb : a.toNat ≤ b.toNat ∧ b.toNat ≤ xs.length := by omega
    simp [den, hx, slcSV, hlo h1, hhi (by omega), hb]; omega
  · cases hs
theorem d_cvsb {x : X} {ds : List Name} {b : List UInt8} {u : Unit} (hx : x.ev s = .vw ds (.str b)) (hl : len? b = some u) : den (.cvsb x) s h nm = some (.ref nm [] 1 0 (b.map fun c => (c.toNat : Int)).length, some (.ints .u8 (b.map fun c => (c.toNat : Int)))) := by
  unfold len? at hl
  split at hl
  · rename_i h0; simp [den, hx, maxN, h0]
  · cases hl

/-! ### paths -/
theorem get_nil {t : T} : t.get [] = some t := rfl
theorem get_f {xs : List T} {o : Nat} {c t : T} {p : Path} (hc : xs[o]? = some c) (hr : c.get p = some t) : (T.agg xs).get (.f o :: p) = some t := by
  simp only [T.get, T.child, hc, Option.bind_some, hr]
theorem get_r {z : Nat} {e : α → T} {xs : List α} {n : Int} {v : α} {t : T} {p : Path} (hv : at? xs n = some v) (hr : (e v).get p = some t) : (T.rows z (xs.map e)).get (.e n.toNat :: p) = some t := by
  simp [T.get, T.child, at_get hv, hr]
theorem get_i {k : IntKind} {xs : List Int} {n v : Int} (hv : at? xs n = some v) : (T.ints k xs).get [.e n.toNat] = some (.int k v) := by
  simp [T.get, T.child, at_get hv]
theorem rget_of {h : Hp} {m : Nat} {r : T} {p : Path} {u : T} (hm : h m = some r) (hr : r.body.get p = some u) : ((h m).bind fun r => r.rget p) = some u := by
  simp only [hm, Option.bind_some, T.rget, hr]
theorem put_nil {t u : T} : t.put u [] = some u := rfl
theorem put_f {xs : List T} {o : Nat} {c c' u : T} {p : Path} (hc : xs[o]? = some c) (hr : c.put u p = some c') : (T.agg xs).put u (.f o :: p) = some (.agg (xs.set o c')) := by
  simp only [T.put, T.child, hc, Option.bind_some, hr, T.setChild]
theorem put_r {z : Nat} {e : α → T} {xs : List α} {n : Int} {v : α} (v' : α) {u : T} {p : Path} (hv : at? xs n = some v) (hr : (e v).put u p = some (e v')) : (T.rows z (xs.map e)).put u (.e n.toNat :: p) = some (.rows z ((xs.set n.toNat v').map e)) := by
  simp only [T.put, T.child, List.getElem?_map, at_get hv, Option.map_some, Option.bind_some, hr, T.setChild, List.map_set]
theorem put_i {k : IntKind} {xs : List Int} {n v v' : Int} (hv : at? xs n = some v) : (T.ints k xs).put (.int k v') [.e n.toNat] = some (.ints k (xs.set n.toNat v')) := by
  simp [T.put, T.child, at_get hv, T.setChild]
theorem rput_p {t u t' : T} {p : Path} (h : t.put u p = some t') : (T.ptr t).rput u p = some (.ptr t') := by simp [T.rput, h]
theorem rput_r {z : Nat} {xs : List T} {u t' : T} {p : Path} (h : (T.rows z xs).put u p = some t') : (T.rows z xs).rput u p = some t' := h
theorem rput_i {k : IntKind} {xs : List Int} {u t' : T} {p : Path} (h : (T.ints k xs).put u p = some t') : (T.ints k xs).rput u p = some t' := h

theorem cell_r {m z : Nat} {q : Path} {e : α → T} {xs : List α} : cellSV m q (.rows z (xs.map e)) = some (.ref m q z 0 xs.length) := by simp [cellSV]
/-- Loads through an address in an own block. -/
theorem d_ld_p {x : X} {m : Nat} {p : Path} {t : T} {v : SV} (hx : x.ev s = .ptr m p none) (hm : ((h m).bind fun r => r.rget p) = some t) (hv : cellSV m p t = some v) : den (.ld x none) s h nm = some (v, none) := by
  simp only [den, hx, ldSV, hm, Option.bind_some, hv, Option.map_some]
theorem d_ld_o {x : X} {m o : Nat} {p : Path} {cs : List T} {t : T} {v : SV} (hx : x.ev s = .ptr m p (some o)) (hm : ((h m).bind fun r => r.rget p) = some (.agg cs)) (ho : cs[o]? = some t) (hv : cellSV m (p ++ [.f o]) t = some v) : den (.ld x none) s h nm = some (v, none) := by
  simp only [den, hx, ldSV, hm, Option.bind_some, T.cells?, ho, hv, Option.map_some]
theorem d_ld_os {x : X} {m o k : Nat} {p : Path} {cs : List T} {vs : List SV} (hx : x.ev s = .ptr m p (some o)) (hm : ((h m).bind fun r => r.rget p) = some (.agg cs)) (ho : Nat.ble (o + k) cs.length = true) (hv : cellsSV m p o ((cs.drop o).take k) = some vs) : den (.ld x (some k)) s h nm = some (.agg vs, none) := by
  have : o + k ≤ cs.length := Nat.le_of_ble_eq_true ho
  simp only [den, hx, ldSV, hm, Option.bind_some, T.cells?, if_pos this, hv, Option.map_some]
theorem cells_nil {m o : Nat} {p : Path} : cellsSV m p o [] = some [] := rfl
theorem cells_cons {m o : Nat} {p : Path} {t : T} {ts : List T} {v : SV} {vs : List SV} (h1 : cellSV m (p ++ [.f o]) t = some v) (h2 : cellsSV m p (o + 1) ts = some vs) : cellsSV m p o (t :: ts) = some (v :: vs) := by
  simp only [cellsSV, h1, Option.bind_some, h2, Option.map_some]

/-! ### stores -/
theorem st1_of {tp v : SV} {m : Nat} {q : Path} {t r u r' : T} {φ : Kill} (ha : v.abs h = some (t, φ, h')) (h1 : φ tp = false) (h2 : h' m = some r) (h3 : r.rget q = some u) (h4 : aggT u = false) (h5 : r.rput t q = some r') : st1 h tp m q v = some ((if t.scalar && u.scalar then (fun x => φ x || x.dep m) else (fun x => φ x || x.und m q)), upd h' m (some r')) := by
  simp only [st1, ha, Option.bind_some, h1, h2, h3, h4, h5, Option.map_some, Bool.false_eq_true, if_false]
theorem w_st_p {x v : X} {m : Nat} {p : Path} {φ : Kill} (hx : x.ev s = .ptr m p none) (h1 : st1 h (.ptr m p none) m p (v.ev s) = some (φ, h')) : wr (.st 1 x v) s h nm = some (.undef, φ, h') := by
  simp only [wr, hx, h1, Option.map_some, if_true]
def SV.isAgg : SV → Bool
  | .agg _ => true
  | _ => false
theorem w_st_o {x v : X} {m o : Nat} {p : Path} {φ : Kill} (hx : x.ev s = .ptr m p (some o)) (hv : (v.ev s).isAgg = false) (h1 : st1 h (.ptr m p (some o)) m (p ++ [.f o]) (v.ev s) = some (φ, h')) : wr (.st 1 x v) s h nm = some (.undef, φ, h') := by
  generalize hw : v.ev s = w at h1 hv
  simp only [wr, hx, hw]
  cases w <;> first | (cases hv; done) | simp only [if_true, h1, Option.map_some]
theorem w_st_a {z : Nat} {x v : X} {m o : Nat} {p : Path} {vs : List SV} {φ : Kill} (hx : x.ev s = .ptr m p (some o)) (hv : v.ev s = .agg vs) (hz : z = vs.length) (h1 : stL h (.ptr m p (some o)) m p o vs = some (φ, h')) : wr (.st z x v) s h nm = some (.undef, φ, h') := by
  simp only [wr, hx, hv, if_pos hz, h1, Option.map_some]
theorem stL_nil {tp : SV} {m o : Nat} {p : Path} : stL h tp m p o [] = some (fun _ => false, h) := rfl
theorem stL_cons {tp v : SV} {m o : Nat} {p : Path} {vs : List SV} {φ φ' : Kill} {h'' : Hp} (h1 : st1 h tp m (p ++ [.f o]) v = some (φ, h')) (h2 : (vs.any φ || φ tp) = false) (h3 : stL h' tp m p (o + 1) vs = some (φ', h'')) : stL h tp m p o (v :: vs) = some (fun x => φ x || φ' x, h'') := by
  simp only [stL, h1, Option.bind_some, h2, Bool.false_eq_true, if_false, h3, Option.map_some]
theorem w_box {v : X} {sv : SV} {ts : List T} {φ : Kill} (hv : v.ev s = sv) (hs : sv.solid = true) (ha : absL h sv.cells = some (ts, φ, h')) : wr (.box v) s h nm = some (.ptr nm [] (some 0), φ, upd h' nm (some (.ptr (.agg ts)))) := by
  subst hv
  simp only [wr, if_pos hs, ha, Option.map_some]
/-- The elements of a slice of slices or structs, laid anew. -/
theorem w_bsl {sz n : Nat} {ps : List (Nat × X)} (vs : List SV) {ts : List T} {φ : Kill} (he : elems 0 n (ps.map fun q => (q.1, q.2.ev s)) = some vs) (hc : (vs.all (fun v => v.cells.length == sz) && vs.all SV.solid) = true) (ha : absAL h vs = some (ts, φ, h')) : wr (.bsl (.deep sz) n ps) s h nm = some (.ref nm [] sz 0 n, φ, upd h' nm (some (.rows sz ts))) := by
  simp only [wr, he, Option.bind_some, hc, if_true, ha, Option.map_some]
theorem absA_agg {xs : List SV} {ts : List T} {φ : Kill} (h1 : absL h xs = some (ts, φ, h')) : absA h (.agg xs) = some (.agg ts, φ, h') := by simp [absA, h1]

/-! ### appending -/
theorem rb_ref {k : IntKind} {m z : Nat} {p : Path} {ys : List Int} {l : Nat} (hm : ((h m).bind fun r => r.rget p) = some (.ints k ys)) (hl : l = ys.length) : readBytes h k (.ref m p z 0 l) = some ys := by
  simp [readBytes, readInts, hm, T.sub, hl]
theorem w_app_i {k : IntKind} {x y : X} {xv : SV} {xs ys zs : List Int} {φ : Kill} (nn : Nat) (hx : x.ev s = xv) (hy : readBytes h k (y.ev s) = some ys) (ha : xv.abs h = some (.ints k xs, φ, h')) (hz : app? xs ys = some zs) (hn : appName nm xv = nn) : wr (.app (.ik k) x y) s h nm = some (.ref nn [] 1 0 zs.length, φ, upd h' nn (some (.ints k zs))) := by
  obtain ⟨rfl, hl⟩ := app_eq hz
  subst hx hn
  simp only [wr, hy, Option.bind_some, appTo, ha, T.shp, T.appI, maxN]
  simp [hl]
theorem w_app_r {kd : Knd} {x y : X} {xv yv : SV} {xs ys zs : List α} {e : α → T} {φ φ' : Kill} {h'' : Hp} (nn : Nat) (hk : (match kd with | .ik _ => false | _ => true) = true) (hx : x.ev s = xv) (hy : y.ev s = yv) (hb : yv.abs h = some (.rows kd.sz (ys.map e), φ, h')) (hf : φ xv = false) (ha : xv.abs h' = some (.rows kd.sz (xs.map e), φ', h'')) (hz : app? xs ys = some zs) (hn : appName nm xv = nn) : wr (.app kd x y) s h nm = some (.ref nn [] kd.sz 0 zs.length, fun v => φ v || φ' v, upd h'' nn (some (.rows kd.sz (zs.map e)))) := by
  obtain ⟨rfl, hl⟩ := app_eq hz
  subst hx hn
  cases kd with
  | ik k => cases hk
  | flat sz =>
    simp only [Knd.sz] at hb ha ⊢
    simp only [wr, appRows, hy, hb, Option.bind_some, Knd.sz, if_true, appTo, hf, Bool.false_eq_true, if_false, ha, T.shp, T.app, maxN, List.length_map]
    simp [hl]
  | deep sz =>
    simp only [Knd.sz] at hb ha ⊢
    simp only [wr, appRows, hy, hb, Option.bind_some, Knd.sz, if_true, appTo, hf, Bool.false_eq_true, if_false, ha, T.shp, T.app, maxN, List.length_map]
    simp [hl]

/-! ### calls -/
theorem argL_nil {rs : List Name} : argL h rs [] = some [] := rfl
theorem argL_cons {rs : List Name} {x : SV} {xs : List SV} {t : T} {ts : List T} (h1 : argT h rs x = some t) (h2 : argL h rs xs = some ts) : argL h rs (x :: xs) = some (t :: ts) := by
  simp only [argL, h1, Option.bind_some, h2, Option.map_some]
theorem argT_r {rs : List Name} {m z off l : Nat} {p : Path} {u t : T} (hm : ((h m).bind fun r => r.rget p) = some u) (hs : u.sub off l = some t) : argT h rs (.ref m p z off l) = some t := by
  simp only [argT, hm, Option.bind_some, hs]
theorem argT_a {rs : List Name} {xs : List SV} {ts : List T} (h1 : argL h rs xs = some ts) : argT h rs (.agg xs) = some (.agg ts) := by
  simp only [argT, h1, Option.map_some]
theorem argT_f {rs : List Name} {f : FuncId} {xs : List SV} {ts : List T} (h1 : argL h rs xs = some ts) : argT h rs (.fn f xs) = some (.fn f ts) := by
  simp only [argT, h1, Option.map_some]
theorem call_ok {m : Bool} {f : FuncId} {vs : List SV} {rs rd : List Name} {ts sto sto' bl : List T} {t : T} {v : SV} (hrs : insL [] (refsL vs) = rs) (hrd : insL [] (readsL vs) = rd) (h1 : anyIn (readsL vs) rs = false) (h2 : (!m && !rs.isEmpty) = false) (ha : argL h rs vs = some ts) (hg : getAll h rs = some sto) (hp : sto.all T.isPtr = true) (hR : R f ts sto = some (t, sto')) (hl : Nat.beq sto'.length sto.length = true) (hp' : sto'.all T.isPtr = true) (ho : (rd.isEmpty || (t.open_ && noShL sto')) = true) (hb : bindR rd rs nm t = some (v, bl)) (h16 : Nat.ble bl.length 16 = true) : callSV0 R m f vs h nm = some (v, fun x => rs.any fun n => x.und n [], addH (setAll h rs sto') nm bl) := by
  subst hrs hrd
  have hl' : sto'.length = sto.length := Nat.eq_of_beq_eq_true hl
  have h16' : bl.length ≤ 16 := Nat.le_of_ble_eq_true h16
  simp only [callSV0, h1, h2, ha, hg, hR, hb, Option.bind_some, Bool.false_eq_true, if_false, hp, Bool.not_true, hl', hp', ho, and_self, if_true, h16']
theorem call_okt {f : FuncId} {vs : List SV} {q : SV × Kill × Hp} (k : callSV0 R true f vs h nm = some q) : callSV R true f vs h nm = some q := k
theorem call_okf {f : FuncId} {vs vs' : List SV} {q : SV × Kill × Hp} (hv : vs.map (SV.view h) = vs') (k : callSV0 R false f vs' h nm = some q) : callSV R false f vs h nm = some q := by subst hv; exact k
theorem argT_pv {rs : List Name} {ds : List Name} {t : T} : argT h rs (.pv ds t) = some (.vp t) := rfl
theorem bindR_r {ds rs : List Name} {z : Nat} {e : α → T} {xs : List α} : bindR ds rs nm (.rows z (xs.map e)) = some (.ref nm [] z 0 xs.length, [.rows z (xs.map e)]) := by simp [bindR]
theorem bindL_nil {ds rs : List Name} : bindL ds rs nm [] = some ([], []) := rfl
theorem bindL_cons {ds rs : List Name} {t : T} {ts b bs : List T} {v : SV} {vs : List SV} (h1 : bindR ds rs nm t = some (v, b)) (h2 : bindL ds rs (nm + b.length) ts = some (vs, bs)) : bindL ds rs nm (t :: ts) = some (v :: vs, b ++ bs) := by
  simp only [bindL, h1, Option.bind_some, h2, Option.map_some]
theorem bindR_a {ds rs : List Name} {ts b : List T} {vs : List SV} (h1 : bindL ds rs nm ts = some (vs, b)) : bindR ds rs nm (.agg ts) = some (.agg vs, b) := by simp [bindR, h1]
theorem bindR_t {ds rs : List Name} {ts b : List T} {vs : List SV} (h1 : bindL ds rs nm ts = some (vs, b)) : bindR ds rs nm (.tup ts) = some (.tup vs, b) := by simp [bindR, h1]
theorem noShL_map {e : α → T} (he : ∀ x, (e x).noSh = true) (xs : List α) : noShL (xs.map e) = true := by
  induction xs with
  | nil => rfl
  | cons x xs ih => simp [noShL, he, ih]
end
end Go.Proofs.Ytdblfocadcgmaaa.Ev
namespace Go.Proofs.Ytdblfocadcgmaaa.Ev
open Go
variable {R : Run} {nr : Nat}

def andK (k : IntKind) (a b : Int) : Int := k.wrap (BitVec.ofInt k.bits a &&& BitVec.ofInt k.bits b).toNat
def orK (k : IntKind) (a b : Int) : Int := k.wrap (BitVec.ofInt k.bits a ||| BitVec.ofInt k.bits b).toNat
def xorK (k : IntKind) (a b : Int) : Int := k.wrap (BitVec.ofInt k.bits a ^^^ BitVec.ofInt k.bits b).toNat

section
variable {ρ : Type} {Q : ρ → Ex → St → Prop} {o : ρ}
def AllR (R : Run) (nr : Nat) (ks : List Nat) (gs : List G) (nx : Nat) (s : Env) (h : Hp) (st' : St) : List (List Nat) → Prop
  | [] => True
  | l :: ls => (∃ q, runL R gs nx l (s, h) = some q ∧ gc nr ks ⟨q.1, q.2, nx + 16 * gs.length⟩ = st') ∧ AllR R nr ks gs nx s h st' ls
theorem ar_nil {ks : List Nat} {gs : List G} {nx : Nat} {s : Env} {h : Hp} {st' : St} : AllR R nr ks gs nx s h st' [] := trivial
theorem ar_cons {ks : List Nat} {gs : List G} {nx nx' : Nat} {s s' : Env} {h h' : Hp} {st' : St} {l : List Nat} {ls : List (List Nat)} (hn : nx + 16 * gs.length = nx') (h1 : runL R gs nx l (s, h) = some (s', h')) (h2 : gc nr ks ⟨s', h', nx'⟩ = st') (h3 : AllR R nr ks gs nx s h st' ls) : AllR R nr ks gs nx s h st' (l :: ls) := by
  subst hn
  exact ⟨⟨(s', h'), h1, h2⟩, h3⟩
theorem AllR.all {ks : List Nat} {gs : List G} {nx : Nat} {s : Env} {h : Hp} {st' : St} : ∀ {ords : List (List Nat)}, AllR R nr ks gs nx s h st' ords → ∀ l, l ∈ ords → ∃ q, runL R gs nx l (s, h) = some q ∧ gc nr ks ⟨q.1, q.2, nx + 16 * gs.length⟩ = st' := by
  intro ords
  induction ords with
  | nil => intro _ l hl; simp at hl
  | cons a ords ih =>
    rintro ⟨h1, h2⟩ l hl
    rcases List.mem_cons.1 hl with rfl | hl
    · exact h1
    · exact ih h2 l hl
theorem wp_regA {ks : List Nat} {gs : List G} {ords : List (List Nat)} {s : Env} {hp : Hp} {nx : Nat} {st' : St} (hne : ords.isEmpty = false) (h : AllR R nr ks gs nx s hp st' ords) (q : Q o .normal st') : Wp R nr (.regA ks gs ords) ⟨s, hp, nx⟩ Q o :=
  ⟨_, _, .regA _ _ _ _ _ (by rintro rfl; simp at hne) h.all, q⟩
theorem rl_nil {gs : List G} {base : Nat} {s : Env} {h : Hp} : runL R gs base [] (s, h) = some (s, h) := rfl
theorem rl_cons {gs : List G} {base i : Nat} {g : G} {l : List Nat} {s s1 : Env} {h h1 : Hp} {q : Env × Hp} (hg : gs[i]? = some g) (e : evL R (base + 16 * i) [g] s h = some (s1, h1)) (r : runL R gs base l (s1, h1) = some q) : runL R gs base (i :: l) (s, h) = some q := by
  have : stepAt R gs base i (s, h) = some (s1, h1) := by
    simp only [evL] at e
    simp only [stepAt, hg, Option.bind_some]
    cases hs : stepG R g s h (base + 16 * i) with
    | none => simp [hs] at e
    | some x => rw [hs] at e; exact e
  simp only [runL, this, Option.bind_some]
  exact r
end

theorem upd_self {α : Type} (s : Nat → α) (k : Nat) : upd s k (s k) = s := by
  funext j
  by_cases h : j = k
  · subst h; simp [upd]
  · simp [upd, h]

section
variable {nm : Nat} {gs : List G} {s : Env} {h : Hp} {q : Env × Hp}
theorem ev_relen (k : Nat) {m z a b : Nat} {p : Path} (hk : s k = .ref m p z 0 a) (hl : a = b) (r : evL R nm gs (upd s k (.ref m p z 0 b)) h = some q) : evL R nm gs s h = some q := by
  subst hl
  rwa [← hk, upd_self] at r
end

section
variable {s : Env} {h h' : Hp} {nm : Nat} {α : Type}
theorem absA_ref {m z off l : Nat} {p : Path} {o : T × Kill × Hp} (k : SV.abs h (.ref m p z off l) = some o) : absA h (.ref m p z off l) = some o := k
theorem ns_ints (k : IntKind) (xs : List (List Int)) : noShL (xs.map (T.ints k)) = true := noShL_map (fun _ => rfl) xs
theorem ns_bool (xs : List Bool) : noShL (xs.map T.bool) = true := noShL_map (fun _ => rfl) xs
theorem ns_str (xs : List (List UInt8)) : noShL (xs.map T.str) = true := noShL_map (fun _ => rfl) xs
theorem at_set {xs : List α} {i : Int} {v w : α} (h : at? xs i = some v) : at? (xs.set i.toNat w) i = some w := by
  have := at_lt h
  have h2 : i.toNat < xs.length := by omega
  simp [at?, this.1, h2]
theorem d_as_i {i : I} {k : IntKind} {e v : Int} (hd : den i s h nm = some (.vw [] (.int k e), none)) (he : e = v) : den i s h nm = some (.vw [] (.int k v), none) := he ▸ hd
theorem d_as_b {i : I} {e v : Bool} (hd : den i s h nm = some (.vw [] (.bool e), none)) (he : e = v) : den i s h nm = some (.vw [] (.bool v), none) := he ▸ hd

theorem put_hole {z : Nat} {e : α → T} {xs : List α} {n : Int} {v : α} (hv : at? xs n = some v) : (T.rows z (xs.map e)).put .dead [.e n.toNat] = some (.rows z ((xs.map e).set n.toNat .dead)) := by
  simp [T.put, T.child, at_get hv, T.setChild]
theorem at_len {xs : List α} {n : Int} {v : α} (hv : at? xs n = some v) : n.toNat < xs.length := by have := at_lt hv; omega
theorem cell_hole {m z : Nat} {q : Path} {e : α → T} {xs : List α} {n : Nat} : cellSV m q (.rows z ((xs.map e).set n .dead)) = some (.ref m q z 0 xs.length) := by simp [cellSV]
theorem get_hole {z : Nat} {e : α → T} {xs : List α} {n : Int} {v : α} (hv : at? xs n = some v) : (T.rows z ((xs.map e).set n.toNat .dead)).get [.e n.toNat] = some .dead := by
  simp [T.get, T.child, at_len hv]
theorem put_fill {z : Nat} {e : α → T} {xs : List α} {n : Int} {v : α} (w : α) (hv : at? xs n = some v) : (T.rows z ((xs.map e).set n.toNat .dead)).put (e w) [.e n.toNat] = some (.rows z ((xs.set n.toNat w).map e)) := by
  simp [T.put, T.child, at_len hv, T.setChild, List.set_set, List.map_set]
theorem sub_eq {xs ys : List α} {a b : Int} (hs : sub? xs a b = some ys) : 0 ≤ a ∧ a ≤ b ∧ b ≤ xs.length ∧ ys = (xs.drop a.toNat).take (b.toNat - a.toNat) := by
  unfold sub? at hs
  split at hs
  · rename_i h0; exact ⟨h0.1, h0.2.1, h0.2.2, (Option.some.inj hs).symm⟩
  · cases hs
theorem sub_pi {k : IntKind} {xs ys : List Int} {a b : Int} (hs : sub? xs a b = some ys) : (T.ints k xs).sub a.toNat (b.toNat - a.toNat) = some (.ints k ys) := by
  obtain ⟨h1, h2, h3, rfl⟩ := sub_eq hs
  simp only [T.sub]
  split
  · rename_i h0; rw [h0.2, h0.1, List.drop_zero, List.take_length]
  · rfl
theorem sub_pr {z : Nat} {e : α → T} {xs ys : List α} {a b : Int} (hs : sub? xs a b = some ys) : (T.rows z (xs.map e)).sub a.toNat (b.toNat - a.toNat) = some (.rows z (ys.map e)) := by
  obtain ⟨h1, h2, h3, rfl⟩ := sub_eq hs
  simp only [T.sub, List.length_map]
  split
  · rename_i h0; rw [h0.2, h0.1, List.drop_zero, List.take_length]
  · simp [List.map_take, List.map_drop]
theorem rb_part {k : IntKind} {m z off l : Nat} {p : Path} {xs ys : List Int} (hm : ((h m).bind fun r => r.rget p) = some (.ints k xs)) (hs : (T.ints k xs).sub off l = some (.ints k ys)) : readBytes h k (.ref m p z off l) = some ys := by
  simp [readBytes, readInts, hm, hs]
theorem si_none_len {d : Nat} : sliceInts (opt s none) d = some (d : Int).toNat := by simp [opt, sliceInts]
theorem d_slc_r {x : X} {lo hi : Option X} {m z : Nat} {p : Path} {xs ys : List α} {a b : Int} (hx : x.ev s = .ref m p z 0 xs.length) (hs : sub? xs a b = some ys) (hlo : 0 ≤ a → sliceInts (opt s lo) 0 = some a.toNat) (hhi : 0 ≤ b → sliceInts (opt s hi) xs.length = some b.toNat) : den (.slc false z x lo hi) s h nm = some (.ref m p z a.toNat (b.toNat - a.toNat), none) := by
  obtain ⟨h1, h2, h3, _⟩ := sub_eq hs
  have hb : a.toNat ≤ b.toNat ∧ b.toNat ≤ xs.length := by omega
  simp only [den, hx, slcSV, hlo h1, hhi (by omega), Option.bind_some, and_true, if_pos hb, addNat, if_true, Option.map_some]

/-! ### a part of an own row becomes a row of its own -/
theorem slc_den {z : Nat} {x : X} {lo hi : Option X} {v : SV} (hd : den (.slc false z x lo hi) s h nm = some (v, none)) : slcSV false z (x.ev s) (opt s lo) (opt s hi) = some v := by
  simp only [den, Option.map_eq_some_iff] at hd
  obtain ⟨u, hu, e⟩ := hd
  rw [hu]
  simpa using e
theorem w_trm_i {x : X} {lo hi : Option X} {v : SV} {k : IntKind} {xs : List Int} {φ : Kill} (nn : Nat) (hd : den (.slc false 1 x lo hi) s h nm = some (v, none)) (ha : v.abs h = some (.ints k xs, φ, h')) (hn : appName nm v = nn) : wr (.trm 1 x lo hi) s h nm = some (.ref nn [] 1 0 xs.length, φ, upd h' nn (some (.ints k xs))) := by
  subst hn
  simp only [wr, slc_den hd, Option.bind_some, appTo, ha, T.shp, Option.map_some, Nat.add_zero]
theorem w_trm_r {z : Nat} {x : X} {lo hi : Option X} {v : SV} {xs : List α} {e : α → T} {φ : Kill} (nn : Nat) (hd : den (.slc false z x lo hi) s h nm = some (v, none)) (ha : v.abs h = some (.rows z (xs.map e), φ, h')) (hn : appName nm v = nn) : wr (.trm z x lo hi) s h nm = some (.ref nn [] z 0 xs.length, φ, upd h' nn (some (.rows z (xs.map e)))) := by
  subst hn
  simp only [wr, slc_den hd, Option.bind_some, appTo, ha, T.shp, Option.map_some, Nat.add_zero, List.length_map]

/-! ### copies -/
theorem le_whole {xs : List Int} : 0 + xs.length ≤ xs.length := by omega
theorem le_part {xs ys : List Int} {a b : Int} (hs : sub? xs a b = some ys) : a.toNat + (b.toNat - a.toNat) ≤ xs.length := by have := sub_eq hs; omega
theorem rs_ref {k : IntKind} {m z off l : Nat} {p : Path} {xs ys : List Int} (hm : ((h m).bind fun r => r.rget p) = some (.ints k xs)) (hs : (T.ints k xs).sub off l = some (.ints k ys)) : readSrc h k (.ref m p z off l) = some ys := by
  simp [readSrc, readInts, hm, hs]
theorem w_cpy {k : IntKind} {x y : X} {m off l : Nat} {xs ys : List Int} (hx : x.ev s = .ref m [] 1 off l) (hy : readSrc h k (y.ev s) = some ys) (hm : h m = some (.ints k xs)) (hl : off + l ≤ xs.length) :
    wr (.cpy k x y) s h nm = some (.vw [] (.int .i64 ((min ys.length l : Nat) : Int)), fun v => v.dep m, upd h m (some (.ints k (spl xs off (ys.take l))))) := by
  simp only [wr, hx, hy, Option.bind_some, hm, hl, and_self, if_true]
theorem spl_len {xs ys : List Int} {off l : Nat} (hl : off + l ≤ xs.length) : xs.length = (spl xs off (ys.take l)).length := by
  have h1 : (ys.take l).length ≤ l := by rw [List.length_take]; omega
  exact (spl_length (by omega)).symm
end
end Go.Proofs.Ytdblfocadcgmaaa.Ev
namespace Go.Proofs.Ytdblfocadcgmaaa.Ev
open Go Go.ChangeShapes Go.WideShapes Go.ChangeAt Go.RowKit Go.Joins Go.Deep

def Readable (P : Program) (ts : List TypeId) : Prop := ∀ t ∈ ts, P.readableRec t = true ∧ t < P.types.size

theorem trodAll_below {H : Type} {enc : TypeId × Value → H} {P : Program} (hl : laidOutB P = true) {W W' : World} (hb : Below W.heap.size W W') :
    ∀ (ts : List TypeId) (vs : List Value) (ds : List (DataW H)) (ps : List MemPlace), Readable P ts →
      DataW.TrodAll enc P W 0 (fun _ => true) true ts vs ds ps → DataW.TrodAll enc P W' 0 (fun b => decide (b < W.heap.size)) true ts vs ds ps
  | [], vs, ds, ps, _, h => by
    obtain ⟨rfl, rfl, rfl⟩ := trodAll_nil h
    exact trodAll_mk0
  | t :: ts, vs, ds, ps, hr, h => by
    obtain ⟨v, vs', d, ds', p, q, rfl, rfl, rfl, h0, h1⟩ := trodAll_cons h
    have ht := hr t (by simp)
    refine trodAll_cons_mk (Below.trod hl ht.1 ht.2 h0 hb ?_) (trodAll_below hl hb ts vs' ds' q (fun x hx => hr x (by simp [hx])) h1)
    obtain ⟨m, hm⟩ := h0
    exact DataW.trod_lt m _ _ _ hm

theorem trodAll_length {H : Type} {enc : TypeId × Value → H} {P : Program} {W : World} : ∀ (ts : List TypeId) (vs : List Value) (ds : List (DataW H)) (ps : List MemPlace),
      DataW.TrodAll enc P W 0 (fun _ => true) true ts vs ds ps → ds.length = ts.length
  | [], vs, ds, ps, h => by
    obtain ⟨rfl, rfl, rfl⟩ := trodAll_nil h
    rfl
  | t :: ts, vs, ds, ps, h => by
    obtain ⟨v, vs', d, ds', p, q, rfl, rfl, rfl, h0, h1⟩ := trodAll_cons h
    simp [trodAll_length ts vs' ds' q h1]

/-- A law: it returns true and turns nothing that was there. -/
theorem law_lifted {H : Type} {enc : TypeId × Value → H} {C : Checked} {os : Os} {f : FuncId} {fn : Func} {s : ChangeSpec} {rt : TypeId} (hl : laidOutB C.prog = true)
    (own : ownKnob C.prog.godebug = none) (started : os.Started) (noInit : C.prog.inits.idxOf? f = none) (hfn : C.prog.funcs[f]? = some fn)
    (hvars : s.vars = []) (hspec : ∀ ds : List (DataW H), ds.length = fn.params.toList.length → (s.fn H ds).results = [.lit (.bool true)] ∧ (s.fn H ds).args = ds ∧ (s.fn H ds).vars = [])
    (hres : fn.resultTypes = #[rt]) (hbool : C.prog.underlying rt = some .bool) (hread : Readable C.prog fn.params.toList)
    (witness : ∃ (w : World) (tape : Tape) (i : Input), w.os = os ∧ (w.forCall tape i).Shaped C.prog ∧ i.vars = [] ∧ Input.okWide C.prog (w.forCall tape i) .any w.heap.size f i ∧
      s.pre6 enc C.prog fn [] false (w.forCall tape i).memory i.args ∧ ({} : Assume).holds C.prog (lone (Frame.enter C.prog f i.args .normal) [] (w.forCall tape i)))
    (calls : ∀ (W : World) (base : Nat) (args : Array Value) (ds : List (DataW H)) (p : List MemPlace),
      (∀ (j : Nat) t v, fn.params[j]? = some t → args[j]? = some v → Value.okWide C.prog W .any base t v) →
      DataW.TrodAll enc C.prog W 0 (fun _ => true) true fn.params.toList args.toList ds p →
      (DataW.weightsEach C.prog fn.params.toList ds).all (· ≤ reachBytes) = true →
      Calls C.prog f args W fun e W' => e = .returned (.bool true) ∧ Below W.heap.size W W') :
    ReturnsInHanded {} C os f .any (s.pre6 enc C.prog fn [] false) (s.post enc C.prog fn false true false false) := by
  refine returnsInHanded_of_change_sized own started noInit hfn witness ?_
  intro W base args ds gs before hval hW hcnd hsz _
  have hW' := hW
  obtain ⟨p, q, hA, hV, hb, hfz, hnd⟩ := hW
  have hV' := hV
  rw [hvars] at hV'
  obtain ⟨rfl, rfl⟩ := trodVars_none hV'
  have hpv : s.plain.varTypes C.prog = [] := by simp [ChangeSpec.plain, DataSpec.varTypes, hvars]
  rw [hpv, List.append_nil, List.append_nil] at hsz
  have hlen := trodAll_length _ _ _ _ hA
  obtain ⟨e1, e2, e3⟩ := hspec ds hlen
  refine (calls W base args ds p hval hA hsz).mono fun e W' ⟨he, bel⟩ => ?_
  subst he
  refine ⟨_, rfl, ds, [], before, [], p, [], hW', ?_, ?_, ?_, bel.frame _, fun h => by cases h⟩
  · rw [List.append_nil, e1, hres]
    exact trodAll_mk1 (shut_bool hbool _)
  · rw [List.append_nil, e2]
    exact trodAll_below hl bel _ _ _ _ hread hA
  · rw [List.append_nil, e3, hvars]
    rfl


theorem exists_list {α : Type} (n : Nat) (Q : Nat → α → Prop) (h : ∀ i, i < n → ∃ x, Q i x) : ∃ l : List α, l.length = n ∧ ∀ i x, l[i]? = some x → Q i x := by
  induction n with
  | zero => exact ⟨[], rfl, fun i x hx => by simp at hx⟩
  | succ n ih =>
    obtain ⟨l, hl, hq⟩ := ih (fun i hi => h i (by omega))
    obtain ⟨x, hx⟩ := h n (by omega)
    refine ⟨l ++ [x], by simp [hl], fun i y hy => ?_⟩
    by_cases hi : i < l.length
    · rw [List.getElem?_append_left hi] at hy
      exact hq i y hy
    · have : i = n := by
        have := (List.getElem?_eq_some_iff.1 hy).1
        simp at this
        omega
      subst this
      rw [List.getElem?_append_right (by omega)] at hy
      simp [hl] at hy
      exact hy ▸ hx

/-- The memory that is there. -/
def there (w : World) : Nat → Prop := fun b => b < w.heap.size

theorem open_bytes {H : Type} {enc : TypeId × Value → H} {P : Program} {W : World} {base : Nat} {t e : TypeId} {v : Value} {d : DataW H} {p : List MemPlace} (ht : P.underlying t = some (.slice e)) (he : P.underlying e = some (.int .u8)) (hc : P.cellsOf e = 1)
    (hv : Value.okWide P W .any base t v) (h : DataW.Trod enc P W 0 (fun _ => true) true t v d p) : ∃ l : List Int, Vw W (there W) (.ints .u8 l) v ∧ ∀ x ∈ l, 0 ≤ x ∧ x < 256 := by
  obtain ⟨a, len, cap, rfl⟩ := okWide_slice ht hv
  obtain ⟨n, hn⟩ := h
  rcases open_slice1 ht hc hn with ⟨hcs, _⟩ | ⟨a', len', cap', m, n', V, D, Pl, hcs, _, hl, hm, hmm, _, hx⟩
  · simp [Value.cells] at hcs
    obtain ⟨rfl, rfl, rfl⟩ := hcs
    exact ⟨[], .ints0 _, by simp⟩
  · simp [Value.cells] at hcs
    obtain ⟨rfl, rfl, rfl⟩ := hcs
    have hok : W.has P .any base a' e cap := by
      simp only [Value.okWide, ht, Cell.okWide, Cell.ok] at hv
      exact hv.2.2
    obtain ⟨_, hsp, row, cells, hsh, _⟩ := hok
    have hblk : a'.block < W.heap.size := by
      rcases Nat.lt_or_ge a'.block W.heap.size with h | h
      · exact h
      · simp [World.shape?, Array.getElem?_eq_none h] at hsh
    have hmc : m = cap := by simpa using hmm
    obtain ⟨l, hll, hq⟩ := exists_list len (fun i (x : Int) => V i = .int .u8 x ∧ (0 ≤ x ∧ x < 256) ∧ W.cell? (a'.add i) = some (.int .u8 x)) (fun i hi => by
      obtain ⟨h1, h2⟩ := hx i (by omega)
      obtain ⟨x, e1, _, wx⟩ := DataW.trod_int he h2
      simp at e1
      refine ⟨x, e1, ?_, by rw [h1, e1]⟩
      have hmin : IntKind.min .u8 = 0 := rfl
      have hmax : IntKind.max .u8 = 255 := rfl
      simp [Lit.wf, hmin, hmax] at wx
      omega)
    subst hll
    exact ⟨l, .ints .u8 l a' cap hblk hsp hl (fun i x hi => (hq i x hi).2.2), fun x hx' => by
      obtain ⟨j, hj⟩ := List.getElem?_of_mem hx'
      exact (hq j x hj).2.1⟩

/-- A law of two slices of bytes. -/
theorem law_calls2 {P : Program} {R : Run} (hR : Right P R) {f : FuncId} {xs ys : List Int} {v0 v1 : Value} {W : World} (h : R f [.ints .u8 xs, .ints .u8 ys] [] = some (.bool true, [])) (h0 : Vw W (there W) (.ints .u8 xs) v0) (h1 : Vw W (there W) (.ints .u8 ys) v1) :
    Calls P f #[v0, v1] W fun e W' => e = .returned (.bool true) ∧ Below W.heap.size W W' := by
  obtain ⟨fn, _, _, _, hc⟩ := hR f _ _ _ h W #[v0, v1] (there W) [] (fun _ _ => False) (.cons (.vw _ _ rfl h0) (.cons (.vw _ _ rfl h1) .nil))
    ⟨rfl, by simp, by simp, by simp, by simp, by simp⟩ (by simp) (fun b hb => hb)
  refine hc.mono ?_
  rintro e W' ⟨v, rfl, S', Fs', Fr', hfr, _, hrs, _⟩
  refine ⟨?_, ⟨hfr.os, hfr.tape, hfr.output, hfr.size, fun k hk => hfr.block k hk (by simp)⟩⟩
  cases hrs with
  | own t v F _ ho => cases ho; rfl
theorem law_calls1 {P : Program} {R : Run} (hR : Right P R) {f : FuncId} {xs : List Int} {v0 : Value} {W : World} (h : R f [.ints .u8 xs] [] = some (.bool true, [])) (h0 : Vw W (there W) (.ints .u8 xs) v0) :
    Calls P f #[v0] W fun e W' => e = .returned (.bool true) ∧ Below W.heap.size W W' := by
  obtain ⟨fn, _, _, _, hc⟩ := hR f _ _ _ h W #[v0] (there W) [] (fun _ _ => False) (.cons (.vw _ _ rfl h0) .nil)
    ⟨rfl, by simp, by simp, by simp, by simp, by simp⟩ (by simp) (fun b hb => hb)
  refine hc.mono ?_
  rintro e W' ⟨v, rfl, S', Fs', Fr', hfr, _, hrs, _⟩
  refine ⟨?_, ⟨hfr.os, hfr.tape, hfr.output, hfr.size, fun k hk => hfr.block k hk (by simp)⟩⟩
  cases hrs with
  | own t v F _ ho => cases ho; rfl
end Go.Proofs.Ytdblfocadcgmaaa.Ev
namespace Go.Proofs.Ytdblfocadcgmaaa.Ev
open Go

theorem w64_eq (x : Int) : w64 x = if 9223372036854775808 ≤ x % 18446744073709551616 then x % 18446744073709551616 - 18446744073709551616 else x % 18446744073709551616 := by
  have hb : IntKind.bits .i64 = 64 := rfl
  have hs : IntKind.signed .i64 = true := rfl
  have h1 : (2 : Int) ^ 64 = 18446744073709551616 := by decide
  have h2 : (2 : Int) ^ (64 - 1) = 9223372036854775808 := by decide
  show IntKind.wrap .i64 x = _
  unfold IntKind.wrap
  simp only [hb, hs, h1, h2, Bool.true_and, decide_eq_true_eq, ge_iff_le]
theorem w64_id {x : Int} (h1 : -9223372036854775808 ≤ x) (h2 : x ≤ 9223372036854775807) : w64 x = x := by
  rw [w64_eq]
  split <;> omega
theorem w64_range (x : Int) : -9223372036854775808 ≤ w64 x ∧ w64 x ≤ 9223372036854775807 := by
  rw [w64_eq]
  split <;> omega
theorem wu64_range (x : Int) : 0 ≤ IntKind.wrap .u64 x ∧ IntKind.wrap .u64 x ≤ 18446744073709551615 := by
  have hb : IntKind.bits .u64 = 64 := rfl
  have hs : IntKind.signed .u64 = false := rfl
  have h1 : (2 : Int) ^ 64 = 18446744073709551616 := by decide
  unfold IntKind.wrap
  simp only [hb, hs, h1, Bool.false_and]
  rw [if_neg (by simp)]
  omega
theorem at_eq {α : Type} (xs : List α) (i : Nat) : at? xs (i : Int) = xs[i]? := by simp [at?]
theorem at_some {α : Type} {xs : List α} {i : Nat} (h : i < xs.length) : at? xs (i : Int) = some xs[i] := by rw [at_eq, List.getElem?_eq_getElem h]
theorem at_getD {α : Type} {xs : List α} {i : Int} (d : α) (h0 : 0 ≤ i) (h : i < xs.length) : at? xs i = some (xs.getD i.toNat d) := by
  have h1 : i.toNat < xs.length := by omega
  simp [at?, h0, List.getD_eq_getElem?_getD, h1]
theorem app_ok {α : Type} {xs ys : List α} (h : xs.length + ys.length < 4294967296) : app? xs ys = some (xs ++ ys) := by simp [app?, h]
theorem mk_ok {n c : Int} (h0 : 0 ≤ n) (h1 : n ≤ c) (h2 : c < 4294967296) : mk? n c = some () := by simp [mk?, h0, h1, h2]
theorem nz_ok {b : Int} (h : b ≠ 0) : nz? b = some () := by simp [nz?, h]
theorem sub_ok {α : Type} {xs : List α} {lo hi : Int} (h0 : 0 ≤ lo) (h1 : lo ≤ hi) (h2 : hi ≤ xs.length) : sub? xs lo hi = some ((xs.drop lo.toNat).take (hi.toNat - lo.toNat)) := by simp [sub?, h0, h1, h2]

/-- A loop that counts. -/
theorem iter_count {σ ρ : Type} {step : σ → Option (σ ⊕ ρ)} (S : Nat → σ) (a n : Nat) (han : a ≤ n) (hgo : ∀ i, a ≤ i → i < n → step (S i) = some (.inl (S (i + 1)))) : iter step (S a) = iter step (S n) := by
  obtain ⟨d, rfl⟩ : ∃ d, n = a + d := ⟨n - a, by omega⟩
  clear han
  induction d with
  | zero => rfl
  | succ d ih =>
    rw [ih fun i h1 h2 => hgo i h1 (by omega), ← Nat.add_assoc]
    exact iter_go (hgo (a + d) (by omega) (by omega))
theorem iter_to {σ ρ : Type} {step : σ → Option (σ ⊕ ρ)} (S : Nat → σ) (n : Nat) {r : ρ} (hgo : ∀ i, i < n → step (S i) = some (.inl (S (i + 1)))) (hstop : step (S n) = some (.inr r)) : iter step (S 0) = some r := by
  rw [iter_count S 0 n (by omega) fun i _ h => hgo i h]
  exact iter_stop hstop
/-- A loop of which little is told. -/
theorem iter_ex {σ ρ : Type} {step : σ → Option (σ ⊕ ρ)} (I : Nat → σ → Prop) (Q : ρ → Prop) (h : ∀ n s, I n s → (∃ r, step s = some (.inr r) ∧ Q r) ∨ ∃ s' m, m < n ∧ step s = some (.inl s') ∧ I m s') : ∀ n s, I n s → ∃ r, iter step s = some r ∧ Q r := by
  intro n
  induction n using Nat.strongRecOn with
  | _ n ih =>
    intro s hs
    rcases h n s hs with ⟨r, h1, h2⟩ | ⟨s', m, hm, h1, h2⟩
    · exact ⟨r, iter_stop h1, h2⟩
    · obtain ⟨r, h3, h4⟩ := ih m hm s' h2
      exact ⟨r, by rw [iter_go h1, h3], h4⟩

/-- A search through a list: at the first element that fails, or behind the last. -/
def firstBad {α : Type} (p : α → Bool) : List α → Option α
  | [] => none
  | x :: xs => if p x then firstBad p xs else some x

theorem iter_list {α σ ρ : Type} {step : σ → Option (σ ⊕ ρ)} (xs : List α) (S : Nat → σ) (p : α → Bool) (rb re : ρ)
    (hgo : ∀ i x, xs[i]? = some x → p x = true → step (S i) = some (.inl (S (i + 1)))) (hbad : ∀ i x, xs[i]? = some x → p x = false → step (S i) = some (.inr rb)) (hend : step (S xs.length) = some (.inr re)) :
    iter step (S 0) = some (if xs.all p then re else rb) := by
  have key : ∀ (ys : List α) (k : Nat), xs.drop k = ys → k ≤ xs.length → iter step (S k) = some (if ys.all p then re else rb) := by
    intro ys
    induction ys with
    | nil =>
      intro k h hk
      have : k = xs.length := by
        have := congrArg List.length h
        simp at this
        omega
      subst this
      rw [iter_stop hend]; simp
    | cons y ys ih =>
      intro k h hk
      have hkl : k < xs.length := by
        rcases Nat.lt_or_ge k xs.length with h' | h'
        · exact h'
        · rw [List.drop_of_length_le h'] at h; cases h
      rw [List.drop_eq_getElem_cons hkl, List.cons.injEq] at h
      have hy : xs[k]? = some y := by rw [List.getElem?_eq_getElem hkl, h.1]
      cases hp : p y with
      | true => rw [iter_go (hgo k y hy hp), ih (k + 1) h.2 hkl]; simp [hp]
      | false => rw [iter_stop (hbad k y hy hp)]; simp [hp]
  exact key xs 0 rfl (by omega)
end Go.Proofs.Ytdblfocadcgmaaa.Ev
