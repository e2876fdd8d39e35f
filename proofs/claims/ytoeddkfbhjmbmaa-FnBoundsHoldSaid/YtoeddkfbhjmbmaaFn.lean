/- Function values as the printed texts tell them: the function's number, what it has captured, what it answers; and the rules for their calls; no condition. -/
import Derived.Test.YtoeddkfbhjmbmaaPB0
namespace Go.Proofs.Ytoeddkfbhjmbmaa.PB
open Go.RowKit Go.Proofs.YtoeddkfbhjmbmaaW.PrintWords Go.Proofs.YtoeddkfbhjmbmaaW.PrintLast Go.Proofs.YtoeddkfbhjmbmaaW.PrintMore

def IsFn (P : Program) (g : FuncId) : Prop := ∃ fn : Func, P.funcs[g]? = some fn ∧ (fn.name == "runtime.NumGoroutine") = false ∧ fn.body.isSome = true
structure FnOki_i (P : Program) (w : World) (g : FuncId) (cs : Array Value) (f : Int → Option Int) : Prop where
  fn : IsFn P g
  calls : ∀ (x r : Int) (W : World), Below w.heap.size w W → f x = some r → Calls P g (#[.int .i64 x] ++ cs) W fun e w' => e = .returned (.int .i64 r) ∧ Below W.heap.size W w'
structure FnOki_b (P : Program) (w : World) (g : FuncId) (cs : Array Value) (f : Int → Option Bool) : Prop where
  fn : IsFn P g
  calls : ∀ (x : Int) (r : Bool) (W : World), Below w.heap.size w W → f x = some r → Calls P g (#[.int .i64 x] ++ cs) W fun e w' => e = .returned (.bool r) ∧ Below W.heap.size W w'
structure FnOki_ (P : Program) (w : World) (g : FuncId) (cs : Array Value) (f : Int → Option Unit) : Prop where
  fn : IsFn P g
  calls : ∀ (x : Int) (W : World), Below w.heap.size w W → ∀ {u : Unit}, f x = some u → Calls P g (#[.int .i64 x] ++ cs) W fun e w' => e = .returned (.tuple #[]) ∧ Below W.heap.size W w'

section
variable {P : Program} {ops : Array Oper} {rest : List Oper} {o : Oper} {a : Act} {Q : Exit → Act → World → Prop} {W : World}
/-- The operation is a call of the function value in this slot. -/
theorem gate_fn {t : Tmp} {xs : Array Operand} {ts : Array TypeId} (_ho : o.op = .call { callee := .value (.tmp t), args := xs, argTypes := ts }) (h : wpList P ops Q (o :: rest) a W) : wpList P ops Q (o :: rest) a W := h
/-- A call of a function value in a plain region. -/
theorem goesF_ {N : Option Tmp} (hd : o.dst = N) (hg : o.guard = none) {f : FuncId} (hf : IsFn P f) (args : Array Value) {t : Tmp} {cs : Array Value} {xs : Array Operand} {ts : Array TypeId}
    (hop : o.op = .call { callee := .value (.tmp t), args := xs, argTypes := ts }) (hv : a.eval (.tmp t) = .func (.func f) #[] cs) (hargs : xs.map a.eval = args)
    (h : Calls P f (args ++ cs) W fun e w' => ∃ v, e = .returned v ∧ wpList P ops Q rest (a.put N v) w') : wpList P ops Q (o :: rest) a W := by
  obtain ⟨fn, hfn, hname, hb⟩ := hf
  refine wpList_plain hg fun K hK => ?_
  have he := enters_ hfn hname hb (args ++ cs) W
  have hrun : (execOp a.eval o).run P W = .ok (.enter f (args ++ cs)) W := by
    unfold execOp
    simp [hop, resolve, Deferred.ofValue, invoke, hv, hargs, he]
  unfold Oper.wp
  rw [hrun, Oper.upon_enter]
  refine h.mono fun e w'' hh => ?_
  obtain ⟨v, rfl, hk⟩ := hh
  subst hd
  exact hK _ _ hk
end
end Go.Proofs.Ytoeddkfbhjmbmaa.PB
