/- Words of this claim's own beside the printed ones: a make with a capacity alone. -/
import Derived.Test.YtdakfmldbddokaaGreatDoorWWords
import Derived.Test.YtdakfmldbddokaaGreatDoorWMore
import Derived.Test.YtdakfmldbddokaaGreatDoorWLast
set_option linter.unusedVariables false
namespace Go.Proofs.YtdakfmldbddokaaGreatDoorW.PrintWords
open Go.RowKit
namespace Kd
section
variable {α : Type} {P : Program} {ops : Array Oper} {rest : List Oper} {o : Oper} {a : Act} {Q : Exit → Act → World → Prop}
end
end Kd
end Go.Proofs.YtdakfmldbddokaaGreatDoorW.PrintWords
namespace Go.Proofs.YtdakfmldbddokaaGreatDoorW.PrintWords
open Go.Proofs.YtdakfmldbddokaaGreatDoorW.PrintMore
end Go.Proofs.YtdakfmldbddokaaGreatDoorW.PrintWords
namespace Go.Proofs.YtdakfmldbddokaaGreatDoorW.PrintLast
open Go.RowKit Go.Proofs.YtdakfmldbddokaaGreatDoorW.PrintWords
section
variable {P : Program} {ops : Array Oper} {Q : Exit → Act → World → Prop}
/-- A call of a function value that is held in a slot. -/
theorem goesT_ {rest : List Oper} {oi : Oper} {a : Act} {w : World} (N : Option Tmp) (hd : oi.dst = N) (hg : oi.guard = none) {f : FuncId} {fn : Func} {c : Operand} {as : Array Operand} {ts : Array TypeId} (hf : P.funcs[f]? = some fn) (hname : (fn.name == "runtime.NumGoroutine") = false) (hb : fn.body.isSome = true) (args : Array Value)
    (hop : oi.op = .call { callee := .value c, args := as, argTypes := ts }) (hc : a.eval c = .func (.func f) #[] #[]) (hargs : as.map a.eval = args)
    (h : Calls P f args w fun e w' => ∃ v, e = .returned v ∧ wpList P ops Q rest (a.put N v) w') : wpList P ops Q (oi :: rest) a w := by
  refine wpList_plain hg fun K hK => ?_
  have he := enters_ hf hname hb args w
  have hrun : (execOp a.eval oi).run P w = .ok (.enter f args) w := by
    unfold execOp
    simp [hop, resolve, Deferred.ofValue, invoke, hc, hargs, he]
  unfold Oper.wp
  rw [hrun, Oper.upon_enter]
  refine h.mono fun e w'' hh => ?_
  obtain ⟨v, rfl, hk⟩ := hh
  subst hd
  exact hK _ _ hk
end
end Go.Proofs.YtdakfmldbddokaaGreatDoorW.PrintLast
