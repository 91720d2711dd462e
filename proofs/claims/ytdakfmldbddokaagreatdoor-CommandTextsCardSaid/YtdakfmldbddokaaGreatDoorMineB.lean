/- Words of this claim's own: '[]byte(s)' as an event: a row that is only read. -/
import Derived.Test.YtdakfmldbddokaaGreatDoorMine
import Derived.Lib.ConvBytes
set_option linter.unusedVariables false
namespace Go.Proofs.YtdakfmldbddokaaGreatDoorW.PrintWords
open Go.RowKit Go.Proofs.YtdakfmldbddokaaGreatDoorW.PrintMore
/-- The conversion of a text, told as a call is. -/
def ConvB (P : Program) (src dst : TypeId) (s : ByteArray) (w : World) (R : Ending → World → Prop) : Prop := ∃ v w', (convert src dst (.string s)).run P w = .ok v w' ∧ R (.returned v) w'
theorem ConvB.mono {P : Program} {src dst : TypeId} {s : ByteArray} {w : World} {R R' : Ending → World → Prop} (h : ConvB P src dst s w R) (hr : ∀ e w', R e w' → R' e w') : ConvB P src dst s w R' := by
  obtain ⟨v, w', h1, h2⟩ := h
  exact ⟨v, w', h1, hr _ _ h2⟩
section
variable {P : Program} {ops : Array Oper} {Q : Exit → Act → World → Prop}
theorem convGo_ {rest : List Oper} {oi : Oper} {a : Act} {w : World} (N : Option Tmp) (hd : oi.dst = N) (hg : oi.guard = none) (src dst : TypeId) {x : Operand} (s : ByteArray) (hop : oi.op = .convert src dst x) (hx : a.eval x = .string s)
    (h : ConvB P src dst s w fun e w' => ∃ v, e = .returned v ∧ wpList P ops Q rest (a.put N v) w') : wpList P ops Q (oi :: rest) a w := by
  refine wpList_plain hg fun K hK => ?_
  obtain ⟨v, w', h1, v2, h2, h3⟩ := h
  injection h2 with h2
  subst h2
  have hrun : (execOp a.eval oi).run P w = .ok (.value v) w' := by
    unfold execOp
    simp [hop, hx, h1, Result.andThen]
  unfold Oper.wp
  rw [hrun, Oper.upon_value]
  subst hd
  exact hK _ _ h3
end
theorem bytesWorld_below (w : World) (e : TypeId) (s : ByteArray) : Below w.heap.size w (Lib.bytesWorld w e s) :=
  ⟨by simp [Lib.bytesWorld, World.freeze, World.alloc, World.drew, -World.alloc_eq, -World.drew_eq], by simp [Lib.bytesWorld, World.freeze, World.alloc, World.drew, -World.alloc_eq, -World.drew_eq], by simp [Lib.bytesWorld, World.freeze, World.alloc, World.drew, -World.alloc_eq, -World.drew_eq], by rw [Lib.bytesWorld_size]; omega, fun k hk => Lib.bytesWorld_at_old w e s k hk⟩
end Go.Proofs.YtdakfmldbddokaaGreatDoorW.PrintWords
