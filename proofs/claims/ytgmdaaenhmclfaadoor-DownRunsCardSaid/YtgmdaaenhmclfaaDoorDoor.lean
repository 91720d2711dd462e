/- For the cards of this seat: what a row's list gives a walk (the premise GL), and a world for the witness. After the kit's worked examples on laid variables. -/
import Derived.Test.YtgmdaaenhmclfaaDoorCards
import Derived.Test.YtgmdaaenhmclfaaDoorTie
import Derived.Test.YtgmdaaenhmclfaaDoorGl
import Derived.WalkKit
import Derived.ProofKit
import Derived.LaidLaws
import Derived.Stop.LaidErr
import Derived.LaidHandle
import Derived.Lib.LaidTab
import Derived.Deep.DeepHandedRow
namespace Go.Proofs.YtgmdaaenhmclfaaDoor.Door
open Go.ChangeShapes Go.WideShapes Go.ChangeAt Go.RowKit
theorem own : ownKnob Tryd.prog.godebug = none := by kernel_rfl
theorem et : Tryd.prog.globalNamed "errors.errorType" = some 0 := by kernel_rfl
theorem rt : (Tryd.prog.cutTypes.find? (·.1 == "internal/reflectlite.rtype")).map (·.2) = some 96 := by kernel_rfl
theorem oneRow : ((List.range 139).filter fun t => Tryd.prog.rowNamed t [101, 114, 114, 111, 114]) = [35] := by kernel_rfl
theorem nTypes : Tryd.prog.types.size = 139 := by kernel_rfl
/-- What the list gives of the variable errors.errorType: its one cell. -/
theorem handle {W : World} (h : handlesMet Tryd.prog [("errors.errorType", Rows.laid_errors_errorType)] W) : W.cell? ⟨0, 0, none⟩ = some (.iface 96 (.agg #[.pointer (some ⟨1, 35, none⟩)])) := by
  obtain ⟨name, u, ty, e1, e2, e3, e4, e5⟩ := h _ (List.mem_singleton.2 rfl)
  have en : name = [101, 114, 114, 111, 114] := (Option.some.inj e1).symm
  subst en
  obtain rfl := Option.some.inj (rt.symm.trans e2)
  have hm : ty ∈ (List.range 139).filter fun t => Tryd.prog.rowNamed t [101, 114, 114, 111, 114] := List.mem_filter.2 ⟨List.mem_range.2 (by rw [← nTypes]; exact e3), e4⟩
  rw [oneRow] at hm
  obtain rfl := List.mem_singleton.1 hm
  have hh : typeHandle Tryd.prog 35 = .pointer (some ⟨1, 35, none⟩) := by kernel_rfl
  rw [hh] at e5
  simpa using World.var?_cell et e5 0
/-- How many blocks there are at the least. -/
theorem size {W : World} (h : W.ShapedOpen Tryd.prog) : 1 ≤ W.heap.size := by
  have e : ((((begin Tryd.prog (fun _ _ => 0) default).world.heap[1 - 1]?).bind Obj.row?).isSome) = true := by kernel_rfl
  obtain ⟨⟨zero, t⟩, hx⟩ := Option.isSome_iff_exists.1 e
  obtain ⟨cs, hc, _⟩ := h.1 (1 - 1) zero t (of_decide_eq_true (show decide (1 - 1 < Tryd.prog.globals.size) = true by kernel_rfl)) hx
  have := (Array.getElem?_eq_some_iff.1 hc).1
  omega
/-- The premise of the walks. -/
theorem gl {W : World} (hs : W.ShapedOpen Tryd.prog) (h : laidMetH Tryd.prog [("errors.errorType", Rows.laid_errors_errorType)] W) : GL W where
  size := size hs
  err := handle (show laidMet Tryd.prog [] W ∧ handlesMet Tryd.prog [("errors.errorType", Rows.laid_errors_errorType)] W from h).2
/-- A world that meets the condition: the settled one, the variable's cell laid. -/
noncomputable def laidWorld (os : Os) : World :=
  let w0 := World.holding Tryd.prog os ⟨#[], #[], []⟩
  { w0 with heap := w0.heap.modify 0 fun
      | .cells _ t frozen => .cells #[.iface 96 (.agg #[.pointer (some ⟨1, 35, none⟩)])] t frozen
      | o => o }
theorem met (os : Os) (args : Array Value) : laidMetH Tryd.prog [("errors.errorType", Rows.laid_errors_errorType)] ((laidWorld os).forCall (fun _ _ => 0) ⟨#[], args, []⟩).memory :=
  laidMetH_of_parts (laidMet_nil _ _) (by kernel_rfl)

end Go.Proofs.YtgmdaaenhmclfaaDoor.Door
