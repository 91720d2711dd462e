/- For the cards of this seat: what a row's list gives a walk (the premise GL), and a world for the witness. After the kit's worked examples on laid variables. -/
import Derived.Test.YtgaklpmedgcglaaDoorCards
import Derived.Test.YtgaklpmedgcglaaDoorTie
import Derived.Test.YtgaklpmedgcglaaDoorGl
import Derived.WalkKit
import Derived.ProofKit
import Derived.LaidLaws
import Derived.LaidHandle
import Derived.Lib.LaidTab
import Derived.Deep.DeepHandedRow
namespace Go.Proofs.YtgaklpmedgcglaaDoor.Door
open Go.ChangeShapes Go.WideShapes Go.ChangeAt Go.RowKit
theorem own : ownKnob Tryd.prog.godebug = none := by kernel_rfl
theorem et : Tryd.prog.globalNamed "errors.errorType" = some 1 := by kernel_rfl
theorem rt : (Tryd.prog.cutTypes.find? (·.1 == "internal/reflectlite.rtype")).map (·.2) = some 64 := by kernel_rfl
theorem oneRow : ((List.range 106).filter fun t => Tryd.prog.rowNamed t [101, 114, 114, 111, 114]) = [32] := by kernel_rfl
theorem nTypes : Tryd.prog.types.size = 106 := by kernel_rfl
/-- What the list gives of the variable errors.errorType: its one cell. -/
theorem handle {W : World} (h : handlesMet Tryd.prog [("errors.errorType", Rows.laid_errors_errorType)] W) : W.cell? ⟨1, 0, none⟩ = some (.iface 64 (.agg #[.pointer (some ⟨2, 32, none⟩)])) := by
  obtain ⟨name, u, ty, e1, e2, e3, e4, e5⟩ := h _ (List.mem_singleton.2 rfl)
  have en : name = [101, 114, 114, 111, 114] := (Option.some.inj e1).symm
  subst en
  obtain rfl := Option.some.inj (rt.symm.trans e2)
  have hm : ty ∈ (List.range 106).filter fun t => Tryd.prog.rowNamed t [101, 114, 114, 111, 114] := List.mem_filter.2 ⟨List.mem_range.2 (by rw [← nTypes]; exact e3), e4⟩
  rw [oneRow] at hm
  obtain rfl := List.mem_singleton.1 hm
  have hh : typeHandle Tryd.prog 32 = .pointer (some ⟨2, 32, none⟩) := by kernel_rfl
  rw [hh] at e5
  simpa using World.var?_cell et e5 0
/-- How many blocks there are at the least. -/
theorem size {W : World} (h : W.ShapedOpen Tryd.prog) : 2 ≤ W.heap.size := by
  have e : ((((begin Tryd.prog (fun _ _ => 0) default).world.heap[2 - 1]?).bind Obj.row?).isSome) = true := by kernel_rfl
  obtain ⟨⟨zero, t⟩, hx⟩ := Option.isSome_iff_exists.1 e
  obtain ⟨cs, hc, _⟩ := h.1 (2 - 1) zero t (of_decide_eq_true (show decide (2 - 1 < Tryd.prog.globals.size) = true by kernel_rfl)) hx
  have := (Array.getElem?_eq_some_iff.1 hc).1
  omega
theorem stepsVar : Tryd.prog.globalNamed "belvedere/crc.steps" = some 0 := by kernel_rfl
theorem stepsType : (Tryd.prog.globals[0]?).map (·.type) = some 42 := by kernel_rfl
theorem cellsArr : Tryd.prog.cellsOf 42 = 16 := by kernel_rfl
theorem cellsOne : Tryd.prog.cellsOf 23 = 1 := by kernel_rfl
def nums : List Int := [0, 498536548, 997073096, 651767980, 1994146192, 1802195444, 1303535960, 1342533948, 3988292384, 4027552580, 3604390888, 3412177804, 2607071920, 2262029012, 2685067896, 3183342108]
theorem stepsOf {W : World} (h : laidMet Tryd.prog [("belvedere/crc.steps", Rows.laid_belvedere_crc_steps)] W) : ∀ j, j < 16 → W.cell? ⟨0, j, none⟩ = some (.int .u32 (nums.getD j 0)) := fun j hj => by
  have ht : Lib.TabIs Tryd.prog W "belvedere/crc.steps" .u32 nums := Lib.tabIs_of_head (rest := []) stepsVar stepsType Tryd.underlying42 Tryd.underlying23 cellsOne cellsArr h
  exact ht.cell stepsVar j hj
/-- The premise of the walks. -/
theorem gl {W : World} (hs : W.ShapedOpen Tryd.prog) (h : laidMetH Tryd.prog [("errors.errorType", Rows.laid_errors_errorType), ("belvedere/crc.steps", Rows.laid_belvedere_crc_steps)] W) : GL W where
  size := size hs
  err := handle (show laidMet Tryd.prog [("belvedere/crc.steps", Rows.laid_belvedere_crc_steps)] W ∧ handlesMet Tryd.prog [("errors.errorType", Rows.laid_errors_errorType)] W from h).2
  steps := stepsOf (show laidMet Tryd.prog [("belvedere/crc.steps", Rows.laid_belvedere_crc_steps)] W ∧ handlesMet Tryd.prog [("errors.errorType", Rows.laid_errors_errorType)] W from h).1
/-- A world that meets the condition: the settled one, the variables' cells laid. -/
noncomputable def laidWorld (os : Os) : World :=
  let w0 := World.holding Tryd.prog os ⟨#[], #[], []⟩
  { w0 with heap := (w0.heap.modify 1 fun
      | .cells _ t frozen => .cells #[.iface 64 (.agg #[.pointer (some ⟨2, 32, none⟩)])] t frozen
      | o => o).modify 0 fun
      | .cells _ t frozen => .cells (nums.map (Value.int .u32)).toArray t frozen
      | o => o }
theorem met (os : Os) (args : Array Value) : laidMetH Tryd.prog [("errors.errorType", Rows.laid_errors_errorType), ("belvedere/crc.steps", Rows.laid_belvedere_crc_steps)] ((laidWorld os).forCall (fun _ _ => 0) ⟨#[], args, []⟩).memory :=
  laidMetH_of_parts (laidMet_of_run' 8 (by kernel_rfl) (by kernel_rfl)) (by kernel_rfl)

end Go.Proofs.YtgaklpmedgcglaaDoor.Door
