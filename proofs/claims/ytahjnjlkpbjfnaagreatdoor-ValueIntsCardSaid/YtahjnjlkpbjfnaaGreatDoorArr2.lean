/- An array of two whole numbers as a row's parameter: what it is. -/
import Derived.Test.YtahjnjlkpbjfnaaGreatDoorProg
import Derived.OpenShut
import Derived.WideKeyArr2
namespace Go.Proofs.YtahjnjlkpbjfnaaGreatDoor.Arr2
open Go.ChangeShapes Go.WideShapes
section
variable {H : Type} {enc : TypeId × Value → H} {P : Program} {k e : TypeId} {q : IntKind} {W : World} {base : Nat} {sp : Nat → Bool} {held : Bool}
theorem okWide_arr2 (hu : P.underlying k = some (.array 2 e)) (hs : P.cellsOf k = 2) {r : Reach} {b0 : Nat} {v : Value} (h : Value.okWide P W r b0 k v) : ∃ x y : Value, v = .agg #[x, y] := by
  simp only [Value.okWide, hu] at h
  obtain ⟨cs, h1, h2, _⟩ := h
  rw [hs] at h2
  obtain ⟨l⟩ := cs
  match l, h2 with
  | [x, y], _ => exact ⟨x, y, h1⟩
theorem open_arr2 (hu : P.underlying k = some (.array 2 e)) (he : P.underlying e = some (.int q)) (hs : P.cellsOf k = 2) (hc : P.cellsOf e = 1) {x y : Value} {d : DataW H} {ps : List MemPlace} (hd : DataW.Trod enc P W base sp held k (.agg #[x, y]) d ps) :
    ∃ a b : Int, x = .int q a ∧ y = .int q b ∧ (Lit.int q a).wf = true ∧ (Lit.int q b).wf = true := by
  obtain ⟨fuel, hf⟩ := hd
  cases fuel with
  | zero => simp [DataW.trod] at hf
  | succ m =>
    rw [DataW.trod_step] at hf
    unfold DataW.trodStep at hf
    simp only [hu, Value.cells, hs, hc] at hf
    rw [if_pos (by simp)] at hf
    simp only [Option.map_eq_some_iff] at hf
    obtain ⟨ys, hy, _⟩ := hf
    rw [show List.range 2 = [0, 1] from rfl, List.mapM_cons] at hy
    simp only [bind, Option.bind_eq_some_iff, pure, Option.some.injEq, List.mapM_cons, List.mapM_nil] at hy
    obtain ⟨y0, h0, ys1, ⟨y1, h1, _⟩, _⟩ := hy
    obtain ⟨a, ea, _, wa⟩ := DataW.trod_int he h0
    obtain ⟨b, eb, _, wb⟩ := DataW.trod_int he h1
    simp at ea eb
    exact ⟨a, b, ea, eb, wa, wb⟩
end
end Go.Proofs.YtahjnjlkpbjfnaaGreatDoor.Arr2
