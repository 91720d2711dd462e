/- Two arrays of five whole numbers, compared. -/
import Derived.Test.YtdakfmldbddokaaGreatDoorPx0
import Derived.ChangeKeysEq
set_option linter.unusedVariables false
set_option linter.unusedSimpArgs false
namespace Go.Proofs.YtdakfmldbddokaaGreatDoor.P
open Go Go.RowKit Go.Proofs.YtdakfmldbddokaaGreatDoorW.PrintWords Go.Proofs.YtdakfmldbddokaaGreatDoorW.PrintLast Go.Proofs.YtdakfmldbddokaaGreatDoorW.PrintMore
theorem infoI_ : (Tryz.prog.info? 3).map (fun i => (i.zero, i.size, i.bytes)) = some (some (.int .i64 0), 1, 8) := by kernel_rfl
theorem int_info : ∃ i, Tryz.prog.info? 3 = some i ∧ i.size = 1 := by
  have h := infoI_
  obtain ⟨i, hi, e⟩ := Option.map_eq_some_iff.1 h
  exact ⟨i, hi, by simp only [Prod.mk.injEq] at e; exact e.2.1⟩
theorem int_cells : Tryz.prog.cellsOf 3 = 1 := by
  obtain ⟨i, hi, h1⟩ := int_info
  simp [Program.cellsOf, hi, h1]
theorem arr5_eq (a b c d e a' b' c' d' e' : Int) (W : World) : (Op.equalIn 9999 22 (.agg #[.int .i64 a, .int .i64 b, .int .i64 c, .int .i64 d, .int .i64 e]) (.agg #[.int .i64 a', .int .i64 b', .int .i64 c', .int .i64 d', .int .i64 e'])).run Tryz.prog W = .ok ((a == a') && ((b == b') && ((c == c') && ((d == d') && (e == e'))))) W := by
  obtain ⟨i, hi, h1⟩ := int_info
  rw [show (9999 : Nat) = 9998 + 1 from rfl, run_equalIn_array W 9998 _ _ Tryz.underlying22 hi, int_cells]
  have hq : ∀ x y : Int, (Op.equalIn 9998 3 (.int .i64 x) (.int .i64 y)).run Tryz.prog W = .ok (x == y) W := fun x y => run_equalIn_int W 9997 3 .i64 .i64 x y Tryz.underlying3
  simp only [show List.range 5 = [0, 1, 2, 3, 4] from rfl, Op.eqItems, Sem.run_bind]
  simp [part, sizeOf, typeInfo, hi, h1, hq, go_sem]
  by_cases ha : a = a' <;> by_cases hb : b = b' <;> by_cases hc : c = c' <;> by_cases hd : d = d' <;> by_cases he : e = e' <;> simp [ha, hb, hc, hd, he]
end Go.Proofs.YtdakfmldbddokaaGreatDoor.P
