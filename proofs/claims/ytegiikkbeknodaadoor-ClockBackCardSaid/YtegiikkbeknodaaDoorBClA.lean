/- Plain mathematics of layer 5: the two digits, the sure ones, Split, Add. -/
import Derived.Test.YtegiikkbeknodaaDoorBx5
import Derived.OpenShut
set_option linter.unusedVariables false
set_option linter.unusedSimpArgs false
namespace Go.Proofs.YtegiikkbeknodaaDoor.BClk
open Go.RowKit Go.Proofs.YtegiikkbeknodaaDoor.B Go.Proofs.YtegiikkbeknodaaDoorW.PrintWords Go.Proofs.YtegiikkbeknodaaDoorW.PrintLast Go.Proofs.YtegiikkbeknodaaDoorW.PrintMore
theorem w64 {x : Int} (h0 : -9223372036854775808 ≤ x) (h1 : x ≤ 9223372036854775807) : wrap64 x = x := by unfold wrap64; omega
theorem itoa_nat (n : Nat) (h : n < 9223372036854775808) : strconv_Itoa_25.f (n : Int) = some ⟨(Lib.decDigits n).toArray⟩ := by
  unfold strconv_Itoa_25.f
  rw [if_pos (by omega), if_pos (by omega), Lib.itoa_nonneg]
theorem dig_1970 : Lib.decDigits 1970 = [49, 57, 55, 48] := by
  rw [Lib.decDigits, dif_neg (by decide), show 1970 / 10 = 197 from rfl, Lib.decDigits, dif_neg (by decide), show 197 / 10 = 19 from rfl, Lib.decDigits, dif_neg (by decide), show 19 / 10 = 1 from rfl, Lib.decDigits, dif_pos (by decide)]
  rfl
theorem split_86399 : clock_Split.f 86399 0 = some (0, 86399, none) := by decide +kernel
theorem of_0 : civil_Of.f 0 = some (1970, 1, 1, none) := by decide +kernel
theorem stamp_sure : clock_Stamp.f 86399 0 = some (⟨#[49, 57, 55, 48, 45, 48, 49, 45, 48, 49, 32, 50, 51, 58, 53, 57, 58, 53, 57]⟩, none) := by
  have i1 := itoa_nat 1970 (by decide)
  rw [dig_1970] at i1
  unfold clock_Stamp.f
  simp only [split_86399, Option.bind_some, of_0]
  unfold stampIn
  rw [if_pos (by decide), show ((1970 : Int)) = ((1970 : Nat) : Int) from rfl, i1]
  decide +kernel
theorem hours_sure : clock_Hours.f 1 3600 = some (⟨#[48, 49, 58, 48, 48]⟩, none) := by
  decide +kernel
theorem sure_1 : belvederelaw05_sure.f 1 = some true := by
  unfold belvederelaw05_sure.f
  rw [stamp_sure, hours_sure]
  decide +kernel
theorem sure_ev : Ev (fun k => belvederelaw05_sure.f k) true := Ev.of (belvederelaw05_sure.mono) sure_1
theorem tmod_86400 (u : Int) (h0 : -86400 < u) (h1 : u ≤ 9223372036854689407) : Int.tmod (wrap64 (Int.tmod u 86400 + 86400)) 86400 = u % 86400 := by
  by_cases hu : 0 ≤ u
  · rw [Int.tmod_eq_emod_of_nonneg hu, w64 (by omega) (by omega), Int.tmod_eq_emod_of_nonneg (by omega)]
    omega
  · obtain ⟨n, rfl⟩ : ∃ n : Nat, u = -(n : Int) := ⟨u.natAbs, by omega⟩
    rw [Int.neg_tmod, Int.tmod_eq_emod_of_nonneg (Int.natCast_nonneg n), w64 (by omega) (by omega), Int.tmod_eq_emod_of_nonneg (by omega)]
    omega
theorem tdiv_86400 (u : Int) (h0 : -86400 < u) (h1 : u ≤ 9223372036854775807) : Int.tdiv (u - u % 86400) 86400 = u / 86400 := by
  by_cases hu : 0 ≤ u
  · rw [Int.tdiv_eq_ediv_of_nonneg (by omega)]
    omega
  · have e : u - u % 86400 = -(86400 : Int) := by omega
    rw [e, show Int.tdiv (-(86400 : Int)) 86400 = -1 from by decide]
    omega
theorem away_in (o : Int) (h0 : -50400 ≤ o) (h1 : o ≤ 50400) : clock_away.f o = some false := by
  unfold clock_away.f
  rw [if_neg (by omega), show decide (o > 50400) = false from decide_eq_false (by omega)]
theorem split_in (t o : Int) (h0 : 0 ≤ t) (h1 : t ≤ 4611686018427387904) (h2 : -50400 ≤ o) (h3 : o ≤ 50400) : clock_Split.f t o = some ((t + o) / 86400, (t + o) % 86400, none) := by
  have w1 : wrap64 (t + o) = t + o := w64 (by omega) (by omega)
  have m1 := tmod_86400 (t + o) (by omega) (by omega)
  have d1 := tdiv_86400 (t + o) (by omega) (by omega)
  have w2 : wrap64 (t + o - (t + o) % 86400) = t + o - (t + o) % 86400 := w64 (by omega) (by omega)
  have w3 : wrap64 ((t + o) / 86400) = (t + o) / 86400 := w64 (by omega) (by omega)
  unfold clock_Split.f
  rw [if_neg (by omega), if_neg (by omega), away_in o h2 h3]
  simp only [Option.bind_some, Bool.false_eq_true, if_false]
  rw [w1, m1, w2, d1, w3]
theorem u61 (a : Int) : ∃ n : Nat, n < 2305843009213693952 ∧ wrap64 (Int.tmod (IntKind.u64.wrap a) 2305843009213693952) = (n : Int) := by
  have h0 : 0 ≤ IntKind.u64.wrap a := by unfold IntKind.wrap; simp [IntKind.bits, IntKind.signed]; omega
  rw [Int.tmod_eq_emod_of_nonneg h0]
  refine ⟨(IntKind.u64.wrap a % 2305843009213693952).toNat, by omega, ?_⟩
  rw [w64 (by omega) (by omega)]
  omega
theorem tmod_50401 (a : Int) : -50400 ≤ Int.tmod a 50401 ∧ Int.tmod a 50401 ≤ 50400 := by
  by_cases h : 0 ≤ a
  · rw [Int.tmod_eq_emod_of_nonneg h]; omega
  · obtain ⟨n, rfl⟩ : ∃ n : Nat, a = -(n : Int) := ⟨a.natAbs, by omega⟩
    rw [Int.neg_tmod, Int.tmod_eq_emod_of_nonneg (Int.natCast_nonneg n)]
    omega
/-! Add -/
theorem own_add (a b x : Int) (hx : mn (mx a 0) 4611686018427387904 = x) (h0 : 0 ≤ x) (h1 : x ≤ 4611686018427387904) (b0 : -9223372036854775808 ≤ b) (b1 : b ≤ 9223372036854775807) :
    clock_Add.f a b = some (if b > 4611686018427387904 - x then 4611686018427387904 else if b < -x then 0 else x + b) := by
  unfold clock_Add.f
  rw [hx]
  by_cases hc : b > 4611686018427387904 - x
  · rw [if_pos hc, if_pos hc]
  · rw [if_neg hc, if_neg hc, w64 (by omega) (by omega)]
    by_cases hd : b < -x
    · rw [if_pos hd]
      have e : mx (x + b) 0 = 0 := by unfold mx; omega
      rw [e]
    · rw [if_neg hd]
      have e : mx (x + b) 0 = x + b := by unfold mx; omega
      rw [e]
theorem clamp_cases (a : Int) : (a < 0 ∧ mn (mx a 0) 4611686018427387904 = 0) ∨ (0 ≤ a ∧ a ≤ 4611686018427387904 ∧ mn (mx a 0) 4611686018427387904 = a) ∨ (4611686018427387904 < a ∧ mn (mx a 0) 4611686018427387904 = 4611686018427387904) := by
  unfold mn mx
  omega
theorem wf64 {a : Int} (h : (Lit.int .i64 a).wf = true) : -9223372036854775808 ≤ a ∧ a ≤ 9223372036854775807 := by
  have := bounds_i64 h
  omega
end Go.Proofs.YtegiikkbeknodaaDoor.BClk
