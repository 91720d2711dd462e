/- Plain mathematics of ClockSplits, and its walk for every argument. -/
import Derived.Test.YtegiikkbeknodaaDoorPClSplits
set_option linter.unusedVariables false
set_option linter.unusedSimpArgs false
namespace Go.Proofs.YtegiikkbeknodaaDoor.PClk
open Go.RowKit Go.Proofs.YtegiikkbeknodaaDoor.P Go.Proofs.YtegiikkbeknodaaDoorW.PrintWords Go.Proofs.YtegiikkbeknodaaDoorW.PrintLast Go.Proofs.YtegiikkbeknodaaDoorW.PrintMore
theorem splits_two (t o : Int) : ∃ D s e, clock_Split.f t o = some (D, s, e) ∧ belvedereref05_Split.f 1 t o = some (D, s, e.getD 0) := by
  by_cases h : 0 ≤ t ∧ t ≤ 4611686018427387904 ∧ -50400 ≤ o ∧ o ≤ 50400
  · obtain ⟨h0, h1, h2, h3⟩ := h
    exact ⟨_, _, none, split_in t o h0 h1 h2 h3, ref_split t o h0 h1 h2 h3⟩
  · obtain ⟨s1, s2⟩ := split_bad t o h
    exact ⟨0, 0, some 1, s1, s2⟩
theorem of_in (n : Int) (h0 : -70368744177664 ≤ n) (h1 : n ≤ 70368744177664) : ∃ y m d, civil_Of.f n = some (y, m, d, none) := by
  unfold civil_Of.f
  rw [if_neg (by omega), if_neg (by omega)]
  split
  · exact ⟨_, _, _, rfl⟩
  · exact ⟨_, _, _, rfl⟩
theorem of_out (n : Int) (h : ¬ (-70368744177664 ≤ n ∧ n ≤ 70368744177664)) : civil_Of.f n = some (0, 0, 0, some 1) := by
  unfold civil_Of.f
  by_cases a : n < -70368744177664
  · rw [if_pos a]
  · rw [if_neg a, if_pos (by omega)]
theorem join_j0 (o m0 m1 : Int) : clock_Join.j0 1 o true m0 m1 = some (0, some 1) := by rw [clock_Join.j0, if_pos rfl]
theorem rjoin_j0 (m0 m1 o : Int) : belvedereref05_Join.j0 1 m0 m1 o true = some (0, 1) := by rw [belvedereref05_Join.j0, if_pos rfl]
theorem own_join_bad (m0 m1 o : Int) (h : ¬ (-70368744177664 ≤ m0 ∧ m0 ≤ 70368744177664 ∧ 0 ≤ m1 ∧ m1 ≤ 86399 ∧ -50400 ≤ o ∧ o ≤ 50400)) : clock_Join.f 1 m0 m1 o = some (0, some 1) := by
  unfold clock_Join.f
  by_cases a : -70368744177664 ≤ m0 ∧ m0 ≤ 70368744177664
  · obtain ⟨y, m, d, e⟩ := of_in m0 a.1 a.2
    simp only [e, Option.bind_some, Option.isNone_none, if_true]
    by_cases b : m1 < 0
    · rw [if_pos b, join_j0]
    · rw [if_neg b]
      by_cases c : m1 ≥ 86400
      · rw [if_pos c, join_j0]
      · rw [if_neg c]
        unfold clock_away.f
        by_cases d : o < -50400
        · rw [if_pos d, Option.bind_some, join_j0]
        · rw [if_neg d, show decide (o > 50400) = true from decide_eq_true (by omega), Option.bind_some, join_j0]
  · simp only [of_out m0 a, Option.bind_some, Option.isNone_some, Bool.false_eq_true, if_false, join_j0]
theorem ref_join_bad (m0 m1 o : Int) (h : ¬ (-70368744177664 ≤ m0 ∧ m0 ≤ 70368744177664 ∧ 0 ≤ m1 ∧ m1 ≤ 86399 ∧ -50400 ≤ o ∧ o ≤ 50400)) : belvedereref05_Join.f 1 m0 m1 o = some (0, 1) := by
  unfold belvedereref05_Join.f
  by_cases a : m0 < -70368744177664
  · rw [if_pos a, rjoin_j0]
  rw [if_neg a]
  by_cases b : m0 > 70368744177664
  · rw [if_pos b, rjoin_j0]
  rw [if_neg b]
  by_cases c : m1 < 0
  · rw [if_pos c, rjoin_j0]
  rw [if_neg c]
  by_cases d : m1 > 86399
  · rw [if_pos d, rjoin_j0]
  rw [if_neg d]
  by_cases e : o < -50400
  · rw [if_pos e, rjoin_j0]
  rw [if_neg e, show decide (o > 50400) = true from decide_eq_true (by omega), rjoin_j0]
theorem join_two (m0 m1 o : Int) : ∃ y g, clock_Join.f 1 m0 m1 o = some (y, g) ∧ belvedereref05_Join.f 1 m0 m1 o = some (y, g.getD 0) := by
  by_cases h : -70368744177664 ≤ m0 ∧ m0 ≤ 70368744177664 ∧ 0 ≤ m1 ∧ m1 ≤ 86399 ∧ -50400 ≤ o ∧ o ≤ 50400
  · obtain ⟨h0, h1, h2, h3, h4, h5⟩ := h
    obtain ⟨y, m, d, e⟩ := of_in m0 h0 h1
    have w1 : wrap64 (m0 * 86400) = m0 * 86400 := w64 (by omega) (by omega)
    have w2 : wrap64 (m0 * 86400 + m1) = m0 * 86400 + m1 := w64 (by omega) (by omega)
    have w3 : wrap64 (m0 * 86400 + m1 - o) = m0 * 86400 + m1 - o := w64 (by omega) (by omega)
    have c : 86400 * m0 = m0 * 86400 := Int.mul_comm _ _
    have H : clock_Join.f 1 m0 m1 o = (if m0 * 86400 + m1 - o < 0 then some (0, some 5) else if m0 * 86400 + m1 - o > 4611686018427387904 then some (0, some 5) else some (m0 * 86400 + m1 - o, none)) := by
      unfold clock_Join.f
      simp only [e, Option.bind_some, Option.isNone_none, if_true]
      rw [if_neg (by omega), if_neg (by omega), away_in o h4 h5, Option.bind_some, clock_Join.j0, if_neg (by decide), w1, w2, w3]
    have H2 : belvedereref05_Join.f 1 m0 m1 o = (if m0 * 86400 + m1 - o < 0 then some (0, 5) else if m0 * 86400 + m1 - o > 4611686018427387904 then some (0, 5) else some (m0 * 86400 + m1 - o, 0)) := by
      unfold belvedereref05_Join.f
      rw [if_neg (by omega), if_neg (by omega), if_neg (by omega), if_neg (by omega), if_neg (by omega), show decide (o > 50400) = false from decide_eq_false (by omega), belvedereref05_Join.j0, if_neg (by decide), c, w1, w2, w3]
    rw [H, H2]
    by_cases a : m0 * 86400 + m1 - o < 0
    · rw [if_pos a, if_pos a]; exact ⟨_, _, rfl, rfl⟩
    · rw [if_neg a, if_neg a]
      by_cases b : m0 * 86400 + m1 - o > 4611686018427387904
      · rw [if_pos b, if_pos b]; exact ⟨_, _, rfl, rfl⟩
      · rw [if_neg b, if_neg b]; exact ⟨_, _, rfl, rfl⟩
  · exact ⟨0, some 1, own_join_bad m0 m1 o h, ref_join_bad m0 m1 o h⟩
end Go.Proofs.YtegiikkbeknodaaDoor.PClk
namespace Go.Proofs.YtegiikkbeknodaaDoor.P
open Go.RowKit Go.Proofs.YtegiikkbeknodaaDoorW.PrintWords Go.Proofs.YtegiikkbeknodaaDoorW.PrintLast Go.Proofs.YtegiikkbeknodaaDoorW.PrintMore
theorem belvederelaw05_ClockSplits.walk (t o m0 m1 : Int) (w : World) (hG : GL w) :
    Calls Tryd.prog 6 #[.int .i64 t, .int .i64 o, .agg #[.int .i64 m0, .int .i64 m1]] w fun e w' => e = .returned (.bool true) ∧ Below w.heap.size w w' := by
  obtain ⟨D, s, e, h1, h2⟩ := PClk.splits_two t o
  obtain ⟨y, g, h3, h4⟩ := PClk.join_two m0 m1 o
  exact splits_walk t o m0 m1 D s y e g 1 1 1 1 h1 h2 h3 h4 PClk.sure_1 w hG
end Go.Proofs.YtegiikkbeknodaaDoor.P
