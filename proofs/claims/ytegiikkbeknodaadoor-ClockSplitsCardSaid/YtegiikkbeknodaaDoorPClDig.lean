/- Plain mathematics of ClockStamps: the digits; the two Splits. -/
import Derived.Test.YtegiikkbeknodaaDoorPClC
set_option linter.unusedVariables false
set_option linter.unusedSimpArgs false
namespace Go.Proofs.YtegiikkbeknodaaDoor.PClk
open Go.RowKit Go.Proofs.YtegiikkbeknodaaDoor.P Go.Proofs.YtegiikkbeknodaaDoorW.PrintWords Go.Proofs.YtegiikkbeknodaaDoorW.PrintLast Go.Proofs.YtegiikkbeknodaaDoorW.PrintMore
theorem ba_append (a b : List UInt8) : (⟨a.toArray⟩ : ByteArray) ++ ⟨b.toArray⟩ = ⟨(a ++ b).toArray⟩ := by
  apply ByteArray.ext
  rw [ByteArray.data_append]
  simp
theorem ba_size (a b : ByteArray) : (a ++ b).size = a.size + b.size := ByteArray.size_append
theorem ext_dig (i : Nat) (h : i < 10) : (⟨#[48, 49, 50, 51, 52, 53, 54, 55, 56, 57]⟩ : ByteArray).extract i (i + 1) = ⟨([UInt8.ofNat (48 + i)] : List UInt8).toArray⟩ := by
  have hc : i = 0 ∨ i = 1 ∨ i = 2 ∨ i = 3 ∨ i = 4 ∨ i = 5 ∨ i = 6 ∨ i = 7 ∨ i = 8 ∨ i = 9 := by omega
  rcases hc with rfl | rfl | rfl | rfl | rfl | rfl | rfl | rfl | rfl | rfl <;> decide +kernel
theorem dig_step (k n least : Nat) (l : List UInt8) (hn : n < 9000000000000000000) (hz : l.length < 9000000000000000000) (hgo : 0 < n ∨ l.length < least) :
    belvedereref05_digits.l0 (k + 1) (n : Int) (least : Int) ⟨l.toArray⟩ = belvedereref05_digits.l0 k ((n / 10 : Nat) : Int) (least : Int) ⟨(UInt8.ofNat (48 + n % 10) :: l).toArray⟩ := by
  have t1 : Int.tmod (n : Int) 10 = ((n % 10 : Nat) : Int) := tmn n 10
  have t2 : wrap64 (Int.tdiv (n : Int) 10) = ((n / 10 : Nat) : Int) := by rw [show Int.tdiv (n : Int) 10 = ((n / 10 : Nat) : Int) from tdn n 10, w64 (by omega) (by omega)]
  have t3 : wrap64 (((n % 10 : Nat) : Int) + 1) = ((n % 10 + 1 : Nat) : Int) := by rw [w64 (by omega) (by omega)]; omega
  have g1 : (0 : Int) ≤ ((n % 10 : Nat) : Int) := Int.natCast_nonneg _
  have g2 : ((n % 10 : Nat) : Int) ≤ ((n % 10 + 1 : Nat) : Int) := by omega
  have g3 : ((n % 10 + 1 : Nat) : Int) ≤ 10 := by omega
  have e := ext_dig (n % 10) (by omega)
  have g4 : (⟨([UInt8.ofNat (48 + n % 10)] : List UInt8).toArray⟩ : ByteArray).size + (⟨l.toArray⟩ : ByteArray).size ≤ 9223372036854775807 := by
    show 1 + l.length ≤ _
    omega
  have ec := ba_append [UInt8.ofNat (48 + n % 10)] l
  rw [belvedereref05_digits.l0, t1, t3, Int.toNat_natCast, Int.toNat_natCast, e, t2, ec]
  by_cases h0 : 0 < n
  · have c : (n : Int) > 0 := by omega
    rw [if_pos c, if_pos g1, if_pos g2, if_pos g3, if_pos g4]
    rfl
  · have c : ¬ ((n : Int) > 0) := by omega
    have c2 : ((⟨l.toArray⟩ : ByteArray).size : Int) < (least : Int) := by
      have e2 : (⟨l.toArray⟩ : ByteArray).size = l.length := rfl
      rw [e2]; omega
    rw [if_neg c, if_pos c2, if_pos g1, if_pos g2, if_pos g3, if_pos g4]
    rfl
theorem dig_stop (k least : Nat) (l : List UInt8) (h : least ≤ l.length) : belvedereref05_digits.l0 (k + 1) ((0 : Nat) : Int) (least : Int) ⟨l.toArray⟩ = some ⟨l.toArray⟩ := by
  have c : ¬ (((0 : Nat) : Int) > 0) := by decide
  have c2 : ¬ (((⟨l.toArray⟩ : ByteArray).size : Int) < (least : Int)) := by
    have e2 : (⟨l.toArray⟩ : ByteArray).size = l.length := rfl
    rw [e2]; omega
  rw [belvedereref05_digits.l0, if_neg c, if_neg c2]
theorem dig_two (n : Nat) (h : n < 100) : belvedereref05_digits.f 3 (n : Int) 2 = some (d2 n) := by
  unfold belvedereref05_digits.f
  have e0 : (⟨#[]⟩ : ByteArray) = ⟨([] : List UInt8).toArray⟩ := rfl
  rw [e0, show (2 : Int) = ((2 : Nat) : Int) from rfl, dig_step 2 n 2 [] (by omega) (by simp) (.inr (by simp)), dig_step 1 (n / 10) 2 _ (by omega) (by simp) (.inr (by simp)), show n / 10 / 10 = 0 by omega, dig_stop 0 2 _ (by simp)]
  unfold d2
  rw [show n / 10 % 10 = n / 10 by omega]
theorem dig_two_ev (n : Nat) (h : n < 100) : Ev (fun k => belvedereref05_digits.f k (n : Int) 2) (d2 n) := Ev.of (belvedereref05_digits.mono _ _) (dig_two n h)
theorem dig_all : ∀ (B n : Nat) (l : List UInt8), n ≤ B → 0 < n → n + l.length < 9000000000000000000 → ∃ k, belvedereref05_digits.l0 k (n : Int) 1 ⟨l.toArray⟩ = some ⟨(Lib.decDigits n ++ l).toArray⟩ := by
  intro B
  induction B with
  | zero => intro n l h0 h1; omega
  | succ B ih =>
    intro n l hB h0 hz
    by_cases h10 : n < 10
    · refine ⟨2, ?_⟩
      rw [show (1 : Int) = ((1 : Nat) : Int) from rfl, dig_step 1 n 1 l (by omega) (by omega) (.inl h0), show n / 10 = 0 by omega, dig_stop 0 1 _ (by simp), Lib.decDigits_one h10, show n % 10 = n by omega]
      rfl
    · obtain ⟨k, hk⟩ := ih (n / 10) (UInt8.ofNat (48 + n % 10) :: l) (by omega) (by omega) (by simp; omega)
      refine ⟨k + 1, ?_⟩
      rw [show (1 : Int) = ((1 : Nat) : Int) from rfl, dig_step k n 1 l (by omega) (by omega) (.inl h0)]
      rw [show (1 : Int) = ((1 : Nat) : Int) from rfl] at hk
      rw [hk]
      conv => rhs; rw [Lib.decDigits, dif_neg h10]
      simp
theorem dig_ev (n : Nat) (h0 : 0 < n) (h1 : n < 1000000000000000000) : Ev (fun k => belvedereref05_digits.f k (n : Int) 1) ⟨(Lib.decDigits n).toArray⟩ := by
  obtain ⟨k, hk⟩ := dig_all n n [] (Nat.le_refl _) h0 (by simp; omega)
  refine Ev.of (belvedereref05_digits.mono _ _) (k := k) ?_
  unfold belvedereref05_digits.f
  rw [show (⟨#[]⟩ : ByteArray) = ⟨([] : List UInt8).toArray⟩ from rfl, hk, List.append_nil]
theorem one_size (c : UInt8) : (⟨#[c]⟩ : ByteArray).size = 1 := rfl
/-! Split. -/
theorem ref_split (t o : Int) (h0 : 0 ≤ t) (h1 : t ≤ 4611686018427387904) (h2 : -50400 ≤ o) (h3 : o ≤ 50400) : belvedereref05_Split.f 1 t o = some ((t + o) / 86400, (t + o) % 86400, 0) := by
  have t1 : Int.tmod t 86400 = t % 86400 := Int.tmod_eq_emod_of_nonneg h0
  have t2 : Int.tdiv t 86400 = t / 86400 := Int.tdiv_eq_ediv_of_nonneg h0
  have w1 : wrap64 (t % 86400 + o) = t % 86400 + o := w64 (by omega) (by omega)
  have w2 : wrap64 (t / 86400) = t / 86400 := w64 (by omega) (by omega)
  have w3 : wrap64 (t / 86400 - 1) = t / 86400 - 1 := w64 (by omega) (by omega)
  have w4 : wrap64 (t % 86400 + o + 86400) = t % 86400 + o + 86400 := w64 (by omega) (by omega)
  have w5 : wrap64 (t / 86400 + 1) = t / 86400 + 1 := w64 (by omega) (by omega)
  have w6 : wrap64 (t % 86400 + o - 86400) = t % 86400 + o - 86400 := w64 (by omega) (by omega)
  unfold belvedereref05_Split.f
  rw [if_neg (by omega), if_neg (by omega), if_neg (by omega), show decide (o > 50400) = false from decide_eq_false (by omega), belvedereref05_Split.j0, if_neg (by decide), t1, t2, w1, w2, w3, w4, w5, w6]
  by_cases c1 : t % 86400 + o < 0
  · rw [if_pos c1, if_neg (show ¬ (t % 86400 + o + 86400 ≥ 86400) by omega)]
    congr 2 <;> first | omega | (congr 1; omega)
  · rw [if_neg c1]
    by_cases c2 : t % 86400 + o ≥ 86400
    · rw [if_pos c2]
      congr 2 <;> first | omega | (congr 1; omega)
    · rw [if_neg c2]
      congr 2 <;> first | omega | (congr 1; omega)
theorem split_bad (t o : Int) (h : ¬ (0 ≤ t ∧ t ≤ 4611686018427387904 ∧ -50400 ≤ o ∧ o ≤ 50400)) : clock_Split.f t o = some (0, 0, some 1) ∧ belvedereref05_Split.f 1 t o = some (0, 0, 1) := by
  constructor
  · unfold clock_Split.f clock_away.f
    by_cases a : t < 0
    · rw [if_pos a]
    · rw [if_neg a]
      by_cases b : t > 4611686018427387904
      · rw [if_pos b]
      · rw [if_neg b]
        by_cases c : o < -50400
        · rw [if_pos c]; rfl
        · rw [if_neg c, show decide (o > 50400) = true from decide_eq_true (by omega)]; rfl
  · unfold belvedereref05_Split.f
    by_cases a : t < 0
    · rw [if_pos a, belvedereref05_Split.j0, if_pos rfl]
    · rw [if_neg a]
      by_cases b : t > 4611686018427387904
      · rw [if_pos b, belvedereref05_Split.j0, if_pos rfl]
      · rw [if_neg b]
        by_cases c : o < -50400
        · rw [if_pos c, belvedereref05_Split.j0, if_pos rfl]
        · rw [if_neg c, show decide (o > 50400) = true from decide_eq_true (by omega), belvedereref05_Split.j0, if_pos rfl]
end Go.Proofs.YtegiikkbeknodaaDoor.PClk
