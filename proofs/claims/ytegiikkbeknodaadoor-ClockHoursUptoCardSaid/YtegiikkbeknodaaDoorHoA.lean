/- Plain mathematics of ClockHours: parts, digits, the sure ones. -/
import Derived.Test.YtegiikkbeknodaaDoorPx11
import Derived.Lib.AtoiAllCases
import Derived.Lib.IndexBytes
import Derived.Lib.ItoaMem
import Derived.Lib.Join
set_option linter.unusedVariables false
set_option linter.unusedSimpArgs false
namespace Go.Proofs.YtegiikkbeknodaaDoor.PClk
open Go.RowKit Go.Proofs.YtegiikkbeknodaaDoor.P Go.Proofs.YtegiikkbeknodaaDoorW.PrintWords Go.Proofs.YtegiikkbeknodaaDoorW.PrintLast Go.Proofs.YtegiikkbeknodaaDoorW.PrintMore
theorem w64 {x : Int} (h0 : -9223372036854775808 ≤ x) (h1 : x ≤ 9223372036854775807) : wrap64 x = x := by unfold wrap64; omega
theorem itoa_nat (n : Nat) (h : n < 9223372036854775808) : strconv_Itoa_25.f (n : Int) = some ⟨(Lib.decDigits n).toArray⟩ := by
  unfold strconv_Itoa_25.f
  rw [if_pos (by omega), if_pos (by omega), Lib.itoa_nonneg]
theorem dig_1970 : Lib.decDigits 1970 = [49, 57, 55, 48] := by
  rw [Lib.decDigits, dif_neg (by decide), show 1970 / 10 = 197 from rfl, Lib.decDigits, dif_neg (by decide), show 197 / 10 = 19 from rfl, Lib.decDigits, dif_neg (by decide), show 19 / 10 = 1 from rfl, Lib.decDigits, dif_pos (by decide)]
  rfl
theorem split_86399 : clock_Split.f 86399 0 = some (0, 86399, none) := by decide +kernel
theorem of_0 : civil_Of.f 0 = some (1970, 1, 1, none) := by decide +kernel
theorem stamp_sure : clock_Stamp.f 86399 0 = some (⟨#[49, 57, 55, 48, 45, 48, 49, 45, 48, 49, 32, 50, 51, 58, 53, 57, 58, 53, 57]⟩, none) := by
  have i1 := itoa_nat 1970 (by decide)
  rw [dig_1970] at i1
  unfold clock_Stamp.f
  simp only [split_86399, Option.bind_some, of_0]
  unfold stampIn
  rw [if_pos (by decide), show ((1970 : Int)) = ((1970 : Nat) : Int) from rfl, i1]
  decide +kernel
theorem hours_sure : clock_Hours.f 1 3600 = some (⟨#[48, 49, 58, 48, 48]⟩, none) := by
  decide +kernel
theorem sure_1 : w5_sure.f 1 = some true := by
  unfold w5_sure.f
  rw [stamp_sure, hours_sure]
  decide +kernel
theorem sure_ev : Ev (fun k => w5_sure.f k) true := Ev.of (w5_sure.mono) sure_1
theorem tmn (n m : Nat) : Int.tmod (n : Int) (m : Int) = ((n % m : Nat) : Int) := by rw [Int.tmod_eq_emod_of_nonneg (Int.natCast_nonneg n)]; rfl
theorem tdn (n m : Nat) : Int.tdiv (n : Int) (m : Int) = ((n / m : Nat) : Int) := by rw [Int.tdiv_eq_ediv_of_nonneg (Int.natCast_nonneg n)]; rfl
theorem ba_append (a b : List UInt8) : (⟨a.toArray⟩ : ByteArray) ++ ⟨b.toArray⟩ = ⟨(a ++ b).toArray⟩ := by
  apply ByteArray.ext
  rw [ByteArray.data_append]
  simp
theorem ba_size (a b : ByteArray) : (a ++ b).size = a.size + b.size := ByteArray.size_append
theorem ext_dig (i : Nat) (h : i < 10) : (⟨#[48, 49, 50, 51, 52, 53, 54, 55, 56, 57]⟩ : ByteArray).extract i (i + 1) = ⟨([UInt8.ofNat (48 + i)] : List UInt8).toArray⟩ := by
  have hc : i = 0 ∨ i = 1 ∨ i = 2 ∨ i = 3 ∨ i = 4 ∨ i = 5 ∨ i = 6 ∨ i = 7 ∨ i = 8 ∨ i = 9 := by omega
  rcases hc with rfl | rfl | rfl | rfl | rfl | rfl | rfl | rfl | rfl | rfl <;> decide +kernel
theorem dig_step (k n least : Nat) (l : List UInt8) (hn : n < 9000000000000000000) (hz : l.length < 9000000000000000000) (hgo : 0 < n ∨ l.length < least) :
    r5_digits.l0 (k + 1) (n : Int) (least : Int) ⟨l.toArray⟩ = r5_digits.l0 k ((n / 10 : Nat) : Int) (least : Int) ⟨(UInt8.ofNat (48 + n % 10) :: l).toArray⟩ := by
  have t1 : Int.tmod (n : Int) 10 = ((n % 10 : Nat) : Int) := tmn n 10
  have t2 : wrap64 (Int.tdiv (n : Int) 10) = ((n / 10 : Nat) : Int) := by rw [show Int.tdiv (n : Int) 10 = ((n / 10 : Nat) : Int) from tdn n 10, w64 (by omega) (by omega)]
  have t3 : wrap64 (((n % 10 : Nat) : Int) + 1) = ((n % 10 + 1 : Nat) : Int) := by rw [w64 (by omega) (by omega)]; omega
  have g1 : (0 : Int) ≤ ((n % 10 : Nat) : Int) := Int.natCast_nonneg _
  have g2 : ((n % 10 : Nat) : Int) ≤ ((n % 10 + 1 : Nat) : Int) := by omega
  have g3 : ((n % 10 + 1 : Nat) : Int) ≤ 10 := by omega
  have e := ext_dig (n % 10) (by omega)
  have g4 : (⟨([UInt8.ofNat (48 + n % 10)] : List UInt8).toArray⟩ : ByteArray).size + (⟨l.toArray⟩ : ByteArray).size ≤ 9223372036854775807 := by
    show 1 + l.length ≤ _
    omega
  have ec := ba_append [UInt8.ofNat (48 + n % 10)] l
  rw [r5_digits.l0, t1, t3, Int.toNat_natCast, Int.toNat_natCast, e, t2, ec]
  by_cases h0 : 0 < n
  · have c : (n : Int) > 0 := by omega
    rw [if_pos c, if_pos g1, if_pos g2, if_pos g3, if_pos g4]
    rfl
  · have c : ¬ ((n : Int) > 0) := by omega
    have c2 : ((⟨l.toArray⟩ : ByteArray).size : Int) < (least : Int) := by
      have e2 : (⟨l.toArray⟩ : ByteArray).size = l.length := rfl
      rw [e2]; omega
    rw [if_neg c, if_pos c2, if_pos g1, if_pos g2, if_pos g3, if_pos g4]
    rfl
theorem dig_stop (k least : Nat) (l : List UInt8) (h : least ≤ l.length) : r5_digits.l0 (k + 1) ((0 : Nat) : Int) (least : Int) ⟨l.toArray⟩ = some ⟨l.toArray⟩ := by
  have c : ¬ (((0 : Nat) : Int) > 0) := by decide
  have c2 : ¬ (((⟨l.toArray⟩ : ByteArray).size : Int) < (least : Int)) := by
    have e2 : (⟨l.toArray⟩ : ByteArray).size = l.length := rfl
    rw [e2]; omega
  rw [r5_digits.l0, if_neg c, if_neg c2]
theorem dig_two (n : Nat) (h : n < 100) : r5_digits.f 3 (n : Int) 2 = some (d2 n) := by
  unfold r5_digits.f
  have e0 : (⟨#[]⟩ : ByteArray) = ⟨([] : List UInt8).toArray⟩ := rfl
  rw [e0, show (2 : Int) = ((2 : Nat) : Int) from rfl, dig_step 2 n 2 [] (by omega) (by simp) (.inr (by simp)), dig_step 1 (n / 10) 2 _ (by omega) (by simp) (.inr (by simp)), show n / 10 / 10 = 0 by omega, dig_stop 0 2 _ (by simp)]
  unfold d2
  rw [show n / 10 % 10 = n / 10 by omega]
theorem dig_two_ev (n : Nat) (h : n < 100) : Ev (fun k => r5_digits.f k (n : Int) 2) (d2 n) := Ev.of (r5_digits.mono _ _) (dig_two n h)
theorem ix_notin (c : UInt8) : ∀ s : List UInt8, c ∉ s → Lib.index s [c] = -1 := by
  intro s h
  rw [Lib.index_one]
  induction s with
  | nil => rfl
  | cons b l ih =>
    have hb : ¬ b = c := fun e => h (by rw [e]; simp)
    have hl := ih (fun e => h (List.mem_cons_of_mem _ e))
    rw [Lib.indexByte, if_neg (by simpa using hb), hl]
    rfl
theorem ix_at (c : UInt8) (r : List UInt8) : ∀ a : List UInt8, c ∉ a → Lib.index (a ++ c :: r) [c] = (a.length : Int) := by
  intro a h
  rw [Lib.index_one]
  induction a with
  | nil => rw [List.nil_append, Lib.indexByte, if_pos (by simp)]; rfl
  | cons b l ih =>
    have hb : ¬ b = c := fun e => h (by rw [e]; simp)
    have hl := ih (fun e => h (List.mem_cons_of_mem _ e))
    rw [List.cons_append, Lib.indexByte, if_neg (by simpa using hb), hl, if_neg (by simp), List.length_cons]
    omega
theorem drop_at (c : UInt8) (a r : List UInt8) : (a ++ c :: r).drop (a.length + 1) = r := by
  rw [show a ++ c :: r = (a ++ [c]) ++ r by simp, List.drop_append_of_le_length (by simp)]
  simp
theorem split_one (c : UInt8) (s : List UInt8) (h : c ∉ s) : Lib.split s [c] = [s] := by
  unfold Lib.split
  rw [Lib.count_miss (ix_notin c s h)]
  rfl
theorem split_cons (c : UInt8) (a r : List UInt8) (h : c ∉ a) : Lib.split (a ++ c :: r) [c] = a :: Lib.split r [c] := by
  have hx := ix_at c r a h
  unfold Lib.split
  rw [Lib.count_hit (by simp) hx, show a.length + [c].length = a.length + 1 from rfl, drop_at, Nat.add_comm 1, Lib.splitK, hx, if_neg (by simp)]
  show (a ++ c :: r).take a.length :: Lib.splitK [c] 0 _ ((a ++ c :: r).drop (a.length + 1)) = _
  rw [drop_at]
  simp
theorem parts_data (s sep : ByteArray) : (parts s sep).map (·.data.toList) = Lib.split s.data.toList sep.data.toList := Lib.splitB_data sep 0 _ s
theorem first_at (c : UInt8) : ∀ l : List UInt8, c ∈ l → ∃ a r, l = a ++ c :: r ∧ c ∉ a
  | [], h => by cases h
  | d :: l, h => by
    by_cases g : d = c
    · exact ⟨[], l, by rw [g]; rfl, by simp⟩
    · have hl : c ∈ l := by
        rcases List.mem_cons.1 h with e | e
        · exact absurd e.symm g
        · exact e
      obtain ⟨a, r, e, hn⟩ := first_at c l hl
      refine ⟨d :: a, r, by rw [e]; rfl, fun hm => ?_⟩
      rcases List.mem_cons.1 hm with e2 | e2
      · exact g e2.symm
      · exact hn e2
theorem split_ne (c : UInt8) (l : List UInt8) : Lib.split l [c] ≠ [] := by
  by_cases h : c ∈ l
  · obtain ⟨a, r, rfl, hn⟩ := first_at c l h
    rw [split_cons c a r hn]
    simp
  · rw [split_one c l h]
    simp
theorem join_cons (a : List UInt8) (L : List (List UInt8)) (c : UInt8) (h : L ≠ []) : Lib.join (a :: L) [c] = a ++ c :: Lib.join L [c] := by
  cases L with
  | nil => exact absurd rfl h
  | cons b L => simp [Lib.join, List.intercalate]
/-- The parts, joined, are the text. -/
theorem join_split (c : UInt8) : ∀ (m : Nat) (l : List UInt8), l.length ≤ m → Lib.join (Lib.split l [c]) [c] = l
  | 0, l, h => by
    obtain rfl : l = [] := List.length_eq_zero_iff.1 (by omega)
    rw [split_one c [] (by simp)]
    simp [Lib.join, List.intercalate]
  | m + 1, l, h => by
    by_cases hc : c ∈ l
    · obtain ⟨a, r, rfl, hn⟩ := first_at c l hc
      rw [split_cons c a r hn, join_cons a _ c (split_ne c r), join_split c m r (by simp at h; omega)]
    · rw [split_one c l hc]
      simp [Lib.join, List.intercalate]
end Go.Proofs.YtegiikkbeknodaaDoor.PClk
