/- Plain mathematics of ClockHours: the two Parses answer alike. -/
import Derived.Test.YtegiikkbeknodaaDoorHoA
set_option linter.unusedVariables false
set_option linter.unusedSimpArgs false
namespace Go.Proofs.YtegiikkbeknodaaDoor.PClk
open Go.RowKit Go.Proofs.YtegiikkbeknodaaDoor.P Go.Proofs.YtegiikkbeknodaaDoorW.PrintWords Go.Proofs.YtegiikkbeknodaaDoorW.PrintLast Go.Proofs.YtegiikkbeknodaaDoorW.PrintMore
def hm (a b : Nat) : ByteArray := (d2 a ++ (⟨#[58]⟩ : ByteArray)) ++ d2 b
theorem hm_eq (a b : Nat) : hm a b = ⟨#[UInt8.ofNat (48 + a / 10), UInt8.ofNat (48 + a % 10), 58, UInt8.ofNat (48 + b / 10), UInt8.ofNat (48 + b % 10)]⟩ := by
  unfold hm d2
  apply ByteArray.ext
  rw [ByteArray.data_append, ByteArray.data_append]
  simp
theorem hms_eq (a b c : Nat) : hms a b c = ⟨#[UInt8.ofNat (48 + a / 10), UInt8.ofNat (48 + a % 10), 58, UInt8.ofNat (48 + b / 10), UInt8.ofNat (48 + b % 10), 58, UInt8.ofNat (48 + c / 10), UInt8.ofNat (48 + c % 10)]⟩ := by
  unfold hms d2
  apply ByteArray.ext
  rw [ByteArray.data_append, ByteArray.data_append, ByteArray.data_append, ByteArray.data_append]
  simp
/-! A part's number. -/
theorem twoB_d2 (n : Nat) (h : n < 100) : twoB (n : Int) = d2 n := by
  unfold twoB
  rw [Lib.itoa_nonneg]
  by_cases hn : n < 10
  · rw [if_pos (by omega)]; exact d2_small n hn
  · rw [if_neg (by omega)]; exact d2_big n hn h
theorem atoi_d2 : ∀ n : Fin 100, Lib.atoiAll [UInt8.ofNat (48 + n.val / 10), UInt8.ofNat (48 + n.val % 10)] = .ok (n.val : Int) := by decide +kernel
theorem pvl_d2 (n : Nat) (h : n < 100) : pvl (d2 n) = some (n : Int) := by
  have e : Lib.atoiAll (d2 n).data.toList = .ok (n : Int) := atoi_d2 ⟨n, h⟩
  unfold pvl
  rw [e]
  show (if (twoB (n : Int)).toList = (d2 n).toList then some (n : Int) else none) = _
  rw [twoB_d2 n h, if_pos rfl]
theorem pvl_some (A : ByteArray) (a : Int) (h : pvl A = some a) : 0 ≤ a ∧ (a < 100 → A = d2 a.toNat) := by
  have hc : Lib.atoiAll A.data.toList = .ok a ∧ twoB a = A := by
    rcases pvl_cases A with ⟨b, h1, h2, h3⟩ | ⟨h1, _⟩ | ⟨h1, _⟩
    · rw [h1] at h; cases h; exact ⟨h2, h3⟩
    · rw [h1] at h; cases h
    · rw [h1] at h; cases h
  obtain ⟨h1, h2⟩ := hc
  have h0 : 0 ≤ a := by
    refine Int.not_lt.mp fun hn => ?_
    have e : A.data.toList = 48 :: 45 :: Lib.decDigits a.natAbs := by
      rw [← h2]
      unfold twoB Lib.itoa
      rw [if_pos (by omega), if_pos hn, ByteArray.data_append]
      simp
    rw [e, Lib.atoiAll_plain 48 _ (by decide) (by decide), show Lib.parseMag (48 :: 45 :: Lib.decDigits a.natAbs) = Lib.parseMag [] from rfl] at h1
    cases h1
  refine ⟨h0, fun hl => ?_⟩
  obtain ⟨n, rfl⟩ : ∃ n : Nat, a = (n : Int) := ⟨a.toNat, by omega⟩
  rw [← h2, Int.toNat_natCast]
  exact twoB_d2 n (by omega)
/-! The parts of a text. -/
theorem ba_list {s t : ByteArray} (h : s.data.toList = t.data.toList) : s = t := ByteArray.ext (Array.ext' h)
theorem dig_ne (n : Nat) (h : n < 10) : (58 : UInt8) ≠ UInt8.ofNat (48 + n) := by
  have hc : n = 0 ∨ n = 1 ∨ n = 2 ∨ n = 3 ∨ n = 4 ∨ n = 5 ∨ n = 6 ∨ n = 7 ∨ n = 8 ∨ n = 9 := by omega
  rcases hc with rfl | rfl | rfl | rfl | rfl | rfl | rfl | rfl | rfl | rfl <;> decide
theorem d2_free (n : Nat) (h : n < 100) : (58 : UInt8) ∉ (d2 n).data.toList := by
  intro hm
  have e : (d2 n).data.toList = [UInt8.ofNat (48 + n / 10), UInt8.ofNat (48 + n % 10)] := rfl
  rw [e] at hm
  rcases List.mem_cons.mp hm with h1 | h1
  · exact dig_ne (n / 10) (by omega) h1
  · rcases List.mem_cons.mp h1 with h2 | h2
    · exact dig_ne (n % 10) (by omega) h2
    · cases h2
theorem hm_list (a b : Nat) : (hm a b).data.toList = (d2 a).data.toList ++ 58 :: (d2 b).data.toList := by rw [hm_eq]; rfl
theorem hms_list (a b c : Nat) : (hms a b c).data.toList = (d2 a).data.toList ++ 58 :: ((d2 b).data.toList ++ 58 :: (d2 c).data.toList) := by rw [hms_eq]; rfl
theorem col_list : (⟨#[58]⟩ : ByteArray).data.toList = [58] := rfl
theorem map_inj : ∀ L M : List ByteArray, L.map (·.data.toList) = M.map (·.data.toList) → L = M
  | [], [], _ => rfl
  | [], _ :: _, h => by simp at h
  | _ :: _, [], h => by simp at h
  | a :: L, b :: M, h => by
    simp only [List.map_cons, List.cons.injEq] at h
    rw [ba_list h.1, map_inj L M h.2]
theorem parts_hm (a b : Nat) (ha : a < 100) (hb : b < 100) : parts (hm a b) ⟨#[58]⟩ = [d2 a, d2 b] := by
  apply map_inj
  rw [parts_data, hm_list, col_list, split_cons 58 _ _ (d2_free a ha), split_one 58 _ (d2_free b hb)]
  rfl
theorem parts_hms (a b c : Nat) (ha : a < 100) (hb : b < 100) (hc : c < 100) : parts (hms a b c) ⟨#[58]⟩ = [d2 a, d2 b, d2 c] := by
  apply map_inj
  rw [parts_data, hms_list, col_list, split_cons 58 _ _ (d2_free a ha), split_cons 58 _ _ (d2_free b hb), split_one 58 _ (d2_free c hc)]
  rfl
def shape (s : ByteArray) : Prop := (∃ a b : Nat, a < 100 ∧ b < 100 ∧ s = hm a b) ∨ ∃ a b c : Nat, a < 100 ∧ b < 100 ∧ c < 100 ∧ s = hms a b c
theorem join_two (A B : List UInt8) : Lib.join [A, B] [58] = A ++ 58 :: B := by
  rw [join_cons A [B] 58 (by simp)]
  simp [Lib.join, List.intercalate]
theorem join_three (A B C : List UInt8) : Lib.join [A, B, C] [58] = A ++ 58 :: (B ++ 58 :: C) := by
  rw [join_cons A [B, C] 58 (by simp), join_two]
theorem parse_bad (s : ByteArray) (h : ¬ shape s) : parseL (parts s ⟨#[58]⟩) = (0, some 3) := by
  have hj : Lib.join ((parts s ⟨#[58]⟩).map (·.data.toList)) [58] = s.data.toList := by
    rw [parts_data, col_list]
    exact join_split 58 _ _ (Nat.le_refl _)
  revert hj
  generalize parts s ⟨#[58]⟩ = L
  intro hj
  match L, hj with
  | [], _ => rfl
  | [_], _ => rfl
  | _ :: _ :: _ :: _ :: _, _ => rfl
  | [A, B], hj =>
    rw [parseL_2]
    rcases ha : pvl A with _ | a
    · rfl
    rcases hb : pvl B with _ | b
    · rfl
    show fin2 a b = _
    unfold fin2
    by_cases q0 : b ≥ 60
    · rw [if_pos q0]
    rw [if_neg q0]
    by_cases q1 : wrap64 (wrap64 (wrap64 (a * 3600) + wrap64 (b * 60))) > 86400
    · rw [if_pos q1]
    rw [if_neg q1]
    by_cases q2 : a > 24
    · rw [if_pos q2]
    exfalso
    obtain ⟨a0, ea⟩ := pvl_some A a ha
    obtain ⟨b0, eb⟩ := pvl_some B b hb
    refine h (.inl ⟨a.toNat, b.toNat, by omega, by omega, ?_⟩)
    apply ba_list
    rw [← hj, hm_list, ← ea (by omega), ← eb (by omega)]
    exact join_two _ _
  | [A, B, C], hj =>
    rw [parseL_3]
    rcases ha : pvl A with _ | a
    · rfl
    rcases hb : pvl B with _ | b
    · rfl
    rcases hc : pvl C with _ | c
    · rfl
    show fin3 a b c = _
    unfold fin3
    by_cases q0 : b ≥ 60
    · rw [if_pos q0]
    rw [if_neg q0]
    by_cases q3 : c ≥ 60
    · rw [if_pos q3]
    rw [if_neg q3]
    by_cases q1 : wrap64 (wrap64 (wrap64 (a * 3600) + wrap64 (b * 60)) + c) > 86400
    · rw [if_pos q1]
    rw [if_neg q1]
    by_cases q2 : a > 24
    · rw [if_pos q2]
    exfalso
    obtain ⟨a0, ea⟩ := pvl_some A a ha
    obtain ⟨b0, eb⟩ := pvl_some B b hb
    obtain ⟨c0, ec⟩ := pvl_some C c hc
    refine h (.inr ⟨a.toNat, b.toNat, c.toNat, by omega, by omega, by omega, ?_⟩)
    apply ba_list
    rw [← hj, hms_list, ← ea (by omega), ← eb (by omega), ← ec (by omega)]
    exact join_three _ _ _
/-! The document's Parse. -/
theorem l0_dig (k : Nat) (s : ByteArray) (i : Int) (h0 : 0 ≤ i) (h1 : i < (s.size : Int)) (h9 : i < 100) (h3 : Int.tmod i 3 ≠ 2) : r5_Parse.l0 (k + 1) s i = if 48 ≤ bt s i ∧ bt s i ≤ 57 then r5_Parse.l0 k s (i + 1) else some (0, 3) := by
  rw [r5_Parse.l0, if_pos h1, if_neg h3, if_pos h0, w64 (by omega) (by omega)]
  by_cases c1 : bt s i < 48
  · rw [if_pos c1, if_neg (by omega)]
  rw [if_neg c1]
  by_cases c2 : bt s i > 57
  · rw [if_pos c2, if_neg (by omega)]
  rw [if_neg c2, if_pos (by omega)]
theorem l0_col (k : Nat) (s : ByteArray) (i : Int) (h0 : 0 ≤ i) (h1 : i < (s.size : Int)) (h9 : i < 100) (h3 : Int.tmod i 3 = 2) : r5_Parse.l0 (k + 1) s i = if bt s i = 58 then r5_Parse.l0 k s (i + 1) else some (0, 3) := by
  rw [r5_Parse.l0, if_pos h1, if_pos h3, if_pos h0, w64 (by omega) (by omega)]
theorem l0_end (k : Nat) (s : ByteArray) (i : Int) (h1 : ¬ i < (s.size : Int)) : r5_Parse.l0 (k + 1) s i = r5_Parse.l1 k s 0 0 0 0 := by
  rw [r5_Parse.l0, if_neg h1]
def v2 (s : ByteArray) (i : Int) : Int := 10 * ((bt s i - 48) % 256) + (bt s (i + 1) - 48) % 256
def finR (a b c : Int) : Int × Int := if b > 59 then (0, 3) else if c > 59 then (0, 3) else if wrap64 (wrap64 (wrap64 (3600 * a) + wrap64 (60 * b)) + c) > 86400 then (0, 3) else (wrap64 (wrap64 (wrap64 (3600 * a) + wrap64 (60 * b)) + c), 0)
theorem l1_0 (k : Nat) (s : ByteArray) (a b c : Int) (h : 1 < (s.size : Int)) : r5_Parse.l1 (k + 1) s 0 a b c = r5_Parse.l1 k s 1 (v2 s 0) b c := by
  rw [r5_Parse.l1, show wrap64 (3 * 0) = 0 by unfold wrap64; omega, show wrap64 (0 + 1) = 1 by unfold wrap64; omega, if_pos (by omega), if_pos (by decide), if_pos (by decide), if_pos h, if_pos rfl]
  rfl
theorem l1_1 (k : Nat) (s : ByteArray) (a b c : Int) (h : 4 < (s.size : Int)) : r5_Parse.l1 (k + 1) s 1 a b c = r5_Parse.l1 k s 2 a (v2 s 3) c := by
  rw [r5_Parse.l1, show wrap64 (3 * 1) = 3 by unfold wrap64; omega, show wrap64 (3 + 1) = 4 by unfold wrap64; omega, show wrap64 (1 + 1) = 2 by unfold wrap64; omega, if_pos (by omega), if_pos (by decide), if_pos (by decide), if_pos h, if_neg (by decide), if_pos rfl]
  rfl
theorem l1_2 (k : Nat) (s : ByteArray) (a b c : Int) (h : 7 < (s.size : Int)) : r5_Parse.l1 (k + 1) s 2 a b c = r5_Parse.l1 k s 3 a b (v2 s 6) := by
  rw [r5_Parse.l1, show wrap64 (3 * 2) = 6 by unfold wrap64; omega, show wrap64 (6 + 1) = 7 by unfold wrap64; omega, show wrap64 (2 + 1) = 3 by unfold wrap64; omega, if_pos (by omega), if_pos (by decide), if_pos (by decide), if_pos h, if_neg (by decide), if_neg (by decide), if_pos rfl]
  rfl
theorem l1_end (k : Nat) (s : ByteArray) (i a b c : Int) (h : ¬ wrap64 (3 * i) < (s.size : Int)) : r5_Parse.l1 (k + 1) s i a b c = some (finR a b c) := by
  rw [r5_Parse.l1, if_neg h]
  unfold finR
  by_cases c1 : b > 59
  · rw [if_pos c1, if_pos c1]
  rw [if_neg c1, if_neg c1]
  by_cases c2 : c > 59
  · rw [if_pos c2, if_pos c2]
  rw [if_neg c2, if_neg c2]
  by_cases c3 : wrap64 (wrap64 (wrap64 (3600 * a) + wrap64 (60 * b)) + c) > 86400
  · rw [if_pos c3, if_pos c3]
  rw [if_neg c3, if_neg c3]
/-- Two digits at hand. -/
theorem two_digits (x y : UInt8) (h : 48 ≤ (x.toNat : Int) ∧ (x.toNat : Int) ≤ 57) (g : 48 ≤ (y.toNat : Int) ∧ (y.toNat : Int) ≤ 57) : ∃ a : Nat, a < 100 ∧ x = UInt8.ofNat (48 + a / 10) ∧ y = UInt8.ofNat (48 + a % 10) ∧ 10 * (((x.toNat : Int) - 48) % 256) + ((y.toNat : Int) - 48) % 256 = (a : Int) := by
  refine ⟨10 * (x.toNat - 48) + (y.toNat - 48), by omega, ?_, ?_, by omega⟩
  · rw [show 48 + (10 * (x.toNat - 48) + (y.toNat - 48)) / 10 = x.toNat by omega, UInt8.ofNat_toNat]
  · rw [show 48 + (10 * (x.toNat - 48) + (y.toNat - 48)) % 10 = y.toNat by omega, UInt8.ofNat_toNat]
theorem five (s : ByteArray) (h : s.size = 5) : ∃ x0 x1 x2 x3 x4 : UInt8, s = ⟨#[x0, x1, x2, x3, x4]⟩ := by
  obtain ⟨⟨l⟩⟩ := s
  match l, h with
  | [x0, x1, x2, x3, x4], _ => exact ⟨x0, x1, x2, x3, x4, rfl⟩
theorem eight (s : ByteArray) (h : s.size = 8) : ∃ x0 x1 x2 x3 x4 x5 x6 x7 : UInt8, s = ⟨#[x0, x1, x2, x3, x4, x5, x6, x7]⟩ := by
  obtain ⟨⟨l⟩⟩ := s
  match l, h with
  | [x0, x1, x2, x3, x4, x5, x6, x7], _ => exact ⟨x0, x1, x2, x3, x4, x5, x6, x7, rfl⟩
theorem col_byte (x : UInt8) (h : (x.toNat : Int) = 58) : x = 58 := by
  have h : x.toNat = (58 : UInt8).toNat := by show x.toNat = 58; omega
  exact UInt8.toNat_inj.mp h
/-- What the document's Parse says: of a text of its shape, the number; else the error. -/
theorem ref_5 (k : Nat) (s : ByteArray) (hz : s.size = 5) : (r5_Parse.l0 (k + 10) s 0 = some (0, 3) ∧ ¬ ∃ a b : Nat, a < 100 ∧ b < 100 ∧ s = hm a b) ∨ ∃ a b : Nat, a < 100 ∧ b < 100 ∧ s = hm a b ∧ r5_Parse.l0 (k + 10) s 0 = some (finR a b 0) := by
  have hS : (s.size : Int) = 5 := by omega
  obtain ⟨x0, x1, x2, x3, x4, rfl⟩ := five s hz
  have b0 : bt ⟨#[x0, x1, x2, x3, x4]⟩ (0) = x0.toNat := rfl
  have b1 : bt ⟨#[x0, x1, x2, x3, x4]⟩ (0 + 1) = x1.toNat := rfl
  have b2 : bt ⟨#[x0, x1, x2, x3, x4]⟩ (0 + 1 + 1) = x2.toNat := rfl
  have b3 : bt ⟨#[x0, x1, x2, x3, x4]⟩ (0 + 1 + 1 + 1) = x3.toNat := rfl
  have b4 : bt ⟨#[x0, x1, x2, x3, x4]⟩ (0 + 1 + 1 + 1 + 1) = x4.toNat := rfl
  have no : ∀ a b : Nat, a < 100 → b < 100 → (⟨#[x0, x1, x2, x3, x4]⟩ : ByteArray) = hm a b → (48 ≤ (x0.toNat : Int) ∧ (x0.toNat : Int) ≤ 57) ∧ (48 ≤ (x1.toNat : Int) ∧ (x1.toNat : Int) ≤ 57) ∧ ((x2.toNat : Int) = 58) ∧ (48 ≤ (x3.toNat : Int) ∧ (x3.toNat : Int) ≤ 57) ∧ (48 ≤ (x4.toNat : Int) ∧ (x4.toNat : Int) ≤ 57) := by
    intro a b ha hb e
    rw [hm_eq] at e
    injection e with e
    injection e with e
    injection e with e0 e
    injection e with e1 e
    injection e with e2 e
    injection e with e3 e
    injection e with e4 e
    have t : ∀ d : Nat, d < 10 → 48 ≤ ((UInt8.ofNat (48 + d)).toNat : Int) ∧ ((UInt8.ofNat (48 + d)).toNat : Int) ≤ 57 := by
      intro d hd
      rw [UInt8.toNat_ofNat']
      omega
    rw [e0, e1, e2, e3, e4]
    exact ⟨t _ (by omega), t _ (by omega), rfl, t _ (by omega), t _ (by omega)⟩
  rw [l0_dig _ _ (0) (by decide) (by rw [hS]; decide) (by decide) (by decide), b0]
  by_cases c0 : 48 ≤ (x0.toNat : Int) ∧ (x0.toNat : Int) ≤ 57
  · rw [if_pos c0, l0_dig _ _ (0 + 1) (by decide) (by rw [hS]; decide) (by decide) (by decide), b1]
    by_cases c1 : 48 ≤ (x1.toNat : Int) ∧ (x1.toNat : Int) ≤ 57
    · rw [if_pos c1, l0_col _ _ (0 + 1 + 1) (by decide) (by rw [hS]; decide) (by decide) (by decide), b2]
      by_cases c2 : (x2.toNat : Int) = 58
      · rw [if_pos c2, l0_dig _ _ (0 + 1 + 1 + 1) (by decide) (by rw [hS]; decide) (by decide) (by decide), b3]
        by_cases c3 : 48 ≤ (x3.toNat : Int) ∧ (x3.toNat : Int) ≤ 57
        · rw [if_pos c3, l0_dig _ _ (0 + 1 + 1 + 1 + 1) (by decide) (by rw [hS]; decide) (by decide) (by decide), b4]
          by_cases c4 : 48 ≤ (x4.toNat : Int) ∧ (x4.toNat : Int) ≤ 57
          · rw [if_pos c4, l0_end _ _ _ (by rw [hS]; decide), l1_0 _ _ _ _ _ (by rw [hS]; decide), l1_1 _ _ _ _ _ (by rw [hS]; decide), l1_end _ _ _ _ _ _ (by rw [hS]; unfold wrap64; omega)]
            obtain ⟨a, ha, u0, u1, va⟩ := two_digits x0 x1 c0 c1
            obtain ⟨b, hb, u3, u4, vb⟩ := two_digits x3 x4 c3 c4
            refine .inr ⟨a, b, ha, hb, ?_, ?_⟩
            · rw [hm_eq, ← u0, ← u1, ← u3, ← u4, col_byte x2 c2]
            · have w0 : v2 ⟨#[x0, x1, x2, x3, x4]⟩ 0 = a := va
              have w3 : v2 ⟨#[x0, x1, x2, x3, x4]⟩ 3 = b := vb
              rw [w0, w3]
          · rw [if_neg c4]
            exact .inl ⟨rfl, fun ⟨a, b, ha, hb, e⟩ => c4 (no a b ha hb e).2.2.2.2⟩
        · rw [if_neg c3]
          exact .inl ⟨rfl, fun ⟨a, b, ha, hb, e⟩ => c3 (no a b ha hb e).2.2.2.1⟩
      · rw [if_neg c2]
        exact .inl ⟨rfl, fun ⟨a, b, ha, hb, e⟩ => c2 (no a b ha hb e).2.2.1⟩
    · rw [if_neg c1]
      exact .inl ⟨rfl, fun ⟨a, b, ha, hb, e⟩ => c1 (no a b ha hb e).2.1⟩
  · rw [if_neg c0]
    exact .inl ⟨rfl, fun ⟨a, b, ha, hb, e⟩ => c0 (no a b ha hb e).1⟩
theorem ref_8 (k : Nat) (s : ByteArray) (hz : s.size = 8) : (r5_Parse.l0 (k + 16) s 0 = some (0, 3) ∧ ¬ ∃ a b c : Nat, a < 100 ∧ b < 100 ∧ c < 100 ∧ s = hms a b c) ∨ ∃ a b c : Nat, a < 100 ∧ b < 100 ∧ c < 100 ∧ s = hms a b c ∧ r5_Parse.l0 (k + 16) s 0 = some (finR a b c) := by
  have hS : (s.size : Int) = 8 := by omega
  obtain ⟨x0, x1, x2, x3, x4, x5, x6, x7, rfl⟩ := eight s hz
  have b0 : bt ⟨#[x0, x1, x2, x3, x4, x5, x6, x7]⟩ (0) = x0.toNat := rfl
  have b1 : bt ⟨#[x0, x1, x2, x3, x4, x5, x6, x7]⟩ (0 + 1) = x1.toNat := rfl
  have b2 : bt ⟨#[x0, x1, x2, x3, x4, x5, x6, x7]⟩ (0 + 1 + 1) = x2.toNat := rfl
  have b3 : bt ⟨#[x0, x1, x2, x3, x4, x5, x6, x7]⟩ (0 + 1 + 1 + 1) = x3.toNat := rfl
  have b4 : bt ⟨#[x0, x1, x2, x3, x4, x5, x6, x7]⟩ (0 + 1 + 1 + 1 + 1) = x4.toNat := rfl
  have b5 : bt ⟨#[x0, x1, x2, x3, x4, x5, x6, x7]⟩ (0 + 1 + 1 + 1 + 1 + 1) = x5.toNat := rfl
  have b6 : bt ⟨#[x0, x1, x2, x3, x4, x5, x6, x7]⟩ (0 + 1 + 1 + 1 + 1 + 1 + 1) = x6.toNat := rfl
  have b7 : bt ⟨#[x0, x1, x2, x3, x4, x5, x6, x7]⟩ (0 + 1 + 1 + 1 + 1 + 1 + 1 + 1) = x7.toNat := rfl
  have no : ∀ a b c : Nat, a < 100 → b < 100 → c < 100 → (⟨#[x0, x1, x2, x3, x4, x5, x6, x7]⟩ : ByteArray) = hms a b c → (48 ≤ (x0.toNat : Int) ∧ (x0.toNat : Int) ≤ 57) ∧ (48 ≤ (x1.toNat : Int) ∧ (x1.toNat : Int) ≤ 57) ∧ ((x2.toNat : Int) = 58) ∧ (48 ≤ (x3.toNat : Int) ∧ (x3.toNat : Int) ≤ 57) ∧ (48 ≤ (x4.toNat : Int) ∧ (x4.toNat : Int) ≤ 57) ∧ ((x5.toNat : Int) = 58) ∧ (48 ≤ (x6.toNat : Int) ∧ (x6.toNat : Int) ≤ 57) ∧ (48 ≤ (x7.toNat : Int) ∧ (x7.toNat : Int) ≤ 57) := by
    intro a b c ha hb hc e
    rw [hms_eq] at e
    injection e with e
    injection e with e
    injection e with e0 e
    injection e with e1 e
    injection e with e2 e
    injection e with e3 e
    injection e with e4 e
    injection e with e5 e
    injection e with e6 e
    injection e with e7 e
    have t : ∀ d : Nat, d < 10 → 48 ≤ ((UInt8.ofNat (48 + d)).toNat : Int) ∧ ((UInt8.ofNat (48 + d)).toNat : Int) ≤ 57 := by
      intro d hd
      rw [UInt8.toNat_ofNat']
      omega
    rw [e0, e1, e2, e3, e4, e5, e6, e7]
    exact ⟨t _ (by omega), t _ (by omega), rfl, t _ (by omega), t _ (by omega), rfl, t _ (by omega), t _ (by omega)⟩
  rw [l0_dig _ _ (0) (by decide) (by rw [hS]; decide) (by decide) (by decide), b0]
  by_cases c0 : 48 ≤ (x0.toNat : Int) ∧ (x0.toNat : Int) ≤ 57
  · rw [if_pos c0, l0_dig _ _ (0 + 1) (by decide) (by rw [hS]; decide) (by decide) (by decide), b1]
    by_cases c1 : 48 ≤ (x1.toNat : Int) ∧ (x1.toNat : Int) ≤ 57
    · rw [if_pos c1, l0_col _ _ (0 + 1 + 1) (by decide) (by rw [hS]; decide) (by decide) (by decide), b2]
      by_cases c2 : (x2.toNat : Int) = 58
      · rw [if_pos c2, l0_dig _ _ (0 + 1 + 1 + 1) (by decide) (by rw [hS]; decide) (by decide) (by decide), b3]
        by_cases c3 : 48 ≤ (x3.toNat : Int) ∧ (x3.toNat : Int) ≤ 57
        · rw [if_pos c3, l0_dig _ _ (0 + 1 + 1 + 1 + 1) (by decide) (by rw [hS]; decide) (by decide) (by decide), b4]
          by_cases c4 : 48 ≤ (x4.toNat : Int) ∧ (x4.toNat : Int) ≤ 57
          · rw [if_pos c4, l0_col _ _ (0 + 1 + 1 + 1 + 1 + 1) (by decide) (by rw [hS]; decide) (by decide) (by decide), b5]
            by_cases c5 : (x5.toNat : Int) = 58
            · rw [if_pos c5, l0_dig _ _ (0 + 1 + 1 + 1 + 1 + 1 + 1) (by decide) (by rw [hS]; decide) (by decide) (by decide), b6]
              by_cases c6 : 48 ≤ (x6.toNat : Int) ∧ (x6.toNat : Int) ≤ 57
              · rw [if_pos c6, l0_dig _ _ (0 + 1 + 1 + 1 + 1 + 1 + 1 + 1) (by decide) (by rw [hS]; decide) (by decide) (by decide), b7]
                by_cases c7 : 48 ≤ (x7.toNat : Int) ∧ (x7.toNat : Int) ≤ 57
                · rw [if_pos c7, l0_end _ _ _ (by rw [hS]; decide), l1_0 _ _ _ _ _ (by rw [hS]; decide), l1_1 _ _ _ _ _ (by rw [hS]; decide), l1_2 _ _ _ _ _ (by rw [hS]; decide), l1_end _ _ _ _ _ _ (by rw [hS]; unfold wrap64; omega)]
                  obtain ⟨a, ha, u0, u1, va⟩ := two_digits x0 x1 c0 c1
                  obtain ⟨b, hb, u3, u4, vb⟩ := two_digits x3 x4 c3 c4
                  obtain ⟨c, hc, u6, u7, vc⟩ := two_digits x6 x7 c6 c7
                  refine .inr ⟨a, b, c, ha, hb, hc, ?_, ?_⟩
                  · rw [hms_eq, ← u0, ← u1, ← u3, ← u4, ← u6, ← u7, col_byte x2 c2, col_byte x5 c5]
                  · have w0 : v2 ⟨#[x0, x1, x2, x3, x4, x5, x6, x7]⟩ 0 = a := va
                    have w3 : v2 ⟨#[x0, x1, x2, x3, x4, x5, x6, x7]⟩ 3 = b := vb
                    have w6 : v2 ⟨#[x0, x1, x2, x3, x4, x5, x6, x7]⟩ 6 = c := vc
                    rw [w0, w3, w6]
                · rw [if_neg c7]
                  exact .inl ⟨rfl, fun ⟨a, b, c, ha, hb, hc, e⟩ => c7 (no a b c ha hb hc e).2.2.2.2.2.2.2⟩
              · rw [if_neg c6]
                exact .inl ⟨rfl, fun ⟨a, b, c, ha, hb, hc, e⟩ => c6 (no a b c ha hb hc e).2.2.2.2.2.2.1⟩
            · rw [if_neg c5]
              exact .inl ⟨rfl, fun ⟨a, b, c, ha, hb, hc, e⟩ => c5 (no a b c ha hb hc e).2.2.2.2.2.1⟩
          · rw [if_neg c4]
            exact .inl ⟨rfl, fun ⟨a, b, c, ha, hb, hc, e⟩ => c4 (no a b c ha hb hc e).2.2.2.2.1⟩
        · rw [if_neg c3]
          exact .inl ⟨rfl, fun ⟨a, b, c, ha, hb, hc, e⟩ => c3 (no a b c ha hb hc e).2.2.2.1⟩
      · rw [if_neg c2]
        exact .inl ⟨rfl, fun ⟨a, b, c, ha, hb, hc, e⟩ => c2 (no a b c ha hb hc e).2.2.1⟩
    · rw [if_neg c1]
      exact .inl ⟨rfl, fun ⟨a, b, c, ha, hb, hc, e⟩ => c1 (no a b c ha hb hc e).2.1⟩
  · rw [if_neg c0]
    exact .inl ⟨rfl, fun ⟨a, b, c, ha, hb, hc, e⟩ => c0 (no a b c ha hb hc e).1⟩
def E (e : Option Int) : Int := e.getD 0
theorem fin2_eq (a b : Nat) (ha : a < 100) (hb : b < 100) : finR a b 0 = ((fin2 a b).1, E (fin2 a b).2) := by
  have e1 : wrap64 ((a : Int) * 3600) = (a : Int) * 3600 := w64 (by omega) (by omega)
  have e2 : wrap64 ((b : Int) * 60) = (b : Int) * 60 := w64 (by omega) (by omega)
  have e3 : wrap64 (3600 * (a : Int)) = (a : Int) * 3600 := by rw [Int.mul_comm, e1]
  have e4 : wrap64 (60 * (b : Int)) = (b : Int) * 60 := by rw [Int.mul_comm, e2]
  have e5 : wrap64 ((a : Int) * 3600 + (b : Int) * 60) = (a : Int) * 3600 + (b : Int) * 60 := w64 (by omega) (by omega)
  unfold finR fin2
  rw [e3, e4, e1, e2, e5, Int.add_zero, e5]
  by_cases q0 : (b : Int) ≥ 60
  · rw [if_pos (by omega), if_pos q0]; rfl
  rw [if_neg (by omega), if_neg q0, if_neg (by decide)]
  by_cases q1 : (a : Int) * 3600 + (b : Int) * 60 > 86400
  · rw [if_pos q1, if_pos q1]; rfl
  rw [if_neg q1, if_neg q1, if_neg (by omega)]
  rfl
theorem fin3_eq (a b c : Nat) (ha : a < 100) (hb : b < 100) (hc : c < 100) : finR a b c = ((fin3 a b c).1, E (fin3 a b c).2) := by
  have e1 : wrap64 ((a : Int) * 3600) = (a : Int) * 3600 := w64 (by omega) (by omega)
  have e2 : wrap64 ((b : Int) * 60) = (b : Int) * 60 := w64 (by omega) (by omega)
  have e3 : wrap64 (3600 * (a : Int)) = (a : Int) * 3600 := by rw [Int.mul_comm, e1]
  have e4 : wrap64 (60 * (b : Int)) = (b : Int) * 60 := by rw [Int.mul_comm, e2]
  have e5 : wrap64 ((a : Int) * 3600 + (b : Int) * 60) = (a : Int) * 3600 + (b : Int) * 60 := w64 (by omega) (by omega)
  have e6 : wrap64 ((a : Int) * 3600 + (b : Int) * 60 + (c : Int)) = (a : Int) * 3600 + (b : Int) * 60 + (c : Int) := w64 (by omega) (by omega)
  unfold finR fin3
  rw [e3, e4, e1, e2, e5, e6]
  by_cases q0 : (b : Int) ≥ 60
  · rw [if_pos (by omega), if_pos q0]; rfl
  rw [if_neg (by omega), if_neg q0]
  by_cases q3 : (c : Int) ≥ 60
  · rw [if_pos (by omega), if_pos q3]; rfl
  rw [if_neg (by omega), if_neg q3]
  by_cases q1 : (a : Int) * 3600 + (b : Int) * 60 + (c : Int) > 86400
  · rw [if_pos q1, if_pos q1]; rfl
  rw [if_neg q1, if_neg q1, if_neg (by omega)]
  rfl
theorem hm_size (a b : Nat) : (hm a b).size = 5 := by rw [hm_eq]; rfl
theorem hms_size (a b c : Nat) : (hms a b c).size = 8 := by rw [hms_eq]; rfl
theorem parse_eq (s : ByteArray) : r5_Parse.f 20 s = some ((parseL (parts s ⟨#[58]⟩)).1, E (parseL (parts s ⟨#[58]⟩)).2) := by
  unfold r5_Parse.f
  by_cases h5 : s.size = 5
  · rw [if_pos (by omega)]
    rw [r5_Parse.j0, if_neg (by decide)]
    rcases ref_5 9 s h5 with ⟨e, hn⟩ | ⟨a, b, ha, hb, rfl, e⟩
    · rw [e, parse_bad s ?_]; rfl
      rintro (h | ⟨a, b, c, _, _, _, rfl⟩)
      · exact hn h
      · rw [hms_size] at h5; cases h5
    · rw [e, parts_hm a b ha hb, parseL_2, pvl_d2 a ha, pvl_d2 b hb, fin2_eq a b ha hb]
  · rw [if_neg (by omega)]
    by_cases h8 : s.size = 8
    · rw [show ((s.size : Int) != 8) = false by rw [bne_eq_false_iff_eq]; omega, r5_Parse.j0, if_neg (by decide)]
      rcases ref_8 3 s h8 with ⟨e, hn⟩ | ⟨a, b, c, ha, hb, hc, rfl, e⟩
      · rw [e, parse_bad s ?_]; rfl
        rintro (⟨a, b, _, _, rfl⟩ | h)
        · rw [hm_size] at h8; cases h8
        · exact hn h
      · rw [e, parts_hms a b c ha hb hc, parseL_3, pvl_d2 a ha, pvl_d2 b hb, pvl_d2 c hc, fin3_eq a b c ha hb hc]
    · rw [show ((s.size : Int) != 8) = true by rw [bne_iff_ne]; omega, r5_Parse.j0, if_pos rfl, parse_bad s ?_]; rfl
      rintro (⟨a, b, _, _, rfl⟩ | ⟨a, b, c, _, _, _, rfl⟩)
      · exact h5 (hm_size a b)
      · exact h8 (hms_size a b c)
end Go.Proofs.YtegiikkbeknodaaDoor.PClk
