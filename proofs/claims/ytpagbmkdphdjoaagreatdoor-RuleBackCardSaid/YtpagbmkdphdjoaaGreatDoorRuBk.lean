/- Plain mathematics of RuleBack: a rule's text read back, and a text that is a rule's. -/
import Derived.Test.YtpagbmkdphdjoaaGreatDoorRuS
import Derived.Test.YtpagbmkdphdjoaaGreatDoorRuC
set_option linter.unusedVariables false
set_option linter.unusedSimpArgs false
namespace Go.Proofs.YtpagbmkdphdjoaaGreatDoor.PClk
open Go.RowKit Go.Proofs.YtpagbmkdphdjoaaGreatDoor.P Go.Proofs.YtpagbmkdphdjoaaGreatDoorW.PrintWords Go.Proofs.YtpagbmkdphdjoaaGreatDoorW.PrintLast Go.Proofs.YtpagbmkdphdjoaaGreatDoorW.PrintMore
theorem text_scan (K m n w y1 m1 d1 y2 m2 d2 : Int) (hOk : OkT K m n w y1 m1 d1 y2 m2 d2) (hc : ∀ k, rule_Check.f (k + 3) K m n w y1 m1 d1 y2 m2 d2 = some none) : ∃ T, (∀ k, rule_Text.f (k + 4) K m n w y1 m1 d1 y2 m2 d2 = some (T, none)) ∧ rule_scanned.f T = some (K, m, n, w, y1, m1, d1, y2, m2, d2) := by
  rcases hOk with ⟨rfl, g1, g2, rfl, rfl, rfl, rfl, rfl, rfl, rfl, rfl⟩ | ⟨rfl, g1, g2, g3, g4, g5, rfl, rfl, rfl, rfl, rfl, rfl, rfl⟩ | ⟨rfl, g1, g2, g3, g4, g5, g6, g7, rfl, rfl, rfl, rfl, rfl, rfl⟩ | ⟨rfl, rfl, rfl, rfl, ⟨a1, a2⟩, ⟨b1, b2⟩, ⟨c1, c2⟩, ⟨e1, e2⟩, ⟨f1, f2⟩, ⟨i1, i2⟩⟩
  · have hw : Sm w := ⟨by omega, by omega⟩
    refine ⟨_, fun k => ?_, scan_0 w hw _ (bs_list _)⟩
    obtain ⟨T, h, rfl⟩ := text_0 k 0 0 w 0 0 0 0 0 0 hw (hc (k + 1))
    exact h
  · have hm : Sm m := ⟨by omega, by omega⟩
    have hn : Sm n := ⟨by omega, by omega⟩
    refine ⟨_, fun k => ?_, scan_1 m n hm hn _ (bs_list _)⟩
    obtain ⟨T, h, rfl⟩ := text_1 k m n 0 0 0 0 0 0 0 hm hn (hc (k + 1))
    exact h
  · have hm : Sm m := ⟨by omega, by omega⟩
    have hn : Sm n := ⟨by omega, by omega⟩
    have hw : Sm w := ⟨by omega, by omega⟩
    refine ⟨_, fun k => ?_, scan_2 m n w hm hn hw _ (bs_list _)⟩
    obtain ⟨T, h, rfl⟩ := text_2 k m n w 0 0 0 0 0 0 hm hn hw (hc (k + 1))
    exact h
  · have h1 : Sm y1 := ⟨by omega, by omega⟩
    have h2 : Sm m1 := ⟨by omega, by omega⟩
    have h3 : Sm d1 := ⟨by omega, by omega⟩
    have h4 : Sm y2 := ⟨by omega, by omega⟩
    have h5 : Sm m2 := ⟨by omega, by omega⟩
    have h6 : Sm d2 := ⟨by omega, by omega⟩
    refine ⟨_, fun k => ?_, scan_3 y1 m1 d1 y2 m2 d2 ⟨h1, a1⟩ ⟨h2, b1⟩ ⟨h3, c1⟩ ⟨h4, e1⟩ ⟨h5, f1⟩ ⟨h6, i1⟩ _ (bs_list _)⟩
    obtain ⟨T, h, rfl⟩ := text_3 k 0 0 0 y1 m1 d1 y2 m2 d2 h1 h2 h3 h4 h5 h6 (hc (k + 1))
    exact h
theorem text_bad (k : Nat) (K m n w y1 m1 d1 y2 m2 d2 : Int) (hc : rule_Check.f k K m n w y1 m1 d1 y2 m2 d2 = some (some 1)) : rule_Text.f k K m n w y1 m1 d1 y2 m2 d2 = some (⟨#[]⟩, some 1) := by
  unfold rule_Text.f
  rw [hc, Option.bind_some, if_neg (by decide)]
  rfl
theorem parse_of (k : Nat) (T T' : ByteArray) (K m n w y1 m1 d1 y2 m2 d2 : Int) (hs : rule_scanned.f T = some (K, m, n, w, y1, m1, d1, y2, m2, d2)) (ht : rule_Text.f k K m n w y1 m1 d1 y2 m2 d2 = some (T', none)) : rule_Parse.f k T = if T'.toList = T.toList then some (K, m, n, w, y1, m1, d1, y2, m2, d2, none) else some (0, 0, 0, 0, 0, 0, 0, 0, 0, 0, some 3) := by
  unfold rule_Parse.f
  rw [hs, Option.bind_some, ht, Option.bind_some, if_pos (show (none : Option Int).isNone = true from rfl)]
theorem parse_bad (k : Nat) (T T' : ByteArray) (K m n w y1 m1 d1 y2 m2 d2 : Int) (hs : rule_scanned.f T = some (K, m, n, w, y1, m1, d1, y2, m2, d2)) (ht : rule_Text.f k K m n w y1 m1 d1 y2 m2 d2 = some (T', some 1)) : rule_Parse.f k T = some (0, 0, 0, 0, 0, 0, 0, 0, 0, 0, some 3) := by
  unfold rule_Parse.f
  rw [hs, Option.bind_some, ht, Option.bind_some, if_neg (show ¬ (some (1 : Int)).isNone = true by decide)]
theorem cut_any (s : ByteArray) (hs : s.size ≤ 300) : ∃ a b f, strings_Cut.f s ⟨#[32]⟩ = some (bs a, bs b, f) ∧ a.length ≤ 300 ∧ b.length ≤ 300 := by
  have hl : s.data.toList.length ≤ 300 := by
    have : s.data.toList.length = s.size := Array.length_toList
    omega
  refine ⟨(Lib.cut s.data.toList [32]).1, (Lib.cut s.data.toList [32]).2.1, (Lib.cut s.data.toList [32]).2.2, ?_, ?_, ?_⟩
  · unfold strings_Cut.f
    rw [if_pos (by omega)]
    rfl
  · unfold Lib.cut
    split
    · rw [List.length_take]; omega
    · exact hl
  · unfold Lib.cut
    split
    · rw [List.length_drop]; omega
    · simp
theorem scan_total (s : ByteArray) (hs : s.size ≤ 300) : ∃ K m n w y1 m1 d1 y2 m2 d2, rule_scanned.f s = some (K, m, n, w, y1, m1, d1, y2, m2, d2) := by
  obtain ⟨a, b, f, hc, ha, hb⟩ := cut_any s hs
  obtain ⟨⟨v0, v1, v2⟩, hv⟩ := num_any b 32 (by omega)
  obtain ⟨a', b', f', hc', ha', hb'⟩ := cut_any (bs b) (by rw [bs_size]; exact hb)
  obtain ⟨⟨x0, x1, x2⟩, hx⟩ := num_any a' 45 (by omega)
  obtain ⟨⟨u0, u1, u2⟩, hu⟩ := num_any b' 45 (by omega)
  unfold rule_scanned.f
  rw [hc, Option.bind_some]
  show ∃ K m n w y1 m1 d1 y2 m2 d2, ((rule_numbers.f (bs b) ⟨#[32]⟩).bind _ : Option _) = _
  rw [hv]
  simp only [Option.bind_some]
  by_cases c0 : (bs a).toList = ([119, 101, 101, 107, 100, 97, 121] : List UInt8)
  · exact ⟨0, 0, 0, v0, 0, 0, 0, 0, 0, 0, by rw [if_pos c0]⟩
  · by_cases c1 : (bs a).toList = ([100, 97, 121] : List UInt8)
    · exact ⟨1, v0, v1, 0, 0, 0, 0, 0, 0, 0, by rw [if_neg c0, if_pos c1]⟩
    · by_cases c2 : (bs a).toList = ([110, 116, 104] : List UInt8)
      · exact ⟨2, v0, v1, v2, 0, 0, 0, 0, 0, 0, by rw [if_neg c0, if_neg c1, if_pos c2]⟩
      · refine ⟨3, 0, 0, 0, x0, x1, x2, u0, u1, u2, ?_⟩
        rw [if_neg c0, if_neg c1, if_neg c2, hc']
        simp only [Option.bind_some]
        rw [hx]
        simp only [Option.bind_some]
        rw [hu]
        rfl
/-- What is read of any short text. -/
theorem back_s (s : ByteArray) (hs : s.size ≤ 300) : (∃ K m n w y1 m1 d1 y2 m2 d2, ∀ k, rule_Parse.f (k + 4) s = some (K, m, n, w, y1, m1, d1, y2, m2, d2, none) ∧ ∃ U, rule_Text.f (k + 4) K m n w y1 m1 d1 y2 m2 d2 = some (U, none) ∧ U.toList = s.toList) ∨ (∀ k, rule_Parse.f (k + 4) s = some (0, 0, 0, 0, 0, 0, 0, 0, 0, 0, some 3)) := by
  obtain ⟨K, m, n, w, y1, m1, d1, y2, m2, d2, hsc⟩ := scan_total s hs
  rcases chk_all K m n w y1 m1 d1 y2 m2 d2 with ⟨hOk, hc⟩ | hc
  · obtain ⟨T, ht, _⟩ := text_scan K m n w y1 m1 d1 y2 m2 d2 hOk hc
    by_cases he : T.toList = s.toList
    · refine .inl ⟨K, m, n, w, y1, m1, d1, y2, m2, d2, fun k => ⟨?_, T, ht k, he⟩⟩
      rw [parse_of (k + 4) s T K m n w y1 m1 d1 y2 m2 d2 hsc (ht k), if_pos he]
    · refine .inr fun k => ?_
      rw [parse_of (k + 4) s T K m n w y1 m1 d1 y2 m2 d2 hsc (ht k), if_neg he]
  · exact .inr fun k => parse_bad (k + 4) s _ K m n w y1 m1 d1 y2 m2 d2 hsc (text_bad (k + 4) K m n w y1 m1 d1 y2 m2 d2 (hc (k + 1)))
theorem chk_sure (k : Nat) : rule_Check.f (k + 1) 2 5 (-1) 1 0 0 0 0 0 0 = some none := by rw [chk_2 k, if_pos (by decide)]
/-! The sure one. -/
theorem scan_sure : rule_scanned.f ⟨#[110, 116, 104, 32, 53, 32, 45, 49, 32, 49]⟩ = some (2, 5, -1, 1, 0, 0, 0, 0, 0, 0) := by
  have t1 : strings_Cut.f ⟨#[110, 116, 104, 32, 53, 32, 45, 49, 32, 49]⟩ ⟨#[32]⟩ = some (⟨#[110, 116, 104]⟩, ⟨#[53, 32, 45, 49, 32, 49]⟩, true) := by decide +kernel
  have t2 : rule_numbers.f ⟨#[53, 32, 45, 49, 32, 49]⟩ ⟨#[32]⟩ = some (5, -1, 1) := by decide +kernel
  unfold rule_scanned.f
  rw [t1, Option.bind_some]
  simp only [t2, Option.bind_some]
  rw [if_neg (by decide +kernel), if_neg (by decide +kernel), if_pos (by decide +kernel)]
theorem dig1 (n : Nat) (h : n < 10) : Lib.decDigits n = [UInt8.ofNat (48 + n)] := by rw [Lib.decDigits, dif_pos h]
theorem itoa_5 : strconv_Itoa_47.f 5 = some ⟨#[53]⟩ := by
  unfold strconv_Itoa_47.f
  rw [if_pos (by decide), if_pos (by decide), show (5 : Int) = ((5 : Nat) : Int) from rfl, Lib.itoa_nonneg, dig1 5 (by decide)]
  rfl
theorem itoa_1 : strconv_Itoa_47.f 1 = some ⟨#[49]⟩ := by
  unfold strconv_Itoa_47.f
  rw [if_pos (by decide), if_pos (by decide), show (1 : Int) = ((1 : Nat) : Int) from rfl, Lib.itoa_nonneg, dig1 1 (by decide)]
  rfl
theorem itoa_m1 : strconv_Itoa_47.f (-1) = some ⟨#[45, 49]⟩ := by
  unfold strconv_Itoa_47.f
  rw [if_pos (by decide), if_pos (by decide)]
  unfold Lib.itoa
  rw [if_pos (by decide), show (-1 : Int).natAbs = 1 from rfl, dig1 1 (by decide)]
  rfl
theorem digits_sure (k : Nat) : rule_digits.f (k + 4) ⟨#[32]⟩ [5, -1, 1] = some ⟨#[53, 32, 45, 49, 32, 49]⟩ := by
  have j : strings_Join.f [⟨#[53]⟩, ⟨#[45, 49]⟩, ⟨#[49]⟩] ⟨#[32]⟩ = some ⟨#[53, 32, 45, 49, 32, 49]⟩ := by decide +kernel
  have e0 : rd [5, -1, 1] 0 = 5 := rfl
  have e1 : rd [5, -1, 1] 1 = -1 := rfl
  have e2 : rd [5, -1, 1] 2 = 1 := rfl
  have w0 : wrap64 ((0 : Int) + 1) = 1 := by unfold wrap64; decide
  have w1 : wrap64 ((1 : Int) + 1) = 2 := by unfold wrap64; decide
  have w2 : wrap64 ((2 : Int) + 1) = 3 := by unfold wrap64; decide
  unfold rule_digits.f
  show rule_digits.l0 (k + 4) ⟨#[32]⟩ [] [5, -1, 1] 3 0 = _
  rw [rule_digits.l0, if_pos (by decide), if_pos (by decide), if_pos (by decide), e0, itoa_5, Option.bind_some, if_pos (by decide), w0]
  rw [rule_digits.l0, if_pos (by decide), if_pos (by decide), if_pos (by decide), e1, itoa_m1, Option.bind_some, if_pos (by decide), w1]
  rw [rule_digits.l0, if_pos (by decide), if_pos (by decide), if_pos (by decide), e2, itoa_1, Option.bind_some, if_pos (by decide), w2]
  rw [rule_digits.l0, if_neg (by decide)]
  show (strings_Join.f [⟨#[53]⟩, ⟨#[45, 49]⟩, ⟨#[49]⟩] ⟨#[32]⟩).bind _ = _
  rw [j]; rfl
theorem parse_sure (k : Nat) : rule_Parse.f (k + 4) ⟨#[110, 116, 104, 32, 53, 32, 45, 49, 32, 49]⟩ = some (2, 5, -1, 1, 0, 0, 0, 0, 0, 0, none) := by
  unfold rule_Parse.f rule_Text.f
  rw [scan_sure, Option.bind_some, chk_sure (k + 3), Option.bind_some, if_pos (show (none : Option Int).isNone = true from rfl), if_neg (by decide), if_neg (by decide), if_pos rfl, digits_sure k, Option.bind_some, if_pos (by decide), Option.bind_some, if_pos (show (none : Option Int).isNone = true from rfl), if_pos (by decide +kernel)]
theorem sure_ok {k : Nat} (hk : 20 ≤ k) : w6_sure.f k = some true := by
  obtain ⟨m, rfl⟩ : ∃ m, k = m + 5 := ⟨k - 5, by omega⟩
  unfold w6_sure.f
  obtain ⟨q, j, i, d, h⟩ := at_ex (D := 20603) (by decide) (by decide)
  have hm : rule_Match.f (m + 5) 2 5 (-1) 1 0 0 0 0 0 0 20603 = some (false, none) := by
    have ho : civil_Of.f 20603 = some (2026, 5, 30, none) := by decide +kernel
    have hl : civil_Length.f (m + 4) 2026 5 = some (31, none) := by
      have := length_yr 0 56 4 (by decide) (by decide) (by decide) (m + 1)
      exact this
    unfold rule_Match.f
    rw [ho, Option.bind_some, if_pos (show (none : Option Int).isNone = true from rfl), chk_sure (m + 4), Option.bind_some, if_pos (show (none : Option Int).isNone = true from rfl), rule_Match.j0, if_neg (by decide), hl, Option.bind_some, if_pos (show (none : Option Int).isNone = true from rfl), if_neg (by decide), rule_Match.j1, if_neg (by decide), if_neg (by decide), if_pos rfl, if_pos (by decide), weekday_eq 20603 (by decide) (by decide), Option.bind_some]
    rw [if_neg (show ¬ wd 20603 = 1 by decide)]
  rw [show m + 5 = (m + 1) + 4 by omega, parse_sure, Option.bind_some, show m + 1 + 4 = m + 5 by omega]
  show (rule_Match.f (m + 5) 2 5 (-1) 1 0 0 0 0 0 0 20603).bind _ = _
  rw [hm]
  rfl
/-- The second half of the law. -/
theorem half (s : ByteArray) (hs : s.size ≤ 300) (k : Nat) (hk : 16 ≤ k) : ((rule_Parse.f (k + 4) s).bind fun bt => (if bt.2.2.2.2.2.2.2.2.2.2.isNone = true then ((rule_Text.f (k + 4) bt.1 bt.2.1 bt.2.2.1 bt.2.2.2.1 bt.2.2.2.2.1 bt.2.2.2.2.2.1 bt.2.2.2.2.2.2.1 bt.2.2.2.2.2.2.2.1 bt.2.2.2.2.2.2.2.2.1 bt.2.2.2.2.2.2.2.2.2.1).bind fun bt588 => (if bt588.2.isNone = true then (if bt588.1.toList = s.toList then ((w6_sure.f (k + 4)).bind fun t591 => (some t591)) else (none)) else (none))) else ((w6_num.f (some (bt.2.2.2.2.2.2.2.2.2.2.getD 0))).bind fun t592 => (if t592 = 3 then ((w6_sure.f (k + 4)).bind fun t593 => (some t593)) else (none))))) = some true := by
  have hS : w6_sure.f (k + 4) = some true := sure_ok (by omega)
  rcases back_s s hs with ⟨K, m, n, w, y1, m1, d1, y2, m2, d2, h⟩ | h
  · obtain ⟨h1, U, h2, h3⟩ := h k
    rw [h1, Option.bind_some, if_pos (show (none : Option Int).isNone = true from rfl)]
    show ((rule_Text.f (k + 4) K m n w y1 m1 d1 y2 m2 d2).bind _ : Option Bool) = _
    rw [h2, Option.bind_some, if_pos (show (none : Option Int).isNone = true from rfl), if_pos h3, hS]
    rfl
  · rw [h k, Option.bind_some, if_neg (by decide)]
    show ((w6_num.f (some 3)).bind _ : Option Bool) = _
    rw [show w6_num.f (some 3) = some 3 from rfl, Option.bind_some, if_pos rfl, hS]
    rfl
theorem back_ok : w6_RuleBack.Pure := by
  intro K m n w y1 m1 d1 y2 m2 d2 s
  intros
  refine ⟨20 + 4, ?_⟩
  have hS : w6_sure.f (20 + 4) = some true := sure_ok (by decide)
  unfold w6_RuleBack.f w6_giveRule.f
  by_cases hs : (s.size : Int) > 300
  · rw [if_pos hs, hS]
    rfl
  · have hh := half s (by omega) 20 (by decide)
    rw [if_neg hs, Option.bind_some]
    rcases chk_all K m n w y1 m1 d1 y2 m2 d2 with ⟨hOk, hc⟩ | hc
    · obtain ⟨T, ht, hsc⟩ := text_scan K m n w y1 m1 d1 y2 m2 d2 hOk hc
      have hp := parse_of (20 + 4) T T K m n w y1 m1 d1 y2 m2 d2 hsc (ht 20)
      rw [if_pos rfl] at hp
      show ((rule_Text.f (20 + 4) K m n w y1 m1 d1 y2 m2 d2).bind _ : Option Bool) = _
      rw [ht 20, Option.bind_some, if_pos (show (none : Option Int).isNone = true from rfl)]
      show ((rule_Parse.f (20 + 4) T).bind _ : Option Bool) = _
      rw [hp, Option.bind_some, if_pos (show (none : Option Int).isNone = true from rfl), Option.bind_some, if_neg (by simp)]
      exact hh
    · show ((rule_Text.f (20 + 4) K m n w y1 m1 d1 y2 m2 d2).bind _ : Option Bool) = _
      rw [text_bad _ K m n w y1 m1 d1 y2 m2 d2 (hc 21), Option.bind_some, if_neg (by decide)]
      exact hh
end Go.Proofs.YtpagbmkdphdjoaaGreatDoor.PClk
