/- Plain mathematics of layer 6: the sure one; when a rule means a day. -/
import Derived.Test.YtpagbmkdphdjoaaDoorRuA
import Derived.Test.YtpagbmkdphdjoaaDoorPx16
set_option linter.unusedVariables false
set_option linter.unusedSimpArgs false
namespace Go.Proofs.YtpagbmkdphdjoaaDoor.PClk
open Go.RowKit Go.Proofs.YtpagbmkdphdjoaaDoor.P Go.Proofs.YtpagbmkdphdjoaaDoorW.PrintWords Go.Proofs.YtpagbmkdphdjoaaDoorW.PrintLast Go.Proofs.YtpagbmkdphdjoaaDoorW.PrintMore
theorem up {α : Type} {f : Nat → Option α} (h : ∀ k, LeO (f k) (f (k + 1))) {k j : Nat} {r : α} (hr : f k = some r) (hkj : k ≤ j) : f j = some r := by
  induction hkj with
  | refl => exact hr
  | step _ ih => exact h _ _ ih
/-! When a rule may be. -/
theorem check_0 {w : Int} (h0 : 0 ≤ w) (h1 : w < 7) (k : Nat) : rule_Check.f (k + 1) 0 0 0 w 0 0 0 0 0 0 = some none := by
  unfold rule_Check.f
  rw [if_pos rfl, if_pos h0, decide_eq_true h1, rule_Check.j0, if_pos rfl]
  simp
theorem check_1 {m n : Int} (h0 : 0 ≤ m) (h1 : m ≤ 12) (h2 : n ≠ 0) (h3 : -31 ≤ n) (h4 : n ≤ 31) (k : Nat) : rule_Check.f (k + 1) 1 m n 0 0 0 0 0 0 0 = some none := by
  unfold rule_Check.f
  have ha : rule_among.f n 31 = some true := by
    unfold rule_among.f
    rw [if_neg h2, w64 (by decide) (by decide), if_pos h3, decide_eq_true h4]
  rw [if_neg (by decide), if_pos rfl, if_pos h0, if_pos h1, ha, Option.bind_some, rule_Check.j0, if_pos rfl]
  simp
theorem check_2 {m n w : Int} (h0 : 0 ≤ m) (h1 : m ≤ 12) (h2 : n ≠ 0) (h3 : -5 ≤ n) (h4 : n ≤ 5) (h5 : 0 ≤ w) (h6 : w < 7) (k : Nat) : rule_Check.f (k + 1) 2 m n w 0 0 0 0 0 0 = some none := by
  unfold rule_Check.f
  have ha : rule_among.f n 5 = some true := by
    unfold rule_among.f
    rw [if_neg h2, w64 (by decide) (by decide), if_pos h3, decide_eq_true h4]
  rw [if_neg (by decide), if_neg (by decide), if_pos rfl, if_pos h0, if_pos h1, ha, Option.bind_some, if_pos rfl, if_pos h5, decide_eq_true h6, rule_Check.j0, if_pos rfl]
  simp
theorem check_3 {D E q q' : Int} {j i d j' i' d' : Nat} (h : At D q j i d) (h' : At E q' j' i' d') (hy : Yr q' j' ≤ 9999) (hle : D ≤ E) (k : Nat) : rule_Check.f (k + 4) 3 0 0 0 (Yr q j) ((i + 1 : Nat) : Int) ((d + 1 : Nat) : Int) (Yr q' j') ((i' + 1 : Nat) : Int) ((d' + 1 : Nat) : Int) = some none := by
  unfold rule_Check.f rule_ordered.f
  rw [if_neg (by decide), if_neg (by decide), if_neg (by decide), if_pos rfl, days_at h (k + 1), Option.bind_some, days_at h' (k + 1), Option.bind_some, if_pos (show (none : Option Int).isNone = true from rfl), if_pos (show (none : Option Int).isNone = true from rfl), if_pos (show Yr q j ≥ 0 from (yr_bd h).1), if_pos hy, decide_eq_true (show (D, (none : Option Int)).1 ≤ (E, (none : Option Int)).1 from hle), Option.bind_some, rule_Check.j0, if_pos rfl]
  simp
/-! When it means a day. -/
theorem match_open {D q : Int} {j i d : Nat} (h : At D q j i d) {K m n w a b c a' b' c' : Int} (k : Nat) (hc : rule_Check.f (k + 5) K m n w a b c a' b' c' = some none) :
    rule_Match.f (k + 5) K m n w a b c a' b' c' D = if m = 0 then rule_Match.j1 (k + 4) D ((len (leapN (1970 + j)) i : Nat) : Int) true K m n w a b c a' b' c' (Yr q j) ((i + 1 : Nat) : Int) ((d + 1 : Nat) : Int) else rule_Match.j1 (k + 4) D ((len (leapN (1970 + j)) i : Nat) : Int) (m == ((i + 1 : Nat) : Int)) K m n w a b c a' b' c' (Yr q j) ((i + 1 : Nat) : Int) ((d + 1 : Nat) : Int) := by
  unfold rule_Match.f
  rw [of_at h, Option.bind_some, if_pos (show (none : Option Int).isNone = true from rfl), hc, Option.bind_some, if_pos (show (none : Option Int).isNone = true from rfl), rule_Match.j0, if_neg (by decide), length_at h (k + 1), Option.bind_some, if_pos (show (none : Option Int).isNone = true from rfl)]
theorem match_0 {D q : Int} {j i d : Nat} (h : At D q j i d) (hb : -100000000 ≤ D) (hb2 : D ≤ 100000000) {w : Int} (h0 : 0 ≤ w) (h1 : w < 7) (k : Nat) : rule_Match.f (k + 5) 0 0 0 w 0 0 0 0 0 0 D = some (wd D == w, none) := by
  rw [match_open h k (check_0 h0 h1 (k + 4)), if_pos rfl, rule_Match.j1, if_pos rfl, weekday_eq D hb hb2, Option.bind_some]
theorem dec_beq (a b : Int) : (a == b) = decide (a = b) := by
  by_cases h : a = b
  · rw [h]; simp
  · simp [h]
theorem match_1 {D q : Int} {j i d : Nat} (h : At D q j i d) {n : Int} (h1 : n ≠ 0) (h2 : -31 ≤ n) (h3 : n ≤ 31) (k : Nat) (m : Int) (hm : m = 0 ∨ m = ((i + 1 : Nat) : Int)) :
    rule_Match.f (k + 5) 1 m n 0 0 0 0 0 0 0 D = some (decide (((d + 1 : Nat) : Int) = n ∨ ((d : Int) - ((len (leapN (1970 + j)) i : Nat) : Int) = n)), none) := by
  have hl := len_le (leapN (1970 + j)) i h.hi
  have hd := h.hd
  have hi := h.hi
  have hop := match_open h k (K := 1) (m := m) (n := n) (w := 0) (a := 0) (b := 0) (c := 0) (a' := 0) (b' := 0) (c' := 0) (check_1 (by rcases hm with rfl | rfl <;> omega) (by rcases hm with rfl | rfl <;> omega) h1 h2 h3 (k + 4))
  obtain ⟨L, hL⟩ : ∃ L, len (leapN (1970 + j)) i = L := ⟨_, rfl⟩
  rw [hL] at hl hd hop ⊢
  have core : rule_Match.j1 (k + 4) D (L : Int) true 1 m n 0 0 0 0 0 0 0 (Yr q j) ((i + 1 : Nat) : Int) ((d + 1 : Nat) : Int) = some (decide (((d + 1 : Nat) : Int) = n ∨ ((d : Int) - (L : Int) = n)), none) := by
    rw [rule_Match.j1, if_neg (by decide), if_pos rfl, if_pos rfl]
    by_cases hc : ((d + 1 : Nat) : Int) = n
    · rw [if_pos hc, decide_eq_true (.inl hc)]
    · rw [if_neg hc, w64 (x := ((d + 1 : Nat) : Int) - (L : Int)) (by omega) (by omega), w64 (by omega) (by omega), dec_beq]
      congr 2
      rw [decide_eq_decide]
      constructor
      · intro e; exact .inr (by omega)
      · rintro (e | e)
        · exact absurd e hc
        · omega
  rw [hop]
  rcases hm with rfl | rfl
  · rw [if_pos rfl]; exact core
  · rw [if_neg (by omega), beq_self_eq_true]; exact core
theorem ahead_eq (x : Nat) (hx : x ≤ 100) : rule_ahead.f (x : Int) = some (((x + 6) / 7 : Nat) : Int) := by
  unfold rule_ahead.f
  rw [w64 (x := (x : Int) + 7) (by omega) (by omega), w64 (x := (x : Int) + 7 - 1) (by omega) (by omega), show (x : Int) + 7 - 1 = ((x + 6 : Nat) : Int) by omega, show Int.tdiv ((x + 6 : Nat) : Int) 7 = (((x + 6) / 7 : Nat) : Int) from tdn _ 7, w64 (by omega) (by omega)]
theorem match_2 {D q : Int} {j i d : Nat} (h : At D q j i d) (hb : -100000000 ≤ D) (hb2 : D ≤ 100000000) {n : Nat} {w : Int} (h1 : 1 ≤ n) (h2 : n ≤ 5) (h3 : 0 ≤ w) (h4 : w < 7) (k : Nat) :
    rule_Match.f (k + 5) 2 0 (n : Int) w 0 0 0 0 0 0 D = some (decide (wd D = w ∧ d / 7 + 1 = n), none) := by
  have hl := len_le (leapN (1970 + j)) i h.hi
  have hd := h.hd
  have hop := match_open h k (K := 2) (m := 0) (n := (n : Int)) (w := w) (a := 0) (b := 0) (c := 0) (a' := 0) (b' := 0) (c' := 0) (check_2 (by decide) (by decide) (by omega) (by omega) (by omega) h3 h4 (k + 4))
  obtain ⟨L, hL⟩ : ∃ L, len (leapN (1970 + j)) i = L := ⟨_, rfl⟩
  rw [hL] at hl hd hop
  have ea : rule_ahead.f ((d + 1 : Nat) : Int) = some (((d + 1 + 6) / 7 : Nat) : Int) := ahead_eq (d + 1) (by omega)
  have eb : rule_ahead.f (wrap64 (wrap64 ((L : Int) - ((d + 1 : Nat) : Int)) + 1)) = some (((L - (d + 1) + 1 + 6) / 7 : Nat) : Int) := by
    rw [w64 (x := (L : Int) - ((d + 1 : Nat) : Int)) (by omega) (by omega), w64 (by omega) (by omega), show (L : Int) - ((d + 1 : Nat) : Int) + 1 = ((L - (d + 1) + 1 : Nat) : Int) by omega]
    exact ahead_eq _ (by omega)
  rw [hop, if_pos rfl, rule_Match.j1, if_neg (by decide), if_neg (by decide), if_pos rfl, if_pos rfl, weekday_eq D hb hb2, Option.bind_some]
  by_cases hw : wd D = w
  · rw [if_pos hw, ea, Option.bind_some]
    by_cases hn : d / 7 + 1 = n
    · rw [if_pos (by omega), decide_eq_true ⟨hw, hn⟩]
    · rw [if_neg (by omega), eb, Option.bind_some, w64 (by omega) (by omega), dec_beq, decide_eq_false (by omega), decide_eq_false (fun e => hn e.2)]
  · rw [if_neg hw, decide_eq_false (fun e => hw e.1)]
theorem match_3 {D E F q q' q'' : Int} {j i d j' i' d' j'' i'' d'' : Nat} (hF : At F q'' j'' i'' d'') (h : At D q j i d) (h' : At E q' j' i' d') (hy : Yr q' j' ≤ 9999) (hle : D ≤ E) (k : Nat) :
    rule_Match.f (k + 5) 3 0 0 0 (Yr q j) ((i + 1 : Nat) : Int) ((d + 1 : Nat) : Int) (Yr q' j') ((i' + 1 : Nat) : Int) ((d' + 1 : Nat) : Int) F = some (decide (D ≤ F ∧ F ≤ E), none) := by
  rw [match_open hF k (check_3 h h' hy hle (k + 1)), if_pos rfl, rule_Match.j1, if_neg (by decide), if_neg (by decide), if_neg (by decide), days_at h k, Option.bind_some, days_at h' k, Option.bind_some]
  by_cases h1 : D ≤ F
  · rw [if_pos (show (D, (none : Option Int)).1 ≤ F from h1)]
    congr 2
    rw [decide_eq_decide]
    exact ⟨fun e => ⟨h1, e⟩, fun e => e.2⟩
  · rw [if_neg (show ¬ (D, (none : Option Int)).1 ≤ F from h1), decide_eq_false (fun e => h1 e.1)]
/-! The sure one. -/
theorem scan_sure : rule_scanned.f ⟨#[110, 116, 104, 32, 53, 32, 45, 49, 32, 49]⟩ = some (2, 5, -1, 1, 0, 0, 0, 0, 0, 0) := by
  have t1 : strings_Cut.f ⟨#[110, 116, 104, 32, 53, 32, 45, 49, 32, 49]⟩ ⟨#[32]⟩ = some (⟨#[110, 116, 104]⟩, ⟨#[53, 32, 45, 49, 32, 49]⟩, true) := by decide +kernel
  have t2 : rule_numbers.f ⟨#[53, 32, 45, 49, 32, 49]⟩ ⟨#[32]⟩ = some (5, -1, 1) := by decide +kernel
  unfold rule_scanned.f
  rw [t1, Option.bind_some]
  simp only [t2, Option.bind_some]
  rw [if_neg (by decide +kernel), if_neg (by decide +kernel), if_pos (by decide +kernel)]
theorem dig1 (n : Nat) (h : n < 10) : Lib.decDigits n = [UInt8.ofNat (48 + n)] := by rw [Lib.decDigits, dif_pos h]
theorem itoa_5 : strconv_Itoa_27.f 5 = some ⟨#[53]⟩ := by
  unfold strconv_Itoa_27.f
  rw [if_pos (by decide), if_pos (by decide), show (5 : Int) = ((5 : Nat) : Int) from rfl, Lib.itoa_nonneg, dig1 5 (by decide)]
  rfl
theorem itoa_1 : strconv_Itoa_27.f 1 = some ⟨#[49]⟩ := by
  unfold strconv_Itoa_27.f
  rw [if_pos (by decide), if_pos (by decide), show (1 : Int) = ((1 : Nat) : Int) from rfl, Lib.itoa_nonneg, dig1 1 (by decide)]
  rfl
theorem itoa_m1 : strconv_Itoa_27.f (-1) = some ⟨#[45, 49]⟩ := by
  unfold strconv_Itoa_27.f
  rw [if_pos (by decide), if_pos (by decide)]
  unfold Lib.itoa
  rw [if_pos (by decide), show (-1 : Int).natAbs = 1 from rfl, dig1 1 (by decide)]
  rfl
theorem digits_sure (k : Nat) : rule_digits.f (k + 4) ⟨#[32]⟩ [5, -1, 1] = some ⟨#[53, 32, 45, 49, 32, 49]⟩ := by
  have j : strings_Join.f [⟨#[53]⟩, ⟨#[45, 49]⟩, ⟨#[49]⟩] ⟨#[32]⟩ = some ⟨#[53, 32, 45, 49, 32, 49]⟩ := by decide +kernel
  have e0 : rd [5, -1, 1] 0 = 5 := rfl
  have e1 : rd [5, -1, 1] 1 = -1 := rfl
  have e2 : rd [5, -1, 1] 2 = 1 := rfl
  have w0 : wrap64 ((0 : Int) + 1) = 1 := by unfold wrap64; decide
  have w1 : wrap64 ((1 : Int) + 1) = 2 := by unfold wrap64; decide
  have w2 : wrap64 ((2 : Int) + 1) = 3 := by unfold wrap64; decide
  unfold rule_digits.f
  show rule_digits.l0 (k + 4) ⟨#[32]⟩ [] [5, -1, 1] 3 0 = _
  rw [rule_digits.l0, if_pos (by decide), if_pos (by decide), if_pos (by decide), e0, itoa_5, Option.bind_some, if_pos (by decide), w0]
  rw [rule_digits.l0, if_pos (by decide), if_pos (by decide), if_pos (by decide), e1, itoa_m1, Option.bind_some, if_pos (by decide), w1]
  rw [rule_digits.l0, if_pos (by decide), if_pos (by decide), if_pos (by decide), e2, itoa_1, Option.bind_some, if_pos (by decide), w2]
  rw [rule_digits.l0, if_neg (by decide)]
  show (strings_Join.f [⟨#[53]⟩, ⟨#[45, 49]⟩, ⟨#[49]⟩] ⟨#[32]⟩).bind _ = _
  rw [j]; rfl
theorem parse_sure (k : Nat) : rule_Parse.f (k + 4) ⟨#[110, 116, 104, 32, 53, 32, 45, 49, 32, 49]⟩ = some (2, 5, -1, 1, 0, 0, 0, 0, 0, 0, none) := by
  unfold rule_Parse.f rule_Text.f
  rw [scan_sure, Option.bind_some, check_2 (by decide) (by decide) (by decide) (by decide) (by decide) (by decide) (by decide) (k + 3), Option.bind_some, if_pos (show (none : Option Int).isNone = true from rfl), if_neg (by decide), if_neg (by decide), if_pos rfl, digits_sure k, Option.bind_some, if_pos (by decide), Option.bind_some, if_pos (show (none : Option Int).isNone = true from rfl), if_pos (by decide +kernel)]
theorem sure_ok {k : Nat} (hk : 20 ≤ k) : belvederelaw06_sure.f k = some true := by
  obtain ⟨m, rfl⟩ : ∃ m, k = m + 5 := ⟨k - 5, by omega⟩
  unfold belvederelaw06_sure.f
  obtain ⟨q, j, i, d, h⟩ := at_ex (D := 20603) (by decide) (by decide)
  have hm : rule_Match.f (m + 5) 2 5 (-1) 1 0 0 0 0 0 0 20603 = some (false, none) := by
    have ho : civil_Of.f 20603 = some (2026, 5, 30, none) := by decide +kernel
    have hl : civil_Length.f (m + 4) 2026 5 = some (31, none) := by
      have := length_yr 0 56 4 (by decide) (by decide) (by decide) (m + 1)
      exact this
    unfold rule_Match.f
    rw [ho, Option.bind_some, if_pos (show (none : Option Int).isNone = true from rfl), check_2 (by decide) (by decide) (by decide) (by decide) (by decide) (by decide) (by decide) (m + 4), Option.bind_some, if_pos (show (none : Option Int).isNone = true from rfl), rule_Match.j0, if_neg (by decide), hl, Option.bind_some, if_pos (show (none : Option Int).isNone = true from rfl), if_neg (by decide), rule_Match.j1, if_neg (by decide), if_neg (by decide), if_pos rfl, if_pos (by decide), weekday_eq 20603 (by decide) (by decide), Option.bind_some]
    rw [if_neg (show ¬ wd 20603 = 1 by decide)]
  rw [show m + 5 = (m + 1) + 4 by omega, parse_sure, Option.bind_some, show m + 1 + 4 = m + 5 by omega]
  show (rule_Match.f (m + 5) 2 5 (-1) 1 0 0 0 0 0 0 20603).bind _ = _
  rw [hm]
  rfl
theorem tm_bd (a b : Int) (hb : 0 < b) (hb2 : b ≤ 1000000000) : ∃ D : Int, wrap64 (Int.tmod (IntKind.u64.wrap a) b) = D ∧ 0 ≤ D ∧ D < b := by
  have hu : 0 ≤ IntKind.u64.wrap a := by
    rw [show IntKind.u64.wrap a = a % 18446744073709551616 from rfl]
    exact Int.emod_nonneg a (by decide)
  refine ⟨(IntKind.u64.wrap a) % b, ?_, Int.emod_nonneg _ (by omega), Int.emod_lt_of_pos _ hb⟩
  rw [Int.tmod_eq_emod_of_nonneg hu]
  have h1 := Int.emod_nonneg (IntKind.u64.wrap a) (show b ≠ 0 by omega)
  have h2 := Int.emod_lt_of_pos (IntKind.u64.wrap a) hb
  exact w64 (by omega) (by omega)
end Go.Proofs.YtpagbmkdphdjoaaDoor.PClk
