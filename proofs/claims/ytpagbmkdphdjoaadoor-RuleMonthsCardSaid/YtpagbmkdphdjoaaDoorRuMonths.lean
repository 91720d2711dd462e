/- Plain mathematics of layer 6: every day of every month by a rule, once. -/
import Derived.Test.YtpagbmkdphdjoaaDoorRuB
import Derived.Test.YtpagbmkdphdjoaaDoorPx17
set_option linter.unusedVariables false
set_option linter.unusedSimpArgs false
namespace Go.Proofs.YtpagbmkdphdjoaaDoor.PClk
open Go.RowKit Go.Proofs.YtpagbmkdphdjoaaDoor.P Go.Proofs.YtpagbmkdphdjoaaDoorW.PrintWords Go.Proofs.YtpagbmkdphdjoaaDoorW.PrintLast Go.Proofs.YtpagbmkdphdjoaaDoorW.PrintMore
/-! The month's days, counted from both its ends. -/
theorem w01 : wrap64 (((0 : Nat) : Int) + 1) = ((1 : Nat) : Int) := by unfold wrap64; decide
theorem ne_of {a b : Bool} (h : a = b) : ¬ (a != b) = true := by rw [h]; simp
theorem m_l1 {F q : Int} {j i : Nat} (h : At F q j i 0) (f0 : -1000 ≤ F) (f1 : F ≤ 4000000) (w d1 : Int) (n : Nat) (hn : 1 ≤ n) (hn2 : n ≤ 31) (K0 : Nat)
    (h0 : belvederelaw06_RuleMonths.l0 K0 w ((len (leapN (1970 + j)) i : Nat) : Int) F 0 ((n + 1 : Nat) : Int) (Yr q j) ((i + 1 : Nat) : Int) d1 = some true) :
    ∀ (r x : Nat), x + r = len (leapN (1970 + j)) i → ∃ k, belvederelaw06_RuleMonths.l1 k w ((len (leapN (1970 + j)) i : Nat) : Int) F 0 (n : Int) ((if n ≤ x then 1 else 0 : Nat) : Int) ((if n ≤ len (leapN (1970 + j)) i ∧ len (leapN (1970 + j)) i < x + n then 1 else 0 : Nat) : Int) (x : Int) (Yr q j) ((i + 1 : Nat) : Int) d1 = some true
  | 0, x, hx => by
    have hl := len_le (leapN (1970 + j)) i h.hi
    obtain ⟨L, hL⟩ : ∃ L, len (leapN (1970 + j)) i = L := ⟨_, rfl⟩
    rw [hL] at hl hx h0 ⊢
    refine ⟨K0 + 1, ?_⟩
    rw [belvederelaw06_RuleMonths.l1, if_neg (by omega)]
    rw [w64 (x := (n : Int) + 1) (by omega) (by omega), show (n : Int) + 1 = ((n + 1 : Nat) : Int) by omega]
    by_cases c : n ≤ L
    · rw [if_pos (show n ≤ x by omega), if_pos (show n ≤ L ∧ L < x + n by omega), if_pos rfl, if_neg (ne_of (by rw [decide_eq_true (show (n : Int) ≤ (L : Int) by omega)]; rfl))]
      exact h0
    · rw [if_neg (show ¬ n ≤ x by omega), if_neg (show ¬ (n ≤ L ∧ L < x + n) by omega), if_pos rfl, if_neg (ne_of (by rw [decide_eq_false (show ¬ (n : Int) ≤ (L : Int) by omega)]; rfl))]
      exact h0
  | r + 1, x, hx => by
    obtain ⟨K, hK⟩ := m_l1 h f0 f1 w d1 n hn hn2 K0 h0 r (x + 1) (by omega)
    have hl := len_le (leapN (1970 + j)) i h.hi
    have hi := h.hi
    have hat := h.same (x := x) (by omega)
    have e0 : F - ((0 : Nat) : Int) + (x : Int) = F + (x : Int) := by omega
    rw [e0] at hat
    have m1 := match_1 hat (n := (n : Int)) (by omega) (by omega) (by omega) (K + 1) 0 (.inl rfl)
    have m2 := match_1 hat (n := -(n : Int)) (by omega) (by omega) (by omega) (K + 1) ((i + 1 : Nat) : Int) (.inr rfl)
    obtain ⟨L, hL⟩ : ∃ L, len (leapN (1970 + j)) i = L := ⟨_, rfl⟩
    rw [hL] at hl hx hK m1 m2 ⊢
    have b1 : decide (((x + 1 : Nat) : Int) = (n : Int) ∨ (x : Int) - (L : Int) = (n : Int)) = decide (x + 1 = n) := by rw [decide_eq_decide]; omega
    have b2 : decide (((x + 1 : Nat) : Int) = -(n : Int) ∨ (x : Int) - (L : Int) = -(n : Int)) = decide (x + n = L) := by rw [decide_eq_decide]; omega
    rw [b1] at m1
    rw [b2] at m2
    refine ⟨K + 7, ?_⟩
    rw [belvederelaw06_RuleMonths.l1, if_pos (by omega), w64 (x := F + (x : Int)) (by omega) (by omega), show K + 6 = K + 1 + 5 from rfl, m1, Option.bind_some, w64 (x := -(n : Int)) (by omega) (by omega), m2, Option.bind_some, if_pos (show (none : Option Int).isNone = true from rfl), if_pos (show (none : Option Int).isNone = true from rfl)]
    rw [w64 (x := (n : Int) - 1) (by omega) (by omega), w64 (x := (L : Int) - (n : Int)) (by omega) (by omega), dec_beq, dec_beq]
    rw [if_neg (ne_of (by rw [decide_eq_decide]; show x + 1 = n ↔ (x : Int) = (n : Int) - 1; omega)), if_neg (ne_of (by rw [decide_eq_decide]; show x + n = L ↔ (x : Int) = (L : Int) - (n : Int); omega))]
    have hK2 : belvederelaw06_RuleMonths.l1 (K + 5) w (L : Int) F 0 (n : Int) ((if n ≤ x + 1 then 1 else 0 : Nat) : Int) ((if n ≤ L ∧ L < x + 1 + n then 1 else 0 : Nat) : Int) ((x + 1 : Nat) : Int) (Yr q j) ((i + 1 : Nat) : Int) d1 = some true :=
      up (fun k => (belvederelaw06_RuleMonths.mono_l k).2.1 _ _ _ _ _ _ _ _ _ _ _) hK (by omega)
    have step : ∀ a : Nat, (a = if n ≤ x + 1 then 1 else 0) → belvederelaw06_RuleMonths.j2 (K + 1 + 5) w (L : Int) F 0 (n : Int) (a : Int) ((if n ≤ L ∧ L < x + n then 1 else 0 : Nat) : Int) (x : Int) (decide (x + n = L)) (Yr q j) ((i + 1 : Nat) : Int) d1 = some true := by
      intro a ha
      show belvederelaw06_RuleMonths.j2 (K + 5 + 1) _ _ _ _ _ _ _ _ _ _ _ _ = _
      rw [belvederelaw06_RuleMonths.j2, w64 (x := (x : Int) + 1) (by omega) (by omega), show (x : Int) + 1 = ((x + 1 : Nat) : Int) by omega, ha]
      by_cases c : x + n = L
      · rw [decide_eq_true c, if_pos rfl]
        rw [if_pos (show n ≤ L ∧ L < x + 1 + n by omega)] at hK2
        rw [if_neg (show ¬ (n ≤ L ∧ L < x + n) by omega), w01]
        exact hK2
      · rw [decide_eq_false c, if_neg (by decide)]
        by_cases c2 : n ≤ L ∧ L < x + n
        · rw [if_pos (show n ≤ L ∧ L < x + 1 + n by omega)] at hK2
          rw [if_pos c2]; exact hK2
        · rw [if_neg (show ¬ (n ≤ L ∧ L < x + 1 + n) by omega)] at hK2
          rw [if_neg c2]; exact hK2
    by_cases c : x + 1 = n
    · rw [decide_eq_true c, if_pos rfl, if_neg (show ¬ n ≤ x by omega), w01]
      exact step 1 (by rw [if_pos (by omega)])
    · rw [decide_eq_false c, if_neg (by decide)]
      refine step _ ?_
      by_cases c2 : n ≤ x
      · rw [if_pos c2, if_pos (by omega)]
      · rw [if_neg c2, if_neg (by omega)]
theorem m_l0 {F q : Int} {j i : Nat} (h : At F q j i 0) (f0 : -1000 ≤ F) (f1 : F ≤ 4000000) (w d1 : Int) (K0 : Nat)
    (h0 : belvederelaw06_RuleMonths.l2 K0 w ((len (leapN (1970 + j)) i : Nat) : Int) F 0 (-1) 1 = some true) :
    ∀ (r n : Nat), n + r = 32 → 1 ≤ n → ∃ k, belvederelaw06_RuleMonths.l0 k w ((len (leapN (1970 + j)) i : Nat) : Int) F 0 (n : Int) (Yr q j) ((i + 1 : Nat) : Int) d1 = some true
  | 0, n, hn, _ => by
    refine ⟨K0 + 1, ?_⟩
    rw [belvederelaw06_RuleMonths.l0, if_neg (by omega)]
    exact h0
  | r + 1, n, hn, h1 => by
    obtain ⟨K, hK⟩ := m_l0 h f0 f1 w d1 K0 h0 r (n + 1) (by omega) (by omega)
    have hl := len_le (leapN (1970 + j)) i h.hi
    obtain ⟨K2, hK2⟩ := m_l1 h f0 f1 w d1 n h1 (by omega) K hK (len (leapN (1970 + j)) i) 0 (by omega)
    refine ⟨K2 + 1, ?_⟩
    rw [belvederelaw06_RuleMonths.l0, if_pos (by omega)]
    rw [if_neg (show ¬ n ≤ 0 by omega), if_neg (by omega)] at hK2
    exact hK2
/-! The month's weekdays, by their order. -/
def tgt (c m : Nat) : Nat := c + 7 * (m - 1)
theorem m_l3 {F q : Int} {j i : Nat} (h : At F q j i 0) (f0 : -1000 ≤ F) (f1 : F ≤ 4000000) (w : Int) (w0 : 0 ≤ w) (w1 : w < 7) (c : Nat) (hc : c < 7) (hcw : (F + (c : Int) + 4) % 7 = w)
    (m : Nat) (hm : 1 ≤ m) (hm2 : m ≤ 5) (s : Int) (hs : (m = 1 ∧ s = -1) ∨ (2 ≤ m ∧ s = (tgt c (m - 1) : Int))) (K0 : Nat)
    (h0 : belvederelaw06_RuleMonths.l2 K0 w ((len (leapN (1970 + j)) i : Nat) : Int) F (if tgt c m < len (leapN (1970 + j)) i then (m : Int) else (m : Int) - 1) (if tgt c m < len (leapN (1970 + j)) i then (tgt c m : Int) else s) ((m + 1 : Nat) : Int) = some true) :
    ∀ (r x : Nat), x + r = len (leapN (1970 + j)) i → ∃ k, belvederelaw06_RuleMonths.l3 k w ((len (leapN (1970 + j)) i : Nat) : Int) F (if tgt c m < x then (m : Int) else (m : Int) - 1) (if tgt c m < x then (tgt c m : Int) else s) (m : Int) (x : Int) = some true
  | 0, x, hx => by
    obtain ⟨L, hL⟩ : ∃ L, len (leapN (1970 + j)) i = L := ⟨_, rfl⟩
    rw [hL] at hx h0 ⊢
    refine ⟨K0 + 1, ?_⟩
    rw [belvederelaw06_RuleMonths.l3, if_neg (by omega), w64 (x := (m : Int) + 1) (by omega) (by omega), show (m : Int) + 1 = ((m + 1 : Nat) : Int) by omega, show x = L by omega]
    exact h0
  | r + 1, x, hx => by
    obtain ⟨K, hK⟩ := m_l3 h f0 f1 w w0 w1 c hc hcw m hm hm2 s hs K0 h0 r (x + 1) (by omega)
    have hl := len_le (leapN (1970 + j)) i h.hi
    have hat := h.same (x := x) (by omega)
    have e0 : F - ((0 : Nat) : Int) + (x : Int) = F + (x : Int) := by omega
    rw [e0] at hat
    have m1 := match_2 hat (by omega) (by omega) (n := m) (w := w) hm hm2 w0 w1 K
    have wk := weekday_eq (F + (x : Int)) (by omega) (by omega)
    obtain ⟨L, hL⟩ : ∃ L, len (leapN (1970 + j)) i = L := ⟨_, rfl⟩
    rw [hL] at hl hx hK ⊢
    have ht : tgt c m = c + 7 * (m - 1) := rfl
    have ht2 : tgt c (m - 1) = c + 7 * (m - 1 - 1) := rfl
    obtain ⟨t, et⟩ : ∃ t, tgt c m = t := ⟨_, rfl⟩
    rw [et] at hK ht ⊢
    have b1 : decide (wd (F + (x : Int)) = w ∧ x / 7 + 1 = m) = decide (x = t) := by
      rw [decide_eq_decide]
      unfold wd
      omega
    rw [b1] at m1
    have hK2 : belvederelaw06_RuleMonths.l3 (K + 5) w (L : Int) F (if t < x + 1 then (m : Int) else (m : Int) - 1) (if t < x + 1 then (t : Int) else s) (m : Int) ((x + 1 : Nat) : Int) = some true :=
      up (fun k => (belvederelaw06_RuleMonths.mono_l k).2.2.2.2 _ _ _ _ _ _ _) hK (by omega)
    refine ⟨K + 6, ?_⟩
    rw [belvederelaw06_RuleMonths.l3, if_pos (by omega), w64 (x := F + (x : Int)) (by omega) (by omega), m1, Option.bind_some, if_pos (show (none : Option Int).isNone = true from rfl), w64 (x := (x : Int) + 1) (by omega) (by omega), show (x : Int) + 1 = ((x + 1 : Nat) : Int) by omega]
    by_cases cx : x = t
    · rw [if_pos (show t < x + 1 by omega), if_pos (show t < x + 1 by omega)] at hK2
      rw [decide_eq_true cx, if_pos rfl, wk, Option.bind_some, if_pos (show wd (F + (x : Int)) = w by unfold wd; omega), if_neg (show ¬ t < x by omega), if_neg (show ¬ t < x by omega), w64 (x := (m : Int) - 1 + 1) (by omega) (by omega), show (m : Int) - 1 + 1 = (m : Int) by omega]
      rw [show (t : Int) = (x : Int) by omega] at hK2
      rcases hs with ⟨g1, g2⟩ | ⟨g1, g2⟩
      · rw [if_neg (by omega), if_pos (by omega), if_neg (by omega)]
        exact hK2
      · rw [if_pos (by omega), w64 (x := s + 7) (by omega) (by omega), if_pos (by omega), if_neg (by omega)]
        exact hK2
    · rw [decide_eq_false cx, if_neg (by decide)]
      by_cases c2 : t < x
      · rw [if_pos (show t < x + 1 by omega), if_pos (show t < x + 1 by omega)] at hK2
        rw [if_pos c2, if_pos c2]; exact hK2
      · rw [if_neg (show ¬ t < x + 1 by omega), if_neg (show ¬ t < x + 1 by omega)] at hK2
        rw [if_neg c2, if_neg c2]; exact hK2
theorem m_one {F q : Int} {j i : Nat} (h : At F q j i 0) (f0 : -1000 ≤ F) (f1 : F ≤ 4000000) (w : Int) (w0 : 0 ≤ w) (w1 : w < 7) (c : Nat) (hc : c < 7) (hcw : (F + (c : Int) + 4) % 7 = w)
    (m : Nat) (hm : 1 ≤ m) (hm2 : m ≤ 5) (s : Int) (hs : (m = 1 ∧ s = -1) ∨ (2 ≤ m ∧ s = (tgt c (m - 1) : Int)))
    (h0 : ∃ K0, belvederelaw06_RuleMonths.l2 K0 w ((len (leapN (1970 + j)) i : Nat) : Int) F (if tgt c m < len (leapN (1970 + j)) i then (m : Int) else (m : Int) - 1) (if tgt c m < len (leapN (1970 + j)) i then (tgt c m : Int) else s) ((m + 1 : Nat) : Int) = some true) :
    ∃ k, belvederelaw06_RuleMonths.l2 k w ((len (leapN (1970 + j)) i : Nat) : Int) F ((m : Int) - 1) s (m : Int) = some true := by
  obtain ⟨K0, h0⟩ := h0
  obtain ⟨K, hK⟩ := m_l3 h f0 f1 w w0 w1 c hc hcw m hm hm2 s hs K0 h0 _ 0 (Nat.zero_add _)
  rw [if_neg (Nat.not_lt_zero _), if_neg (Nat.not_lt_zero _)] at hK
  refine ⟨K + 1, ?_⟩
  rw [belvederelaw06_RuleMonths.l2, if_pos (by omega)]
  exact hK
theorem m_end (w F : Int) (L c : Nat) (h1 : 28 ≤ L) (h2 : L ≤ 31) (hc : c < 7) : ∃ k, belvederelaw06_RuleMonths.l2 k w (L : Int) F (if tgt c 5 < L then (5 : Int) else 5 - 1) (if tgt c 5 < L then (tgt c 5 : Int) else (tgt c 4 : Int)) 6 = some true := by
  have e5 : tgt c 5 = c + 28 := rfl
  have e4 : tgt c 4 = c + 21 := rfl
  refine ⟨21, ?_⟩
  rw [belvederelaw06_RuleMonths.l2, if_neg (by decide), e5, e4, sure_ok (Nat.le_refl 20)]
  by_cases g : c + 28 < L
  · rw [if_pos g, if_pos g, if_neg (by decide), if_pos rfl, w64 (by omega) (by omega), if_pos (by omega)]; rfl
  · rw [if_neg g, if_neg g, if_pos (by decide), w64 (by omega) (by omega), if_pos (by omega)]; rfl
theorem m_l2 {F q : Int} {j i : Nat} (h : At F q j i 0) (f0 : -1000 ≤ F) (f1 : F ≤ 4000000) (w : Int) (w0 : 0 ≤ w) (w1 : w < 7) : ∃ k, belvederelaw06_RuleMonths.l2 k w ((len (leapN (1970 + j)) i : Nat) : Int) F 0 (-1) 1 = some true := by
  obtain ⟨c, hc, hcw⟩ : ∃ c : Nat, c < 7 ∧ (F + (c : Int) + 4) % 7 = w := ⟨((w - F - 4) % 7).toNat, by omega, by omega⟩
  have hl := len_le (leapN (1970 + j)) i h.hi
  have t1 : tgt c 1 < len (leapN (1970 + j)) i := by unfold tgt; omega
  have t2 : tgt c 2 < len (leapN (1970 + j)) i := by unfold tgt; omega
  have t3 : tgt c 3 < len (leapN (1970 + j)) i := by unfold tgt; omega
  have t4 : tgt c 4 < len (leapN (1970 + j)) i := by unfold tgt; omega
  have s5 := m_one h f0 f1 w w0 w1 c hc hcw 5 (by decide) (by decide) (tgt c 4 : Int) (.inr ⟨by decide, rfl⟩) (m_end w F _ c hl.2 hl.1 hc)
  have s4 := m_one h f0 f1 w w0 w1 c hc hcw 4 (by decide) (by decide) (tgt c 3 : Int) (.inr ⟨by decide, rfl⟩) (by rw [if_pos t4, if_pos t4]; exact s5)
  have s3 := m_one h f0 f1 w w0 w1 c hc hcw 3 (by decide) (by decide) (tgt c 2 : Int) (.inr ⟨by decide, rfl⟩) (by rw [if_pos t3, if_pos t3]; exact s4)
  have s2 := m_one h f0 f1 w w0 w1 c hc hcw 2 (by decide) (by decide) (tgt c 1 : Int) (.inr ⟨by decide, rfl⟩) (by rw [if_pos t2, if_pos t2]; exact s3)
  exact m_one h f0 f1 w w0 w1 c hc hcw 1 (by decide) (by decide) (-1) (.inl ⟨rfl, rfl⟩) (by rw [if_pos t1, if_pos t1]; exact s2)
theorem months_ok : belvederelaw06_RuleMonths.Pure := by
  intro a0 a1 _ _
  obtain ⟨D, eD, d0, d1⟩ := tm_bd a0 3000000 (by decide) (by decide)
  obtain ⟨w, ew, w0, w1⟩ := tm_bd a1 7 (by decide) (by decide)
  obtain ⟨q, j, i, d, h⟩ := at_ex (D := D) (by omega) (by omega)
  have hd := h.hd
  have hl := len_le (leapN (1970 + j)) i h.hi
  have hF := h.same (x := 0) (by omega)
  have e0 : D - (d : Int) + ((0 : Nat) : Int) = D - (d : Int) := by omega
  rw [e0] at hF
  obtain ⟨K2, hK2⟩ := m_l2 hF (by omega) (by omega) w w0 w1
  obtain ⟨K, hK⟩ := m_l0 hF (by omega) (by omega) w ((d + 1 : Nat) : Int) K2 hK2 31 1 rfl (by decide)
  refine ⟨K + 3, ?_⟩
  unfold belvederelaw06_RuleMonths.f
  rw [eD, ew, of_at h, Option.bind_some, length_at h K, Option.bind_some, if_pos (show (none : Option Int).isNone = true from rfl), if_pos (show (none : Option Int).isNone = true from rfl)]
  have g1 : ¬ ((d + 1 : Nat) : Int) < 1 := by omega
  have g2 : ¬ ((len (leapN (1970 + j)) i : Nat) : Int) < 28 := by omega
  rw [if_neg g1, if_neg g2]
  have e1 : wrap64 (wrap64 (D - ((d + 1 : Nat) : Int)) + 1) = D - (d : Int) := by
    rw [w64 (x := D - ((d + 1 : Nat) : Int)) (by omega) (by omega), w64 (by omega) (by omega)]
    omega
  rw [e1]
  exact up (fun k => (belvederelaw06_RuleMonths.mono_l k).1 _ _ _ _ _ _ _ _) hK (by omega)
end Go.Proofs.YtpagbmkdphdjoaaDoor.PClk
