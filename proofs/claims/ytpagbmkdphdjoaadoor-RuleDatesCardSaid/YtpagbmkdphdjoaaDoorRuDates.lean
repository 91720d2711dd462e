/- Plain mathematics of layer 6: a span of dates holds its days and no other; the week's days. -/
import Derived.Test.YtpagbmkdphdjoaaDoorRuB
import Derived.Test.YtpagbmkdphdjoaaDoorPx18
set_option linter.unusedVariables false
set_option linter.unusedSimpArgs false
namespace Go.Proofs.YtpagbmkdphdjoaaDoor.PClk
open Go.RowKit Go.Proofs.YtpagbmkdphdjoaaDoor.P Go.Proofs.YtpagbmkdphdjoaaDoorW.PrintWords Go.Proofs.YtpagbmkdphdjoaaDoorW.PrintLast Go.Proofs.YtpagbmkdphdjoaaDoorW.PrintMore
theorem st_ge : ∀ j, j ≤ 400 → 365 * j ≤ st j
  | 0, _ => by rw [show st 0 = 0 from rfl]; exact Nat.le_refl 0
  | j + 1, h => by
    have ih := st_ge j (by omega)
    have hn := st_next j (by omega)
    cases hb : leapN (1970 + j) with
    | false => rw [hb, cond_false] at hn; omega
    | true => rw [hb, cond_true] at hn; omega
theorem yr_le {D q : Int} {j i d : Nat} (h : At D q j i d) (hD : D ≤ 2903000) : Yr q j ≤ 9999 := by
  have h1 := h.eq
  have h2 := st_ge j (by have := h.hj; omega)
  have h3 := h.hj
  unfold Yr
  omega
theorem d_l2 (D : Int) (d0 : 0 ≤ D) (d1 : D < 2900000) (n A w : Int) (w0 : 0 ≤ w) (w1 : w < 7) (c : Nat) (hc : c < 7) (hcw : (D + (c : Int) + 4) % 7 = w) (K0 : Nat)
    (h0 : belvederelaw06_RuleDates.l1 K0 D n A (w + 1) (w + 1) = some true) :
    ∀ (r x : Nat), x + r = 7 → ∃ k, belvederelaw06_RuleDates.l2 k D n A (if c < x then w + 1 else w) w (x : Int) = some true
  | 0, x, hx => by
    refine ⟨K0 + 1, ?_⟩
    rw [belvederelaw06_RuleDates.l2, if_neg (by omega), if_pos (by omega), w64 (x := w + 1) (by omega) (by omega)]
    exact h0
  | r + 1, x, hx => by
    obtain ⟨K, hK⟩ := d_l2 D d0 d1 n A w w0 w1 c hc hcw K0 h0 r (x + 1) (by omega)
    obtain ⟨q, j, i, d, h⟩ := at_ex (D := D + (x : Int)) (by omega) (by omega)
    have m1 := match_0 h (by omega) (by omega) w0 w1 K
    have hK2 : belvederelaw06_RuleDates.l2 (K + 5) D n A (if c < x + 1 then w + 1 else w) w ((x + 1 : Nat) : Int) = some true :=
      up (fun k => (belvederelaw06_RuleDates.mono_l k).2.2 _ _ _ _ _ _) hK (by omega)
    refine ⟨K + 6, ?_⟩
    rw [belvederelaw06_RuleDates.l2, if_pos (by omega), w64 (x := D + (x : Int)) (by omega) (by omega), m1, Option.bind_some, if_pos (show (none : Option Int).isNone = true from rfl), w64 (x := (x : Int) + 1) (by omega) (by omega), show (x : Int) + 1 = ((x + 1 : Nat) : Int) by omega, dec_beq]
    by_cases cx : x = c
    · rw [if_pos (show c < x + 1 by omega)] at hK2
      rw [decide_eq_true (show wd (D + (x : Int)) = w by unfold wd; omega), if_pos rfl, if_neg (show ¬ c < x by omega), w64 (x := w + 1) (by omega) (by omega)]
      exact hK2
    · rw [decide_eq_false (show ¬ wd (D + (x : Int)) = w by unfold wd; omega), if_neg (by decide)]
      by_cases c2 : c < x
      · rw [if_pos (show c < x + 1 by omega)] at hK2
        rw [if_pos c2]; exact hK2
      · rw [if_neg (show ¬ c < x + 1 by omega)] at hK2
        rw [if_neg c2]; exact hK2
theorem d_l1 (D : Int) (d0 : 0 ≤ D) (d1 : D < 2900000) (n : Int) (n0 : 0 ≤ n) (n1 : n < 60) : ∀ (r w : Nat), w + r = 7 → ∃ k, belvederelaw06_RuleDates.l1 k D n (n + 1) (w : Int) (w : Int) = some true
  | 0, w, hw => by
    refine ⟨21, ?_⟩
    rw [belvederelaw06_RuleDates.l1, if_neg (by omega), w64 (x := n + 1) (by omega) (by omega), if_pos rfl, if_pos (by omega), sure_ok (Nat.le_refl 20)]
    rfl
  | r + 1, w, hw => by
    obtain ⟨K, hK⟩ := d_l1 D d0 d1 n n0 n1 r (w + 1) (by omega)
    obtain ⟨c, hc, hcw⟩ : ∃ c : Nat, c < 7 ∧ (D + (c : Int) + 4) % 7 = (w : Int) := ⟨(((w : Int) - D - 4) % 7).toNat, by omega, by omega⟩
    have e : ((w + 1 : Nat) : Int) = (w : Int) + 1 := by omega
    rw [e] at hK
    obtain ⟨K2, hK2⟩ := d_l2 D d0 d1 n (n + 1) (w : Int) (by omega) (by omega) c hc hcw K hK 7 0 rfl
    rw [if_neg (by omega)] at hK2
    refine ⟨K2 + 1, ?_⟩
    rw [belvederelaw06_RuleDates.l1, if_pos (by omega)]
    exact hK2
theorem d_l0 {D E q q' : Int} {j i d j' i' d' : Nat} (h : At D q j i d) (h' : At E q' j' i' d') (d0 : 0 ≤ D) (d1 : D < 2900000) (n : Int) (n0 : 0 ≤ n) (n1 : n < 60) (eE : E = D + n) (K0 : Nat)
    (h0 : belvederelaw06_RuleDates.l1 K0 D n (n + 1) 0 0 = some true) :
    ∀ (r : Nat) (x : Int), x + (r : Int) = n + 4 → -3 ≤ x → ∃ k, belvederelaw06_RuleDates.l0 k D n (if x ≤ 0 then 0 else if x ≤ n then x else n + 1) 0 x 3 0 0 0 (Yr q j) ((i + 1 : Nat) : Int) ((d + 1 : Nat) : Int) (Yr q' j') ((i' + 1 : Nat) : Int) ((d' + 1 : Nat) : Int) = some true
  | 0, x, hx, hx3 => by
    refine ⟨K0 + 1, ?_⟩
    rw [belvederelaw06_RuleDates.l0, w64 (x := n + 3) (by omega) (by omega), if_neg (by omega), if_neg (by omega), if_neg (by omega)]
    exact h0
  | r + 1, x, hx, hx3 => by
    obtain ⟨K, hK⟩ := d_l0 h h' d0 d1 n n0 n1 eE K0 h0 r (x + 1) (by omega) (by omega)
    obtain ⟨q'', j'', i'', d'', hF⟩ := at_ex (D := D + x) (by omega) (by omega)
    have m1 := match_3 hF h h' (yr_le h' (by omega)) (by omega) K
    have hK2 := up (fun k => (belvederelaw06_RuleDates.mono_l k).1 _ _ _ _ _ _ _ _ _ _ _ _ _ _ _) hK (show K ≤ K + 5 by omega)
    have b1 : decide (D ≤ D + x ∧ D + x ≤ E) = decide (0 ≤ x ∧ x ≤ n) := by rw [decide_eq_decide]; omega
    rw [b1] at m1
    refine ⟨K + 6, ?_⟩
    rw [belvederelaw06_RuleDates.l0, w64 (x := n + 3) (by omega) (by omega), if_pos (by omega), w64 (x := D + x) (by omega) (by omega), m1, Option.bind_some, if_pos (show (none : Option Int).isNone = true from rfl), w64 (x := x + 1) (by omega) (by omega)]
    by_cases c : 0 ≤ x
    · rw [if_pos c]
      by_cases c2 : x ≤ n
      · rw [decide_eq_true (⟨c, c2⟩ : 0 ≤ x ∧ x ≤ n), decide_eq_true c2, if_neg (by decide), if_pos rfl]
        by_cases c3 : x = 0
        · subst c3
          rw [if_pos (by decide), w64 (by decide) (by decide)]
          rw [if_neg (by decide)] at hK2
          by_cases c4 : (0 : Int) + 1 ≤ n
          · rw [if_pos c4] at hK2; exact hK2
          · rw [if_neg c4, show n + 1 = 0 + 1 by omega] at hK2; exact hK2
        · rw [if_neg (by omega), if_pos c2, w64 (by omega) (by omega)]
          rw [if_neg (by omega)] at hK2
          by_cases c4 : x + 1 ≤ n
          · rw [if_pos c4] at hK2; exact hK2
          · rw [if_neg c4, show n + 1 = x + 1 by omega] at hK2; exact hK2
      · rw [decide_eq_false (fun e => c2 e.2), decide_eq_false c2, if_neg (by decide), if_neg (by decide), if_neg (by omega), if_neg c2]
        rw [if_neg (by omega), if_neg (by omega)] at hK2
        exact hK2
    · rw [if_neg c, decide_eq_false (fun e => c e.1), if_neg (by decide), if_neg (by decide), if_pos (by omega)]
      rw [if_pos (by omega)] at hK2
      exact hK2
theorem dates_ok : belvederelaw06_RuleDates.Pure := by
  intro a0 a1 _ _
  obtain ⟨D, eD, d0, d1⟩ := tm_bd a0 2900000 (by decide) (by decide)
  obtain ⟨n, en, n0, n1⟩ := tm_bd a1 60 (by decide) (by decide)
  obtain ⟨q, j, i, d, h⟩ := at_ex (D := D) (by omega) (by omega)
  obtain ⟨q', j', i', d', h'⟩ := at_ex (D := D + n) (by omega) (by omega)
  obtain ⟨K, hK⟩ := d_l1 D d0 d1 n n0 n1 7 0 rfl
  obtain ⟨r, hr⟩ : ∃ r : Nat, (r : Int) = n + 7 := ⟨(n + 7).toNat, by omega⟩
  obtain ⟨K2, hK2⟩ := d_l0 h h' d0 d1 n n0 n1 rfl K hK r (-3) (by omega) (by decide)
  rw [if_pos (by decide)] at hK2
  refine ⟨K2, ?_⟩
  unfold belvederelaw06_RuleDates.f
  rw [eD, en, of_at h, Option.bind_some, w64 (x := D + n) (by omega) (by omega), of_at h', Option.bind_some, if_pos (show (none : Option Int).isNone = true from rfl), if_pos (show (none : Option Int).isNone = true from rfl)]
  exact hK2
end Go.Proofs.YtpagbmkdphdjoaaDoor.PClk
