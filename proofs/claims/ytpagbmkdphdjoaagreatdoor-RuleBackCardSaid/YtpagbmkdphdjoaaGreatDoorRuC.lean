/- Plain mathematics of RuleBack: when a rule may be, by the program. -/
import Derived.Test.YtpagbmkdphdjoaaGreatDoorRuW1
set_option linter.unusedVariables false
set_option linter.unusedSimpArgs false
namespace Go.Proofs.YtpagbmkdphdjoaaGreatDoor.PClk
open Go.RowKit Go.Proofs.YtpagbmkdphdjoaaGreatDoor.P Go.Proofs.YtpagbmkdphdjoaaGreatDoorW.PrintWords Go.Proofs.YtpagbmkdphdjoaaGreatDoorW.PrintLast Go.Proofs.YtpagbmkdphdjoaaGreatDoorW.PrintMore
theorem up {α : Type} {f : Nat → Option α} (h : ∀ k, LeO (f k) (f (k + 1))) {k j : Nat} {r : α} (hr : f k = some r) (hkj : k ≤ j) : f j = some r := by
  induction hkj with
  | refl => exact hr
  | step _ ih => exact h _ _ ih
theorem ifc {α : Type} {a b : α} {c d : Prop} [Decidable c] [Decidable d] (h : c ↔ d) : (if c then a else b) = if d then a else b := by
  by_cases hc : c
  · rw [if_pos hc, if_pos (h.1 hc)]
  · rw [if_neg hc, if_neg (fun e => hc (h.2 e))]
theorem dec_beq (a b : Int) : (a == b) = decide (a = b) := by
  by_cases h : a = b
  · rw [h]; simp
  · simp [h]
theorem and3 (a b c : Int) : (a == 0 && (b == 0 && (c == 0))) = decide (a = 0 ∧ b = 0 ∧ c = 0) := by simp only [dec_beq, Bool.decide_and]
/-! When a rule may be. -/
theorem chk_j0 (k : Nat) (t : Bool) (p0 p1 p2 p3 p4 p5 p6 p7 p8 p9 q0 q1 q2 q3 q4 q5 q6 q7 q8 q9 : Int) : rule_Check.j0 (k + 1) t p0 p1 p2 p3 p4 p5 p6 p7 p8 p9 q0 q1 q2 q3 q4 q5 q6 q7 q8 q9 = some (if t = true ∧ q0 = p0 ∧ q1 = p1 ∧ q2 = p2 ∧ q3 = p3 ∧ (q4 = p4 ∧ q5 = p5 ∧ q6 = p6) ∧ q7 = p7 ∧ q8 = p8 ∧ q9 = p9 then none else some 1) := by
  rw [rule_Check.j0]
  cases t with
  | false => rw [if_neg (by decide), if_neg (fun e => by cases e.1)]
  | true =>
    rw [if_pos rfl]
    by_cases h : q0 = p0 ∧ q1 = p1 ∧ q2 = p2 ∧ q3 = p3 ∧ (q4 = p4 ∧ q5 = p5 ∧ q6 = p6) ∧ q7 = p7 ∧ q8 = p8 ∧ q9 = p9
    · rw [if_pos (⟨rfl, h⟩ : true = true ∧ _)]
      obtain ⟨rfl, rfl, rfl, rfl, ⟨rfl, rfl, rfl⟩, rfl, rfl, rfl⟩ := h
      rw [if_neg (by simp)]
    · rw [show (if true = true ∧ q0 = p0 ∧ q1 = p1 ∧ q2 = p2 ∧ q3 = p3 ∧ (q4 = p4 ∧ q5 = p5 ∧ q6 = p6) ∧ q7 = p7 ∧ q8 = p8 ∧ q9 = p9 then (none : Option Int) else some 1) = some 1 from if_neg (fun e => h e.2)]
      split
      · rfl
      · rename_i hc
        exact absurd (by simpa using hc) h
theorem among_eq (n b : Int) (hb : b = 31 ∨ b = 5) : rule_among.f n b = some (decide (n ≠ 0 ∧ -b ≤ n ∧ n ≤ b)) := by
  unfold rule_among.f
  by_cases h : n = 0
  · rw [if_pos h, decide_eq_false (fun e => e.1 h)]
  · rw [if_neg h, w64 (by omega) (by omega)]
    by_cases h2 : n ≥ -b
    · rw [if_pos h2]
      congr 1
      rw [decide_eq_decide]
      exact ⟨fun e => ⟨h, h2, e⟩, fun e => e.2.2⟩
    · rw [if_neg h2, decide_eq_false (fun e => h2 e.2.1)]
theorem chk_0 (k : Nat) (m n w y1 m1 d1 y2 m2 d2 : Int) : rule_Check.f (k + 1) 0 m n w y1 m1 d1 y2 m2 d2 = some (if 0 ≤ w ∧ w < 7 ∧ m = 0 ∧ n = 0 ∧ y1 = 0 ∧ m1 = 0 ∧ d1 = 0 ∧ y2 = 0 ∧ m2 = 0 ∧ d2 = 0 then none else some 1) := by
  unfold rule_Check.f
  rw [if_pos rfl]
  by_cases hw : w ≥ 0
  · rw [if_pos hw, chk_j0]
    congr 1
    refine ifc ?_
    simp only [decide_eq_true_eq, Bool.false_eq_true, false_and, false_iff, ge_iff_le, true_and] at *
    first
    | omega
    | (constructor <;> intro e <;> omega)
  · rw [if_neg hw, chk_j0]
    congr 1
    refine ifc ?_
    simp only [decide_eq_true_eq, Bool.false_eq_true, false_and, false_iff, ge_iff_le, true_and] at *
    first
    | omega
    | (constructor <;> intro e <;> omega)
theorem chk_1 (k : Nat) (m n w y1 m1 d1 y2 m2 d2 : Int) : rule_Check.f (k + 1) 1 m n w y1 m1 d1 y2 m2 d2 = some (if 0 ≤ m ∧ m ≤ 12 ∧ n ≠ 0 ∧ -31 ≤ n ∧ n ≤ 31 ∧ w = 0 ∧ y1 = 0 ∧ m1 = 0 ∧ d1 = 0 ∧ y2 = 0 ∧ m2 = 0 ∧ d2 = 0 then none else some 1) := by
  unfold rule_Check.f
  rw [if_neg (by decide), if_pos rfl]
  by_cases hm : m ≥ 0
  · rw [if_pos hm]
    by_cases hm2 : m ≤ 12
    · rw [if_pos hm2, among_eq n 31 (.inl rfl), Option.bind_some, chk_j0]
      congr 1
      refine ifc ?_
      simp only [decide_eq_true_eq, Bool.false_eq_true, false_and, false_iff, ge_iff_le, true_and] at *
      first
      | omega
      | (constructor <;> intro e <;> omega)
    · rw [if_neg hm2, chk_j0]
      congr 1
      refine ifc ?_
      simp only [decide_eq_true_eq, Bool.false_eq_true, false_and, false_iff, ge_iff_le, true_and] at *
      first
      | omega
      | (constructor <;> intro e <;> omega)
  · rw [if_neg hm, chk_j0]
    congr 1
    refine ifc ?_
    simp only [decide_eq_true_eq, Bool.false_eq_true, false_and, false_iff, ge_iff_le, true_and] at *
    first
    | omega
    | (constructor <;> intro e <;> omega)
theorem chk_2 (k : Nat) (m n w y1 m1 d1 y2 m2 d2 : Int) : rule_Check.f (k + 1) 2 m n w y1 m1 d1 y2 m2 d2 = some (if 0 ≤ m ∧ m ≤ 12 ∧ n ≠ 0 ∧ -5 ≤ n ∧ n ≤ 5 ∧ 0 ≤ w ∧ w < 7 ∧ y1 = 0 ∧ m1 = 0 ∧ d1 = 0 ∧ y2 = 0 ∧ m2 = 0 ∧ d2 = 0 then none else some 1) := by
  unfold rule_Check.f
  rw [if_neg (by decide), if_neg (by decide), if_pos rfl]
  by_cases hm : m ≥ 0
  · rw [if_pos hm]
    by_cases hm2 : m ≤ 12
    · rw [if_pos hm2, among_eq n 5 (.inr rfl), Option.bind_some]
      by_cases hn : n ≠ 0 ∧ -5 ≤ n ∧ n ≤ 5
      · rw [if_pos (decide_eq_true hn)]
        by_cases hw : w ≥ 0
        · rw [if_pos hw, chk_j0]
          congr 1
          refine ifc ?_
          simp only [decide_eq_true_eq, Bool.false_eq_true, false_and, false_iff, ge_iff_le, true_and] at *
          first
          | omega
          | (constructor <;> intro e <;> omega)
        · rw [if_neg hw, chk_j0]
          congr 1
          refine ifc ?_
          simp only [decide_eq_true_eq, Bool.false_eq_true, false_and, false_iff, ge_iff_le, true_and] at *
          first
          | omega
          | (constructor <;> intro e <;> omega)
      · rw [if_neg (by rw [decide_eq_true_eq]; exact hn), chk_j0]
        congr 1
        refine ifc ?_
        simp only [decide_eq_true_eq, Bool.false_eq_true, false_and, false_iff, ge_iff_le, true_and] at *
        first
        | omega
        | (constructor <;> intro e <;> omega)
    · rw [if_neg hm2, chk_j0]
      congr 1
      refine ifc ?_
      simp only [decide_eq_true_eq, Bool.false_eq_true, false_and, false_iff, ge_iff_le, true_and] at *
      first
      | omega
      | (constructor <;> intro e <;> omega)
  · rw [if_neg hm, chk_j0]
    congr 1
    refine ifc ?_
    simp only [decide_eq_true_eq, Bool.false_eq_true, false_and, false_iff, ge_iff_le, true_and] at *
    first
    | omega
    | (constructor <;> intro e <;> omega)
theorem chk_3 (k : Nat) (m n w y1 m1 d1 y2 m2 d2 : Int) (t : Bool) (ho : rule_ordered.f (k + 1) y1 m1 d1 y2 m2 d2 = some t) : rule_Check.f (k + 1) 3 m n w y1 m1 d1 y2 m2 d2 = some (if t = true ∧ m = 0 ∧ n = 0 ∧ w = 0 then none else some 1) := by
  unfold rule_Check.f
  rw [if_neg (by decide), if_neg (by decide), if_neg (by decide), if_pos rfl, ho, Option.bind_some, chk_j0]
  congr 1
  refine ifc ?_
  cases t with
  | false => simp only [Bool.false_eq_true, false_and]
  | true =>
    constructor
    · rintro ⟨_, _, h1, h2, h3, _⟩
      exact ⟨rfl, h1.symm, h2.symm, h3.symm⟩
    · rintro ⟨_, rfl, rfl, rfl⟩
      exact ⟨rfl, rfl, rfl, rfl, rfl, ⟨rfl, rfl, rfl⟩, rfl, rfl, rfl⟩
theorem chk_x (k : Nat) (K : Int) (m n w y1 m1 d1 y2 m2 d2 : Int) (h0 : K ≠ 0) (h1 : K ≠ 1) (h2 : K ≠ 2) (h3 : K ≠ 3) : rule_Check.f (k + 1) K m n w y1 m1 d1 y2 m2 d2 = some (some 1) := by
  unfold rule_Check.f
  rw [if_neg h0, if_neg h1, if_neg h2, if_neg h3, chk_j0, if_neg (fun e => by cases e.1)]
theorem dt {p : Prop} [Decidable p] (h : p) : decide p = true := decide_eq_true h
theorem df {p : Prop} [Decidable p] (h : ¬ p) : ¬ decide p = true := by rw [decide_eq_true_eq]; exact h
theorem date_own (y m d : Int) : (∃ D q j i d', At D q j i d' ∧ y = Yr q j ∧ m = ((i + 1 : Nat) : Int) ∧ d = ((d' + 1 : Nat) : Int) ∧ -274877906944 ≤ y ∧ y ≤ 274877906944) ∨ (∀ k, civil_Days.f (k + 3) y m d = some (0, some 1)) := by
  by_cases hv : -274877906944 ≤ y ∧ y ≤ 274877906944 ∧ 1 ≤ m ∧ m ≤ 12
  · obtain ⟨v1, v2, v3, v4⟩ := hv
    obtain ⟨i, hi⟩ : ∃ i : Nat, (i : Int) = m - 1 := ⟨(m - 1).toNat, by omega⟩
    obtain ⟨j, hj⟩ : ∃ j : Nat, (j : Int) = (y - 1970) % 400 := ⟨((y - 1970) % 400).toNat, by omega⟩
    obtain ⟨q, hq⟩ : ∃ q, q = (y - 1970) / 400 := ⟨_, rfl⟩
    have em : m = ((i + 1 : Nat) : Int) := by omega
    have ey : y = Yr q j := by unfold Yr; omega
    have hi12 : i < 12 := by omega
    have hj4 : j < 400 := by omega
    have q0 : -700000000 ≤ q := by omega
    have q1 : q ≤ 700000000 := by omega
    have hlen := fun k => length_yr q j i hi12 (by rw [← ey]; exact v1) (by rw [← ey]; exact v2) k
    by_cases hd : 1 ≤ d ∧ d ≤ ((len (leapN (1970 + j)) i : Nat) : Int)
    · obtain ⟨d', hd'⟩ : ∃ d' : Nat, (d' : Int) = d - 1 := ⟨(d - 1).toNat, by omega⟩
      exact .inl ⟨146097 * q + ((st j + offs (leapN (1970 + j)) i + d' : Nat) : Int), q, j, i, d', ⟨rfl, hj4, hi12, by omega, q0, q1⟩, ey, em, by omega, v1, v2⟩
    · refine .inr fun k => ?_
      unfold civil_Days.f
      rw [ey, em, hlen k, Option.bind_some, if_pos (show (none : Option Int).isNone = true from rfl)]
      by_cases h1 : d < 1
      · rw [if_pos h1, civil_Days.j0, if_pos rfl]
      · rw [if_neg h1, civil_Days.j0, if_pos (decide_eq_true (show d > ((len (leapN (1970 + j)) i : Nat) : Int) by omega))]
  · refine .inr fun k => ?_
    have hL : civil_Length.f (k + 3) y m = some (0, some 1) := by
      unfold civil_Length.f
      by_cases h1 : m < 1
      · rw [if_pos h1, civil_Length.j0, if_pos rfl]
      · rw [if_neg h1]
        by_cases h2 : m > 12
        · rw [if_pos h2, civil_Length.j0, if_pos rfl]
        · rw [if_neg h2]
          by_cases h3 : y < -274877906944
          · rw [if_pos h3, civil_Length.j0, if_pos rfl]
          · rw [if_neg h3, civil_Length.j0, if_pos (decide_eq_true (by omega))]
    unfold civil_Days.f
    rw [hL, Option.bind_some, if_neg (by decide), civil_Days.j0, if_pos rfl]
/-- Of two dates, the first from the year 0 on: the second, if not earlier, too. -/
theorem year_up {D E q q' : Int} {j i d j' i' d' : Nat} (h : At D q j i d) (h' : At E q' j' i' d') (hy : 0 ≤ Yr q j) (hle : D ≤ E) : 0 ≤ Yr q' j' := by
  refine Decidable.byContradiction fun hn => ?_
  have e1 := h.eq
  have e2 := h'.eq
  have l1 := h.lt
  have l2 := h'.lt
  have j1 := h.hj
  have j2 := h'.hj
  have k2 := in_year (leapN (1970 + j')) i' d' h'.hi h'.hd
  have s2 := st_next j' h'.hj
  have sm : j' + 1 ≤ j → st (j' + 1) ≤ st j := fun g => by
    have := st_mono (j - (j' + 1)) (j' + 1) (by omega)
    rwa [show j' + 1 + (j - (j' + 1)) = j by omega] at this
  unfold Yr at hy hn
  obtain ⟨a, ha⟩ : ∃ a, st j = a := ⟨_, rfl⟩
  obtain ⟨a', ha'⟩ : ∃ a', st j' = a' := ⟨_, rfl⟩
  obtain ⟨c', hc'⟩ : ∃ c', st (j' + 1) = c' := ⟨_, rfl⟩
  obtain ⟨o, ho⟩ : ∃ o, offs (leapN (1970 + j)) i = o := ⟨_, rfl⟩
  obtain ⟨o', ho'⟩ : ∃ o', offs (leapN (1970 + j')) i' = o' := ⟨_, rfl⟩
  obtain ⟨b', hb'⟩ : ∃ b', (bif leapN (1970 + j') then 366 else 365) = b' := ⟨_, rfl⟩
  rw [ha, ho] at e1 l1
  rw [ha', ho'] at e2 l2
  rw [ho', hb'] at k2
  rw [ha', hc', hb'] at s2
  rw [ha, hc'] at sm
  by_cases g : j' + 1 ≤ j
  · have := sm g
    omega
  · omega
def OkT (K m n w y1 m1 d1 y2 m2 d2 : Int) : Prop :=
  (K = 0 ∧ 0 ≤ w ∧ w < 7 ∧ m = 0 ∧ n = 0 ∧ y1 = 0 ∧ m1 = 0 ∧ d1 = 0 ∧ y2 = 0 ∧ m2 = 0 ∧ d2 = 0) ∨ (K = 1 ∧ 0 ≤ m ∧ m ≤ 12 ∧ n ≠ 0 ∧ -31 ≤ n ∧ n ≤ 31 ∧ w = 0 ∧ y1 = 0 ∧ m1 = 0 ∧ d1 = 0 ∧ y2 = 0 ∧ m2 = 0 ∧ d2 = 0) ∨ (K = 2 ∧ 0 ≤ m ∧ m ≤ 12 ∧ n ≠ 0 ∧ -5 ≤ n ∧ n ≤ 5 ∧ 0 ≤ w ∧ w < 7 ∧ y1 = 0 ∧ m1 = 0 ∧ d1 = 0 ∧ y2 = 0 ∧ m2 = 0 ∧ d2 = 0) ∨ (K = 3 ∧ m = 0 ∧ n = 0 ∧ w = 0 ∧ (0 ≤ y1 ∧ y1 ≤ 274877906944) ∧ (0 ≤ m1 ∧ m1 ≤ 12) ∧ (0 ≤ d1 ∧ d1 ≤ 31) ∧ (0 ≤ y2 ∧ y2 ≤ 274877906944) ∧ (0 ≤ m2 ∧ m2 ≤ 12) ∧ (0 ≤ d2 ∧ d2 ≤ 31))
theorem chk_all (K m n w y1 m1 d1 y2 m2 d2 : Int) : (OkT K m n w y1 m1 d1 y2 m2 d2 ∧ ∀ k, rule_Check.f (k + 3) K m n w y1 m1 d1 y2 m2 d2 = some none) ∨ ∀ k, rule_Check.f (k + 3) K m n w y1 m1 d1 y2 m2 d2 = some (some 1) := by
  by_cases h0 : K = 0
  · subst h0
    by_cases hp : 0 ≤ w ∧ w < 7 ∧ m = 0 ∧ n = 0 ∧ y1 = 0 ∧ m1 = 0 ∧ d1 = 0 ∧ y2 = 0 ∧ m2 = 0 ∧ d2 = 0
    · exact .inl ⟨.inl ⟨rfl, hp⟩, fun k => by rw [chk_0 (k + 2), if_pos hp]⟩
    · exact .inr fun k => by rw [chk_0 (k + 2), if_neg hp]
  by_cases h1 : K = 1
  · subst h1
    by_cases hp : 0 ≤ m ∧ m ≤ 12 ∧ n ≠ 0 ∧ -31 ≤ n ∧ n ≤ 31 ∧ w = 0 ∧ y1 = 0 ∧ m1 = 0 ∧ d1 = 0 ∧ y2 = 0 ∧ m2 = 0 ∧ d2 = 0
    · exact .inl ⟨.inr (.inl ⟨rfl, hp⟩), fun k => by rw [chk_1 (k + 2), if_pos hp]⟩
    · exact .inr fun k => by rw [chk_1 (k + 2), if_neg hp]
  by_cases h2 : K = 2
  · subst h2
    by_cases hp : 0 ≤ m ∧ m ≤ 12 ∧ n ≠ 0 ∧ -5 ≤ n ∧ n ≤ 5 ∧ 0 ≤ w ∧ w < 7 ∧ y1 = 0 ∧ m1 = 0 ∧ d1 = 0 ∧ y2 = 0 ∧ m2 = 0 ∧ d2 = 0
    · exact .inl ⟨.inr (.inr (.inl ⟨rfl, hp⟩)), fun k => by rw [chk_2 (k + 2), if_pos hp]⟩
    · exact .inr fun k => by rw [chk_2 (k + 2), if_neg hp]
  by_cases h3 : K = 3
  · subst h3
    have bad : (∀ k, ∃ t, rule_ordered.f (k + 3) y1 m1 d1 y2 m2 d2 = some t ∧ ¬ (t = true ∧ m = 0 ∧ n = 0 ∧ w = 0)) → ∀ k, rule_Check.f (k + 3) 3 m n w y1 m1 d1 y2 m2 d2 = some (some 1) := fun hb k => by
      obtain ⟨t, ht, hn⟩ := hb k
      rw [chk_3 (k + 2) m n w y1 m1 d1 y2 m2 d2 t ht, if_neg hn]
    rcases date_own y1 m1 d1 with ⟨D, q, j, i, d, ha, e1, e2, e3, b0, b1⟩ | hda
    · have o1 : ∀ k, civil_Days.f (k + 3) y1 m1 d1 = some (D, none) := fun k => by rw [e2, e3]; rw [e1] at b0 b1 ⊢; exact days_at ha b0 b1 k
      rcases date_own y2 m2 d2 with ⟨E, q', j', i', d', hb, e4, e5, e6, b2, b3⟩ | hdb
      · have o2 : ∀ k, civil_Days.f (k + 3) y2 m2 d2 = some (E, none) := fun k => by rw [e5, e6]; rw [e4] at b2 b3 ⊢; exact days_at hb b2 b3 k
        have ho : ∀ k, rule_ordered.f (k + 3) y1 m1 d1 y2 m2 d2 = some (decide (0 ≤ y1 ∧ y2 ≤ 9999 ∧ D ≤ E)) := by
          intro k
          unfold rule_ordered.f
          rw [o1, Option.bind_some, o2, Option.bind_some, if_pos (show (none : Option Int).isNone = true from rfl), if_pos (show (none : Option Int).isNone = true from rfl)]
          by_cases g1 : y1 ≥ 0
          · rw [if_pos g1]
            by_cases g2 : y2 ≤ 9999
            · rw [if_pos g2]
              congr 1
              rw [decide_eq_decide]
              exact ⟨fun e => ⟨g1, g2, e⟩, fun e => e.2.2⟩
            · rw [if_neg g2, decide_eq_false (fun e => g2 e.2.1)]
          · rw [if_neg g1, decide_eq_false (fun e => g1 e.1)]
        by_cases hp : (0 ≤ y1 ∧ y2 ≤ 9999 ∧ D ≤ E) ∧ m = 0 ∧ n = 0 ∧ w = 0
        · obtain ⟨hp, rfl, rfl, rfl⟩ := hp
          have hy2 : 0 ≤ y2 := by rw [e4]; exact year_up ha hb (by rw [← e1]; exact hp.1) hp.2.2
          have la := (len_le (leapN (1970 + j)) i ha.hi).1
          have lb := (len_le (leapN (1970 + j')) i' hb.hi).1
          have da := ha.hd
          have db := hb.hd
          have ia := ha.hi
          have ib := hb.hi
          refine .inl ⟨.inr (.inr (.inr ⟨rfl, rfl, rfl, rfl, ⟨hp.1, b1⟩, by omega, by omega, ⟨hy2, b3⟩, by omega, by omega⟩)), fun k => ?_⟩
          rw [chk_3 (k + 2) 0 0 0 y1 m1 d1 y2 m2 d2 _ (ho k), if_pos ⟨decide_eq_true hp, rfl, rfl, rfl⟩]
        · exact .inr (bad fun k => ⟨_, ho k, fun e => hp ⟨of_decide_eq_true e.1, e.2⟩⟩)
      · refine .inr (bad fun k => ⟨false, ?_, fun e => by cases e.1⟩)
        unfold rule_ordered.f
        rw [o1 k, Option.bind_some, hdb k, Option.bind_some, if_pos (show (none : Option Int).isNone = true from rfl), if_neg (by decide)]
    · refine .inr (bad fun k => ⟨false, ?_, fun e => by cases e.1⟩)
      obtain ⟨x, hx⟩ : ∃ x, civil_Days.f (k + 3) y2 m2 d2 = some x := by
        rcases date_own y2 m2 d2 with ⟨E, q', j', i', d', hb, e4, e5, e6, b2, b3⟩ | hdb
        · rw [e5, e6]; rw [e4] at b2 b3 ⊢; exact ⟨_, days_at hb b2 b3 k⟩
        · exact ⟨_, hdb k⟩
      unfold rule_ordered.f
      rw [hda k, Option.bind_some, hx, Option.bind_some, if_neg (by decide)]
  exact .inr fun k => chk_x (k + 2) K m n w y1 m1 d1 y2 m2 d2 h0 h1 h2 h3
end Go.Proofs.YtpagbmkdphdjoaaGreatDoor.PClk
