/- Plain mathematics of RuleMatches: when a rule may be, and when it means a day, by the program and by the document. -/
import Derived.Test.YtpagbmkdphdjoaaGreatDoorRuW2
import Derived.Test.YtpagbmkdphdjoaaGreatDoorRuAll
set_option linter.unusedVariables false
set_option linter.unusedSimpArgs false
namespace Go.Proofs.YtpagbmkdphdjoaaGreatDoor.PClk
open Go.RowKit Go.Proofs.YtpagbmkdphdjoaaGreatDoor.P Go.Proofs.YtpagbmkdphdjoaaGreatDoorW.PrintWords Go.Proofs.YtpagbmkdphdjoaaGreatDoorW.PrintLast Go.Proofs.YtpagbmkdphdjoaaGreatDoorW.PrintMore
theorem up {α : Type} {f : Nat → Option α} (h : ∀ k, LeO (f k) (f (k + 1))) {k j : Nat} {r : α} (hr : f k = some r) (hkj : k ≤ j) : f j = some r := by
  induction hkj with
  | refl => exact hr
  | step _ ih => exact h _ _ ih
theorem ifc {α : Type} {a b : α} {c d : Prop} [Decidable c] [Decidable d] (h : c ↔ d) : (if c then a else b) = if d then a else b := by
  by_cases hc : c
  · rw [if_pos hc, if_pos (h.1 hc)]
  · rw [if_neg hc, if_neg (fun e => hc (h.2 e))]
theorem dec_beq (a b : Int) : (a == b) = decide (a = b) := by
  by_cases h : a = b
  · rw [h]; simp
  · simp [h]
theorem and3 (a b c : Int) : (a == 0 && (b == 0 && (c == 0))) = decide (a = 0 ∧ b = 0 ∧ c = 0) := by simp only [dec_beq, Bool.decide_and]
/-! When a rule may be. -/
theorem chk_j0 (k : Nat) (t : Bool) (p0 p1 p2 p3 p4 p5 p6 p7 p8 p9 q0 q1 q2 q3 q4 q5 q6 q7 q8 q9 : Int) : rule_Check.j0 (k + 1) t p0 p1 p2 p3 p4 p5 p6 p7 p8 p9 q0 q1 q2 q3 q4 q5 q6 q7 q8 q9 = some (if t = true ∧ q0 = p0 ∧ q1 = p1 ∧ q2 = p2 ∧ q3 = p3 ∧ (q4 = p4 ∧ q5 = p5 ∧ q6 = p6) ∧ q7 = p7 ∧ q8 = p8 ∧ q9 = p9 then none else some 1) := by
  rw [rule_Check.j0]
  cases t with
  | false => rw [if_neg (by decide), if_neg (fun e => by cases e.1)]
  | true =>
    rw [if_pos rfl]
    by_cases h : q0 = p0 ∧ q1 = p1 ∧ q2 = p2 ∧ q3 = p3 ∧ (q4 = p4 ∧ q5 = p5 ∧ q6 = p6) ∧ q7 = p7 ∧ q8 = p8 ∧ q9 = p9
    · rw [if_pos (⟨rfl, h⟩ : true = true ∧ _)]
      obtain ⟨rfl, rfl, rfl, rfl, ⟨rfl, rfl, rfl⟩, rfl, rfl, rfl⟩ := h
      rw [if_neg (by simp)]
    · rw [show (if true = true ∧ q0 = p0 ∧ q1 = p1 ∧ q2 = p2 ∧ q3 = p3 ∧ (q4 = p4 ∧ q5 = p5 ∧ q6 = p6) ∧ q7 = p7 ∧ q8 = p8 ∧ q9 = p9 then (none : Option Int) else some 1) = some 1 from if_neg (fun e => h e.2)]
      split
      · rfl
      · rename_i hc
        exact absurd (by simpa using hc) h
theorem among_eq (n b : Int) (hb : b = 31 ∨ b = 5) : rule_among.f n b = some (decide (n ≠ 0 ∧ -b ≤ n ∧ n ≤ b)) := by
  unfold rule_among.f
  by_cases h : n = 0
  · rw [if_pos h, decide_eq_false (fun e => e.1 h)]
  · rw [if_neg h, w64 (by omega) (by omega)]
    by_cases h2 : n ≥ -b
    · rw [if_pos h2]
      congr 1
      rw [decide_eq_decide]
      exact ⟨fun e => ⟨h, h2, e⟩, fun e => e.2.2⟩
    · rw [if_neg h2, decide_eq_false (fun e => h2 e.2.1)]
theorem near_eq (n b : Int) (hb : b = 31 ∨ b = 5) : r6_near.f n b = some (decide (n ≠ 0 ∧ -b ≤ n ∧ n ≤ b)) := by
  unfold r6_near.f
  rw [w64 (by omega) (by omega)]
  by_cases h : n ≥ 1
  · rw [if_pos h]
    by_cases h2 : n ≤ b
    · rw [if_pos h2, decide_eq_true (by omega)]
    · rw [if_neg h2, if_neg (by omega), decide_eq_false (by omega)]
  · rw [if_neg h]
    by_cases h2 : n ≤ -1
    · rw [if_pos h2]
      congr 1
      rw [decide_eq_decide]
      omega
    · rw [if_neg h2, decide_eq_false (by omega)]
theorem chk_0 (k : Nat) (m n w y1 m1 d1 y2 m2 d2 : Int) : rule_Check.f (k + 1) 0 m n w y1 m1 d1 y2 m2 d2 = some (if 0 ≤ w ∧ w < 7 ∧ m = 0 ∧ n = 0 ∧ y1 = 0 ∧ m1 = 0 ∧ d1 = 0 ∧ y2 = 0 ∧ m2 = 0 ∧ d2 = 0 then none else some 1) := by
  unfold rule_Check.f
  rw [if_pos rfl]
  by_cases hw : w ≥ 0
  · rw [if_pos hw, chk_j0]
    congr 1
    refine ifc ?_
    simp only [decide_eq_true_eq, Bool.false_eq_true, false_and, false_iff, ge_iff_le, true_and] at *
    first
    | omega
    | (constructor <;> intro e <;> omega)
  · rw [if_neg hw, chk_j0]
    congr 1
    refine ifc ?_
    simp only [decide_eq_true_eq, Bool.false_eq_true, false_and, false_iff, ge_iff_le, true_and] at *
    first
    | omega
    | (constructor <;> intro e <;> omega)
theorem chk_1 (k : Nat) (m n w y1 m1 d1 y2 m2 d2 : Int) : rule_Check.f (k + 1) 1 m n w y1 m1 d1 y2 m2 d2 = some (if 0 ≤ m ∧ m ≤ 12 ∧ n ≠ 0 ∧ -31 ≤ n ∧ n ≤ 31 ∧ w = 0 ∧ y1 = 0 ∧ m1 = 0 ∧ d1 = 0 ∧ y2 = 0 ∧ m2 = 0 ∧ d2 = 0 then none else some 1) := by
  unfold rule_Check.f
  rw [if_neg (by decide), if_pos rfl]
  by_cases hm : m ≥ 0
  · rw [if_pos hm]
    by_cases hm2 : m ≤ 12
    · rw [if_pos hm2, among_eq n 31 (.inl rfl), Option.bind_some, chk_j0]
      congr 1
      refine ifc ?_
      simp only [decide_eq_true_eq, Bool.false_eq_true, false_and, false_iff, ge_iff_le, true_and] at *
      first
      | omega
      | (constructor <;> intro e <;> omega)
    · rw [if_neg hm2, chk_j0]
      congr 1
      refine ifc ?_
      simp only [decide_eq_true_eq, Bool.false_eq_true, false_and, false_iff, ge_iff_le, true_and] at *
      first
      | omega
      | (constructor <;> intro e <;> omega)
  · rw [if_neg hm, chk_j0]
    congr 1
    refine ifc ?_
    simp only [decide_eq_true_eq, Bool.false_eq_true, false_and, false_iff, ge_iff_le, true_and] at *
    first
    | omega
    | (constructor <;> intro e <;> omega)
theorem chk_2 (k : Nat) (m n w y1 m1 d1 y2 m2 d2 : Int) : rule_Check.f (k + 1) 2 m n w y1 m1 d1 y2 m2 d2 = some (if 0 ≤ m ∧ m ≤ 12 ∧ n ≠ 0 ∧ -5 ≤ n ∧ n ≤ 5 ∧ 0 ≤ w ∧ w < 7 ∧ y1 = 0 ∧ m1 = 0 ∧ d1 = 0 ∧ y2 = 0 ∧ m2 = 0 ∧ d2 = 0 then none else some 1) := by
  unfold rule_Check.f
  rw [if_neg (by decide), if_neg (by decide), if_pos rfl]
  by_cases hm : m ≥ 0
  · rw [if_pos hm]
    by_cases hm2 : m ≤ 12
    · rw [if_pos hm2, among_eq n 5 (.inr rfl), Option.bind_some]
      by_cases hn : n ≠ 0 ∧ -5 ≤ n ∧ n ≤ 5
      · rw [if_pos (decide_eq_true hn)]
        by_cases hw : w ≥ 0
        · rw [if_pos hw, chk_j0]
          congr 1
          refine ifc ?_
          simp only [decide_eq_true_eq, Bool.false_eq_true, false_and, false_iff, ge_iff_le, true_and] at *
          first
          | omega
          | (constructor <;> intro e <;> omega)
        · rw [if_neg hw, chk_j0]
          congr 1
          refine ifc ?_
          simp only [decide_eq_true_eq, Bool.false_eq_true, false_and, false_iff, ge_iff_le, true_and] at *
          first
          | omega
          | (constructor <;> intro e <;> omega)
      · rw [if_neg (by rw [decide_eq_true_eq]; exact hn), chk_j0]
        congr 1
        refine ifc ?_
        simp only [decide_eq_true_eq, Bool.false_eq_true, false_and, false_iff, ge_iff_le, true_and] at *
        first
        | omega
        | (constructor <;> intro e <;> omega)
    · rw [if_neg hm2, chk_j0]
      congr 1
      refine ifc ?_
      simp only [decide_eq_true_eq, Bool.false_eq_true, false_and, false_iff, ge_iff_le, true_and] at *
      first
      | omega
      | (constructor <;> intro e <;> omega)
  · rw [if_neg hm, chk_j0]
    congr 1
    refine ifc ?_
    simp only [decide_eq_true_eq, Bool.false_eq_true, false_and, false_iff, ge_iff_le, true_and] at *
    first
    | omega
    | (constructor <;> intro e <;> omega)
theorem chk_3 (k : Nat) (m n w y1 m1 d1 y2 m2 d2 : Int) (t : Bool) (ho : rule_ordered.f (k + 1) y1 m1 d1 y2 m2 d2 = some t) : rule_Check.f (k + 1) 3 m n w y1 m1 d1 y2 m2 d2 = some (if t = true ∧ m = 0 ∧ n = 0 ∧ w = 0 then none else some 1) := by
  unfold rule_Check.f
  rw [if_neg (by decide), if_neg (by decide), if_neg (by decide), if_pos rfl, ho, Option.bind_some, chk_j0]
  congr 1
  refine ifc ?_
  cases t with
  | false => simp only [Bool.false_eq_true, false_and]
  | true =>
    constructor
    · rintro ⟨_, _, h1, h2, h3, _⟩
      exact ⟨rfl, h1.symm, h2.symm, h3.symm⟩
    · rintro ⟨_, rfl, rfl, rfl⟩
      exact ⟨rfl, rfl, rfl, rfl, rfl, ⟨rfl, rfl, rfl⟩, rfl, rfl, rfl⟩
theorem chk_x (k : Nat) (K : Int) (m n w y1 m1 d1 y2 m2 d2 : Int) (h0 : K ≠ 0) (h1 : K ≠ 1) (h2 : K ≠ 2) (h3 : K ≠ 3) : rule_Check.f (k + 1) K m n w y1 m1 d1 y2 m2 d2 = some (some 1) := by
  unfold rule_Check.f
  rw [if_neg h0, if_neg h1, if_neg h2, if_neg h3, chk_j0, if_neg (fun e => by cases e.1)]
theorem may_open (k : Nat) (K m n w y1 m1 d1 y2 m2 d2 : Int) : r6_May.f (k + 3) K m n w y1 m1 d1 y2 m2 d2 = r6_May.j2 (k + 1) (decide (0 ≤ m ∧ m ≤ 12)) (decide (0 ≤ w ∧ w ≤ 6)) (decide (y1 = 0 ∧ m1 = 0 ∧ d1 = 0 ∧ y2 = 0 ∧ m2 = 0 ∧ d2 = 0)) K m n w y1 m1 d1 y2 m2 d2 := by
  unfold r6_May.f
  have s0 : ∀ t, r6_May.j0 (k + 3) t K m n w y1 m1 d1 y2 m2 d2 = r6_May.j2 (k + 1) t (decide (0 ≤ w ∧ w ≤ 6)) (decide (y1 = 0 ∧ m1 = 0 ∧ d1 = 0 ∧ y2 = 0 ∧ m2 = 0 ∧ d2 = 0)) K m n w y1 m1 d1 y2 m2 d2 := by
    intro t
    rw [r6_May.j0]
    have s1 : ∀ t2, r6_May.j1 (k + 2) t t2 K m n w y1 m1 d1 y2 m2 d2 = r6_May.j2 (k + 1) t t2 (decide (y1 = 0 ∧ m1 = 0 ∧ d1 = 0 ∧ y2 = 0 ∧ m2 = 0 ∧ d2 = 0)) K m n w y1 m1 d1 y2 m2 d2 := by
      intro t2
      rw [r6_May.j1, and3, and3]
      by_cases h : y1 = 0 ∧ m1 = 0 ∧ d1 = 0
      · rw [if_pos (decide_eq_true h), show decide (y2 = 0 ∧ m2 = 0 ∧ d2 = 0) = decide (y1 = 0 ∧ m1 = 0 ∧ d1 = 0 ∧ y2 = 0 ∧ m2 = 0 ∧ d2 = 0) by rw [decide_eq_decide]; omega]
      · rw [if_neg (by rw [decide_eq_true_eq]; exact h), decide_eq_false (p := y1 = 0 ∧ m1 = 0 ∧ d1 = 0 ∧ y2 = 0 ∧ m2 = 0 ∧ d2 = 0) (by omega)]
    by_cases h : w ≥ 0
    · rw [if_pos h, s1, show decide (w ≤ 6) = decide (0 ≤ w ∧ w ≤ 6) by rw [decide_eq_decide]; omega]
    · rw [if_neg h, s1, decide_eq_false (p := 0 ≤ w ∧ w ≤ 6) (by omega)]
  by_cases h : m ≥ 0
  · rw [if_pos h, s0, show decide (m ≤ 12) = decide (0 ≤ m ∧ m ≤ 12) by rw [decide_eq_decide]; omega]
  · rw [if_neg h, s0, decide_eq_false (p := 0 ≤ m ∧ m ≤ 12) (by omega)]
theorem dt {p : Prop} [Decidable p] (h : p) : decide p = true := decide_eq_true h
theorem df {p : Prop} [Decidable p] (h : ¬ p) : ¬ decide p = true := by rw [decide_eq_true_eq]; exact h
theorem may_0 (k : Nat) (m n w y1 m1 d1 y2 m2 d2 : Int) : r6_May.f (k + 3) 0 m n w y1 m1 d1 y2 m2 d2 = some (decide (0 ≤ w ∧ w < 7 ∧ m = 0 ∧ n = 0 ∧ y1 = 0 ∧ m1 = 0 ∧ d1 = 0 ∧ y2 = 0 ∧ m2 = 0 ∧ d2 = 0)) := by
  rw [may_open, r6_May.j2, if_pos rfl]
  by_cases hw : 0 ≤ w ∧ w ≤ 6
  · rw [if_pos (dt hw)]
    by_cases hz : y1 = 0 ∧ m1 = 0 ∧ d1 = 0 ∧ y2 = 0 ∧ m2 = 0 ∧ d2 = 0
    · rw [if_pos (dt hz)]
      by_cases hm : m = 0
      · rw [if_pos hm, dec_beq]
        congr 1
        rw [decide_eq_decide]
        omega
      · rw [if_neg hm, decide_eq_false (by omega)]
    · rw [if_neg (df hz), decide_eq_false (by omega)]
  · rw [if_neg (df hw), decide_eq_false (by omega)]
theorem may_1 (k : Nat) (m n w y1 m1 d1 y2 m2 d2 : Int) : r6_May.f (k + 3) 1 m n w y1 m1 d1 y2 m2 d2 = some (decide (0 ≤ m ∧ m ≤ 12 ∧ n ≠ 0 ∧ -31 ≤ n ∧ n ≤ 31 ∧ w = 0 ∧ y1 = 0 ∧ m1 = 0 ∧ d1 = 0 ∧ y2 = 0 ∧ m2 = 0 ∧ d2 = 0)) := by
  rw [may_open, r6_May.j2, if_neg (by decide), if_pos rfl, near_eq n 31 (.inl rfl)]
  by_cases hm : 0 ≤ m ∧ m ≤ 12
  · rw [if_pos (dt hm), Option.bind_some]
    by_cases hn : n ≠ 0 ∧ -31 ≤ n ∧ n ≤ 31
    · rw [if_pos (dt hn)]
      by_cases hz : y1 = 0 ∧ m1 = 0 ∧ d1 = 0 ∧ y2 = 0 ∧ m2 = 0 ∧ d2 = 0
      · rw [if_pos (dt hz), dec_beq]
        congr 1
        rw [decide_eq_decide]
        omega
      · rw [if_neg (df hz), decide_eq_false (by omega)]
    · rw [if_neg (df hn), decide_eq_false (by omega)]
  · rw [if_neg (df hm), decide_eq_false (by omega)]
theorem may_2 (k : Nat) (m n w y1 m1 d1 y2 m2 d2 : Int) : r6_May.f (k + 3) 2 m n w y1 m1 d1 y2 m2 d2 = some (decide (0 ≤ m ∧ m ≤ 12 ∧ n ≠ 0 ∧ -5 ≤ n ∧ n ≤ 5 ∧ 0 ≤ w ∧ w < 7 ∧ y1 = 0 ∧ m1 = 0 ∧ d1 = 0 ∧ y2 = 0 ∧ m2 = 0 ∧ d2 = 0)) := by
  rw [may_open, r6_May.j2, if_neg (by decide), if_neg (by decide), if_pos rfl, near_eq n 5 (.inr rfl)]
  by_cases hm : 0 ≤ m ∧ m ≤ 12
  · rw [if_pos (dt hm), Option.bind_some]
    by_cases hn : n ≠ 0 ∧ -5 ≤ n ∧ n ≤ 5
    · rw [if_pos (dt hn)]
      by_cases hw : 0 ≤ w ∧ w ≤ 6
      · rw [if_pos (dt hw)]
        congr 1
        rw [decide_eq_decide]
        omega
      · rw [if_neg (df hw), decide_eq_false (by omega)]
    · rw [if_neg (df hn), decide_eq_false (by omega)]
  · rw [if_neg (df hm), decide_eq_false (by omega)]
theorem may_x (k : Nat) (K : Int) (m n w y1 m1 d1 y2 m2 d2 : Int) (h0 : K ≠ 0) (h1 : K ≠ 1) (h2 : K ≠ 2) (h3 : K ≠ 3) : r6_May.f (k + 3) K m n w y1 m1 d1 y2 m2 d2 = some false := by
  rw [may_open, r6_May.j2, if_neg h0, if_neg h1, if_neg h2, if_neg h3]
/-- A date that may be, or that may not. -/
theorem date_cases (y m d : Int) : (∃ D q j i d', At D q j i d' ∧ y = Yr q j ∧ m = ((i + 1 : Nat) : Int) ∧ d = ((d' + 1 : Nat) : Int) ∧ -274877906944 ≤ y ∧ y ≤ 274877906944 ∧ r4_May.f y m d = some true) ∨ ((∀ k, civil_Days.f (k + 3) y m d = some (0, some 1)) ∧ r4_May.f y m d = some false) := by
  by_cases hv : -274877906944 ≤ y ∧ y ≤ 274877906944 ∧ 1 ≤ m ∧ m ≤ 12
  · obtain ⟨v1, v2, v3, v4⟩ := hv
    obtain ⟨i, hi⟩ : ∃ i : Nat, (i : Int) = m - 1 := ⟨(m - 1).toNat, by omega⟩
    obtain ⟨j, hj⟩ : ∃ j : Nat, (j : Int) = (y - 1970) % 400 := ⟨((y - 1970) % 400).toNat, by omega⟩
    obtain ⟨q, hq⟩ : ∃ q, q = (y - 1970) / 400 := ⟨_, rfl⟩
    have em : m = ((i + 1 : Nat) : Int) := by omega
    have ey : y = Yr q j := by unfold Yr; omega
    have hi12 : i < 12 := by omega
    have hj4 : j < 400 := by omega
    have q0 : -700000000 ≤ q := by omega
    have q1 : q ≤ 700000000 := by omega
    have hlen := fun k => length_yr q j i hi12 (by rw [← ey]; exact v1) (by rw [← ey]; exact v2) k
    have rlen := rlen_y (Yr q j) q j i rfl hi12
    have hMay : r4_May.f y m d = some (decide (1 ≤ d ∧ d ≤ ((len (leapN (1970 + j)) i : Nat) : Int))) := by
      unfold r4_May.f
      rw [if_pos v1, if_pos v2, if_pos v3, if_pos v4, ey, em, rlen, Option.bind_some]
      by_cases hd : d ≥ 1
      · rw [if_pos hd]
        congr 1
        rw [decide_eq_decide]
        exact ⟨fun e => ⟨hd, e⟩, fun e => e.2⟩
      · rw [if_neg hd, decide_eq_false (fun e => hd e.1)]
    by_cases hd : 1 ≤ d ∧ d ≤ ((len (leapN (1970 + j)) i : Nat) : Int)
    · obtain ⟨d', hd'⟩ : ∃ d' : Nat, (d' : Int) = d - 1 := ⟨(d - 1).toNat, by omega⟩
      refine .inl ⟨146097 * q + ((st j + offs (leapN (1970 + j)) i + d' : Nat) : Int), q, j, i, d', ⟨rfl, hj4, hi12, by omega, q0, q1⟩, ey, em, by omega, v1, v2, ?_⟩
      rw [hMay, decide_eq_true hd]
    · refine .inr ⟨fun k => ?_, by rw [hMay, decide_eq_false hd]⟩
      unfold civil_Days.f
      rw [ey, em, hlen k, Option.bind_some, if_pos (show (none : Option Int).isNone = true from rfl)]
      by_cases h1 : d < 1
      · rw [if_pos h1, civil_Days.j0, if_pos rfl]
      · rw [if_neg h1, civil_Days.j0, if_pos (decide_eq_true (show d > ((len (leapN (1970 + j)) i : Nat) : Int) by omega))]
  · refine .inr ⟨fun k => ?_, ?_⟩
    · have hL : civil_Length.f (k + 3) y m = some (0, some 1) := by
        unfold civil_Length.f
        by_cases h1 : m < 1
        · rw [if_pos h1, civil_Length.j0, if_pos rfl]
        · rw [if_neg h1]
          by_cases h2 : m > 12
          · rw [if_pos h2, civil_Length.j0, if_pos rfl]
          · rw [if_neg h2]
            by_cases h3 : y < -274877906944
            · rw [if_pos h3, civil_Length.j0, if_pos rfl]
            · rw [if_neg h3, civil_Length.j0, if_pos (decide_eq_true (by omega))]
      unfold civil_Days.f
      rw [hL, Option.bind_some, if_neg (by decide), civil_Days.j0, if_pos rfl]
    · unfold r4_May.f
      by_cases h1 : y ≥ -274877906944
      · rw [if_pos h1]
        by_cases h2 : y ≤ 274877906944
        · rw [if_pos h2]
          by_cases h3 : m ≥ 1
          · rw [if_pos h3, if_neg (by omega)]
          · rw [if_neg h3]
        · rw [if_neg h2]
      · rw [if_neg h1]
structure Two (y1 m1 d1 y2 m2 d2 D E : Int) : Prop where
  a : ∃ q j i d, At D q j i d ∧ y1 = Yr q j ∧ m1 = ((i + 1 : Nat) : Int) ∧ d1 = ((d + 1 : Nat) : Int) ∧ -274877906944 ≤ y1 ∧ y1 ≤ 274877906944
  b : ∃ q j i d, At E q j i d ∧ y2 = Yr q j ∧ m2 = ((i + 1 : Nat) : Int) ∧ d2 = ((d + 1 : Nat) : Int) ∧ -274877906944 ≤ y2 ∧ y2 ≤ 274877906944
theorem Two.own {y1 m1 d1 y2 m2 d2 D E : Int} (h : Two y1 m1 d1 y2 m2 d2 D E) (k : Nat) : civil_Days.f (k + 3) y1 m1 d1 = some (D, none) ∧ civil_Days.f (k + 3) y2 m2 d2 = some (E, none) := by
  obtain ⟨q, j, i, d, ha, rfl, rfl, rfl, b0, b1⟩ := h.a
  obtain ⟨q', j', i', d', hb, rfl, rfl, rfl, b2, b3⟩ := h.b
  exact ⟨days_at ha b0 b1 k, days_at hb b2 b3 k⟩
theorem Two.ref {y1 m1 d1 y2 m2 d2 D E : Int} (h : Two y1 m1 d1 y2 m2 d2 D E) : ∃ k0, ∀ k, k0 ≤ k → r4_Days.f k y1 m1 d1 = some D ∧ r4_Days.f k y2 m2 d2 = some E := by
  obtain ⟨q, j, i, d, ha, rfl, rfl, rfl, b0, b1⟩ := h.a
  obtain ⟨q', j', i', d', hb, rfl, rfl, rfl, b2, b3⟩ := h.b
  obtain ⟨k1, h1⟩ := rdays_at ha
  obtain ⟨k2, h2⟩ := rdays_at hb
  exact ⟨k1 + k2, fun k hk => ⟨up (r4_Days.mono _ _ _) h1 (by omega), up (r4_Days.mono _ _ _) h2 (by omega)⟩⟩
def Ok (K m n w y1 m1 d1 y2 m2 d2 : Int) : Prop :=
  (K = 0 ∧ 0 ≤ w ∧ w < 7 ∧ m = 0 ∧ n = 0 ∧ y1 = 0 ∧ m1 = 0 ∧ d1 = 0 ∧ y2 = 0 ∧ m2 = 0 ∧ d2 = 0) ∨ (K = 1 ∧ 0 ≤ m ∧ m ≤ 12 ∧ n ≠ 0 ∧ -31 ≤ n ∧ n ≤ 31 ∧ w = 0 ∧ y1 = 0 ∧ m1 = 0 ∧ d1 = 0 ∧ y2 = 0 ∧ m2 = 0 ∧ d2 = 0) ∨ (K = 2 ∧ 0 ≤ m ∧ m ≤ 12 ∧ n ≠ 0 ∧ -5 ≤ n ∧ n ≤ 5 ∧ 0 ≤ w ∧ w < 7 ∧ y1 = 0 ∧ m1 = 0 ∧ d1 = 0 ∧ y2 = 0 ∧ m2 = 0 ∧ d2 = 0) ∨ (K = 3 ∧ m = 0 ∧ n = 0 ∧ w = 0 ∧ ∃ D E, Two y1 m1 d1 y2 m2 d2 D E ∧ 0 ≤ y1 ∧ y2 ≤ 9999 ∧ D ≤ E)
theorem may_all (K m n w y1 m1 d1 y2 m2 d2 : Int) : (Ok K m n w y1 m1 d1 y2 m2 d2 ∧ (∀ k, rule_Check.f (k + 3) K m n w y1 m1 d1 y2 m2 d2 = some none) ∧ ∃ k, r6_May.f k K m n w y1 m1 d1 y2 m2 d2 = some true) ∨ ((∀ k, rule_Check.f (k + 3) K m n w y1 m1 d1 y2 m2 d2 = some (some 1)) ∧ ∃ k, r6_May.f k K m n w y1 m1 d1 y2 m2 d2 = some false) := by
  by_cases h0 : K = 0
  · subst h0
    by_cases hp : 0 ≤ w ∧ w < 7 ∧ m = 0 ∧ n = 0 ∧ y1 = 0 ∧ m1 = 0 ∧ d1 = 0 ∧ y2 = 0 ∧ m2 = 0 ∧ d2 = 0
    · exact .inl ⟨.inl ⟨rfl, hp⟩, fun k => by rw [chk_0 (k + 2), if_pos hp], 3, by rw [may_0 0, decide_eq_true hp]⟩
    · exact .inr ⟨fun k => by rw [chk_0 (k + 2), if_neg hp], 3, by rw [may_0 0, decide_eq_false hp]⟩
  by_cases h1 : K = 1
  · subst h1
    by_cases hp : 0 ≤ m ∧ m ≤ 12 ∧ n ≠ 0 ∧ -31 ≤ n ∧ n ≤ 31 ∧ w = 0 ∧ y1 = 0 ∧ m1 = 0 ∧ d1 = 0 ∧ y2 = 0 ∧ m2 = 0 ∧ d2 = 0
    · exact .inl ⟨.inr (.inl ⟨rfl, hp⟩), fun k => by rw [chk_1 (k + 2), if_pos hp], 3, by rw [may_1 0, decide_eq_true hp]⟩
    · exact .inr ⟨fun k => by rw [chk_1 (k + 2), if_neg hp], 3, by rw [may_1 0, decide_eq_false hp]⟩
  by_cases h2 : K = 2
  · subst h2
    by_cases hp : 0 ≤ m ∧ m ≤ 12 ∧ n ≠ 0 ∧ -5 ≤ n ∧ n ≤ 5 ∧ 0 ≤ w ∧ w < 7 ∧ y1 = 0 ∧ m1 = 0 ∧ d1 = 0 ∧ y2 = 0 ∧ m2 = 0 ∧ d2 = 0
    · exact .inl ⟨.inr (.inr (.inl ⟨rfl, hp⟩)), fun k => by rw [chk_2 (k + 2), if_pos hp], 3, by rw [may_2 0, decide_eq_true hp]⟩
    · exact .inr ⟨fun k => by rw [chk_2 (k + 2), if_neg hp], 3, by rw [may_2 0, decide_eq_false hp]⟩
  by_cases h3 : K = 3
  · subst h3
    have no : ∀ (t : Bool), (∀ k, rule_ordered.f (k + 3) y1 m1 d1 y2 m2 d2 = some t) → ¬ (t = true ∧ m = 0 ∧ n = 0 ∧ w = 0) → ∀ k, rule_Check.f (k + 3) 3 m n w y1 m1 d1 y2 m2 d2 = some (some 1) := fun t ht hn k => by rw [chk_3 (k + 2) m n w y1 m1 d1 y2 m2 d2 t (ht k), if_neg hn]
    have fa : ∀ (b : Bool), r6_May.f 3 3 m n w y1 m1 d1 y2 m2 d2 = r6_May.f 3 3 m n w y1 m1 d1 y2 m2 d2 := fun _ => rfl
    by_cases hm : m = 0 ∧ n = 0 ∧ w = 0
    · obtain ⟨rfl, rfl, rfl⟩ := hm
      have hopen : ∀ k, r6_May.f (k + 3) 3 0 0 0 y1 m1 d1 y2 m2 d2 = (r4_May.f y1 m1 d1).bind fun t => if t = true then (r4_May.f y2 m2 d2).bind fun t => if t = true then (if y1 ≥ 0 then (if y2 ≤ 9999 then ((r4_Days.f k y1 m1 d1).bind fun t1 => (r4_Days.f k y2 m2 d2).bind fun t2 => some (decide (t1 ≤ t2))) else some false) else some false) else some false else some false := by
        intro k
        rw [may_open, r6_May.j2, if_neg (by decide), if_neg (by decide), if_neg (by decide), if_pos rfl, if_pos rfl, if_pos rfl, if_pos rfl]
      rcases date_cases y1 m1 d1 with ⟨D, q, j, i, d, ha, e1, e2, e3, b0, b1, hma⟩ | ⟨hda, hma⟩
      · rcases date_cases y2 m2 d2 with ⟨E, q', j', i', d', hb, e4, e5, e6, b2, b3, hmb⟩ | ⟨hdb, hmb⟩
        · have two : Two y1 m1 d1 y2 m2 d2 D E := ⟨⟨q, j, i, d, ha, e1, e2, e3, b0, b1⟩, ⟨q', j', i', d', hb, e4, e5, e6, b2, b3⟩⟩
          have ho : ∀ k, rule_ordered.f (k + 3) y1 m1 d1 y2 m2 d2 = some (decide (0 ≤ y1 ∧ y2 ≤ 9999 ∧ D ≤ E)) := by
            intro k
            obtain ⟨o1, o2⟩ := two.own k
            unfold rule_ordered.f
            rw [o1, Option.bind_some, o2, Option.bind_some, if_pos (show (none : Option Int).isNone = true from rfl), if_pos (show (none : Option Int).isNone = true from rfl)]
            by_cases g1 : y1 ≥ 0
            · rw [if_pos g1]
              by_cases g2 : y2 ≤ 9999
              · rw [if_pos g2]
                congr 1
                rw [decide_eq_decide]
                exact ⟨fun e => ⟨g1, g2, e⟩, fun e => e.2.2⟩
              · rw [if_neg g2, decide_eq_false (fun e => g2 e.2.1)]
            · rw [if_neg g1, decide_eq_false (fun e => g1 e.1)]
          obtain ⟨k0, hk0⟩ := two.ref
          obtain ⟨r1, r2⟩ := hk0 k0 (Nat.le_refl _)
          have hmay : r6_May.f (k0 + 3) 3 0 0 0 y1 m1 d1 y2 m2 d2 = some (decide (0 ≤ y1 ∧ y2 ≤ 9999 ∧ D ≤ E)) := by
            rw [hopen, hma, Option.bind_some, if_pos rfl, hmb, Option.bind_some, if_pos rfl, r1, r2]
            by_cases g1 : y1 ≥ 0
            · rw [if_pos g1]
              by_cases g2 : y2 ≤ 9999
              · rw [if_pos g2, Option.bind_some, Option.bind_some]
                congr 1
                rw [decide_eq_decide]
                exact ⟨fun e => ⟨g1, g2, e⟩, fun e => e.2.2⟩
              · rw [if_neg g2, decide_eq_false (fun e => g2 e.2.1)]
            · rw [if_neg g1, decide_eq_false (fun e => g1 e.1)]
          by_cases hp : 0 ≤ y1 ∧ y2 ≤ 9999 ∧ D ≤ E
          · rw [decide_eq_true hp] at hmay ho
            exact .inl ⟨.inr (.inr (.inr ⟨rfl, rfl, rfl, rfl, D, E, two, hp⟩)), fun k => by rw [chk_3 (k + 2) 0 0 0 y1 m1 d1 y2 m2 d2 true (ho k), if_pos ⟨rfl, rfl, rfl, rfl⟩], _, hmay⟩
          · rw [decide_eq_false hp] at hmay ho
            exact .inr ⟨no _ ho (fun e => by cases e.1), _, hmay⟩
        · refine .inr ⟨no false (fun k => ?_) (fun e => by cases e.1), 3, ?_⟩
          · have o1 : civil_Days.f (k + 3) y1 m1 d1 = some (D, none) := by rw [e2, e3]; rw [e1] at b0 b1 ⊢; exact days_at ha b0 b1 k
            unfold rule_ordered.f
            rw [o1, Option.bind_some, hdb k, Option.bind_some, if_pos (show (none : Option Int).isNone = true from rfl), if_neg (by decide)]
          · rw [hopen 0, hma, Option.bind_some, if_pos rfl, hmb, Option.bind_some, if_neg (by decide)]
      · refine .inr ⟨no false (fun k => ?_) (fun e => by cases e.1), 3, ?_⟩
        · obtain ⟨x, hx⟩ : ∃ x, civil_Days.f (k + 3) y2 m2 d2 = some x := by
            rcases date_cases y2 m2 d2 with ⟨E, q', j', i', d', hb, e4, e5, e6, b2, b3, hmb⟩ | ⟨hdb, hmb⟩
            · rw [e5, e6]; rw [e4] at b2 b3 ⊢; exact ⟨_, days_at hb b2 b3 k⟩
            · exact ⟨_, hdb k⟩
          unfold rule_ordered.f
          rw [hda k, Option.bind_some, hx, Option.bind_some, if_neg (by decide)]
        · rw [hopen 0, hma, Option.bind_some, if_neg (by decide)]
    · have hx : ∃ t, ∀ k, rule_ordered.f (k + 3) y1 m1 d1 y2 m2 d2 = some t := by
        rcases date_cases y1 m1 d1 with ⟨D, q, j, i, d, ha, e1, e2, e3, b0, b1, hma⟩ | ⟨hda, hma⟩
        · rcases date_cases y2 m2 d2 with ⟨E, q', j', i', d', hb, e4, e5, e6, b2, b3, hmb⟩ | ⟨hdb, hmb⟩
          · have two : Two y1 m1 d1 y2 m2 d2 D E := ⟨⟨q, j, i, d, ha, e1, e2, e3, b0, b1⟩, ⟨q', j', i', d', hb, e4, e5, e6, b2, b3⟩⟩
            refine ⟨if y1 ≥ 0 then (if y2 ≤ 9999 then decide (D ≤ E) else false) else false, fun k => ?_⟩
            obtain ⟨o1, o2⟩ := two.own k
            unfold rule_ordered.f
            rw [o1, Option.bind_some, o2, Option.bind_some, if_pos (show (none : Option Int).isNone = true from rfl), if_pos (show (none : Option Int).isNone = true from rfl)]
            by_cases g1 : y1 ≥ 0
            · rw [if_pos g1, if_pos g1]
              by_cases g2 : y2 ≤ 9999
              · rw [if_pos g2, if_pos g2]
              · rw [if_neg g2, if_neg g2]
            · rw [if_neg g1, if_neg g1]
          · refine ⟨false, fun k => ?_⟩
            have o1 : civil_Days.f (k + 3) y1 m1 d1 = some (D, none) := by rw [e2, e3]; rw [e1] at b0 b1 ⊢; exact days_at ha b0 b1 k
            unfold rule_ordered.f
            rw [o1, Option.bind_some, hdb k, Option.bind_some, if_pos (show (none : Option Int).isNone = true from rfl), if_neg (by decide)]
        · refine ⟨false, fun k => ?_⟩
          obtain ⟨x, hx⟩ : ∃ x, civil_Days.f (k + 3) y2 m2 d2 = some x := by
            rcases date_cases y2 m2 d2 with ⟨E, q', j', i', d', hb, e4, e5, e6, b2, b3, hmb⟩ | ⟨hdb, hmb⟩
            · rw [e5, e6]; rw [e4] at b2 b3 ⊢; exact ⟨_, days_at hb b2 b3 k⟩
            · exact ⟨_, hdb k⟩
          unfold rule_ordered.f
          rw [hda k, Option.bind_some, hx, Option.bind_some, if_neg (by decide)]
      obtain ⟨t, ht⟩ := hx
      refine .inr ⟨no t ht (fun e => hm e.2), 3, ?_⟩
      rw [may_open 0, r6_May.j2, if_neg (by decide), if_neg (by decide), if_neg (by decide), if_pos rfl]
      by_cases g1 : m = 0
      · rw [if_pos g1]
        by_cases g2 : n = 0
        · rw [if_pos g2, if_neg (fun g3 => hm ⟨g1, g2, g3⟩)]
        · rw [if_neg g2]
      · rw [if_neg g1]
  exact .inr ⟨fun k => chk_x (k + 2) K m n w y1 m1 d1 y2 m2 d2 h0 h1 h2 h3, 3, may_x 0 K m n w y1 m1 d1 y2 m2 d2 h0 h1 h2 h3⟩
end Go.Proofs.YtpagbmkdphdjoaaGreatDoor.PClk
