/- Plain mathematics of ClockStamps: the program's date and the document's, the digits; the two stamps are one text. -/
import Derived.Test.YtegiikkbeknodaaDoorPClCal
import Derived.Test.YtegiikkbeknodaaDoorPClA
set_option linter.unusedVariables false
set_option linter.unusedSimpArgs false
namespace Go.Proofs.YtegiikkbeknodaaDoor.PClk
open Go.RowKit Go.Proofs.YtegiikkbeknodaaDoor.P Go.Proofs.YtegiikkbeknodaaDoorW.PrintWords Go.Proofs.YtegiikkbeknodaaDoorW.PrintLast Go.Proofs.YtegiikkbeknodaaDoorW.PrintMore
theorem tdn (a b : Nat) : Int.tdiv (a : Int) (b : Int) = ((a / b : Nat) : Int) := by
  rw [Int.tdiv_eq_ediv_of_nonneg (Int.natCast_nonneg a)]
  exact (Int.natCast_ediv a b).symm
theorem tmn (a b : Nat) : Int.tmod (a : Int) (b : Int) = ((a % b : Nat) : Int) := by
  rw [Int.tmod_eq_emod_of_nonneg (Int.natCast_nonneg a)]
  exact (Int.natCast_emod a b).symm
theorem ofs (p : Nat) (hp : p < 146097) (h1 : 365 * nY p + nY p / 4 - nY p / 100 ≤ p) (h2 : (153 * nM p + 2) / 5 ≤ nD p) :
    ofM (p : Int) = (nM p : Int) ∧ ofY (p : Int) = (nY p : Int) ∧ ofE (p : Int) = (nE p : Int) := by
  have t1 : Int.tdiv (p : Int) 1460 = ((p / 1460 : Nat) : Int) := tdn p 1460
  have t2 : Int.tdiv (p : Int) 36524 = ((p / 36524 : Nat) : Int) := tdn p 36524
  have t3 : Int.tdiv (p : Int) 146096 = ((p / 146096 : Nat) : Int) := tdn p 146096
  have ey : ofY (p : Int) = (nY p : Int) := by
    unfold ofY nY
    rw [t1, t2, t3, show (p : Int) - ((p / 1460 : Nat) : Int) + ((p / 36524 : Nat) : Int) - ((p / 146096 : Nat) : Int) = ((p - p / 1460 + p / 36524 - p / 146096 : Nat) : Int) by omega]
    exact tdn _ 365
  have t4 : Int.tdiv (nY p : Int) 4 = ((nY p / 4 : Nat) : Int) := tdn _ 4
  have t5 : Int.tdiv (nY p : Int) 100 = ((nY p / 100 : Nat) : Int) := tdn _ 100
  have ed : ofD (p : Int) = (nD p : Int) := by
    unfold ofD nD
    rw [ey, t4, t5]
    omega
  have em : ofM (p : Int) = (nM p : Int) := by
    unfold ofM nM
    rw [ed, show 5 * (nD p : Int) + 2 = ((5 * nD p + 2 : Nat) : Int) by omega]
    exact tdn _ 153
  refine ⟨em, ey, ?_⟩
  unfold ofE nE
  rw [ed, em, show 153 * (nM p : Int) + 2 = ((153 * nM p + 2 : Nat) : Int) by omega, show Int.tdiv ((153 * nM p + 2 : Nat) : Int) 5 = (((153 * nM p + 2) / 5 : Nat) : Int) from tdn _ 5]
  omega
theorem pb (r : Nat) : (r < 11017 ∧ pOf r = r + 135080 ∧ bOf r = 0) ∨ (11017 ≤ r ∧ pOf r = r - 11017 ∧ bOf r = 400) := by
  unfold pOf bOf
  rcases Nat.lt_or_ge r 11017 with h | h
  · have e : Nat.blt r 11017 = true := by rw [Nat.blt_eq]; exact h
    rw [e, cond_true, cond_true]
    exact .inl ⟨h, Eq.refl _, Eq.refl _⟩
  · have e : Nat.blt r 11017 = false := by
      cases hb : Nat.blt r 11017 with
      | false => exact Eq.refl _
      | true => rw [Nat.blt_eq] at hb; omega
    rw [e, cond_false, cond_false]
    exact .inr ⟨h, Eq.refl _, Eq.refl _⟩
/-- The program's date. -/
theorem own_day (q : Int) (q0 : -400000000 ≤ q) (q1 : q ≤ 400000000) (j i d r : Nat) (hj : j < 400) (hi : i < 12) (hd : d < len (leapN (1970 + j)) i) (hr : r = st j + offs (leapN (1970 + j)) i + d) (hlt : r < 146097) :
    civil_Of.f (146097 * q + (r : Int)) = some (((1970 + j : Nat) : Int) + 400 * q, ((i + 1 : Nat) : Int), ((d + 1 : Nat) : Int), none) := by
  obtain ⟨h1, h2, h3, h4⟩ := okP_spec (day_ok j i d hj hi hd)
  rw [← hr] at h1 h2 h3 h4
  obtain ⟨p, hp⟩ : ∃ p, pOf r = p := ⟨_, rfl⟩
  obtain ⟨b, hb⟩ : ∃ b, bOf r = b := ⟨_, rfl⟩
  have hpb := pb r
  rw [hp, hb] at hpb
  rw [hp] at h1 h2 h3
  rw [hp, hb] at h4
  clear hr hp hb hd
  have hp2 : p < 146097 := by omega
  obtain ⟨em, ey, ee⟩ := ofs p hp2 h1 h2
  have g0 : ¬ (146097 * q + (r : Int) < (-70368744177664)) := by omega
  have g1 : ¬ (146097 * q + (r : Int) > 70368744177664) := by omega
  have eP : (146097 * q + (r : Int) + 719468) % 146097 = (p : Int) := by omega
  obtain ⟨c, hc⟩ : ∃ c, (146097 * q + (r : Int) + 719468) / 146097 = c := ⟨_, rfl⟩
  have ec : c * 400 = 400 * q + 1600 + (b : Int) := by omega
  unfold civil_Of.f
  rw [if_neg g0, if_neg g1, eP, hc, em, ey, ee, h3]
  clear g0 g1 eP hc em ey ee h3 h1 h2
  rcases h4 with ⟨k1, k2, k3⟩ | ⟨k1, k2, k3⟩
  · rw [if_pos (by omega)]
    simp only [Option.some.injEq, Prod.mk.injEq, and_true]
    refine ⟨?_, ?_⟩ <;> omega
  · rw [if_neg (by omega)]
    simp only [Option.some.injEq, Prod.mk.injEq, and_true]
    refine ⟨?_, ?_⟩ <;> omega
/-! The document's date. -/
theorem leap_f (y : Nat) : belvedereref04_Leap.f (y : Int) = some (leapN y) := by
  have t1 : Int.tmod (y : Int) 400 = ((y % 400 : Nat) : Int) := tmn y 400
  have t2 : Int.tmod (y : Int) 4 = ((y % 4 : Nat) : Int) := tmn y 4
  have t3 : Int.tmod (y : Int) 100 = ((y % 100 : Nat) : Int) := tmn y 100
  unfold belvedereref04_Leap.f leapN
  rw [t1, t2, t3]
  by_cases h1 : y % 400 = 0
  · rw [if_pos (by omega), h1]; rfl
  · rw [if_neg (by omega)]
    have e1 : (y % 400 == 0) = false := by simpa using h1
    by_cases h2 : y % 4 = 0
    · rw [if_pos (by omega), e1, h2]
      by_cases h3 : y % 100 = 0
      · rw [h3]; rfl
      · have e3 : (y % 100 != 0) = true := by simpa using h3
        have e4 : (((y % 100 : Nat) : Int) != 0) = true := by
          have : ((y % 100 : Nat) : Int) ≠ 0 := by omega
          simpa using this
        rw [e3, e4]; rfl
    · have e2 : (y % 4 == 0) = false := by simpa using h2
      rw [if_neg (by omega), e1, e2]; rfl
theorem len_f (y i : Nat) (hi : i < 12) : belvedereref04_Length.f (y : Int) ((i + 1 : Nat) : Int) = some ((len (leapN y) i : Nat) : Int) := by
  unfold belvedereref04_Length.f
  rw [leap_f]
  have hc : i = 0 ∨ i = 1 ∨ i = 2 ∨ i = 3 ∨ i = 4 ∨ i = 5 ∨ i = 6 ∨ i = 7 ∨ i = 8 ∨ i = 9 ∨ i = 10 ∨ i = 11 := by omega
  rcases hc with rfl | rfl | rfl | rfl | rfl | rfl | rfl | rfl | rfl | rfl | rfl | rfl <;> cases leapN y <;> decide +kernel
theorem offs_mono (lp : Bool) : ∀ (n a : Nat), a + n ≤ 12 → offs lp a ≤ offs lp (a + n)
  | 0, a, _ => Nat.le_refl _
  | n + 1, a, h => by
    have h1 := offs_mono lp n a (by omega)
    have h2 := offs_next lp (a + n) (by omega)
    rw [show a + (n + 1) = a + n + 1 by omega, h2]
    omega
theorem st_mono : ∀ (n a : Nat), a + n ≤ 400 → st a ≤ st (a + n)
  | 0, a, _ => Nat.le_refl _
  | n + 1, a, h => by
    have h1 := st_mono n a (by omega)
    have h2 := st_next (a + n) (by omega)
    rw [show a + (n + 1) = a + n + 1 by omega, h2]
    omega
theorem len_le (lp : Bool) (i : Nat) (hi : i < 12) : len lp i ≤ 31 ∧ 28 ≤ len lp i := by
  have hc : i = 0 ∨ i = 1 ∨ i = 2 ∨ i = 3 ∨ i = 4 ∨ i = 5 ∨ i = 6 ∨ i = 7 ∨ i = 8 ∨ i = 9 ∨ i = 10 ∨ i = 11 := by omega
  rcases hc with rfl | rfl | rfl | rfl | rfl | rfl | rfl | rfl | rfl | rfl | rfl | rfl <;> cases lp <;> decide
theorem offs_le (lp : Bool) (i : Nat) (hi : i < 13) : offs lp i ≤ 366 := by
  have h := offs_mono lp (12 - i) i (by omega)
  rw [show i + (12 - i) = 12 by omega] at h
  have : offs lp 12 ≤ 366 := by cases lp <;> decide
  omega
theorem months (q : Int) (q0 : -400000000 ≤ q) (q1 : q ≤ 400000000) (y i d : Nat) (hy : y < 3000) (hi : i < 12) (O L : Nat → Nat) (hO : ∀ m, m < 12 → O (m + 1) = O m + L m) (hM : ∀ n a, a + n ≤ 12 → O a ≤ O (a + n)) (hle : ∀ m, m < 13 → O m ≤ 366) (hL : ∀ m, m < 12 → L m ≤ 31)
    (hf : ∀ m, m < 12 → belvedereref04_Length.f (y : Int) ((m + 1 : Nat) : Int) = some ((L m : Nat) : Int)) (hd : d < L i) : ∀ (n m : Nat), m + n = i →
    ∃ k, belvedereref04_Of.l1 k q ((O i - O m + d : Nat) : Int) (y : Int) ((m + 1 : Nat) : Int) = some ((y : Int) + 400 * q, ((i + 1 : Nat) : Int), ((d + 1 : Nat) : Int)) := by
  intro n
  have hl := hL i hi
  induction n with
  | zero =>
    intro m hm
    have e : m = i := by omega
    subst e
    have c : ¬ (((O m - O m + d : Nat) : Int) ≥ ((L m : Nat) : Int)) := by omega
    have w1 : wrap64 (400 * q) = 400 * q := w64 (by omega) (by omega)
    have w2 : wrap64 ((y : Int) + 400 * q) = (y : Int) + 400 * q := w64 (by omega) (by omega)
    have w3 : wrap64 (((O m - O m + d : Nat) : Int) + 1) = ((d + 1 : Nat) : Int) := by rw [w64 (by omega) (by omega)]; omega
    refine ⟨1, ?_⟩
    rw [belvedereref04_Of.l1, hf m hi, Option.bind_some, if_neg c, w1, w2, w3]
  | succ n ih =>
    intro m hm
    obtain ⟨k, hk⟩ := ih (m + 1) (by omega)
    have h1 := hO m (by omega)
    have h2 := hM n (m + 1) (by omega)
    rw [show m + 1 + n = i by omega] at h2
    have h3 := hle i (by omega)
    have hm2 : m < 12 := by omega
    have c : ((O i - O m + d : Nat) : Int) ≥ ((L m : Nat) : Int) := by omega
    have w1 : wrap64 (((O i - O m + d : Nat) : Int) - ((L m : Nat) : Int)) = ((O i - O (m + 1) + d : Nat) : Int) := by rw [w64 (by omega) (by omega)]; omega
    have w2 : wrap64 (((m + 1 : Nat) : Int) + 1) = ((m + 1 + 1 : Nat) : Int) := by rw [w64 (by omega) (by omega)]; omega
    refine ⟨k + 1, ?_⟩
    rw [belvedereref04_Of.l1, hf m hm2, Option.bind_some, if_pos c, Option.bind_some, w1, w2]
    exact hk
theorem years (q : Int) (J r' : Nat) (hJ : J < 400) (hr : r' < (bif leapN (1970 + J) then 366 else 365)) (res : Int × Int × Int) (S : Nat → Nat) (hS : ∀ j, j < 400 → S (j + 1) = S j + (bif leapN (1970 + j) then 366 else 365)) (hM : ∀ n a, a + n ≤ 400 → S a ≤ S (a + n)) (hst : S J ≤ 146097)
    (hres : ∃ k, belvedereref04_Of.j1 k q (r' : Int) ((1970 + J : Nat) : Int) = some res) : ∀ (n j : Nat), j + n = J →
    ∃ k, belvedereref04_Of.l0 k q ((S J - S j + r' : Nat) : Int) ((1970 + j : Nat) : Int) = some res := by
  intro n
  have hb : r' < 366 := by
    cases hl : leapN (1970 + J)
    · rw [hl, cond_false] at hr; omega
    · rw [hl, cond_true] at hr; omega
  induction n with
  | zero =>
    intro j hj
    have e : j = J := by omega
    subst e
    obtain ⟨k, hk⟩ := hres
    refine ⟨k + 1, ?_⟩
    rw [show S j - S j + r' = r' by omega, belvedereref04_Of.l0, leap_f, Option.bind_some]
    cases hl : leapN (1970 + j) with
    | true =>
      rw [hl, cond_true] at hr
      have c : (r' : Int) < 366 := by omega
      rw [if_pos rfl, if_pos c]; exact hk
    | false =>
      rw [hl, cond_false] at hr
      have c : (r' : Int) < 365 := by omega
      rw [if_neg (by decide), if_pos c]; exact hk
  | succ n ih =>
    intro j hj
    obtain ⟨k, hk⟩ := ih (j + 1) (by omega)
    have h1 := hS j (by omega)
    have h2 := hM n (j + 1) (by omega)
    rw [show j + 1 + n = J by omega] at h2
    have w2 : wrap64 (((1970 + j : Nat) : Int) + 1) = ((1970 + (j + 1) : Nat) : Int) := by rw [w64 (by omega) (by omega)]; omega
    have W2 := Aside0.mk w2
    clear w2
    refine ⟨k + 1, ?_⟩
    rw [belvedereref04_Of.l0, leap_f, Option.bind_some]
    cases hl : leapN (1970 + j) with
    | true =>
      rw [hl, cond_true] at h1
      have c : ¬ (((S J - S j + r' : Nat) : Int) < 366) := by omega
      have w1 : wrap64 (((S J - S j + r' : Nat) : Int) - 366) = ((S J - S (j + 1) + r' : Nat) : Int) := by rw [w64 (by omega) (by omega)]; omega
      rw [if_pos rfl, if_neg c, w1, W2.out]; exact hk
    | false =>
      rw [hl, cond_false] at h1
      have c : ¬ (((S J - S j + r' : Nat) : Int) < 365) := by omega
      have w1 : wrap64 (((S J - S j + r' : Nat) : Int) - 365) = ((S J - S (j + 1) + r' : Nat) : Int) := by rw [w64 (by omega) (by omega)]; omega
      rw [if_neg (by decide), if_neg c, w1, W2.out]; exact hk
theorem whole_f (q : Int) (q0 : -400000000 ≤ q) (q1 : q ≤ 400000000) (r : Nat) (hr : r < 146097) : belvedereref04_whole.f (146097 * q + (r : Int)) 146097 = some (q, (r : Int)) := by
  unfold belvedereref04_whole.f
  rw [if_neg (by decide)]
  obtain ⟨D, hD⟩ : ∃ D, 146097 * q + (r : Int) = D := ⟨_, rfl⟩
  rw [hD]
  by_cases h : 0 ≤ D
  · rw [Int.tmod_eq_emod_of_nonneg h, Int.tdiv_eq_ediv_of_nonneg h, if_neg (by omega), w64 (by omega) (by omega)]
    congr 2 <;> omega
  · obtain ⟨n, rfl⟩ : ∃ n : Nat, D = -(n : Int) := ⟨D.natAbs, by omega⟩
    rw [Int.neg_tmod, Int.neg_tdiv, Int.tmod_eq_emod_of_nonneg (Int.natCast_nonneg n), Int.tdiv_eq_ediv_of_nonneg (Int.natCast_nonneg n)]
    by_cases h0 : (n : Int) % 146097 = 0
    · rw [if_neg (by omega), w64 (by omega) (by omega)]
      congr 2 <;> omega
    · have wa : wrap64 (-((n : Int) / 146097)) = -((n : Int) / 146097) := w64 (by omega) (by omega)
      rw [if_pos (by omega), wa, w64 (by omega) (by omega), w64 (by omega) (by omega)]
      congr 2 <;> omega
theorem h12 (lp : Bool) : offs lp 12 = (bif lp then 366 else 365) := by cases lp <;> decide
theorem in_year (lp : Bool) (i d : Nat) (hi : i < 12) (hd : d < len lp i) : offs lp i + d < (bif lp then 366 else 365) := by
  have h1 := offs_next lp i hi
  have h2 := offs_mono lp (12 - (i + 1)) (i + 1) (by omega)
  rw [show i + 1 + (12 - (i + 1)) = 12 by omega, h12, h1] at h2
  obtain ⟨A, hA⟩ : ∃ A, offs lp i = A := ⟨_, rfl⟩
  obtain ⟨B, hB⟩ : ∃ B, len lp i = B := ⟨_, rfl⟩
  rw [hA, hB] at h2
  rw [hA]
  rw [hB] at hd
  clear h1
  cases lp
  · rw [cond_false] at h2 ⊢; omega
  · rw [cond_true] at h2 ⊢; omega
theorem st_le (J : Nat) (hJ : J ≤ 400) : st J ≤ 146097 := by
  have := st_mono (400 - J) J (by omega)
  rw [show J + (400 - J) = 400 by omega, st_end] at this
  exact this
/-- The last day of a cycle lies in its last year. -/
theorem last_year (j a S : Nat) (hj : j < 400) (hS : st j = S) (ha : a < 366) (h : S + a = 146096) : 1969 ≤ 1970 + j + 0 - 400 + 399 + (j - 399) ∧ j = 399 := by
  rcases Nat.lt_or_ge j 399 with hj2 | hj2
  · exfalso
    have h5 := st_mono (398 - j) j (by omega)
    rw [show j + (398 - j) = 398 by omega, hS, show st 398 = 145366 by decide +kernel] at h5
    clear hS
    omega
  · have e : j = 399 := by omega
    exact ⟨by omega, e⟩
theorem ref_day (q : Int) (q0 : -400000000 ≤ q) (q1 : q ≤ 400000000) (j i d r : Nat) (hj : j < 400) (hi : i < 12) (hd : d < len (leapN (1970 + j)) i) (er : r = st j + offs (leapN (1970 + j)) i + d) (hlt : r < 146097) :
    Ev (fun k => belvedereref04_Of.f k (146097 * q + (r : Int))) (((1970 + j : Nat) : Int) + 400 * q, ((i + 1 : Nat) : Int), ((d + 1 : Nat) : Int)) := by
  obtain ⟨k1, hk1⟩ := months q q0 q1 (1970 + j) i d (by omega) hi (offs (leapN (1970 + j))) (len (leapN (1970 + j))) (offs_next _) (offs_mono _) (fun m hm => offs_le _ m hm) (fun m hm => (len_le _ m hm).1) (len_f (1970 + j)) hd i 0 (Nat.zero_add _)
  have z0 : ∀ lp, offs lp 0 = 0 := fun lp => by cases lp <;> decide
  rw [z0, Nat.sub_zero] at hk1
  obtain ⟨k2, hk2⟩ := years q j (offs (leapN (1970 + j)) i + d) hj (in_year _ i d hi hd) _ st st_next st_mono (st_le j (Nat.le_of_lt hj)) ⟨k1 + 1, by rw [belvedereref04_Of.j1]; exact hk1⟩ j 0 (Nat.zero_add _)
  rw [st_zero, Nat.sub_zero, ← Nat.add_assoc, ← er] at hk2
  refine Ev.of (belvedereref04_Of.mono _) (k := k2) ?_
  unfold belvedereref04_Of.f
  rw [whole_f q q0 q1 r hlt, Option.bind_some]
  exact hk2
theorem year_low (q : Int) (j r : Nat) (hq : 146097 * q + (r : Int) ≥ -1) (hlt : r < 146097) (h : r = 146096 → j = 399) : 1969 ≤ ((1970 + j : Nat) : Int) + 400 * q := by
  by_cases hz : 0 ≤ q
  · omega
  · have hq1 : q = -1 := by omega
    subst hq1
    have e := h (by omega)
    omega
theorem date_ev (D : Int) (h0 : -50000000000000 ≤ D) (h1 : D ≤ 54000000000000) : ∃ (y : Int) (m d : Nat), civil_Of.f D = some (y, (m : Int), (d : Int), none) ∧ 1 ≤ m ∧ m ≤ 12 ∧ 1 ≤ d ∧ d ≤ 31 ∧ (D ≥ -1 → 1969 ≤ y) ∧ y ≤ 300000000000 ∧ Ev (fun k => belvedereref04_Of.f k D) (y, (m : Int), (d : Int)) := by
  obtain ⟨r, hr⟩ : ∃ r : Nat, (r : Int) = D % 146097 := ⟨(D % 146097).toNat, by omega⟩
  obtain ⟨q, hq⟩ : ∃ q, D / 146097 = q := ⟨_, rfl⟩
  have eD : D = 146097 * q + (r : Int) := by omega
  have hlt : r < 146097 := by omega
  have q0 : -400000000 ≤ q := by omega
  have q1 : q ≤ 400000000 := by omega
  clear hr hq
  subst eD
  obtain ⟨j, i, d, hj, hi, hd, er⟩ := find_day r hlt
  have hl := (len_le (leapN (1970 + j)) i hi).1
  have hy := in_year _ i d hi hd
  have hlast : r = 146096 → j = 399 := fun e => by
    have ha : offs (leapN (1970 + j)) i + d < 366 := by
      cases hlp : leapN (1970 + j)
      · rw [hlp, cond_false] at hy; exact Nat.lt_trans hy (by decide)
      · rw [hlp, cond_true] at hy; exact hy
    exact (last_year j _ _ hj rfl ha (by rw [← Nat.add_assoc, ← er]; exact e)).2
  have hd31 : d + 1 ≤ 31 := Nat.lt_of_lt_of_le hd hl
  refine ⟨_, i + 1, d + 1, own_day q q0 q1 j i d r hj hi hd er hlt, Nat.succ_le_succ (Nat.zero_le _), hi, Nat.succ_le_succ (Nat.zero_le _), hd31, fun hge => year_low q j r hge hlt hlast, ?_, ref_day q q0 q1 j i d r hj hi hd er hlt⟩
  clear hd er hl hy hlast hd31
  omega
end Go.Proofs.YtegiikkbeknodaaDoor.PClk
