/- Plain mathematics of layers 4 and 6: days and dates of any year, the program's and the document's. -/
import Derived.Test.YtpagbmkdphdjoaaGreatDoorPClCal
import Derived.Test.YtpagbmkdphdjoaaGreatDoorRuAll
set_option linter.unusedVariables false
set_option linter.unusedSimpArgs false
namespace Go.Proofs.YtpagbmkdphdjoaaGreatDoor.PClk
open Go.RowKit Go.Proofs.YtpagbmkdphdjoaaGreatDoor.P Go.Proofs.YtpagbmkdphdjoaaGreatDoorW.PrintWords Go.Proofs.YtpagbmkdphdjoaaGreatDoorW.PrintLast Go.Proofs.YtpagbmkdphdjoaaGreatDoorW.PrintMore
theorem w64 {x : Int} (h0 : -9223372036854775808 ≤ x) (h1 : x ≤ 9223372036854775807) : wrap64 x = x := by unfold wrap64; omega
theorem tdn (a b : Nat) : Int.tdiv (a : Int) (b : Int) = ((a / b : Nat) : Int) := by
  rw [Int.tdiv_eq_ediv_of_nonneg (Int.natCast_nonneg a)]
  exact (Int.natCast_ediv a b).symm
theorem pb (r : Nat) : (r < 11017 ∧ pOf r = r + 135080 ∧ bOf r = 0) ∨ (11017 ≤ r ∧ pOf r = r - 11017 ∧ bOf r = 400) := by
  unfold pOf bOf
  rcases Nat.lt_or_ge r 11017 with h | h
  · have e : Nat.blt r 11017 = true := by rw [Nat.blt_eq]; exact h
    rw [e, cond_true, cond_true]
    exact .inl ⟨h, Eq.refl _, Eq.refl _⟩
  · have e : Nat.blt r 11017 = false := by
      cases hb : Nat.blt r 11017 with
      | false => exact Eq.refl _
      | true => rw [Nat.blt_eq] at hb; omega
    rw [e, cond_false, cond_false]
    exact .inr ⟨h, Eq.refl _, Eq.refl _⟩
theorem offs_mono (lp : Bool) : ∀ (n a : Nat), a + n ≤ 12 → offs lp a ≤ offs lp (a + n)
  | 0, a, _ => Nat.le_refl _
  | n + 1, a, h => by
    have h1 := offs_mono lp n a (by omega)
    have h2 := offs_next lp (a + n) (by omega)
    rw [show a + (n + 1) = a + n + 1 by omega, h2]
    omega
theorem st_mono : ∀ (n a : Nat), a + n ≤ 400 → st a ≤ st (a + n)
  | 0, a, _ => Nat.le_refl _
  | n + 1, a, h => by
    have h1 := st_mono n a (by omega)
    have h2 := st_next (a + n) (by omega)
    rw [show a + (n + 1) = a + n + 1 by omega, h2]
    omega
theorem len_le (lp : Bool) (i : Nat) (hi : i < 12) : len lp i ≤ 31 ∧ 28 ≤ len lp i := by
  have hc : i = 0 ∨ i = 1 ∨ i = 2 ∨ i = 3 ∨ i = 4 ∨ i = 5 ∨ i = 6 ∨ i = 7 ∨ i = 8 ∨ i = 9 ∨ i = 10 ∨ i = 11 := by omega
  rcases hc with rfl | rfl | rfl | rfl | rfl | rfl | rfl | rfl | rfl | rfl | rfl | rfl <;> cases lp <;> decide
theorem offs_le (lp : Bool) (i : Nat) (hi : i < 13) : offs lp i ≤ 366 := by
  have h := offs_mono lp (12 - i) i (by omega)
  rw [show i + (12 - i) = 12 by omega] at h
  have : offs lp 12 ≤ 366 := by cases lp <;> decide
  omega
theorem h12 (lp : Bool) : offs lp 12 = (bif lp then 366 else 365) := by cases lp <;> decide
theorem in_year (lp : Bool) (i d : Nat) (hi : i < 12) (hd : d < len lp i) : offs lp i + d < (bif lp then 366 else 365) := by
  have h1 := offs_next lp i hi
  have h2 := offs_mono lp (12 - (i + 1)) (i + 1) (by omega)
  rw [show i + 1 + (12 - (i + 1)) = 12 by omega, h12, h1] at h2
  obtain ⟨A, hA⟩ : ∃ A, offs lp i = A := ⟨_, rfl⟩
  obtain ⟨B, hB⟩ : ∃ B, len lp i = B := ⟨_, rfl⟩
  rw [hA, hB] at h2
  rw [hA]
  rw [hB] at hd
  clear h1
  cases lp
  · rw [cond_false] at h2 ⊢; omega
  · rw [cond_true] at h2 ⊢; omega
theorem st_le (J : Nat) (hJ : J ≤ 400) : st J ≤ 146097 := by
  have := st_mono (400 - J) J (by omega)
  rw [show J + (400 - J) = 400 by omega, st_end] at this
  exact this

/-! Days and their dates. -/
def Yr (q : Int) (j : Nat) : Int := ((1970 + j : Nat) : Int) + 400 * q
structure At (D q : Int) (j i d : Nat) : Prop where
  eq : D = 146097 * q + ((st j + offs (leapN (1970 + j)) i + d : Nat) : Int)
  hj : j < 400
  hi : i < 12
  hd : d < len (leapN (1970 + j)) i
  q0 : -700000000 ≤ q
  q1 : q ≤ 700000000
theorem lt_help {S O d L Z : Nat} (h1 : O + d < L) (h2 : Z = S + L) (h3 : Z ≤ 146097) : S + O + d < 146097 := by omega
theorem At.lt {D q : Int} {j i d : Nat} (h : At D q j i d) : st j + offs (leapN (1970 + j)) i + d < 146097 :=
  lt_help (in_year _ i d h.hi h.hd) (st_next j h.hj) (st_le (j + 1) (by have := h.hj; omega))
theorem same_help {D q : Int} {S O d x : Nat} (h : D = 146097 * q + ((S + O + d : Nat) : Int)) : D - (d : Int) + (x : Int) = 146097 * q + ((S + O + x : Nat) : Int) := by omega
theorem At.same {D q : Int} {j i d : Nat} (h : At D q j i d) {x : Nat} (hx : x < len (leapN (1970 + j)) i) : At (D - (d : Int) + (x : Int)) q j i x :=
  ⟨same_help h.eq, h.hj, h.hi, hx, h.q0, h.q1⟩
theorem tz (a b : Int) : Int.tmod a b = 0 ↔ a % b = 0 := ⟨fun h => Int.emod_eq_zero_of_dvd (Int.dvd_of_tmod_eq_zero h), fun h => Int.tmod_eq_zero_of_dvd (Int.dvd_of_emod_eq_zero h)⟩
theorem tzb (a b : Int) : (Int.tmod a b == 0) = decide (a % b = 0) := by
  by_cases h : a % b = 0
  · rw [(tz a b).2 h, decide_eq_true h]; rfl
  · have h2 : ¬ Int.tmod a b = 0 := fun e => h ((tz a b).1 e)
    rw [decide_eq_false h]; simpa using h2
theorem leapN_eq (y : Nat) : leapN y = (decide (y % 4 = 0) && (!decide (y % 100 = 0) || decide (y % 400 = 0))) := by
  unfold leapN
  by_cases h1 : y % 400 = 0
  · rw [h1, show y % 4 = 0 by omega, show y % 100 = 0 by omega]; rfl
  · by_cases h2 : y % 4 = 0
    · by_cases h3 : y % 100 = 0
      · simp [h1, h2, h3]
      · simp [h1, h2, h3]
    · simp [h1, h2]
theorem leap_y (y q : Int) (j : Nat) (e : y = ((1970 + j : Nat) : Int) + 400 * q) : civil_Leap.f y = some (leapN (1970 + j)) := by
  obtain ⟨n, hn⟩ : ∃ n, 1970 + j = n := ⟨_, rfl⟩
  rw [hn] at e ⊢
  unfold civil_Leap.f
  rw [leapN_eq, tzb]
  by_cases h2 : n % 4 = 0
  · rw [if_pos ((tz _ _).2 (by omega)), decide_eq_true h2]
    by_cases h3 : n % 100 = 0
    · rw [if_pos ((tz _ _).2 (by omega)), decide_eq_true h3]
      by_cases h4 : n % 400 = 0
      · rw [decide_eq_true h4, decide_eq_true (by omega)]; rfl
      · rw [decide_eq_false h4, decide_eq_false (by omega)]; rfl
    · rw [if_neg (fun g => h3 (by have := (tz _ _).1 g; omega)), decide_eq_false h3]; rfl
  · rw [if_neg (fun g => h2 (by have := (tz _ _).1 g; omega)), decide_eq_false h2]; rfl
theorem rleap_y (y q : Int) (j : Nat) (e : y = ((1970 + j : Nat) : Int) + 400 * q) : r4_Leap.f y = some (leapN (1970 + j)) := by
  obtain ⟨n, hn⟩ : ∃ n, 1970 + j = n := ⟨_, rfl⟩
  rw [hn] at e ⊢
  unfold r4_Leap.f
  rw [leapN_eq, show (Int.tmod y 100 != 0) = !(Int.tmod y 100 == 0) from rfl, tzb]
  by_cases h4 : n % 400 = 0
  · rw [if_pos ((tz _ _).2 (by omega)), decide_eq_true h4, decide_eq_true (show n % 4 = 0 by omega), Bool.or_true]; rfl
  · rw [if_neg (fun g => h4 (by have := (tz _ _).1 g; omega)), decide_eq_false h4]
    by_cases h2 : n % 4 = 0
    · rw [if_pos ((tz _ _).2 (by omega)), decide_eq_true h2]
      by_cases h3 : n % 100 = 0
      · rw [decide_eq_true h3, decide_eq_true (by omega)]; rfl
      · rw [decide_eq_false h3, decide_eq_false (by omega)]; rfl
    · rw [if_neg (fun g => h2 (by have := (tz _ _).1 g; omega)), decide_eq_false h2]; rfl
theorem leap_at (q : Int) (j : Nat) : civil_Leap.f (Yr q j) = some (leapN (1970 + j)) := leap_y _ q j rfl
theorem length_yr (q : Int) (j i : Nat) (hi : i < 12) (h0 : -274877906944 ≤ Yr q j) (h1 : Yr q j ≤ 274877906944) (k : Nat) : civil_Length.f (k + 3) (Yr q j) ((i + 1 : Nat) : Int) = some (((len (leapN (1970 + j)) i : Nat) : Int), none) := by
  have hl := leap_at q j
  obtain ⟨y, hy⟩ : ∃ y, Yr q j = y := ⟨_, rfl⟩
  obtain ⟨lp, hlp⟩ : ∃ lp, leapN (1970 + j) = lp := ⟨_, rfl⟩
  rw [hy] at h0 h1 hl ⊢
  rw [hlp] at hl ⊢
  clear hy hlp
  unfold civil_Length.f
  rw [if_neg (by omega), if_neg (by omega), if_neg (by omega), decide_eq_false (by omega), civil_Length.j0, if_neg (by decide), hl]
  have hc : i = 0 ∨ i = 1 ∨ i = 2 ∨ i = 3 ∨ i = 4 ∨ i = 5 ∨ i = 6 ∨ i = 7 ∨ i = 8 ∨ i = 9 ∨ i = 10 ∨ i = 11 := by omega
  clear hl h0 h1 hi
  rcases hc with rfl | rfl | rfl | rfl | rfl | rfl | rfl | rfl | rfl | rfl | rfl | rfl <;> cases lp <;> first | (simp [civil_Length.j1, civil_Length.j2, len]; done) | (simp [civil_Length.j1, civil_Length.j2, len]; rfl)
theorem length_at {D q : Int} {j i d : Nat} (h : At D q j i d) (y0 : -274877906944 ≤ Yr q j) (y1 : Yr q j ≤ 274877906944) (k : Nat) : civil_Length.f (k + 3) (Yr q j) ((i + 1 : Nat) : Int) = some (((len (leapN (1970 + j)) i : Nat) : Int), none) :=
  length_yr q j i h.hi y0 y1 k
theorem mod_eq (a b : Int) (hb : 0 < b) (hb1 : b ≤ 1000000) (h0 : -1000000000000000 ≤ a) (h1 : a ≤ 1000000000000000) : civil_mod.f a b = some (a % b) := by
  have hm := Int.emod_nonneg a (show b ≠ 0 by omega)
  have hl := Int.emod_lt_of_pos a hb
  unfold civil_mod.f
  rw [if_neg (by omega)]
  by_cases ha : 0 ≤ a
  · rw [Int.tmod_eq_emod_of_nonneg ha, w64 (by omega) (by omega), Int.tmod_eq_emod_of_nonneg (by omega), Int.add_emod_right, Int.emod_emod_of_dvd _ (Int.dvd_refl b)]
  · obtain ⟨n, rfl⟩ : ∃ n : Nat, a = -(n : Int) := ⟨a.natAbs, by omega⟩
    have h2 := Int.emod_nonneg (n : Int) (show b ≠ 0 by omega)
    have h3 := Int.emod_lt_of_pos (n : Int) hb
    rw [Int.neg_tmod, Int.tmod_eq_emod_of_nonneg (Int.natCast_nonneg n), w64 (by omega) (by omega), Int.tmod_eq_emod_of_nonneg (by omega)]
    congr 1
    have e : -((n : Int) % b) + b = -(n : Int) + b * ((n : Int) / b + 1) := by
      have h4 := Int.emod_add_mul_ediv (n : Int) b
      have h5 : b * ((n : Int) / b + 1) = b * ((n : Int) / b) + b := by rw [Int.mul_add, Int.mul_one]
      omega
    rw [e, Int.add_mul_emod_self_left]
def wd (D : Int) : Int := (D + 4) % 7
theorem weekday_eq (D : Int) (h0 : -100000000000000 ≤ D) (h1 : D ≤ 100000000000000) : civil_Weekday.f D = some (wd D) := by
  unfold civil_Weekday.f wd
  rw [mod_eq D 7 (by decide) (by decide) (by omega) (by omega), Option.bind_some, w64 (by omega) (by omega), mod_eq _ 7 (by decide) (by decide) (by omega) (by omega), Option.bind_some]
  congr 1
  omega
theorem nY_le (p : Nat) (h : p < 146097) : nY p ≤ 399 := by unfold nY; omega
set_option maxRecDepth 100000 in
theorem nM_all : upto 400 (fun a => upto 366 (fun b => Nat.ble (nM (a * 366 + b)) 11)) = true := by decide +kernel
theorem nM_11 (p : Nat) (h : p < 146097) : nM p ≤ 11 := by
  have h1 := upto_all 366 _ (upto_all 400 _ nM_all (p / 366) (by omega)) (p % 366) (by omega)
  rw [show p / 366 * 366 + p % 366 = p by omega] at h1
  exact Nat.le_of_ble_eq_true h1
theorem days_arith (q : Int) (r p b yy mm C dd A B : Nat) (hp : (r < 11017 ∧ p = r + 135080 ∧ b = 0) ∨ (11017 ≤ r ∧ p = r - 11017 ∧ b = 400)) (h1 : 365 * yy + A - B ≤ p) (hAB : B ≤ A) (h2 : C + dd + 365 * yy + A = p + B) :
    (4 + (b : Int) / 400 + q) * 146097 + (yy : Int) * 365 + (A : Int) - (B : Int) + ((C : Int) + (dd : Int) + 1 - 1) - 719468 = 146097 * q + (r : Int) := by omega
theorem days_core (q y : Int) (yy mm d b r p : Nat) (q0 : -700000000 ≤ q) (q1 : q ≤ 700000000) (hy : y = 1600 + (yy : Int) + (b : Int) + 400 * q) (hyy : yy ≤ 399) (hmm : mm ≤ 21) (hd : d ≤ 31)
    (hp : (r < 11017 ∧ p = r + 135080 ∧ b = 0) ∨ (11017 ≤ r ∧ p = r - 11017 ∧ b = 400)) (hr : r < 146097) (h1 : 365 * yy + yy / 4 - yy / 100 ≤ p) (h2 : (153 * mm + 2) / 5 + d + 365 * yy + yy / 4 = p + yy / 100) :
    wrap64 ((wrap64 ((wrap64 ((wrap64 ((wrap64 ((wrap64 ((wrap64 (Int.tdiv (wrap64 (y - y % 400)) 400)) * 146097)) + (wrap64 (y % 400 * 365)))) + (wrap64 (Int.tdiv (y % 400) 4)))) - (wrap64 (Int.tdiv (y % 400) 100)))) + (wrap64 ((wrap64 ((wrap64 (Int.tdiv (wrap64 ((wrap64 (153 * (mm : Int))) + 2)) 5)) + ((d + 1 : Nat) : Int))) - 1)))) - 719468) = 146097 * q + (r : Int) := by
  have e1 : y % 400 = (yy : Int) := by
    rcases hp with ⟨_, _, rfl⟩ | ⟨_, _, rfl⟩ <;> omega
  have e2 : y - (yy : Int) = 400 * (4 + (b : Int) / 400 + q) := by
    rcases hp with ⟨_, _, rfl⟩ | ⟨_, _, rfl⟩ <;> omega
  obtain ⟨z, hz⟩ : ∃ z, 4 + (b : Int) / 400 + q = z := ⟨_, rfl⟩
  have hz0 : -710000000 ≤ z ∧ z ≤ 710000000 := by
    rcases hp with ⟨_, _, rfl⟩ | ⟨_, _, rfl⟩ <;> omega
  have e3 : Int.tdiv (400 * z) 400 = z := Int.mul_tdiv_cancel_left z (by decide)
  have t4 : Int.tdiv (yy : Int) 4 = ((yy / 4 : Nat) : Int) := tdn yy 4
  have t5 : Int.tdiv (yy : Int) 100 = ((yy / 100 : Nat) : Int) := tdn yy 100
  have t6 : Int.tdiv (153 * (mm : Int) + 2) 5 = (((153 * mm + 2) / 5 : Nat) : Int) := by
    rw [show 153 * (mm : Int) + 2 = ((153 * mm + 2 : Nat) : Int) by omega]; exact tdn _ 5
  have ha := days_arith q r p b yy mm ((153 * mm + 2) / 5) d (yy / 4) (yy / 100) hp h1 (by omega) (by omega)
  rw [hz] at ha e2
  obtain ⟨A, hA⟩ : ∃ A, yy / 4 = A := ⟨_, rfl⟩
  obtain ⟨B, hB⟩ : ∃ B, yy / 100 = B := ⟨_, rfl⟩
  obtain ⟨C, hC⟩ : ∃ C, (153 * mm + 2) / 5 = C := ⟨_, rfl⟩
  have bA : A ≤ 100 := by omega
  have bB : B ≤ 4 := by omega
  have bC : C ≤ 700 := by omega
  have hyb : -300000000000 ≤ y ∧ y ≤ 300000000000 := by
    rcases hp with ⟨_, _, rfl⟩ | ⟨_, _, rfl⟩ <;> omega
  rw [hA, hB, hC] at ha
  rw [hA] at t4
  rw [hB] at t5
  rw [hC] at t6
  rw [e1, e2, w64 (x := 400 * z) (by omega) (by omega), e3, w64 (x := z) (by omega) (by omega), w64 (x := z * 146097) (by omega) (by omega), w64 (x := (yy : Int) * 365) (by omega) (by omega), w64 (x := z * 146097 + (yy : Int) * 365) (by omega) (by omega), t4, t5, w64 (x := 153 * (mm : Int)) (by omega) (by omega), w64 (x := 153 * (mm : Int) + 2) (by omega) (by omega), t6]
  rw [w64 (x := (A : Int)) (by omega) (by omega), w64 (x := (B : Int)) (by omega) (by omega), w64 (x := (C : Int)) (by omega) (by omega), w64 (x := z * 146097 + (yy : Int) * 365 + (A : Int)) (by omega) (by omega), w64 (x := z * 146097 + (yy : Int) * 365 + (A : Int) - (B : Int)) (by omega) (by omega), w64 (x := (C : Int) + ((d + 1 : Nat) : Int)) (by omega) (by omega), w64 (x := (C : Int) + ((d + 1 : Nat) : Int) - 1) (by omega) (by omega), w64 (x := z * 146097 + (yy : Int) * 365 + (A : Int) - (B : Int) + ((C : Int) + ((d + 1 : Nat) : Int) - 1)) (by omega) (by omega), w64 (x := z * 146097 + (yy : Int) * 365 + (A : Int) - (B : Int) + ((C : Int) + ((d + 1 : Nat) : Int) - 1) - 719468) (by omega) (by omega)]
  rw [← ha]
  omega
theorem date_spec {j i d : Nat} (hj : j < 400) (hi : i < 12) (hd : d < len (leapN (1970 + j)) i) : ∃ p b yy mm : Nat, (let r := st j + offs (leapN (1970 + j)) i + d; (r < 11017 ∧ p = r + 135080 ∧ b = 0) ∨ (11017 ≤ r ∧ p = r - 11017 ∧ b = 400)) ∧
    365 * yy + yy / 4 - yy / 100 ≤ p ∧ (153 * mm + 2) / 5 + d + 365 * yy + yy / 4 = p + yy / 100 ∧ (p < 146097 → yy ≤ 399 ∧ mm ≤ 11) ∧ ((10 ≤ mm ∧ yy + 1 + b = 370 + j ∧ mm = i + 1 + 9) ∨ (mm < 10 ∧ yy + b = 370 + j ∧ mm + 3 = i + 1)) := by
  obtain ⟨h1, h2, h3, h4⟩ := okP_spec (day_ok j i d hj hi hd)
  obtain ⟨r, hr⟩ : ∃ r, st j + offs (leapN (1970 + j)) i + d = r := ⟨_, rfl⟩
  rw [hr] at h1 h2 h3 h4 ⊢
  have hpb := pb r
  obtain ⟨p, hp⟩ : ∃ p, pOf r = p := ⟨_, rfl⟩
  obtain ⟨b, hb⟩ : ∃ b, bOf r = b := ⟨_, rfl⟩
  rw [hp, hb] at hpb
  rw [hp] at h1 h2 h3
  rw [hp, hb] at h4
  have hyl : p < 146097 → nY p ≤ 399 ∧ nM p ≤ 11 := fun hp => ⟨nY_le p hp, nM_11 p hp⟩
  have eD : nD p = p - (365 * nY p + nY p / 4 - nY p / 100) := rfl
  have eE : nE p = nD p - (153 * nM p + 2) / 5 + 1 := rfl
  obtain ⟨yy, hyy⟩ : ∃ yy, nY p = yy := ⟨_, rfl⟩
  obtain ⟨mm, hmm⟩ : ∃ mm, nM p = mm := ⟨_, rfl⟩
  obtain ⟨dd, hdd⟩ : ∃ dd, nD p = dd := ⟨_, rfl⟩
  rw [hyy, hdd] at eD
  rw [h3, hmm, hdd] at eE
  rw [hyy] at h1
  rw [hyy, hmm] at hyl
  rw [hmm, hdd] at h2
  rw [hyy, hmm] at h4
  refine ⟨p, b, yy, mm, hpb, h1, ?_, hyl, h4⟩
  clear h3 h4 hpb hyl hyy hmm hdd hp hb hr hd
  omega
theorem days_at {D q : Int} {j i d : Nat} (h : At D q j i d) (y0 : -274877906944 ≤ Yr q j) (y1 : Yr q j ≤ 274877906944) (k : Nat) : civil_Days.f (k + 3) (Yr q j) ((i + 1 : Nat) : Int) ((d + 1 : Nat) : Int) = some (D, none) := by
  obtain ⟨p, b, yy, mm, hp, h1, h2, h3, h4⟩ := date_spec h.hj h.hi h.hd
  have hlt := h.lt
  have hD := h.eq
  have hl := len_le (leapN (1970 + j)) i h.hi
  have hd := h.hd
  have hq0 := h.q0
  have hq1 := h.q1
  have hi := h.hi
  have hj := h.hj
  have hlen := length_at h y0 y1 k
  obtain ⟨r, hr⟩ : ∃ r, st j + offs (leapN (1970 + j)) i + d = r := ⟨_, rfl⟩
  rw [hr] at hlt hD
  simp only [hr] at hp
  obtain ⟨L, hL⟩ : ∃ L, len (leapN (1970 + j)) i = L := ⟨_, rfl⟩
  rw [hL] at hl hd hlen
  clear hr hL h
  have hyr : Yr q j = ((1970 + j : Nat) : Int) + 400 * q := rfl
  obtain ⟨Y, hY⟩ : ∃ Y, Yr q j = Y := ⟨_, rfl⟩
  rw [hY] at hlen hyr y0 y1 ⊢
  clear hY
  have hp2 : p < 146097 := by omega
  obtain ⟨hyy, hmm⟩ := h3 hp2
  unfold civil_Days.f
  rw [hlen, Option.bind_some, if_pos (show (none : Option Int).isNone = true from rfl), if_neg (by omega), decide_eq_false (by show ¬ ((d + 1 : Nat) : Int) > ((L : Nat) : Int); omega), civil_Days.j0, if_neg (by decide), w64 (x := ((i + 1 : Nat) : Int) - 3) (by omega) (by omega)]
  rcases h4 with ⟨g1, g2, g3⟩ | ⟨g1, g2, g3⟩
  · have hb4 : b ≤ 400 := by omega
    rw [if_pos (by omega), w64 (x := Y - 1) (by omega) (by omega), mod_eq _ 400 (by decide) (by decide) (by omega) (by omega), Option.bind_some, w64 (x := ((i + 1 : Nat) : Int) - 3 + 12) (by omega) (by omega), show ((i + 1 : Nat) : Int) - 3 + 12 = (mm : Int) by omega]
    rw [days_core q (Y - 1) yy mm d b r p hq0 hq1 (by omega) hyy (by omega) (by omega) hp hlt h1 h2, hD]
  · rw [if_neg (by omega), mod_eq _ 400 (by decide) (by decide) (by omega) (by omega), Option.bind_some, show ((i + 1 : Nat) : Int) - 3 = (mm : Int) by omega]
    rw [days_core q Y yy mm d b r p hq0 hq1 (by omega) hyy (by omega) (by omega) hp hlt h1 h2, hD]
/-! The document's days and dates. -/
theorem rlen_y (y q : Int) (j i : Nat) (e : y = ((1970 + j : Nat) : Int) + 400 * q) (hi : i < 12) : r4_Length.f y ((i + 1 : Nat) : Int) = some ((len (leapN (1970 + j)) i : Nat) : Int) := by
  unfold r4_Length.f
  rw [rleap_y y q j e]
  clear e
  have hc : i = 0 ∨ i = 1 ∨ i = 2 ∨ i = 3 ∨ i = 4 ∨ i = 5 ∨ i = 6 ∨ i = 7 ∨ i = 8 ∨ i = 9 ∨ i = 10 ∨ i = 11 := by omega
  rcases hc with rfl | rfl | rfl | rfl | rfl | rfl | rfl | rfl | rfl | rfl | rfl | rfl <;> cases leapN (1970 + j) <;> decide +kernel
theorem leap_f (y : Nat) (h : 1970 ≤ y) : r4_Leap.f (y : Int) = some (leapN y) := by
  have := rleap_y (y : Int) 0 (y - 1970) (by omega)
  rwa [show 1970 + (y - 1970) = y by omega] at this
theorem len_f (y i : Nat) (h : 1970 ≤ y) (hi : i < 12) : r4_Length.f (y : Int) ((i + 1 : Nat) : Int) = some ((len (leapN y) i : Nat) : Int) := by
  have := rlen_y (y : Int) 0 (y - 1970) i (by omega) hi
  rwa [show 1970 + (y - 1970) = y by omega] at this
theorem whole_4 (q : Int) (q0 : -1000000000 ≤ q) (q1 : q ≤ 1000000000) (r : Nat) (hr : r < 400) : r4_whole.f (400 * q + (r : Int)) 400 = some (q, (r : Int)) := by
  unfold r4_whole.f
  rw [if_neg (by decide)]
  obtain ⟨D, hD⟩ : ∃ D, 400 * q + (r : Int) = D := ⟨_, rfl⟩
  rw [hD]
  by_cases h : 0 ≤ D
  · rw [Int.tmod_eq_emod_of_nonneg h, Int.tdiv_eq_ediv_of_nonneg h, if_neg (by omega), w64 (by omega) (by omega)]
    congr 2 <;> omega
  · obtain ⟨n, rfl⟩ : ∃ n : Nat, D = -(n : Int) := ⟨D.natAbs, by omega⟩
    rw [Int.neg_tmod, Int.neg_tdiv, Int.tmod_eq_emod_of_nonneg (Int.natCast_nonneg n), Int.tdiv_eq_ediv_of_nonneg (Int.natCast_nonneg n)]
    by_cases h0 : (n : Int) % 400 = 0
    · rw [if_neg (by omega), w64 (by omega) (by omega)]
      congr 2 <;> omega
    · have wa : wrap64 (-((n : Int) / 400)) = -((n : Int) / 400) := w64 (by omega) (by omega)
      rw [if_pos (by omega), wa, w64 (by omega) (by omega), w64 (by omega) (by omega)]
      congr 2 <;> omega
theorem dmonths (j : Nat) (hj : j < 400) (y d1 B : Int) (b0 : -110000000000000 ≤ B) (b1 : B ≤ 110000000000000) (d0 : 1 ≤ d1) (d2 : d1 ≤ 31) (M : Nat) (hM : M < 12) : ∀ (n i : Nat), i + n = M →
    ∃ k, r4_Days.l1 k (j : Int) (B + (offs (leapN (1970 + j)) i : Nat)) ((i + 1 : Nat) : Int) y ((M + 1 : Nat) : Int) d1 = some (B + (offs (leapN (1970 + j)) M : Nat) + d1 - 1)
  | 0, i, e => by
    have ho := offs_le (leapN (1970 + j)) i (by omega)
    obtain rfl : i = M := by omega
    obtain ⟨o, ho2⟩ : ∃ o, offs (leapN (1970 + j)) i = o := ⟨_, rfl⟩
    rw [ho2] at ho ⊢
    refine ⟨1, ?_⟩
    rw [r4_Days.l1, if_neg (by omega), w64 (x := B + (o : Nat) + d1) (by omega) (by omega), w64 (by omega) (by omega)]
  | n + 1, i, e => by
    obtain ⟨k, hk⟩ := dmonths j hj y d1 B b0 b1 d0 d2 M hM n (i + 1) (by omega)
    have ho := offs_le (leapN (1970 + j)) (i + 1) (by omega)
    have hn := offs_next (leapN (1970 + j)) i (by omega)
    have hlen := len_f (1970 + j) i (by omega) (by omega)
    have w1 : wrap64 (1970 + (j : Int)) = ((1970 + j : Nat) : Int) := by rw [w64 (by omega) (by omega)]; omega
    obtain ⟨o, ho2⟩ : ∃ o, offs (leapN (1970 + j)) i = o := ⟨_, rfl⟩
    obtain ⟨l, hl2⟩ : ∃ l, len (leapN (1970 + j)) i = l := ⟨_, rfl⟩
    rw [hn] at ho hk
    rw [ho2, hl2] at ho hk
    rw [hl2] at hlen
    rw [ho2]
    refine ⟨k + 1, ?_⟩
    rw [r4_Days.l1, if_pos (by omega), w1, hlen, Option.bind_some, w64 (x := B + (o : Nat) + (l : Int)) (by omega) (by omega), w64 (x := ((i + 1 : Nat) : Int) + 1) (by omega) (by omega), show B + ((o : Nat) : Int) + (l : Int) = B + ((o + l : Nat) : Int) by omega, show ((i + 1 : Nat) : Int) + 1 = ((i + 1 + 1 : Nat) : Int) by omega]
    exact hk
theorem dyears (J : Nat) (hJ : J < 400) (y M d1 B res : Int) (b0 : -105000000000000 ≤ B) (b1 : B ≤ 105000000000000)
    (h : ∃ k, r4_Days.l1 k (J : Int) (B + (st J : Nat)) 1 y M d1 = some res) : ∀ (n j : Nat), j + n = J →
    ∃ k, r4_Days.l0 k (J : Int) (B + (st j : Nat)) ((1970 + j : Nat) : Int) y M d1 = some res
  | 0, j, e => by
    obtain ⟨k, hk⟩ := h
    obtain rfl : j = J := by omega
    refine ⟨k + 1, ?_⟩
    rw [r4_Days.l0, w64 (x := 1970 + (j : Int)) (by omega) (by omega), if_neg (by omega)]
    exact hk
  | n + 1, j, e => by
    obtain ⟨k, hk⟩ := dyears J hJ y M d1 B res b0 b1 h n (j + 1) (by omega)
    have hs := st_le (j + 1) (by omega)
    have hn := st_next j (by omega)
    obtain ⟨o, ho2⟩ : ∃ o, st j = o := ⟨_, rfl⟩
    rw [hn] at hs hk
    rw [ho2] at hs hk ⊢
    refine ⟨k + 1, ?_⟩
    rw [r4_Days.l0, w64 (x := 1970 + (J : Int)) (by omega) (by omega), if_pos (by omega), leap_f _ (by omega), Option.bind_some, w64 (x := ((1970 + j : Nat) : Int) + 1) (by omega) (by omega), show ((1970 + j : Nat) : Int) + 1 = ((1970 + (j + 1) : Nat) : Int) by omega]
    cases hl : leapN (1970 + j) with
    | true =>
      rw [hl, cond_true] at hs hk
      rw [if_pos rfl, w64 (x := B + (o : Nat) + 365) (by omega) (by omega), w64 (x := B + (o : Nat) + 365 + 1) (by omega) (by omega), show B + ((o : Nat) : Int) + 365 + 1 = B + ((o + 366 : Nat) : Int) by omega]
      exact hk
    | false =>
      rw [hl, cond_false] at hs hk
      rw [if_neg (by decide), w64 (x := B + (o : Nat) + 365) (by omega) (by omega), show B + ((o : Nat) : Int) + 365 = B + ((o + 365 : Nat) : Int) by omega]
      exact hk
theorem rdays_at {D q : Int} {j i d : Nat} (h : At D q j i d) : ∃ k, r4_Days.f k (Yr q j) ((i + 1 : Nat) : Int) ((d + 1 : Nat) : Int) = some D := by
  have hj := h.hj
  have hi := h.hi
  have hd := h.hd
  have hq0 := h.q0
  have hq1 := h.q1
  have hl := (len_le (leapN (1970 + j)) i hi).1
  have hs := st_le j (by omega)
  have z0 : ∀ lp, offs lp 0 = 0 := fun lp => by cases lp <;> decide
  obtain ⟨k1, hk1⟩ := dmonths j hj (Yr q j) ((d + 1 : Nat) : Int) (146097 * q + (st j : Nat)) (by omega) (by omega) (by omega) (by omega) i hi i 0 (Nat.zero_add _)
  rw [z0, show (146097 * q + ((st j : Nat) : Int) + ((0 : Nat) : Int)) = 146097 * q + ((st j : Nat) : Int) by omega] at hk1
  obtain ⟨k2, hk2⟩ := dyears j hj (Yr q j) ((i + 1 : Nat) : Int) ((d + 1 : Nat) : Int) (146097 * q) _ (by omega) (by omega) ⟨k1, hk1⟩ j 0 (Nat.zero_add _)
  rw [st_zero, show 146097 * q + ((0 : Nat) : Int) = 146097 * q by omega] at hk2
  have hw := whole_4 q (by omega) (by omega) j hj
  have hy : wrap64 (Yr q j - 1970) = 400 * q + (j : Int) := by
    unfold Yr
    rw [w64 (by omega) (by omega)]
    omega
  have he := h.eq
  refine ⟨k2, ?_⟩
  unfold r4_Days.f
  rw [hy]
  rw [hw, Option.bind_some]
  show r4_Days.l0 k2 (j : Int) (wrap64 (146097 * q)) 1970 _ _ _ = _
  rw [w64 (x := 146097 * q) (by omega) (by omega)]
  refine hk2.trans ?_
  congr 1
  rw [he]
  omega
end Go.Proofs.YtpagbmkdphdjoaaGreatDoor.PClk
