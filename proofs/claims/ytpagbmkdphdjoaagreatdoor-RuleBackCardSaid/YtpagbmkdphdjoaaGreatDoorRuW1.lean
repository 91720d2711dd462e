/- Plain mathematics of layers 4 and 6: days and dates of any year, the program's. -/
import Derived.Test.YtpagbmkdphdjoaaGreatDoorPClCal
import Derived.Test.YtpagbmkdphdjoaaGreatDoorPx6
set_option linter.unusedVariables false
set_option linter.unusedSimpArgs false
namespace Go.Proofs.YtpagbmkdphdjoaaGreatDoor.PClk
open Go.RowKit Go.Proofs.YtpagbmkdphdjoaaGreatDoor.P Go.Proofs.YtpagbmkdphdjoaaGreatDoorW.PrintWords Go.Proofs.YtpagbmkdphdjoaaGreatDoorW.PrintLast Go.Proofs.YtpagbmkdphdjoaaGreatDoorW.PrintMore
theorem w64 {x : Int} (h0 : -9223372036854775808 ≤ x) (h1 : x ≤ 9223372036854775807) : wrap64 x = x := by unfold wrap64; omega
theorem tdn (a b : Nat) : Int.tdiv (a : Int) (b : Int) = ((a / b : Nat) : Int) := by
  rw [Int.tdiv_eq_ediv_of_nonneg (Int.natCast_nonneg a)]
  exact (Int.natCast_ediv a b).symm
theorem tmn (a b : Nat) : Int.tmod (a : Int) (b : Int) = ((a % b : Nat) : Int) := by
  rw [Int.tmod_eq_emod_of_nonneg (Int.natCast_nonneg a)]
  exact (Int.natCast_emod a b).symm
theorem ofs (p : Nat) (hp : p < 146097) (h1 : 365 * nY p + nY p / 4 - nY p / 100 ≤ p) (h2 : (153 * nM p + 2) / 5 ≤ nD p) :
    ofM (p : Int) = (nM p : Int) ∧ ofY (p : Int) = (nY p : Int) ∧ ofE (p : Int) = (nE p : Int) := by
  have t1 : Int.tdiv (p : Int) 1460 = ((p / 1460 : Nat) : Int) := tdn p 1460
  have t2 : Int.tdiv (p : Int) 36524 = ((p / 36524 : Nat) : Int) := tdn p 36524
  have t3 : Int.tdiv (p : Int) 146096 = ((p / 146096 : Nat) : Int) := tdn p 146096
  have ey : ofY (p : Int) = (nY p : Int) := by
    unfold ofY nY
    rw [t1, t2, t3, show (p : Int) - ((p / 1460 : Nat) : Int) + ((p / 36524 : Nat) : Int) - ((p / 146096 : Nat) : Int) = ((p - p / 1460 + p / 36524 - p / 146096 : Nat) : Int) by omega]
    exact tdn _ 365
  have t4 : Int.tdiv (nY p : Int) 4 = ((nY p / 4 : Nat) : Int) := tdn _ 4
  have t5 : Int.tdiv (nY p : Int) 100 = ((nY p / 100 : Nat) : Int) := tdn _ 100
  have ed : ofD (p : Int) = (nD p : Int) := by
    unfold ofD nD
    rw [ey, t4, t5]
    omega
  have em : ofM (p : Int) = (nM p : Int) := by
    unfold ofM nM
    rw [ed, show 5 * (nD p : Int) + 2 = ((5 * nD p + 2 : Nat) : Int) by omega]
    exact tdn _ 153
  refine ⟨em, ey, ?_⟩
  unfold ofE nE
  rw [ed, em, show 153 * (nM p : Int) + 2 = ((153 * nM p + 2 : Nat) : Int) by omega, show Int.tdiv ((153 * nM p + 2 : Nat) : Int) 5 = (((153 * nM p + 2) / 5 : Nat) : Int) from tdn _ 5]
  omega
theorem pb (r : Nat) : (r < 11017 ∧ pOf r = r + 135080 ∧ bOf r = 0) ∨ (11017 ≤ r ∧ pOf r = r - 11017 ∧ bOf r = 400) := by
  unfold pOf bOf
  rcases Nat.lt_or_ge r 11017 with h | h
  · have e : Nat.blt r 11017 = true := by rw [Nat.blt_eq]; exact h
    rw [e, cond_true, cond_true]
    exact .inl ⟨h, Eq.refl _, Eq.refl _⟩
  · have e : Nat.blt r 11017 = false := by
      cases hb : Nat.blt r 11017 with
      | false => exact Eq.refl _
      | true => rw [Nat.blt_eq] at hb; omega
    rw [e, cond_false, cond_false]
    exact .inr ⟨h, Eq.refl _, Eq.refl _⟩
/-- The program's date. -/
theorem own_day (q : Int) (j i d r : Nat) (hj : j < 400) (hi : i < 12) (hd : d < len (leapN (1970 + j)) i) (b0 : -70368744177664 ≤ 146097 * q + (r : Int)) (b1 : 146097 * q + (r : Int) ≤ 70368744177664) (hr : r = st j + offs (leapN (1970 + j)) i + d) (hlt : r < 146097) :
    civil_Of.f (146097 * q + (r : Int)) = some (((1970 + j : Nat) : Int) + 400 * q, ((i + 1 : Nat) : Int), ((d + 1 : Nat) : Int), none) := by
  obtain ⟨h1, h2, h3, h4⟩ := okP_spec (day_ok j i d hj hi hd)
  rw [← hr] at h1 h2 h3 h4
  obtain ⟨p, hp⟩ : ∃ p, pOf r = p := ⟨_, rfl⟩
  obtain ⟨b, hb⟩ : ∃ b, bOf r = b := ⟨_, rfl⟩
  have hpb := pb r
  rw [hp, hb] at hpb
  rw [hp] at h1 h2 h3
  rw [hp, hb] at h4
  clear hr hp hb hd
  have hp2 : p < 146097 := by omega
  obtain ⟨em, ey, ee⟩ := ofs p hp2 h1 h2
  have g0 : ¬ (146097 * q + (r : Int) < (-70368744177664)) := by omega
  have g1 : ¬ (146097 * q + (r : Int) > 70368744177664) := by omega
  have eP : (146097 * q + (r : Int) + 719468) % 146097 = (p : Int) := by omega
  obtain ⟨c, hc⟩ : ∃ c, (146097 * q + (r : Int) + 719468) / 146097 = c := ⟨_, rfl⟩
  have ec : c * 400 = 400 * q + 1600 + (b : Int) := by omega
  unfold civil_Of.f
  rw [if_neg g0, if_neg g1, eP, hc, em, ey, ee, h3]
  clear g0 g1 eP hc em ey ee h3 h1 h2
  rcases h4 with ⟨k1, k2, k3⟩ | ⟨k1, k2, k3⟩
  · rw [if_pos (by omega)]
    simp only [Option.some.injEq, Prod.mk.injEq, and_true]
    refine ⟨?_, ?_⟩ <;> omega
  · rw [if_neg (by omega)]
    simp only [Option.some.injEq, Prod.mk.injEq, and_true]
    refine ⟨?_, ?_⟩ <;> omega
theorem offs_mono (lp : Bool) : ∀ (n a : Nat), a + n ≤ 12 → offs lp a ≤ offs lp (a + n)
  | 0, a, _ => Nat.le_refl _
  | n + 1, a, h => by
    have h1 := offs_mono lp n a (by omega)
    have h2 := offs_next lp (a + n) (by omega)
    rw [show a + (n + 1) = a + n + 1 by omega, h2]
    omega
theorem st_mono : ∀ (n a : Nat), a + n ≤ 400 → st a ≤ st (a + n)
  | 0, a, _ => Nat.le_refl _
  | n + 1, a, h => by
    have h1 := st_mono n a (by omega)
    have h2 := st_next (a + n) (by omega)
    rw [show a + (n + 1) = a + n + 1 by omega, h2]
    omega
theorem len_le (lp : Bool) (i : Nat) (hi : i < 12) : len lp i ≤ 31 ∧ 28 ≤ len lp i := by
  have hc : i = 0 ∨ i = 1 ∨ i = 2 ∨ i = 3 ∨ i = 4 ∨ i = 5 ∨ i = 6 ∨ i = 7 ∨ i = 8 ∨ i = 9 ∨ i = 10 ∨ i = 11 := by omega
  rcases hc with rfl | rfl | rfl | rfl | rfl | rfl | rfl | rfl | rfl | rfl | rfl | rfl <;> cases lp <;> decide
theorem offs_le (lp : Bool) (i : Nat) (hi : i < 13) : offs lp i ≤ 366 := by
  have h := offs_mono lp (12 - i) i (by omega)
  rw [show i + (12 - i) = 12 by omega] at h
  have : offs lp 12 ≤ 366 := by cases lp <;> decide
  omega
theorem h12 (lp : Bool) : offs lp 12 = (bif lp then 366 else 365) := by cases lp <;> decide
theorem in_year (lp : Bool) (i d : Nat) (hi : i < 12) (hd : d < len lp i) : offs lp i + d < (bif lp then 366 else 365) := by
  have h1 := offs_next lp i hi
  have h2 := offs_mono lp (12 - (i + 1)) (i + 1) (by omega)
  rw [show i + 1 + (12 - (i + 1)) = 12 by omega, h12, h1] at h2
  obtain ⟨A, hA⟩ : ∃ A, offs lp i = A := ⟨_, rfl⟩
  obtain ⟨B, hB⟩ : ∃ B, len lp i = B := ⟨_, rfl⟩
  rw [hA, hB] at h2
  rw [hA]
  rw [hB] at hd
  clear h1
  cases lp
  · rw [cond_false] at h2 ⊢; omega
  · rw [cond_true] at h2 ⊢; omega
theorem st_le (J : Nat) (hJ : J ≤ 400) : st J ≤ 146097 := by
  have := st_mono (400 - J) J (by omega)
  rw [show J + (400 - J) = 400 by omega, st_end] at this
  exact this

/-! Days and their dates. -/
def Yr (q : Int) (j : Nat) : Int := ((1970 + j : Nat) : Int) + 400 * q
structure At (D q : Int) (j i d : Nat) : Prop where
  eq : D = 146097 * q + ((st j + offs (leapN (1970 + j)) i + d : Nat) : Int)
  hj : j < 400
  hi : i < 12
  hd : d < len (leapN (1970 + j)) i
  q0 : -700000000 ≤ q
  q1 : q ≤ 700000000
theorem lt_help {S O d L Z : Nat} (h1 : O + d < L) (h2 : Z = S + L) (h3 : Z ≤ 146097) : S + O + d < 146097 := by omega
theorem At.lt {D q : Int} {j i d : Nat} (h : At D q j i d) : st j + offs (leapN (1970 + j)) i + d < 146097 :=
  lt_help (in_year _ i d h.hi h.hd) (st_next j h.hj) (st_le (j + 1) (by have := h.hj; omega))
theorem at_help {D : Int} {r : Nat} {q : Int} (hr : (r : Int) = D % 146097) (hq : D / 146097 = q) : D = 146097 * q + (r : Int) := by omega
theorem at_ex {D : Int} (h0 : -100000000000000 ≤ D) (h1 : D ≤ 100000000000000) : ∃ q j i d, At D q j i d := by
  obtain ⟨r, hr⟩ : ∃ r : Nat, (r : Int) = D % 146097 := ⟨(D % 146097).toNat, by omega⟩
  obtain ⟨q, hq⟩ : ∃ q, D / 146097 = q := ⟨_, rfl⟩
  have hlt : r < 146097 := by omega
  have q0 : -700000000 ≤ q := by omega
  have q1 : q ≤ 700000000 := by omega
  obtain ⟨j, i, d, hj, hi, hd, er⟩ := find_day r hlt
  exact ⟨q, j, i, d, by rw [← er]; exact at_help hr hq, hj, hi, hd, q0, q1⟩
theorem of_at {D q : Int} {j i d : Nat} (h : At D q j i d) (b0 : -70368744177664 ≤ D) (b1 : D ≤ 70368744177664) : civil_Of.f D = some (Yr q j, ((i + 1 : Nat) : Int), ((d + 1 : Nat) : Int), none) := by
  have e := own_day q j i d (st j + offs (leapN (1970 + j)) i + d) h.hj h.hi h.hd
  rw [← h.eq] at e
  exact e b0 b1 rfl h.lt
theorem same_help {D q : Int} {S O d x : Nat} (h : D = 146097 * q + ((S + O + d : Nat) : Int)) : D - (d : Int) + (x : Int) = 146097 * q + ((S + O + x : Nat) : Int) := by omega
theorem At.same {D q : Int} {j i d : Nat} (h : At D q j i d) {x : Nat} (hx : x < len (leapN (1970 + j)) i) : At (D - (d : Int) + (x : Int)) q j i x :=
  ⟨same_help h.eq, h.hj, h.hi, hx, h.q0, h.q1⟩
theorem yr_bd {D q : Int} {j i d : Nat} (h : At D q j i d) : -300000000000 ≤ Yr q j ∧ Yr q j ≤ 300000000000 := by
  have h1 := h.q0
  have h2 := h.q1
  have h3 := h.hj
  unfold Yr
  omega
theorem tz (a b : Int) : Int.tmod a b = 0 ↔ a % b = 0 := ⟨fun h => Int.emod_eq_zero_of_dvd (Int.dvd_of_tmod_eq_zero h), fun h => Int.tmod_eq_zero_of_dvd (Int.dvd_of_emod_eq_zero h)⟩
theorem tzb (a b : Int) : (Int.tmod a b == 0) = decide (a % b = 0) := by
  by_cases h : a % b = 0
  · rw [(tz a b).2 h, decide_eq_true h]; rfl
  · have h2 : ¬ Int.tmod a b = 0 := fun e => h ((tz a b).1 e)
    rw [decide_eq_false h]; simpa using h2
theorem leapN_eq (y : Nat) : leapN y = (decide (y % 4 = 0) && (!decide (y % 100 = 0) || decide (y % 400 = 0))) := by
  unfold leapN
  by_cases h1 : y % 400 = 0
  · rw [h1, show y % 4 = 0 by omega, show y % 100 = 0 by omega]; rfl
  · by_cases h2 : y % 4 = 0
    · by_cases h3 : y % 100 = 0
      · simp [h1, h2, h3]
      · simp [h1, h2, h3]
    · simp [h1, h2]
theorem leap_y (y q : Int) (j : Nat) (e : y = ((1970 + j : Nat) : Int) + 400 * q) : civil_Leap.f y = some (leapN (1970 + j)) := by
  obtain ⟨n, hn⟩ : ∃ n, 1970 + j = n := ⟨_, rfl⟩
  rw [hn] at e ⊢
  unfold civil_Leap.f
  rw [leapN_eq, tzb]
  by_cases h2 : n % 4 = 0
  · rw [if_pos ((tz _ _).2 (by omega)), decide_eq_true h2]
    by_cases h3 : n % 100 = 0
    · rw [if_pos ((tz _ _).2 (by omega)), decide_eq_true h3]
      by_cases h4 : n % 400 = 0
      · rw [decide_eq_true h4, decide_eq_true (by omega)]; rfl
      · rw [decide_eq_false h4, decide_eq_false (by omega)]; rfl
    · rw [if_neg (fun g => h3 (by have := (tz _ _).1 g; omega)), decide_eq_false h3]; rfl
  · rw [if_neg (fun g => h2 (by have := (tz _ _).1 g; omega)), decide_eq_false h2]; rfl
theorem leap_at (q : Int) (j : Nat) : civil_Leap.f (Yr q j) = some (leapN (1970 + j)) := leap_y _ q j rfl
theorem length_yr (q : Int) (j i : Nat) (hi : i < 12) (h0 : -274877906944 ≤ Yr q j) (h1 : Yr q j ≤ 274877906944) (k : Nat) : civil_Length.f (k + 3) (Yr q j) ((i + 1 : Nat) : Int) = some (((len (leapN (1970 + j)) i : Nat) : Int), none) := by
  have hl := leap_at q j
  obtain ⟨y, hy⟩ : ∃ y, Yr q j = y := ⟨_, rfl⟩
  obtain ⟨lp, hlp⟩ : ∃ lp, leapN (1970 + j) = lp := ⟨_, rfl⟩
  rw [hy] at h0 h1 hl ⊢
  rw [hlp] at hl ⊢
  clear hy hlp
  unfold civil_Length.f
  rw [if_neg (by omega), if_neg (by omega), if_neg (by omega), decide_eq_false (by omega), civil_Length.j0, if_neg (by decide), hl]
  have hc : i = 0 ∨ i = 1 ∨ i = 2 ∨ i = 3 ∨ i = 4 ∨ i = 5 ∨ i = 6 ∨ i = 7 ∨ i = 8 ∨ i = 9 ∨ i = 10 ∨ i = 11 := by omega
  clear hl h0 h1 hi
  rcases hc with rfl | rfl | rfl | rfl | rfl | rfl | rfl | rfl | rfl | rfl | rfl | rfl <;> cases lp <;> first | (simp [civil_Length.j1, civil_Length.j2, len]; done) | (simp [civil_Length.j1, civil_Length.j2, len]; rfl)
theorem length_at {D q : Int} {j i d : Nat} (h : At D q j i d) (y0 : -274877906944 ≤ Yr q j) (y1 : Yr q j ≤ 274877906944) (k : Nat) : civil_Length.f (k + 3) (Yr q j) ((i + 1 : Nat) : Int) = some (((len (leapN (1970 + j)) i : Nat) : Int), none) :=
  length_yr q j i h.hi y0 y1 k
theorem mod_eq (a b : Int) (hb : 0 < b) (hb1 : b ≤ 1000000) (h0 : -1000000000000000 ≤ a) (h1 : a ≤ 1000000000000000) : civil_mod.f a b = some (a % b) := by
  have hm := Int.emod_nonneg a (show b ≠ 0 by omega)
  have hl := Int.emod_lt_of_pos a hb
  unfold civil_mod.f
  rw [if_neg (by omega)]
  by_cases ha : 0 ≤ a
  · rw [Int.tmod_eq_emod_of_nonneg ha, w64 (by omega) (by omega), Int.tmod_eq_emod_of_nonneg (by omega), Int.add_emod_right, Int.emod_emod_of_dvd _ (Int.dvd_refl b)]
  · obtain ⟨n, rfl⟩ : ∃ n : Nat, a = -(n : Int) := ⟨a.natAbs, by omega⟩
    have h2 := Int.emod_nonneg (n : Int) (show b ≠ 0 by omega)
    have h3 := Int.emod_lt_of_pos (n : Int) hb
    rw [Int.neg_tmod, Int.tmod_eq_emod_of_nonneg (Int.natCast_nonneg n), w64 (by omega) (by omega), Int.tmod_eq_emod_of_nonneg (by omega)]
    congr 1
    have e : -((n : Int) % b) + b = -(n : Int) + b * ((n : Int) / b + 1) := by
      have h4 := Int.emod_add_mul_ediv (n : Int) b
      have h5 : b * ((n : Int) / b + 1) = b * ((n : Int) / b) + b := by rw [Int.mul_add, Int.mul_one]
      omega
    rw [e, Int.add_mul_emod_self_left]
def wd (D : Int) : Int := (D + 4) % 7
theorem weekday_eq (D : Int) (h0 : -100000000000000 ≤ D) (h1 : D ≤ 100000000000000) : civil_Weekday.f D = some (wd D) := by
  unfold civil_Weekday.f wd
  rw [mod_eq D 7 (by decide) (by decide) (by omega) (by omega), Option.bind_some, w64 (by omega) (by omega), mod_eq _ 7 (by decide) (by decide) (by omega) (by omega), Option.bind_some]
  congr 1
  omega
theorem nY_le (p : Nat) (h : p < 146097) : nY p ≤ 399 := by unfold nY; omega
theorem nM_le {p m : Nat} (h : (10 ≤ nM p ∧ nM p = m + 9) ∨ (nM p < 10 ∧ nM p + 3 = m)) (hm : m ≤ 12) : nM p ≤ 21 := by omega
set_option maxRecDepth 100000 in
theorem nM_all : upto 400 (fun a => upto 366 (fun b => Nat.ble (nM (a * 366 + b)) 11)) = true := by decide +kernel
theorem nM_11 (p : Nat) (h : p < 146097) : nM p ≤ 11 := by
  have h1 := upto_all 366 _ (upto_all 400 _ nM_all (p / 366) (by omega)) (p % 366) (by omega)
  rw [show p / 366 * 366 + p % 366 = p by omega] at h1
  exact Nat.le_of_ble_eq_true h1
theorem days_arith (q : Int) (r p b yy mm C dd A B : Nat) (hp : (r < 11017 ∧ p = r + 135080 ∧ b = 0) ∨ (11017 ≤ r ∧ p = r - 11017 ∧ b = 400)) (h1 : 365 * yy + A - B ≤ p) (hAB : B ≤ A) (h2 : C + dd + 365 * yy + A = p + B) :
    (4 + (b : Int) / 400 + q) * 146097 + (yy : Int) * 365 + (A : Int) - (B : Int) + ((C : Int) + (dd : Int) + 1 - 1) - 719468 = 146097 * q + (r : Int) := by omega
theorem days_core (q y : Int) (yy mm d b r p : Nat) (q0 : -700000000 ≤ q) (q1 : q ≤ 700000000) (hy : y = 1600 + (yy : Int) + (b : Int) + 400 * q) (hyy : yy ≤ 399) (hmm : mm ≤ 21) (hd : d ≤ 31)
    (hp : (r < 11017 ∧ p = r + 135080 ∧ b = 0) ∨ (11017 ≤ r ∧ p = r - 11017 ∧ b = 400)) (hr : r < 146097) (h1 : 365 * yy + yy / 4 - yy / 100 ≤ p) (h2 : (153 * mm + 2) / 5 + d + 365 * yy + yy / 4 = p + yy / 100) :
    wrap64 ((wrap64 ((wrap64 ((wrap64 ((wrap64 ((wrap64 ((wrap64 (Int.tdiv (wrap64 (y - y % 400)) 400)) * 146097)) + (wrap64 (y % 400 * 365)))) + (wrap64 (Int.tdiv (y % 400) 4)))) - (wrap64 (Int.tdiv (y % 400) 100)))) + (wrap64 ((wrap64 ((wrap64 (Int.tdiv (wrap64 ((wrap64 (153 * (mm : Int))) + 2)) 5)) + ((d + 1 : Nat) : Int))) - 1)))) - 719468) = 146097 * q + (r : Int) := by
  have e1 : y % 400 = (yy : Int) := by
    rcases hp with ⟨_, _, rfl⟩ | ⟨_, _, rfl⟩ <;> omega
  have e2 : y - (yy : Int) = 400 * (4 + (b : Int) / 400 + q) := by
    rcases hp with ⟨_, _, rfl⟩ | ⟨_, _, rfl⟩ <;> omega
  obtain ⟨z, hz⟩ : ∃ z, 4 + (b : Int) / 400 + q = z := ⟨_, rfl⟩
  have hz0 : -710000000 ≤ z ∧ z ≤ 710000000 := by
    rcases hp with ⟨_, _, rfl⟩ | ⟨_, _, rfl⟩ <;> omega
  have e3 : Int.tdiv (400 * z) 400 = z := Int.mul_tdiv_cancel_left z (by decide)
  have t4 : Int.tdiv (yy : Int) 4 = ((yy / 4 : Nat) : Int) := tdn yy 4
  have t5 : Int.tdiv (yy : Int) 100 = ((yy / 100 : Nat) : Int) := tdn yy 100
  have t6 : Int.tdiv (153 * (mm : Int) + 2) 5 = (((153 * mm + 2) / 5 : Nat) : Int) := by
    rw [show 153 * (mm : Int) + 2 = ((153 * mm + 2 : Nat) : Int) by omega]; exact tdn _ 5
  have ha := days_arith q r p b yy mm ((153 * mm + 2) / 5) d (yy / 4) (yy / 100) hp h1 (by omega) (by omega)
  rw [hz] at ha e2
  obtain ⟨A, hA⟩ : ∃ A, yy / 4 = A := ⟨_, rfl⟩
  obtain ⟨B, hB⟩ : ∃ B, yy / 100 = B := ⟨_, rfl⟩
  obtain ⟨C, hC⟩ : ∃ C, (153 * mm + 2) / 5 = C := ⟨_, rfl⟩
  have bA : A ≤ 100 := by omega
  have bB : B ≤ 4 := by omega
  have bC : C ≤ 700 := by omega
  have hyb : -300000000000 ≤ y ∧ y ≤ 300000000000 := by
    rcases hp with ⟨_, _, rfl⟩ | ⟨_, _, rfl⟩ <;> omega
  rw [hA, hB, hC] at ha
  rw [hA] at t4
  rw [hB] at t5
  rw [hC] at t6
  rw [e1, e2, w64 (x := 400 * z) (by omega) (by omega), e3, w64 (x := z) (by omega) (by omega), w64 (x := z * 146097) (by omega) (by omega), w64 (x := (yy : Int) * 365) (by omega) (by omega), w64 (x := z * 146097 + (yy : Int) * 365) (by omega) (by omega), t4, t5, w64 (x := 153 * (mm : Int)) (by omega) (by omega), w64 (x := 153 * (mm : Int) + 2) (by omega) (by omega), t6]
  rw [w64 (x := (A : Int)) (by omega) (by omega), w64 (x := (B : Int)) (by omega) (by omega), w64 (x := (C : Int)) (by omega) (by omega), w64 (x := z * 146097 + (yy : Int) * 365 + (A : Int)) (by omega) (by omega), w64 (x := z * 146097 + (yy : Int) * 365 + (A : Int) - (B : Int)) (by omega) (by omega), w64 (x := (C : Int) + ((d + 1 : Nat) : Int)) (by omega) (by omega), w64 (x := (C : Int) + ((d + 1 : Nat) : Int) - 1) (by omega) (by omega), w64 (x := z * 146097 + (yy : Int) * 365 + (A : Int) - (B : Int) + ((C : Int) + ((d + 1 : Nat) : Int) - 1)) (by omega) (by omega), w64 (x := z * 146097 + (yy : Int) * 365 + (A : Int) - (B : Int) + ((C : Int) + ((d + 1 : Nat) : Int) - 1) - 719468) (by omega) (by omega)]
  rw [← ha]
  omega
theorem date_spec {j i d : Nat} (hj : j < 400) (hi : i < 12) (hd : d < len (leapN (1970 + j)) i) : ∃ p b yy mm : Nat, (let r := st j + offs (leapN (1970 + j)) i + d; (r < 11017 ∧ p = r + 135080 ∧ b = 0) ∨ (11017 ≤ r ∧ p = r - 11017 ∧ b = 400)) ∧
    365 * yy + yy / 4 - yy / 100 ≤ p ∧ (153 * mm + 2) / 5 + d + 365 * yy + yy / 4 = p + yy / 100 ∧ (p < 146097 → yy ≤ 399 ∧ mm ≤ 11) ∧ ((10 ≤ mm ∧ yy + 1 + b = 370 + j ∧ mm = i + 1 + 9) ∨ (mm < 10 ∧ yy + b = 370 + j ∧ mm + 3 = i + 1)) := by
  obtain ⟨h1, h2, h3, h4⟩ := okP_spec (day_ok j i d hj hi hd)
  obtain ⟨r, hr⟩ : ∃ r, st j + offs (leapN (1970 + j)) i + d = r := ⟨_, rfl⟩
  rw [hr] at h1 h2 h3 h4 ⊢
  have hpb := pb r
  obtain ⟨p, hp⟩ : ∃ p, pOf r = p := ⟨_, rfl⟩
  obtain ⟨b, hb⟩ : ∃ b, bOf r = b := ⟨_, rfl⟩
  rw [hp, hb] at hpb
  rw [hp] at h1 h2 h3
  rw [hp, hb] at h4
  have hyl : p < 146097 → nY p ≤ 399 ∧ nM p ≤ 11 := fun hp => ⟨nY_le p hp, nM_11 p hp⟩
  have eD : nD p = p - (365 * nY p + nY p / 4 - nY p / 100) := rfl
  have eE : nE p = nD p - (153 * nM p + 2) / 5 + 1 := rfl
  obtain ⟨yy, hyy⟩ : ∃ yy, nY p = yy := ⟨_, rfl⟩
  obtain ⟨mm, hmm⟩ : ∃ mm, nM p = mm := ⟨_, rfl⟩
  obtain ⟨dd, hdd⟩ : ∃ dd, nD p = dd := ⟨_, rfl⟩
  rw [hyy, hdd] at eD
  rw [h3, hmm, hdd] at eE
  rw [hyy] at h1
  rw [hyy, hmm] at hyl
  rw [hmm, hdd] at h2
  rw [hyy, hmm] at h4
  refine ⟨p, b, yy, mm, hpb, h1, ?_, hyl, h4⟩
  clear h3 h4 hpb hyl hyy hmm hdd hp hb hr hd
  omega
theorem days_at {D q : Int} {j i d : Nat} (h : At D q j i d) (y0 : -274877906944 ≤ Yr q j) (y1 : Yr q j ≤ 274877906944) (k : Nat) : civil_Days.f (k + 3) (Yr q j) ((i + 1 : Nat) : Int) ((d + 1 : Nat) : Int) = some (D, none) := by
  obtain ⟨p, b, yy, mm, hp, h1, h2, h3, h4⟩ := date_spec h.hj h.hi h.hd
  have hlt := h.lt
  have hD := h.eq
  have hl := len_le (leapN (1970 + j)) i h.hi
  have hd := h.hd
  have hq0 := h.q0
  have hq1 := h.q1
  have hi := h.hi
  have hj := h.hj
  have hlen := length_at h y0 y1 k
  obtain ⟨r, hr⟩ : ∃ r, st j + offs (leapN (1970 + j)) i + d = r := ⟨_, rfl⟩
  rw [hr] at hlt hD
  simp only [hr] at hp
  obtain ⟨L, hL⟩ : ∃ L, len (leapN (1970 + j)) i = L := ⟨_, rfl⟩
  rw [hL] at hl hd hlen
  clear hr hL h
  have hyr : Yr q j = ((1970 + j : Nat) : Int) + 400 * q := rfl
  obtain ⟨Y, hY⟩ : ∃ Y, Yr q j = Y := ⟨_, rfl⟩
  rw [hY] at hlen hyr y0 y1 ⊢
  clear hY
  have hp2 : p < 146097 := by omega
  obtain ⟨hyy, hmm⟩ := h3 hp2
  unfold civil_Days.f
  rw [hlen, Option.bind_some, if_pos (show (none : Option Int).isNone = true from rfl), if_neg (by omega), decide_eq_false (by show ¬ ((d + 1 : Nat) : Int) > ((L : Nat) : Int); omega), civil_Days.j0, if_neg (by decide), w64 (x := ((i + 1 : Nat) : Int) - 3) (by omega) (by omega)]
  rcases h4 with ⟨g1, g2, g3⟩ | ⟨g1, g2, g3⟩
  · have hb4 : b ≤ 400 := by omega
    rw [if_pos (by omega), w64 (x := Y - 1) (by omega) (by omega), mod_eq _ 400 (by decide) (by decide) (by omega) (by omega), Option.bind_some, w64 (x := ((i + 1 : Nat) : Int) - 3 + 12) (by omega) (by omega), show ((i + 1 : Nat) : Int) - 3 + 12 = (mm : Int) by omega]
    rw [days_core q (Y - 1) yy mm d b r p hq0 hq1 (by omega) hyy (by omega) (by omega) hp hlt h1 h2, hD]
  · rw [if_neg (by omega), mod_eq _ 400 (by decide) (by decide) (by omega) (by omega), Option.bind_some, show ((i + 1 : Nat) : Int) - 3 = (mm : Int) by omega]
    rw [days_core q Y yy mm d b r p hq0 hq1 (by omega) hyy (by omega) (by omega) hp hlt h1 h2, hD]
end Go.Proofs.YtpagbmkdphdjoaaGreatDoor.PClk
