/- Plain mathematics of the calendar: the days of the 400 years, each told by the one formula and by the document's months. -/
import Derived.Test.YtpagbmkdphdjoaaGreatDoorPx0
set_option linter.unusedVariables false
namespace Go.Proofs.YtpagbmkdphdjoaaGreatDoor.PClk
def leapN (y : Nat) : Bool := y % 400 == 0 || (y % 4 == 0 && y % 100 != 0)
def nY (p : Nat) : Nat := (p - p / 1460 + p / 36524 - p / 146096) / 365
def nD (p : Nat) : Nat := p - (365 * nY p + nY p / 4 - nY p / 100)
def nM (p : Nat) : Nat := (5 * nD p + 2) / 153
def nE (p : Nat) : Nat := nD p - (153 * nM p + 2) / 5 + 1
def pOf (r : Nat) : Nat := bif Nat.blt r 11017 then r + 135080 else r - 11017
def bOf (r : Nat) : Nat := bif Nat.blt r 11017 then 0 else 400
/-- What is asked of a place p of the cycle: year, month and day. -/
def okP (p b y m e : Nat) : Bool :=
  Nat.ble (365 * nY p + nY p / 4 - nY p / 100) p && (Nat.ble ((153 * nM p + 2) / 5) (nD p) && (Nat.beq (nE p) e &&
    (bif Nat.ble 10 (nM p) then Nat.beq (nY p + 1 + b) y && Nat.beq (nM p) (m + 9) else Nat.beq (nY p + b) y && Nat.beq (nM p + 3) m)))
def upto : Nat → (Nat → Bool) → Bool
  | 0, _ => true
  | n + 1, f => f n && upto n f
theorem upto_all : ∀ (n : Nat) (f : Nat → Bool), upto n f = true → ∀ i, i < n → f i = true
  | n + 1, f, h, i, hi => by
    have h2 : (f n && upto n f) = true := h
    rw [Bool.and_eq_true] at h2
    rcases Nat.lt_or_ge i n with hl | hl
    · exact upto_all n f h2.2 i hl
    · have : i = n := by omega
      rw [this]; exact h2.1
def offs (lp : Bool) (m : Nat) : Nat := (([0, 31, 59, 90, 120, 151, 181, 212, 243, 273, 304, 334, 365] : List Nat).getD m 0) + (bif lp && Nat.blt 1 m then 1 else 0)
def len (lp : Bool) (m : Nat) : Nat := (([31, 28, 31, 30, 31, 30, 31, 31, 30, 31, 30, 31] : List Nat).getD m 0) + (bif lp && Nat.beq m 1 then 1 else 0)
/-- A year's start. -/
def st (j : Nat) : Nat := 365 * j + (j + 1) / 4 - (j + 69) / 100 + (j + 369) / 400
def chkM (y S m L : Nat) : Bool := upto L fun d => okP (pOf (S + d)) (bOf (S + d)) y m (d + 1)
def chkY (j : Nat) : Bool := upto 12 fun i => chkM (370 + j) (st j + offs (leapN (1970 + j)) i) (i + 1) (len (leapN (1970 + j)) i)
set_option maxRecDepth 100000
theorem all0 : upto 80 (fun j => chkY j) = true := by decide +kernel
theorem all1 : upto 80 (fun j => chkY (80 + j)) = true := by decide +kernel
theorem all2 : upto 80 (fun j => chkY (160 + j)) = true := by decide +kernel
theorem all3 : upto 80 (fun j => chkY (240 + j)) = true := by decide +kernel
theorem all4 : upto 80 (fun j => chkY (320 + j)) = true := by decide +kernel
theorem year_ok (j : Nat) (hj : j < 400) : chkY j = true := by
  rcases Nat.lt_or_ge j 80 with h | h
  · exact upto_all 80 _ all0 j h
  rcases Nat.lt_or_ge j 160 with h1 | h1
  · have := upto_all 80 _ all1 (j - 80) (by omega); rwa [show 80 + (j - 80) = j by omega] at this
  rcases Nat.lt_or_ge j 240 with h2 | h2
  · have := upto_all 80 _ all2 (j - 160) (by omega); rwa [show 160 + (j - 160) = j by omega] at this
  rcases Nat.lt_or_ge j 320 with h3 | h3
  · have := upto_all 80 _ all3 (j - 240) (by omega); rwa [show 240 + (j - 240) = j by omega] at this
  · have := upto_all 80 _ all4 (j - 320) (by omega); rwa [show 320 + (j - 320) = j by omega] at this
theorem day_ok (j i d : Nat) (hj : j < 400) (hi : i < 12) (hd : d < len (leapN (1970 + j)) i) :
    okP (pOf (st j + offs (leapN (1970 + j)) i + d)) (bOf (st j + offs (leapN (1970 + j)) i + d)) (370 + j) (i + 1) (d + 1) = true :=
  upto_all _ _ (upto_all 12 _ (year_ok j hj) i hi) d hd
theorem st_next : ∀ j, j < 400 → st (j + 1) = st j + (bif leapN (1970 + j) then 366 else 365) := fun j hj => by
  have h : upto 400 (fun j => Nat.beq (st (j + 1)) (st j + (bif leapN (1970 + j) then 366 else 365))) = true := by decide +kernel
  exact Nat.eq_of_beq_eq_true (upto_all 400 _ h j hj)
theorem st_end : st 400 = 146097 := by decide +kernel
theorem st_zero : st 0 = 0 := by decide +kernel
theorem offs_next : ∀ (lp : Bool) (i : Nat), i < 12 → offs lp (i + 1) = offs lp i + len lp i := fun lp i hi => by
  have h : (upto 12 (fun i => Nat.beq (offs false (i + 1)) (offs false i + len false i)) && upto 12 (fun i => Nat.beq (offs true (i + 1)) (offs true i + len true i))) = true := by decide +kernel
  rw [Bool.and_eq_true] at h
  cases lp
  · exact Nat.eq_of_beq_eq_true (upto_all 12 _ h.1 i hi)
  · exact Nat.eq_of_beq_eq_true (upto_all 12 _ h.2 i hi)
theorem okP_spec {p b y m e : Nat} (h : okP p b y m e = true) : 365 * nY p + nY p / 4 - nY p / 100 ≤ p ∧ (153 * nM p + 2) / 5 ≤ nD p ∧ nE p = e ∧ ((10 ≤ nM p ∧ nY p + 1 + b = y ∧ nM p = m + 9) ∨ (nM p < 10 ∧ nY p + b = y ∧ nM p + 3 = m)) := by
  unfold okP at h
  rw [Bool.and_eq_true, Bool.and_eq_true, Bool.and_eq_true] at h
  obtain ⟨h1, h2, h3, h4⟩ := h
  refine ⟨Nat.le_of_ble_eq_true h1, Nat.le_of_ble_eq_true h2, Nat.eq_of_beq_eq_true h3, ?_⟩
  cases hb : Nat.ble 10 (nM p) with
  | true =>
    rw [hb, cond_true, Bool.and_eq_true] at h4
    exact .inl ⟨Nat.le_of_ble_eq_true hb, Nat.eq_of_beq_eq_true h4.1, Nat.eq_of_beq_eq_true h4.2⟩
  | false =>
    rw [hb, cond_false, Bool.and_eq_true] at h4
    refine .inr ⟨?_, Nat.eq_of_beq_eq_true h4.1, Nat.eq_of_beq_eq_true h4.2⟩
    rcases Nat.lt_or_ge (nM p) 10 with h | h
    · exact h
    · rw [Nat.ble_eq_true_of_le h] at hb; cases hb
end Go.Proofs.YtpagbmkdphdjoaaGreatDoor.PClk
