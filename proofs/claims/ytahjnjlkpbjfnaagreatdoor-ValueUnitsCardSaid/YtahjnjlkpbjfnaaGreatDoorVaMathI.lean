/- Plain mathematics of layer 10: what digits spell, and what Atoi says of them. -/
import Derived.Lib.AtoiAllCases
set_option linter.unusedVariables false
namespace Go.Proofs.YtahjnjlkpbjfnaaGreatDoor.PVal
open Go
def isDig (c : UInt8) : Bool := decide (48 ≤ c.toNat) && decide (c.toNat ≤ 57)
theorem isDig_iff {c : UInt8} : isDig c = true ↔ 48 ≤ c.toNat ∧ c.toNat ≤ 57 := by simp [isDig]
def val : Nat → List UInt8 → Nat
  | acc, [] => acc
  | acc, c :: r => val (acc * 10 + (c.toNat - 48)) r
theorem mul_up (a d p : Nat) : a * (10 * p) ≤ (a * 10 + d) * p := by
  rw [← Nat.mul_assoc, Nat.add_mul]; exact Nat.le_add_right _ _
theorem mul_dn (a d p : Nat) (h : d < 10) : (a * 10 + d + 1) * p ≤ (a + 1) * (10 * p) := by
  rw [← Nat.mul_assoc]; exact Nat.mul_le_mul_right p (by omega)
theorem val_ge (l : List UInt8) : ∀ acc : Nat, acc * 10 ^ l.length ≤ val acc l := by
  induction l with
  | nil => intro acc; rw [List.length_nil, Nat.pow_zero, Nat.mul_one]; exact Nat.le_refl _
  | cons c r ih =>
    intro acc
    have e : 10 ^ (c :: r).length = 10 * 10 ^ r.length := by rw [List.length_cons, Nat.pow_succ, Nat.mul_comm]
    have v : val acc (c :: r) = val (acc * 10 + (c.toNat - 48)) r := rfl
    rw [e, v]
    generalize 10 ^ r.length = p at ih ⊢
    generalize c.toNat - 48 = d
    exact Nat.le_trans (mul_up acc d p) (ih _)
theorem val_le (l : List UInt8) (acc : Nat) : acc ≤ val acc l := Nat.le_trans (Nat.le_mul_of_pos_right _ (Nat.pow_pos (by decide))) (val_ge l acc)
theorem val_lt (l : List UInt8) : ∀ acc : Nat, (∀ c ∈ l, isDig c = true) → val acc l < (acc + 1) * 10 ^ l.length := by
  induction l with
  | nil => intro acc _; rw [List.length_nil, Nat.pow_zero, Nat.mul_one]; exact Nat.lt_succ_self _
  | cons c r ih =>
    intro acc h
    have hc := isDig_iff.1 (h c (List.mem_cons_self ..))
    have e : 10 ^ (c :: r).length = 10 * 10 ^ r.length := by rw [List.length_cons, Nat.pow_succ, Nat.mul_comm]
    have v : val acc (c :: r) = val (acc * 10 + (c.toNat - 48)) r := rfl
    have hd : c.toNat - 48 < 10 := by omega
    have hr := fun a => ih a fun d hd => h d (List.mem_cons_of_mem _ hd)
    rw [e, v]
    clear hc h ih
    generalize 10 ^ r.length = p at hr ⊢
    generalize c.toNat - 48 = d at hd ⊢
    exact Nat.lt_of_lt_of_le (hr _) (mul_dn acc d p hd)
theorem step_nat (acc v d : Nat) (hv : acc * 10 + d ≤ v) : (1844674407370955162 ≤ acc → ¬ v < 18446744073709551616) ∧ (18446744073709551616 ≤ acc * 10 + d → ¬ v < 18446744073709551616) := by omega
theorem parse_dig (l : List UInt8) : ∀ acc : Nat, (∀ c ∈ l, isDig c = true) → acc < 18446744073709551616 → Lib.parseUint10 acc l = if val acc l < 18446744073709551616 then .ok (val acc l) else .range := by
  induction l with
  | nil =>
    intro acc _ ha
    rw [show val acc [] = acc from rfl, if_pos ha]; rfl
  | cons c r ih =>
    intro acc h ha
    have hc := isDig_iff.1 (h c (List.mem_cons_self ..))
    have v : val acc (c :: r) = val (acc * 10 + (c.toNat - 48)) r := rfl
    have hv := step_nat acc _ _ (val_le r (acc * 10 + (c.toNat - 48)))
    have hi := ih (acc * 10 + (c.toNat - 48)) (fun d hd => h d (List.mem_cons_of_mem _ hd))
    rw [Lib.parseUint10, if_pos hc, v]
    generalize c.toNat - 48 = d at hv hi ⊢
    generalize val (acc * 10 + d) r = x at hv hi ⊢
    by_cases h1 : 1844674407370955162 ≤ acc
    · rw [if_pos h1, if_neg (hv.1 h1)]
    · rw [if_neg h1]
      by_cases h2 : 18446744073709551616 ≤ acc * 10 + d
      · rw [if_pos h2, if_neg (hv.2 h2)]
      · rw [if_neg h2]
        exact hi (Nat.lt_of_not_le h2)
/-- Digits alone: what Atoi says. -/
theorem pow19 (n : Nat) (h : n ≤ 19) : 10 ^ n ≤ 10000000000000000000 := Nat.le_trans (Nat.pow_le_pow_right (by decide) h) (by decide)
theorem pow18 (n : Nat) (h : n ≤ 18) : 10 ^ n ≤ 1000000000000000000 := Nat.le_trans (Nat.pow_le_pow_right (by decide) h) (by decide)
theorem signless_at (v : Nat) (h : v < 18446744073709551616) : Lib.signless (if v < 18446744073709551616 then .ok v else .range) = if v < 9223372036854775808 then .ok (v : Int) else .range := by
  rw [if_pos h]
  by_cases hb : v < 9223372036854775808
  · rw [if_pos hb]; show (if 9223372036854775808 ≤ v then Lib.NumEnd.range else Lib.NumEnd.ok (v : Int)) = _; rw [if_neg (Nat.not_le_of_lt hb)]
  · rw [if_neg hb]; show (if 9223372036854775808 ≤ v then Lib.NumEnd.range else Lib.NumEnd.ok (v : Int)) = _; rw [if_pos (Nat.le_of_not_lt hb)]
theorem signed_at (v : Nat) (h : v < 9223372036854775808) : Lib.signed (if v < 18446744073709551616 then .ok v else .range) = .ok (-(v : Int)) := by
  rw [if_pos (Nat.lt_trans h (by decide))]
  show (if 9223372036854775808 < v then Lib.NumEnd.range else Lib.NumEnd.ok (-(v : Int))) = _
  rw [if_neg (Nat.not_lt_of_le (Nat.le_of_lt h))]
theorem dig_sign {c : UInt8} (h : isDig c = true) : c.toNat ≠ 43 ∧ c.toNat ≠ 45 := by
  have := isDig_iff.1 h
  omega
theorem atoi_pos (c : UInt8) (r : List UInt8) (h : ∀ d ∈ c :: r, isDig d = true) (hz : (c :: r).length ≤ 19) :
    Lib.atoiAll (c :: r) = (if val 0 (c :: r) < 9223372036854775808 then .ok (val 0 (c :: r) : Int) else .range) ∧ val 0 (c :: r) < 10000000000000000000 := by
  have hc := dig_sign (h c (List.mem_cons_self ..))
  have hv := val_lt (c :: r) 0 h
  have hp := pow19 _ hz
  rw [Nat.zero_add, Nat.one_mul] at hv
  have hw : val 0 (c :: r) < 10000000000000000000 := Nat.lt_of_lt_of_le hv hp
  refine ⟨?_, hw⟩
  rw [Lib.atoiAll_plain c r hc.1 hc.2]
  unfold Lib.parseMag
  rw [if_neg (List.cons_ne_nil c r), parse_dig _ 0 h (by decide)]
  exact signless_at _ (Nat.lt_trans hw (by decide))
theorem atoi_neg (r : List UInt8) (h : ∀ d ∈ r, isDig d = true) (hn : r ≠ []) (hz : r.length ≤ 18) :
    Lib.atoiAll (45 :: r) = .ok (-(val 0 r : Int)) ∧ val 0 r < 1000000000000000000 := by
  have hv := val_lt r 0 h
  have hp := pow18 _ hz
  rw [Nat.zero_add, Nat.one_mul] at hv
  have hw : val 0 r < 1000000000000000000 := Nat.lt_of_lt_of_le hv hp
  refine ⟨?_, hw⟩
  rw [Lib.atoiAll_minus]
  unfold Lib.parseMag
  rw [if_neg hn, parse_dig _ 0 h (by decide)]
  exact signed_at _ (Nat.lt_trans hw (by decide))
end Go.Proofs.YtahjnjlkpbjfnaaGreatDoor.PVal
