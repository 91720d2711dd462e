/- Plain mathematics of layer 10: what digits spell, and what Atoi says of them. -/
import Derived.Lib.AtoiAllCases
import Derived.Test.YtahjnjlkpbjfnaaGreatDoorVaSure
import Derived.Test.YtahjnjlkpbjfnaaGreatDoorPx7
set_option linter.unusedVariables false
namespace Go.Proofs.YtahjnjlkpbjfnaaGreatDoor.PVal
open Go
def isDig (c : UInt8) : Bool := decide (48 ≤ c.toNat) && decide (c.toNat ≤ 57)
theorem isDig_iff {c : UInt8} : isDig c = true ↔ 48 ≤ c.toNat ∧ c.toNat ≤ 57 := by simp [isDig]
def val : Nat → List UInt8 → Nat
  | acc, [] => acc
  | acc, c :: r => val (acc * 10 + (c.toNat - 48)) r
theorem mul_up (a d p : Nat) : a * (10 * p) ≤ (a * 10 + d) * p := by
  rw [← Nat.mul_assoc, Nat.add_mul]; exact Nat.le_add_right _ _
theorem mul_dn (a d p : Nat) (h : d < 10) : (a * 10 + d + 1) * p ≤ (a + 1) * (10 * p) := by
  rw [← Nat.mul_assoc]; exact Nat.mul_le_mul_right p (by omega)
theorem val_ge (l : List UInt8) : ∀ acc : Nat, acc * 10 ^ l.length ≤ val acc l := by
  induction l with
  | nil => intro acc; rw [List.length_nil, Nat.pow_zero, Nat.mul_one]; exact Nat.le_refl _
  | cons c r ih =>
    intro acc
    have e : 10 ^ (c :: r).length = 10 * 10 ^ r.length := by rw [List.length_cons, Nat.pow_succ, Nat.mul_comm]
    have v : val acc (c :: r) = val (acc * 10 + (c.toNat - 48)) r := rfl
    rw [e, v]
    generalize 10 ^ r.length = p at ih ⊢
    generalize c.toNat - 48 = d
    exact Nat.le_trans (mul_up acc d p) (ih _)
theorem val_le (l : List UInt8) (acc : Nat) : acc ≤ val acc l := Nat.le_trans (Nat.le_mul_of_pos_right _ (Nat.pow_pos (by decide))) (val_ge l acc)
theorem val_lt (l : List UInt8) : ∀ acc : Nat, (∀ c ∈ l, isDig c = true) → val acc l < (acc + 1) * 10 ^ l.length := by
  induction l with
  | nil => intro acc _; rw [List.length_nil, Nat.pow_zero, Nat.mul_one]; exact Nat.lt_succ_self _
  | cons c r ih =>
    intro acc h
    have hc := isDig_iff.1 (h c (List.mem_cons_self ..))
    have e : 10 ^ (c :: r).length = 10 * 10 ^ r.length := by rw [List.length_cons, Nat.pow_succ, Nat.mul_comm]
    have v : val acc (c :: r) = val (acc * 10 + (c.toNat - 48)) r := rfl
    have hd : c.toNat - 48 < 10 := by omega
    have hr := fun a => ih a fun d hd => h d (List.mem_cons_of_mem _ hd)
    rw [e, v]
    clear hc h ih
    generalize 10 ^ r.length = p at hr ⊢
    generalize c.toNat - 48 = d at hd ⊢
    exact Nat.lt_of_lt_of_le (hr _) (mul_dn acc d p hd)
theorem step_nat (acc v d : Nat) (hv : acc * 10 + d ≤ v) : (1844674407370955162 ≤ acc → ¬ v < 18446744073709551616) ∧ (18446744073709551616 ≤ acc * 10 + d → ¬ v < 18446744073709551616) := by omega
theorem parse_dig (l : List UInt8) : ∀ acc : Nat, (∀ c ∈ l, isDig c = true) → acc < 18446744073709551616 → Lib.parseUint10 acc l = if val acc l < 18446744073709551616 then .ok (val acc l) else .range := by
  induction l with
  | nil =>
    intro acc _ ha
    rw [show val acc [] = acc from rfl, if_pos ha]; rfl
  | cons c r ih =>
    intro acc h ha
    have hc := isDig_iff.1 (h c (List.mem_cons_self ..))
    have v : val acc (c :: r) = val (acc * 10 + (c.toNat - 48)) r := rfl
    have hv := step_nat acc _ _ (val_le r (acc * 10 + (c.toNat - 48)))
    have hi := ih (acc * 10 + (c.toNat - 48)) (fun d hd => h d (List.mem_cons_of_mem _ hd))
    rw [Lib.parseUint10, if_pos hc, v]
    generalize c.toNat - 48 = d at hv hi ⊢
    generalize val (acc * 10 + d) r = x at hv hi ⊢
    by_cases h1 : 1844674407370955162 ≤ acc
    · rw [if_pos h1, if_neg (hv.1 h1)]
    · rw [if_neg h1]
      by_cases h2 : 18446744073709551616 ≤ acc * 10 + d
      · rw [if_pos h2, if_neg (hv.2 h2)]
      · rw [if_neg h2]
        exact hi (Nat.lt_of_not_le h2)
/-- Digits alone: what Atoi says. -/
theorem pow19 (n : Nat) (h : n ≤ 19) : 10 ^ n ≤ 10000000000000000000 := Nat.le_trans (Nat.pow_le_pow_right (by decide) h) (by decide)
theorem pow18 (n : Nat) (h : n ≤ 18) : 10 ^ n ≤ 1000000000000000000 := Nat.le_trans (Nat.pow_le_pow_right (by decide) h) (by decide)
theorem signless_at (v : Nat) (h : v < 18446744073709551616) : Lib.signless (if v < 18446744073709551616 then .ok v else .range) = if v < 9223372036854775808 then .ok (v : Int) else .range := by
  rw [if_pos h]
  by_cases hb : v < 9223372036854775808
  · rw [if_pos hb]; show (if 9223372036854775808 ≤ v then Lib.NumEnd.range else Lib.NumEnd.ok (v : Int)) = _; rw [if_neg (Nat.not_le_of_lt hb)]
  · rw [if_neg hb]; show (if 9223372036854775808 ≤ v then Lib.NumEnd.range else Lib.NumEnd.ok (v : Int)) = _; rw [if_pos (Nat.le_of_not_lt hb)]
theorem signed_at (v : Nat) (h : v < 9223372036854775808) : Lib.signed (if v < 18446744073709551616 then .ok v else .range) = .ok (-(v : Int)) := by
  rw [if_pos (Nat.lt_trans h (by decide))]
  show (if 9223372036854775808 < v then Lib.NumEnd.range else Lib.NumEnd.ok (-(v : Int))) = _
  rw [if_neg (Nat.not_lt_of_le (Nat.le_of_lt h))]
theorem dig_sign {c : UInt8} (h : isDig c = true) : c.toNat ≠ 43 ∧ c.toNat ≠ 45 := by
  have := isDig_iff.1 h
  omega
theorem atoi_pos (c : UInt8) (r : List UInt8) (h : ∀ d ∈ c :: r, isDig d = true) (hz : (c :: r).length ≤ 19) :
    Lib.atoiAll (c :: r) = (if val 0 (c :: r) < 9223372036854775808 then .ok (val 0 (c :: r) : Int) else .range) ∧ val 0 (c :: r) < 10000000000000000000 := by
  have hc := dig_sign (h c (List.mem_cons_self ..))
  have hv := val_lt (c :: r) 0 h
  have hp := pow19 _ hz
  rw [Nat.zero_add, Nat.one_mul] at hv
  have hw : val 0 (c :: r) < 10000000000000000000 := Nat.lt_of_lt_of_le hv hp
  refine ⟨?_, hw⟩
  rw [Lib.atoiAll_plain c r hc.1 hc.2]
  unfold Lib.parseMag
  rw [if_neg (List.cons_ne_nil c r), parse_dig _ 0 h (by decide)]
  exact signless_at _ (Nat.lt_trans hw (by decide))
theorem atoi_neg (r : List UInt8) (h : ∀ d ∈ r, isDig d = true) (hn : r ≠ []) (hz : r.length ≤ 18) :
    Lib.atoiAll (45 :: r) = .ok (-(val 0 r : Int)) ∧ val 0 r < 1000000000000000000 := by
  have hv := val_lt r 0 h
  have hp := pow18 _ hz
  rw [Nat.zero_add, Nat.one_mul] at hv
  have hw : val 0 r < 1000000000000000000 := Nat.lt_of_lt_of_le hv hp
  refine ⟨?_, hw⟩
  rw [Lib.atoiAll_minus]
  unfold Lib.parseMag
  rw [if_neg hn, parse_dig _ 0 h (by decide)]
  exact signed_at _ (Nat.lt_trans hw (by decide))
end Go.Proofs.YtahjnjlkpbjfnaaGreatDoor.PVal

/- Plain mathematics of layer 10: the program's Int and the document's tell the same of every text. -/
set_option linter.unusedVariables false
set_option linter.unusedSimpArgs false
namespace Go.Proofs.YtahjnjlkpbjfnaaGreatDoor.PVal
open Go Go.RowKit Go.Proofs.YtahjnjlkpbjfnaaGreatDoor.P Go.Proofs.YtahjnjlkpbjfnaaGreatDoorW.PrintWords Go.Proofs.YtahjnjlkpbjfnaaGreatDoorW.PrintLast Go.Proofs.YtahjnjlkpbjfnaaGreatDoorW.PrintMore
theorem w64 {x : Int} (h0 : -9223372036854775808 ≤ x) (h1 : x ≤ 9223372036854775807) : wrap64 x = x := by unfold wrap64; omega
theorem u64w {n : Int} (h0 : 0 ≤ n) (h1 : n < 18446744073709551616) : IntKind.u64.wrap n = n := by unfold IntKind.wrap; simp [IntKind.bits, IntKind.signed]; omega
theorem size_l (s : ByteArray) : s.size = s.data.toList.length := Array.length_toList.symm
theorem toList_l (s : ByteArray) : s.toList = s.data.toList := ByteArray.toList_eq ..
theorem bt_l (s : ByteArray) (i : Nat) (h : i < s.data.toList.length) : bt s (i : Int) = ((s.data.toList[i]).toNat : Int) := by
  have hs : i < s.size := by rw [size_l]; exact h
  unfold bt
  rw [dif_pos (by simpa using hs)]
  rfl
theorem any_odd (l : List UInt8) : (l.map fun b => (b.toNat : Int)).any oddDigit = !(l.all isDig) := by
  induction l with
  | nil => rfl
  | cons c r ih =>
    rw [List.map_cons, List.any_cons, List.all_cons, ih, Bool.not_and]
    congr 1
    unfold oddDigit isDig
    rw [Bool.not_and, ← decide_not, ← decide_not]
    congr 1
    · exact decide_eq_decide.mpr (by omega)
    · exact decide_eq_decide.mpr (by omega)
/-- Whether a list is a number's digits. -/
def digL : List UInt8 → Bool → Bool
  | [], _ => false
  | c :: r, m => (c :: r).all isDig && (if c.toNat = 48 then decide (r = []) && !m else true)
theorem digOf_eq (t : ByteArray) (m : Bool) : digOf t m = digL t.data.toList m := by
  unfold digOf
  rw [toList_l, show bytesOf t = t.data.toList.map fun b => (b.toNat : Int) from rfl, any_odd]
  cases h : t.data.toList with
  | nil => rfl
  | cons c r =>
    have hb : bt t 0 = (c.toNat : Int) := by
      have := bt_l t 0 (by rw [h]; simp)
      simpa [h] using this
    rw [if_neg (List.cons_ne_nil c r), hb]
    show _ = ((c :: r).all isDig && (if c.toNat = 48 then decide (r = []) && !m else true))
    cases ha : (c :: r).all isDig with
    | false => rw [if_pos (by decide)]; rfl
    | true =>
      rw [if_neg (by decide), Bool.true_and]
      by_cases h48 : c.toNat = 48
      · rw [if_pos (by omega), if_pos h48]
        have hc : c = 48 := UInt8.toNat_inj.1 h48
        by_cases hr : r = []
        · rw [if_pos (by rw [hc, hr]), decide_eq_true hr, Bool.true_and]
        · rw [if_neg (fun e => hr (List.cons.inj e).2), decide_eq_false hr, Bool.false_and]
      · rw [if_neg (by omega), if_neg h48]
theorem bare_minus {s : ByteArray} {r : List UInt8} (h : s.data.toList = 45 :: r) : (bare s).data.toList = r ∧ minusOf s = true := by
  have hp : Lib.hasPrefix s.data.toList [45] = true := by rw [h]; simp [Lib.hasPrefix]
  refine ⟨?_, hp⟩
  show Lib.trimPrefix s.data.toList [45] = r
  unfold Lib.trimPrefix
  rw [if_pos hp, h]
  rfl
theorem bare_plain {s : ByteArray} {c : UInt8} {r : List UInt8} (h : s.data.toList = c :: r) (hc : c ≠ 45) : (bare s).data.toList = c :: r ∧ minusOf s = false := by
  have hp : Lib.hasPrefix s.data.toList [45] = false := by
    rw [h]
    show ((45 : UInt8) == c && _) = false
    rw [beq_eq_false_iff_ne.mpr (fun e => hc e.symm)]
    rfl
  refine ⟨?_, hp⟩
  show Lib.trimPrefix s.data.toList [45] = _
  unfold Lib.trimPrefix
  rw [hp, if_neg (by decide), h]
def fin (v lo hi : Int) : Int × Option Int := if v < lo then (0, some 5) else if v > hi then (0, some 5) else (v, none)
/-- What a list of bytes says between two bounds. -/
def intL (l : List UInt8) (lo hi : Int) : Int × Option Int := match l with
  | [] => (0, some 13)
  | c :: r => if c = 45 then (if digL r true = true then (if 19 < (c :: r).length then (0, some 3) else fin (-(val 0 r : Int)) lo hi) else (0, some 3))
    else (if digL (c :: r) false = true then (if 19 < (c :: r).length then (0, some 3) else if val 0 (c :: r) < 9223372036854775808 then fin (val 0 (c :: r) : Int) lo hi else (0, some 5)) else (0, some 3))
theorem digL_dig {l : List UInt8} {m : Bool} (h : digL l m = true) : l ≠ [] ∧ ∀ c ∈ l, isDig c = true := by
  cases l with
  | nil => cases h
  | cons c r =>
    unfold digL at h
    rw [Bool.and_eq_true] at h
    exact ⟨List.cons_ne_nil c r, List.all_eq_true.mp h.1⟩
theorem intOf_eq (s : ByteArray) (lo hi : Int) : Go.Proofs.YtahjnjlkpbjfnaaGreatDoor.P.intOf s lo hi = intL s.data.toList lo hi := by
  unfold Go.Proofs.YtahjnjlkpbjfnaaGreatDoor.P.intOf
  rw [toList_l, digOf_eq, size_l]
  cases h : s.data.toList with
  | nil => rfl
  | cons c r =>
    rw [if_neg (List.cons_ne_nil c r)]
    unfold intL
    by_cases hc : c = 45
    · subst hc
      obtain ⟨h1, h2⟩ := bare_minus h
      rw [h1, h2]
      simp only [if_true]
      cases hd : digL r true with
      | false => rw [if_pos rfl, if_neg (by decide)]
      | true =>
        rw [if_neg (by decide), if_pos rfl]
        obtain ⟨hn, hg⟩ := digL_dig hd
        by_cases hz : 19 < ((45 : UInt8) :: r).length
        · rw [if_pos hz, if_pos hz]
        · rw [if_neg hz, if_neg hz, (atoi_neg r hg hn (by simp at hz; omega)).1]
          rfl
    · obtain ⟨h1, h2⟩ := bare_plain h hc
      rw [h1, h2]
      show _ = (if c = 45 then (if digL r true = true then (if 19 < (c :: r).length then (0, some 3) else fin (-(val 0 r : Int)) lo hi) else (0, some 3))
        else (if digL (c :: r) false = true then (if 19 < (c :: r).length then (0, some 3) else if val 0 (c :: r) < 9223372036854775808 then fin (val 0 (c :: r) : Int) lo hi else (0, some 5)) else (0, some 3)))
      rw [if_neg hc]
      cases hd : digL (c :: r) false with
      | false => rw [if_pos rfl, if_neg (by decide)]
      | true =>
        rw [if_neg (by decide), if_pos rfl]
        obtain ⟨_, hg⟩ := digL_dig hd
        by_cases hz : 19 < (c :: r).length
        · rw [if_pos hz, if_pos hz]
        · rw [if_neg hz, if_neg hz, (atoi_pos c r hg (by omega)).1]
          by_cases hb : val 0 (c :: r) < 9223372036854775808
          · rw [if_pos hb, if_pos hb]; rfl
          · rw [if_neg hb, if_neg hb]
/-! ### the document's -/
def E (e : Option Int) : Int := e.getD 0
theorem ref_l0 (x1 x2 : Int) (x8 : Bool) (x9 : ByteArray) (hz : x9.size < 9000000000000000000) : ∀ (rest pre : List UInt8) (k : Nat), x9.data.toList = pre ++ rest →
    belvedereref10_Int.l0 (k + rest.length + 1) x1 x2 x8 x9 (pre.length : Int) = if rest.all isDig = true then belvedereref10_Int.l1 k x1 x2 x8 x9 0 0 else some (0, 3) := by
  intro rest
  induction rest with
  | nil =>
    intro pre k h
    have hs : x9.size = pre.length := by rw [size_l, h]; simp
    rw [List.length_nil, Nat.add_zero, belvedereref10_Int.l0, if_neg (by omega)]
    rfl
  | cons c r ih =>
    intro pre k h
    have hs : x9.size = pre.length + (r.length + 1) := by rw [size_l, h]; simp
    have hb : bt x9 (pre.length : Int) = (c.toNat : Int) := by
      rw [bt_l x9 pre.length (by rw [h]; simp)]
      congr 1
      simp [h]
    have hw : wrap64 ((pre.length : Int) + 1) = ((pre ++ [c]).length : Int) := by rw [w64 (by omega) (by omega), List.length_append]; simp
    rw [List.length_cons, show k + (r.length + 1) + 1 = (k + r.length + 1) + 1 by omega, belvedereref10_Int.l0, if_pos (by omega), if_pos (Int.natCast_nonneg _), hb, hw, ih (pre ++ [c]) k (by rw [h]; simp), List.all_cons]
    cases hd : isDig c with
    | true =>
      have := isDig_iff.1 hd
      rw [if_neg (by omega), if_neg (by omega), Bool.true_and]
    | false =>
      have hn : ¬ (48 ≤ c.toNat ∧ c.toNat ≤ 57) := fun e => by rw [isDig_iff.2 e] at hd; cases hd
      rw [Bool.false_and, if_neg (by decide : ¬ (false = true))]
      by_cases h1 : (c.toNat : Int) < 48
      · rw [if_pos h1]
      · rw [if_neg h1, if_pos (by omega)]
def refFin (x1 x2 : Int) (x8 : Bool) (v : Int) : Option (Int × Int) :=
  if v > 9223372036854775807 then (some (0, 5)) else (if x8 = true then (if (wrap64 (-(wrap64 (v)))) < x1 then (some (0, 5)) else (if (wrap64 (-(wrap64 (v)))) > x2 then (some (0, 5)) else (some (wrap64 (-(wrap64 (v))), 0)))) else (if (wrap64 (v)) < x1 then (some (0, 5)) else (if (wrap64 (v)) > x2 then (some (0, 5)) else (some (wrap64 (v), 0)))))
theorem acc_step (acc d x : Nat) (hd : d < 10) (hx : acc * 10 + d ≤ x) (h : x < 10000000000000000000) : IntKind.u64.wrap ((IntKind.u64.wrap (10 * (acc : Int))) + ((((48 + d : Nat) : Int) - 48) % 256)) = ((acc * 10 + d : Nat) : Int) := by
  rw [u64w (n := 10 * (acc : Int)) (by omega) (by omega), show ((((48 + d : Nat) : Int) - 48) % 256) = (d : Int) by omega, u64w (by omega) (by omega)]
  omega
theorem ref_l1 (x1 x2 : Int) (x8 : Bool) (x9 : ByteArray) (hz : x9.size < 9000000000000000000) : ∀ (rest pre : List UInt8) (acc k : Nat), x9.data.toList = pre ++ rest → (∀ c ∈ rest, isDig c = true) → val acc rest < 10000000000000000000 →
    belvedereref10_Int.l1 (k + rest.length + 1) x1 x2 x8 x9 (acc : Int) (pre.length : Int) = refFin x1 x2 x8 (val acc rest : Int) := by
  intro rest
  induction rest with
  | nil =>
    intro pre acc k h _ _
    have hs : x9.size = pre.length := by rw [size_l, h]; simp
    rw [List.length_nil, Nat.add_zero, belvedereref10_Int.l1, if_neg (by omega)]
    rfl
  | cons c r ih =>
    intro pre acc k h hd hv
    have hs : x9.size = pre.length + (r.length + 1) := by rw [size_l, h]; simp
    have hb : bt x9 (pre.length : Int) = (c.toNat : Int) := by
      rw [bt_l x9 pre.length (by rw [h]; simp)]
      congr 1
      simp [h]
    have hw : wrap64 ((pre.length : Int) + 1) = ((pre ++ [c]).length : Int) := by rw [w64 (by omega) (by omega), List.length_append]; simp
    have hc := isDig_iff.1 (hd c (List.mem_cons_self ..))
    have hvc : val acc (c :: r) = val (acc * 10 + (c.toNat - 48)) r := rfl
    have hst := acc_step acc (c.toNat - 48) _ (by omega) (val_le r (acc * 10 + (c.toNat - 48))) (by rw [← hvc]; exact hv)
    rw [show (48 + (c.toNat - 48) : Nat) = c.toNat by omega] at hst
    have hi := ih (pre ++ [c]) (acc * 10 + (c.toNat - 48)) k (by rw [h]; simp) (fun d hd' => hd d (List.mem_cons_of_mem _ hd')) (by rw [← hvc]; exact hv)
    rw [List.length_cons, show k + (r.length + 1) + 1 = (k + r.length + 1) + 1 by omega, belvedereref10_Int.l1, if_pos (by omega), if_pos (Int.natCast_nonneg _), hb, hw, hst, hi, hvc]
theorem refFin_neg (x1 x2 : Int) (v : Nat) (h : v < 1000000000000000000) : refFin x1 x2 true (v : Int) = some ((fin (-(v : Int)) x1 x2).1, E (fin (-(v : Int)) x1 x2).2) := by
  have e1 : wrap64 (v : Int) = (v : Int) := w64 (by omega) (by omega)
  have e2 : wrap64 (-(v : Int)) = -(v : Int) := w64 (by omega) (by omega)
  unfold refFin fin
  rw [if_neg (by omega), if_pos rfl, e1, e2]
  by_cases h1 : -(v : Int) < x1
  · rw [if_pos h1, if_pos h1]; rfl
  · rw [if_neg h1, if_neg h1]
    by_cases h2 : -(v : Int) > x2
    · rw [if_pos h2, if_pos h2]; rfl
    · rw [if_neg h2, if_neg h2]; rfl
theorem refFin_pos (x1 x2 : Int) (v : Nat) : refFin x1 x2 false (v : Int) = if v < 9223372036854775808 then some ((fin (v : Int) x1 x2).1, E (fin (v : Int) x1 x2).2) else some (0, 5) := by
  unfold refFin fin
  by_cases hb : v < 9223372036854775808
  · have e1 : wrap64 (v : Int) = (v : Int) := w64 (by omega) (by omega)
    rw [if_neg (by omega), if_neg (by decide), if_pos hb, e1]
    by_cases h1 : (v : Int) < x1
    · rw [if_pos h1, if_pos h1]; rfl
    · rw [if_neg h1, if_neg h1]
      by_cases h2 : (v : Int) > x2
      · rw [if_pos h2, if_pos h2]; rfl
      · rw [if_neg h2, if_neg h2]; rfl
  · rw [if_pos (by omega), if_neg hb]
theorem ref_j1 (k : Nat) (x1 x2 : Int) (x8 : Bool) (x9 : ByteArray) (hz : x9.size < 9000000000000000000) (hv : x9.data.toList.all isDig = true → val 0 x9.data.toList < 10000000000000000000) :
    belvedereref10_Int.j1 (k + x9.size + x9.size + 3) x1 x2 x8 x9 false = if x9.data.toList.all isDig = true then refFin x1 x2 x8 (val 0 x9.data.toList : Int) else some (0, 3) := by
  have h0 := ref_l0 x1 x2 x8 x9 hz x9.data.toList [] (k + x9.size + 1) rfl
  rw [← size_l] at h0
  rw [show k + x9.size + x9.size + 3 = (k + x9.size + 1 + x9.size + 1) + 1 by omega, belvedereref10_Int.j1, if_neg (by decide), show (0 : Int) = (([] : List UInt8).length : Int) from rfl, h0]
  by_cases hd : x9.data.toList.all isDig = true
  · rw [if_pos hd, if_pos hd]
    have h1 := ref_l1 x1 x2 x8 x9 hz x9.data.toList [] 0 k rfl (fun c hc => List.all_eq_true.mp hd c hc) (hv hd)
    rw [← size_l] at h1
    exact h1
  · rw [if_neg hd, if_neg hd]; rfl
theorem ref_j0 (k : Nat) (x0 : ByteArray) (x1 x2 : Int) (x8 : Bool) (x9 : ByteArray) (h9 : x9.size ≤ x0.size) (h0 : x0.size < 9000000000000000000) :
    belvedereref10_Int.j0 (k + x9.size + x9.size + 4) x0 x1 x2 x8 x9 = if digL x9.data.toList x8 = true ∧ x0.size ≤ 19 then refFin x1 x2 x8 (val 0 x9.data.toList : Int) else some (0, 3) := by
  rw [show k + x9.size + x9.size + 4 = (k + x9.size + x9.size + 3) + 1 by omega, belvedereref10_Int.j0, toList_l]
  have j1t : ∀ n, belvedereref10_Int.j1 (n + 1) x1 x2 x8 x9 true = some (0, 3) := fun n => by rw [belvedereref10_Int.j1, if_pos rfl]
  have hv : x0.size ≤ 19 → x9.data.toList.all isDig = true → val 0 x9.data.toList < 10000000000000000000 := fun hz hd => by
    have h1 := val_lt x9.data.toList 0 (fun c hc => List.all_eq_true.mp hd c hc)
    rw [Nat.zero_add, Nat.one_mul] at h1
    exact Nat.lt_of_lt_of_le h1 (pow19 _ (by rw [← size_l]; omega))
  cases h : x9.data.toList with
  | nil =>
    rw [if_pos rfl, show k + x9.size + x9.size + 3 = (k + x9.size + x9.size + 2) + 1 by omega, j1t, if_neg (fun e => by cases e.1)]
  | cons c r =>
    have hb : bt x9 0 = (c.toNat : Int) := by
      have := bt_l x9 0 (by rw [h]; simp)
      simpa [h] using this
    have hsz : x9.size = r.length + 1 := by rw [size_l, h]; simp
    rw [if_neg (List.cons_ne_nil c r)]
    by_cases h19 : (x0.size : Int) > 19
    · rw [if_pos h19, show k + x9.size + x9.size + 3 = (k + x9.size + x9.size + 2) + 1 by omega, j1t, if_neg (fun e => by have := e.2; omega)]
    · have hv' := hv (by omega)
      rw [if_neg h19, if_pos (by omega), hb]
      have hj := ref_j1 k x1 x2 x8 x9 (by omega) hv'
      rw [h] at hj
      have hdig : digL (c :: r) x8 = ((c :: r).all isDig && (if c.toNat = 48 then decide (r = []) && !x8 else true)) := rfl
      by_cases h48 : c.toNat = 48
      · rw [if_pos (by omega)]
        rw [if_pos h48] at hdig
        by_cases hr : (x9.size : Int) > 1
        · have hr' : ¬ r = [] := fun e => by rw [e] at hsz; simp at hsz; omega
          rw [if_pos hr, show k + x9.size + x9.size + 3 = (k + x9.size + x9.size + 2) + 1 by omega, j1t, if_neg (fun e => by rw [hdig, decide_eq_false hr', Bool.false_and, Bool.and_false] at e; cases e.1)]
        · have hr' : r = [] := List.length_eq_zero_iff.1 (by omega)
          rw [if_neg hr]
          cases x8 with
          | true => rw [show k + x9.size + x9.size + 3 = (k + x9.size + x9.size + 2) + 1 by omega, j1t, if_neg (fun e => by rw [hdig, Bool.not_true, Bool.and_false, Bool.and_false] at e; cases e.1)]
          | false =>
            rw [hj]
            rw [decide_eq_true hr', Bool.not_false, Bool.true_and, Bool.and_true] at hdig
            rw [hdig]
            by_cases hd : (c :: r).all isDig = true
            · rw [if_pos hd, if_pos ⟨hd, by omega⟩]
            · rw [if_neg hd, if_neg (fun e => hd e.1)]
      · rw [if_neg (by omega), hj]
        rw [if_neg h48, Bool.and_true] at hdig
        rw [hdig]
        by_cases hd : (c :: r).all isDig = true
        · rw [if_pos hd, if_pos ⟨hd, by omega⟩]
        · rw [if_neg hd, if_neg (fun e => hd e.1)]
theorem ref_int (k : Nat) (s : ByteArray) (lo hi : Int) (hs : s.size ≤ 1000) : belvedereref10_Int.f (k + 3000) s lo hi = some ((intL s.data.toList lo hi).1, E (intL s.data.toList lo hi).2) := by
  unfold belvedereref10_Int.f
  rw [toList_l]
  cases h : s.data.toList with
  | nil => rfl
  | cons c r =>
    have hb : bt s 0 = (c.toNat : Int) := by
      have := bt_l s 0 (by rw [h]; simp)
      simpa [h] using this
    have hsz : s.size = r.length + 1 := by rw [size_l, h]; simp
    rw [if_neg (List.cons_ne_nil c r), if_pos (by omega), hb]
    show _ = some ((if c = 45 then (if digL r true = true then (if 19 < (c :: r).length then (0, some 3) else fin (-(val 0 r : Int)) lo hi) else (0, some 3))
        else (if digL (c :: r) false = true then (if 19 < (c :: r).length then (0, some 3) else if val 0 (c :: r) < 9223372036854775808 then fin (val 0 (c :: r) : Int) lo hi else (0, some 5)) else (0, some 3)) : Int × Option Int).1, E (if c = 45 then (if digL r true = true then (if 19 < (c :: r).length then (0, some 3) else fin (-(val 0 r : Int)) lo hi) else (0, some 3))
        else (if digL (c :: r) false = true then (if 19 < (c :: r).length then (0, some 3) else if val 0 (c :: r) < 9223372036854775808 then fin (val 0 (c :: r) : Int) lo hi else (0, some 5)) else (0, some 3)) : Int × Option Int).2)
    by_cases hc : c = 45
    · have hx : (s.extract 1 s.size).data.toList = r := by
        rw [ByteArray.data_extract, Array.toList_extract, List.extract_eq_take_drop, h, hsz]
        simp
      have hxs : (s.extract 1 s.size).size = r.length := by rw [size_l, hx]
      have hj := ref_j0 (k + 2996 - r.length - r.length) s lo hi true (s.extract 1 s.size) (by omega) (by omega)
      rw [hxs, hx, show k + 2996 - r.length - r.length + r.length + r.length + 4 = k + 3000 by omega] at hj
      have h45 : (c.toNat : Int) = 45 := by rw [hc]; rfl
      rw [if_pos h45, if_pos (by omega), show ((c.toNat : Int) == 45) = true from beq_iff_eq.mpr h45, hj, if_pos hc]
      cases hd : digL r true with
      | false => rw [if_neg (fun e => by cases e.1), if_neg (by decide)]; rfl
      | true =>
        rw [if_pos rfl]
        by_cases hz : 19 < (c :: r).length
        · rw [if_neg (fun e => by have := e.2; simp at hz; omega), if_pos hz]; rfl
        · rw [if_pos ⟨rfl, by simp at hz; omega⟩, if_neg hz]
          obtain ⟨hn, hg⟩ := digL_dig hd
          exact refFin_neg lo hi _ (atoi_neg r hg hn (by simp at hz; omega)).2
    · have hj := ref_j0 (k + 2996 - s.size - s.size) s lo hi false s (Nat.le_refl _) (by omega)
      rw [h, show k + 2996 - s.size - s.size + s.size + s.size + 4 = k + 3000 by omega] at hj
      have h45 : ¬ (c.toNat : Int) = 45 := fun e => hc (UInt8.toNat_inj.1 (by show c.toNat = 45; omega))
      rw [if_neg h45, show ((c.toNat : Int) == 45) = false from beq_eq_false_iff_ne.mpr h45, hj, if_neg hc]
      cases hd : digL (c :: r) false with
      | false => rw [if_neg (fun e => by cases e.1), if_neg (by decide)]; rfl
      | true =>
        rw [if_pos rfl]
        by_cases hz : 19 < (c :: r).length
        · rw [if_neg (fun e => by have := e.2; simp at hz; omega), if_pos hz]; rfl
        · rw [if_pos ⟨rfl, by simp at hz; omega⟩, if_neg hz, refFin_pos]
          by_cases hv : val 0 (c :: r) < 9223372036854775808
          · rw [if_pos hv, if_pos hv]
          · rw [if_neg hv, if_neg hv]; rfl
end Go.Proofs.YtahjnjlkpbjfnaaGreatDoor.PVal

/- Plain mathematics of layer 10: Flag, Seconds, and the law ValueInts. -/
set_option linter.unusedVariables false
set_option linter.unusedSimpArgs false
namespace Go.Proofs.YtahjnjlkpbjfnaaGreatDoor.PVal
open Go Go.RowKit Go.Proofs.YtahjnjlkpbjfnaaGreatDoor.P Go.Proofs.YtahjnjlkpbjfnaaGreatDoorW.PrintWords Go.Proofs.YtahjnjlkpbjfnaaGreatDoorW.PrintLast Go.Proofs.YtahjnjlkpbjfnaaGreatDoorW.PrintMore
theorem int_f (s : ByteArray) (lo hi : Int) (hs : s.size ≤ 1000) : value_Int.f s lo hi = some (intL s.data.toList lo hi) := by
  unfold value_Int.f
  rw [if_pos (by omega), intOf_eq]
theorem flag_eq (s : ByteArray) : ∃ x y, value_Flag.f s = some (x, y) ∧ belvedereref10_Flag.f s = some (x, E y) := by
  unfold value_Flag.f belvedereref10_Flag.f
  by_cases h0 : s.toList = ([] : List UInt8)
  · rw [if_pos h0, if_pos h0]; exact ⟨_, _, rfl, rfl⟩
  · rw [if_neg h0, if_neg h0]
    by_cases h1 : s.toList = ([48] : List UInt8)
    · rw [if_pos h1, if_pos h1]; exact ⟨_, _, rfl, rfl⟩
    · rw [if_neg h1, if_neg h1]
      by_cases h2 : s.toList = ([49] : List UInt8)
      · rw [if_pos h2, if_pos h2]; exact ⟨_, _, rfl, rfl⟩
      · rw [if_neg h2, if_neg h2]; exact ⟨_, _, rfl, rfl⟩
theorem fin_range (v : Int) : (fin v 0 10000000).1 = 0 ∨ (0 ≤ (fin v 0 10000000).1 ∧ (fin v 0 10000000).1 ≤ 10000000) := by
  unfold fin
  by_cases h1 : v < 0
  · rw [if_pos h1]; exact .inl rfl
  · rw [if_neg h1]
    by_cases h2 : v > 10000000
    · rw [if_pos h2]; exact .inl rfl
    · rw [if_neg h2]; exact .inr ⟨by show 0 ≤ v; omega, by show v ≤ 10000000; omega⟩
theorem intL_range (l : List UInt8) : 0 ≤ (intL l 0 10000000).1 ∧ (intL l 0 10000000).1 ≤ 10000000 := by
  have h := fin_range
  have hz : ∀ v, 0 ≤ (fin v 0 10000000).1 ∧ (fin v 0 10000000).1 ≤ 10000000 := fun v => by rcases h v with e | e <;> omega
  unfold intL
  split
  · exact ⟨Int.le_refl _, by decide⟩
  · repeat' split
    all_goals first | exact hz _ | exact ⟨Int.le_refl _, by decide⟩
/-- How many seconds a sign stands for; 0: it is none of these. -/
def byOf (c : UInt8) : Int := if (c.toNat : Int) = 115 then 1 else if (c.toNat : Int) = 109 then 60 else if (c.toNat : Int) = 104 then 3600 else if (c.toNat : Int) = 100 then 86400 else 0
theorem unit_by (c : UInt8) : value_unit.f (c.toNat : Int) = some (byOf c) := by
  unfold value_unit.f byOf
  repeat' split
  all_goals first | rfl | omega
/-- What a text says as a number of seconds. -/
def secL (l : List UInt8) : Int × Option Int := match l.getLast? with
  | none => (0, some 13)
  | some c => if byOf c = 0 then intL l 0 10000000 else ((intL l.dropLast 0 10000000).1 * byOf c, (intL l.dropLast 0 10000000).2)
theorem sec_f (s : ByteArray) (hs : s.size ≤ 1000) : value_Seconds.f s = some (secL s.data.toList) := by
  unfold value_Seconds.f secL
  rw [toList_l]
  cases h : s.data.toList.getLast? with
  | none => rw [if_pos (List.getLast?_eq_none_iff.1 h)]
  | some c =>
    have hne : s.data.toList ≠ [] := fun e => by rw [e] at h; cases h
    have hsz := size_l s
    have hpos : 0 < s.data.toList.length := List.length_pos_iff.mpr hne
    have hw : wrap64 ((s.size : Int) - 1) = ((s.size - 1 : Nat) : Int) := by rw [w64 (by omega) (by omega)]; omega
    have hb : bt s ((s.size - 1 : Nat) : Int) = (c.toNat : Int) := by
      rw [bt_l s (s.size - 1) (by omega)]
      congr 1
      rw [List.getLast?_eq_getElem?] at h
      rw [List.getElem?_eq_getElem (by omega)] at h
      have h2 := Option.some.inj h
      rw [← h2]
      congr 1
    have hx : (s.extract 0 (s.size - 1)).data.toList = s.data.toList.dropLast := by
      rw [ByteArray.data_extract, Array.toList_extract, List.extract_eq_take_drop, List.drop_zero, List.dropLast_eq_take, Nat.sub_zero, hsz]
    have hr := intL_range s.data.toList.dropLast
    have hr2 := intL_range s.data.toList
    have hxs : (s.extract 0 (s.size - 1)).size ≤ 1000 := by rw [ByteArray.size_extract]; omega
    rw [if_neg hne, hw, if_pos (by omega), if_pos (by omega), hb, unit_by, Option.bind_some, Int.toNat_natCast]
    have hbr : byOf c = 0 ∨ (0 < byOf c ∧ byOf c ≤ 86400) := by
      unfold byOf
      repeat' split
      all_goals first | exact .inl rfl | exact .inr ⟨by decide, by decide⟩
    rcases hbr with e0 | e1
    · rw [if_neg (by omega), int_f s _ _ hs, Option.bind_some]
      simp only [e0, if_true]
      rw [Int.mul_one, w64 (by omega) (by omega)]
    · have hm : 0 ≤ (intL s.data.toList.dropLast 0 10000000).1 * byOf c ∧ (intL s.data.toList.dropLast 0 10000000).1 * byOf c ≤ 10000000 * 86400 :=
        ⟨Int.mul_nonneg hr.1 (by omega), Int.mul_le_mul hr.2 e1.2 (by omega) (by decide)⟩
      rw [if_pos (by omega), if_pos (by omega), int_f _ _ _ hxs, hx, Option.bind_some]
      simp only
      rw [if_neg (by omega), w64 (by omega) (by omega)]
theorem sec_l0_end (k : Nat) (s : ByteArray) (by_ : Int) (hs : s.size ≤ 1000) (hne : s.data.toList ≠ []) (hb0 : 0 ≤ by_) (hb1 : by_ ≤ 86400) :
    belvedereref10_Seconds.l0 (k + 3001) s by_ 4 = if by_ = 0 then some ((intL s.data.toList 0 10000000).1, E (intL s.data.toList 0 10000000).2) else some ((intL s.data.toList.dropLast 0 10000000).1 * by_, E (intL s.data.toList.dropLast 0 10000000).2) := by
  have hsz := size_l s
  have hpos : 0 < s.data.toList.length := List.length_pos_iff.mpr hne
  have hw : wrap64 ((s.size : Int) - 1) = ((s.size - 1 : Nat) : Int) := by rw [w64 (by omega) (by omega)]; omega
  have hx : (s.extract 0 (s.size - 1)).data.toList = s.data.toList.dropLast := by
    rw [ByteArray.data_extract, Array.toList_extract, List.extract_eq_take_drop, List.drop_zero, List.dropLast_eq_take, Nat.sub_zero, hsz]
  have hr := intL_range s.data.toList.dropLast
  have hxs : (s.extract 0 (s.size - 1)).size ≤ 1000 := by rw [ByteArray.size_extract]; omega
  rw [belvedereref10_Seconds.l0, if_neg (by decide)]
  by_cases h0 : by_ = 0
  · rw [if_pos h0, if_pos h0, ref_int k s _ _ hs]; rfl
  · have hm : 0 ≤ (intL s.data.toList.dropLast 0 10000000).1 * by_ ∧ (intL s.data.toList.dropLast 0 10000000).1 * by_ ≤ 10000000 * 86400 :=
        ⟨Int.mul_nonneg hr.1 (by omega), Int.mul_le_mul hr.2 hb1 (by omega) (by decide)⟩
    rw [if_neg h0, if_neg h0, hw, if_pos (by omega), if_pos (by omega), Int.toNat_natCast, ref_int k _ _ _ hxs, hx, Option.bind_some]
    simp only
    rw [w64 (by omega) (by omega)]
theorem ref_sec (k : Nat) (s : ByteArray) (hs : s.size ≤ 1000) : belvedereref10_Seconds.f (k + 3005) s = some ((secL s.data.toList).1, E (secL s.data.toList).2) := by
  unfold belvedereref10_Seconds.f
  rw [toList_l]
  cases h : s.data.toList.getLast? with
  | none =>
    have hS : secL s.data.toList = (0, some 13) := by unfold secL; rw [h]
    rw [if_pos (List.getLast?_eq_none_iff.1 h), hS]; rfl
  | some c =>
    have hS : secL s.data.toList = if byOf c = 0 then intL s.data.toList 0 10000000 else ((intL s.data.toList.dropLast 0 10000000).1 * byOf c, (intL s.data.toList.dropLast 0 10000000).2) := by unfold secL; rw [h]
    have hne : s.data.toList ≠ [] := fun e => by rw [e] at h; cases h
    have hsz := size_l s
    have hpos : 0 < s.data.toList.length := List.length_pos_iff.mpr hne
    have hw : wrap64 ((s.size : Int) - 1) = ((s.size - 1 : Nat) : Int) := by rw [w64 (by omega) (by omega)]; omega
    have hb : bt s ((s.size - 1 : Nat) : Int) = (c.toNat : Int) := by
      rw [bt_l s (s.size - 1) (by omega)]
      congr 1
      rw [List.getLast?_eq_getElem?] at h
      rw [List.getElem?_eq_getElem (by omega)] at h
      have h2 := Option.some.inj h
      rw [← h2]
      congr 1
    rw [if_neg hne]
    have step : ∀ (n : Nat) (y : Int) (i : Nat) (hi : i < 4), belvedereref10_Seconds.l0 (n + 1) s y (i : Int) = if (c.toNat : Int) = bt ⟨#[115, 109, 104, 100]⟩ (i : Int) then belvedereref10_Seconds.l0 n s (rd [1, 60, 3600, 86400] (i : Int)) ((i + 1 : Nat) : Int) else belvedereref10_Seconds.l0 n s y ((i + 1 : Nat) : Int) := fun n y i hi => by
      have hwi : wrap64 ((i : Int) + 1) = ((i + 1 : Nat) : Int) := by rw [w64 (by omega) (by omega)]; omega
      rw [belvedereref10_Seconds.l0, if_pos (by omega), hw, if_pos (by omega), if_pos (by omega), if_pos (Int.natCast_nonneg _), hb, hwi, Option.bind_some, if_pos (show (i : Int) < (([1, 60, 3600, 86400] : List Int).length : Int) by (show (i : Int) < ((4 : Nat) : Int)); omega)]
    have s0 := fun n y => step n y 0 (by decide)
    have s1 := fun n y => step n y 1 (by decide)
    have s2 := fun n y => step n y 2 (by decide)
    have s3 := fun n y => step n y 3 (by decide)
    have b0 : bt ⟨#[115, 109, 104, 100]⟩ ((0 : Nat) : Int) = 115 := by decide
    have b1 : bt ⟨#[115, 109, 104, 100]⟩ ((1 : Nat) : Int) = 109 := by decide
    have b2 : bt ⟨#[115, 109, 104, 100]⟩ ((2 : Nat) : Int) = 104 := by decide
    have b3 : bt ⟨#[115, 109, 104, 100]⟩ ((3 : Nat) : Int) = 100 := by decide
    have r0 : rd [1, 60, 3600, 86400] ((0 : Nat) : Int) = 1 := by decide
    have r1 : rd [1, 60, 3600, 86400] ((1 : Nat) : Int) = 60 := by decide
    have r2 : rd [1, 60, 3600, 86400] ((2 : Nat) : Int) = 3600 := by decide
    have r3 : rd [1, 60, 3600, 86400] ((3 : Nat) : Int) = 86400 := by decide
    rw [b0, r0] at s0
    rw [b1, r1] at s1
    rw [b2, r2] at s2
    rw [b3, r3] at s3
    have hend := fun y hy0 hy1 => sec_l0_end k s y hs hne hy0 hy1
    show belvedereref10_Seconds.l0 (k + 3004 + 1) s 0 ((0 : Nat) : Int) = _
    rw [s0]
    have e4 : ∀ y, belvedereref10_Seconds.l0 (k + 3001) s y ((3 + 1 : Nat) : Int) = belvedereref10_Seconds.l0 (k + 3001) s y 4 := fun _ => rfl
    rw [hS]
    by_cases h115 : (c.toNat : Int) = 115
    · have hy : byOf c = 1 := by unfold byOf; rw [if_pos h115]
      rw [if_pos h115, hy, show k + 3004 = k + 3003 + 1 from rfl, s1, if_neg (by omega), show k + 3003 = k + 3002 + 1 from rfl, s2, if_neg (by omega), show k + 3002 = k + 3001 + 1 from rfl, s3, if_neg (by omega), e4, hend 1 (by decide) (by decide)]
      rfl
    · rw [if_neg h115, show k + 3004 = k + 3003 + 1 from rfl, s1]
      by_cases h109 : (c.toNat : Int) = 109
      · have hy : byOf c = 60 := by unfold byOf; rw [if_neg h115, if_pos h109]
        rw [if_pos h109, hy, show k + 3003 = k + 3002 + 1 from rfl, s2, if_neg (by omega), show k + 3002 = k + 3001 + 1 from rfl, s3, if_neg (by omega), e4, hend 60 (by decide) (by decide)]
        rfl
      · rw [if_neg h109, show k + 3003 = k + 3002 + 1 from rfl, s2]
        by_cases h104 : (c.toNat : Int) = 104
        · have hy : byOf c = 3600 := by unfold byOf; rw [if_neg h115, if_neg h109, if_pos h104]
          rw [if_pos h104, hy, show k + 3002 = k + 3001 + 1 from rfl, s3, if_neg (by omega), e4, hend 3600 (by decide) (by decide)]
          rfl
        · rw [if_neg h104, show k + 3002 = k + 3001 + 1 from rfl, s3]
          by_cases h100 : (c.toNat : Int) = 100
          · have hy : byOf c = 86400 := by unfold byOf; rw [if_neg h115, if_neg h109, if_neg h104, if_pos h100]
            rw [if_pos h100, hy, e4, hend 86400 (by decide) (by decide)]
            rfl
          · have hy : byOf c = 0 := by unfold byOf; rw [if_neg h115, if_neg h109, if_neg h104, if_neg h100]
            rw [if_neg h100, hy, e4, hend 0 (by decide) (by decide)]
            rfl
theorem law_Ints (s : ByteArray) (lo hi : Int) : belvederelaw10_ValueInts.f 3100 s lo hi = some true := by
  unfold belvederelaw10_ValueInts.f
  by_cases h : (s.size : Int) > 300
  · rw [if_pos h, sure_k 3090]; rfl
  · have hs : s.size ≤ 1000 := by omega
    obtain ⟨x, y, hf1, hf2⟩ := flag_eq s
    rw [if_neg h, int_f s lo hi hs, ref_int 100 s lo hi hs, hf1, hf2, sec_f s hs, ref_sec 95 s hs]
    simp only [Option.bind_some, if_true]
    rw [show belvederelaw10_num.f (intL s.data.toList lo hi).2 = some (E (intL s.data.toList lo hi).2) from rfl, show belvederelaw10_num.f y = some (E y) from rfl, show belvederelaw10_num.f (secL s.data.toList).2 = some (E (secL s.data.toList).2) from rfl]
    simp only [Option.bind_some, if_true, beq_self_eq_true]
    rw [sure_k 3090]
    rfl
end Go.Proofs.YtahjnjlkpbjfnaaGreatDoor.PVal
