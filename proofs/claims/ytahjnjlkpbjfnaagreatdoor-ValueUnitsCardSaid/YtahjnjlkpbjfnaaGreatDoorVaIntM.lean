/- Plain mathematics of layer 10: the program's Int and the document's tell the same of every text. -/
import Derived.Test.YtahjnjlkpbjfnaaGreatDoorVaMathI
import Derived.Test.YtahjnjlkpbjfnaaGreatDoorVaSure
import Derived.Test.YtahjnjlkpbjfnaaGreatDoorPx7
set_option linter.unusedVariables false
set_option linter.unusedSimpArgs false
namespace Go.Proofs.YtahjnjlkpbjfnaaGreatDoor.PVal
open Go Go.RowKit Go.Proofs.YtahjnjlkpbjfnaaGreatDoor.P Go.Proofs.YtahjnjlkpbjfnaaGreatDoorW.PrintWords Go.Proofs.YtahjnjlkpbjfnaaGreatDoorW.PrintLast Go.Proofs.YtahjnjlkpbjfnaaGreatDoorW.PrintMore
theorem w64 {x : Int} (h0 : -9223372036854775808 ≤ x) (h1 : x ≤ 9223372036854775807) : wrap64 x = x := by unfold wrap64; omega
theorem u64w {n : Int} (h0 : 0 ≤ n) (h1 : n < 18446744073709551616) : IntKind.u64.wrap n = n := by unfold IntKind.wrap; simp [IntKind.bits, IntKind.signed]; omega
theorem size_l (s : ByteArray) : s.size = s.data.toList.length := Array.length_toList.symm
theorem toList_l (s : ByteArray) : s.toList = s.data.toList := ByteArray.toList_eq ..
theorem bt_l (s : ByteArray) (i : Nat) (h : i < s.data.toList.length) : bt s (i : Int) = ((s.data.toList[i]).toNat : Int) := by
  have hs : i < s.size := by rw [size_l]; exact h
  unfold bt
  rw [dif_pos (by simpa using hs)]
  rfl
theorem any_odd (l : List UInt8) : (l.map fun b => (b.toNat : Int)).any oddDigit = !(l.all isDig) := by
  induction l with
  | nil => rfl
  | cons c r ih =>
    rw [List.map_cons, List.any_cons, List.all_cons, ih, Bool.not_and]
    congr 1
    unfold oddDigit isDig
    rw [Bool.not_and, ← decide_not, ← decide_not]
    congr 1
    · exact decide_eq_decide.mpr (by omega)
    · exact decide_eq_decide.mpr (by omega)
/-- Whether a list is a number's digits. -/
def digL : List UInt8 → Bool → Bool
  | [], _ => false
  | c :: r, m => (c :: r).all isDig && (if c.toNat = 48 then decide (r = []) && !m else true)
theorem digOf_eq (t : ByteArray) (m : Bool) : digOf t m = digL t.data.toList m := by
  unfold digOf
  rw [toList_l, show bytesOf t = t.data.toList.map fun b => (b.toNat : Int) from rfl, any_odd]
  cases h : t.data.toList with
  | nil => rfl
  | cons c r =>
    have hb : bt t 0 = (c.toNat : Int) := by
      have := bt_l t 0 (by rw [h]; simp)
      simpa [h] using this
    rw [if_neg (List.cons_ne_nil c r), hb]
    show _ = ((c :: r).all isDig && (if c.toNat = 48 then decide (r = []) && !m else true))
    cases ha : (c :: r).all isDig with
    | false => rw [if_pos (by decide)]; rfl
    | true =>
      rw [if_neg (by decide), Bool.true_and]
      by_cases h48 : c.toNat = 48
      · rw [if_pos (by omega), if_pos h48]
        have hc : c = 48 := UInt8.toNat_inj.1 h48
        by_cases hr : r = []
        · rw [if_pos (by rw [hc, hr]), decide_eq_true hr, Bool.true_and]
        · rw [if_neg (fun e => hr (List.cons.inj e).2), decide_eq_false hr, Bool.false_and]
      · rw [if_neg (by omega), if_neg h48]
theorem bare_minus {s : ByteArray} {r : List UInt8} (h : s.data.toList = 45 :: r) : (bare s).data.toList = r ∧ minusOf s = true := by
  have hp : Lib.hasPrefix s.data.toList [45] = true := by rw [h]; simp [Lib.hasPrefix]
  refine ⟨?_, hp⟩
  show Lib.trimPrefix s.data.toList [45] = r
  unfold Lib.trimPrefix
  rw [if_pos hp, h]
  rfl
theorem bare_plain {s : ByteArray} {c : UInt8} {r : List UInt8} (h : s.data.toList = c :: r) (hc : c ≠ 45) : (bare s).data.toList = c :: r ∧ minusOf s = false := by
  have hp : Lib.hasPrefix s.data.toList [45] = false := by
    rw [h]
    show ((45 : UInt8) == c && _) = false
    rw [beq_eq_false_iff_ne.mpr (fun e => hc e.symm)]
    rfl
  refine ⟨?_, hp⟩
  show Lib.trimPrefix s.data.toList [45] = _
  unfold Lib.trimPrefix
  rw [hp, if_neg (by decide), h]
def fin (v lo hi : Int) : Int × Option Int := if v < lo then (0, some 5) else if v > hi then (0, some 5) else (v, none)
/-- What a list of bytes says between two bounds. -/
def intL (l : List UInt8) (lo hi : Int) : Int × Option Int := match l with
  | [] => (0, some 13)
  | c :: r => if c = 45 then (if digL r true = true then (if 19 < (c :: r).length then (0, some 3) else fin (-(val 0 r : Int)) lo hi) else (0, some 3))
    else (if digL (c :: r) false = true then (if 19 < (c :: r).length then (0, some 3) else if val 0 (c :: r) < 9223372036854775808 then fin (val 0 (c :: r) : Int) lo hi else (0, some 5)) else (0, some 3))
theorem digL_dig {l : List UInt8} {m : Bool} (h : digL l m = true) : l ≠ [] ∧ ∀ c ∈ l, isDig c = true := by
  cases l with
  | nil => cases h
  | cons c r =>
    unfold digL at h
    rw [Bool.and_eq_true] at h
    exact ⟨List.cons_ne_nil c r, List.all_eq_true.mp h.1⟩
theorem intOf_eq (s : ByteArray) (lo hi : Int) : Go.Proofs.YtahjnjlkpbjfnaaGreatDoor.P.intOf s lo hi = intL s.data.toList lo hi := by
  unfold Go.Proofs.YtahjnjlkpbjfnaaGreatDoor.P.intOf
  rw [toList_l, digOf_eq, size_l]
  cases h : s.data.toList with
  | nil => rfl
  | cons c r =>
    rw [if_neg (List.cons_ne_nil c r)]
    unfold intL
    by_cases hc : c = 45
    · subst hc
      obtain ⟨h1, h2⟩ := bare_minus h
      rw [h1, h2]
      simp only [if_true]
      cases hd : digL r true with
      | false => rw [if_pos rfl, if_neg (by decide)]
      | true =>
        rw [if_neg (by decide), if_pos rfl]
        obtain ⟨hn, hg⟩ := digL_dig hd
        by_cases hz : 19 < ((45 : UInt8) :: r).length
        · rw [if_pos hz, if_pos hz]
        · rw [if_neg hz, if_neg hz, (atoi_neg r hg hn (by simp at hz; omega)).1]
          rfl
    · obtain ⟨h1, h2⟩ := bare_plain h hc
      rw [h1, h2]
      show _ = (if c = 45 then (if digL r true = true then (if 19 < (c :: r).length then (0, some 3) else fin (-(val 0 r : Int)) lo hi) else (0, some 3))
        else (if digL (c :: r) false = true then (if 19 < (c :: r).length then (0, some 3) else if val 0 (c :: r) < 9223372036854775808 then fin (val 0 (c :: r) : Int) lo hi else (0, some 5)) else (0, some 3)))
      rw [if_neg hc]
      cases hd : digL (c :: r) false with
      | false => rw [if_pos rfl, if_neg (by decide)]
      | true =>
        rw [if_neg (by decide), if_pos rfl]
        obtain ⟨_, hg⟩ := digL_dig hd
        by_cases hz : 19 < (c :: r).length
        · rw [if_pos hz, if_pos hz]
        · rw [if_neg hz, if_neg hz, (atoi_pos c r hg (by omega)).1]
          by_cases hb : val 0 (c :: r) < 9223372036854775808
          · rw [if_pos hb, if_pos hb]; rfl
          · rw [if_neg hb, if_neg hb]
/-! ### the document's -/
def E (e : Option Int) : Int := e.getD 0
theorem ref_l0 (x1 x2 : Int) (x8 : Bool) (x9 : ByteArray) (hz : x9.size < 9000000000000000000) : ∀ (rest pre : List UInt8) (k : Nat), x9.data.toList = pre ++ rest →
    belvedereref10_Int.l0 (k + rest.length + 1) x1 x2 x8 x9 (pre.length : Int) = if rest.all isDig = true then belvedereref10_Int.l1 k x1 x2 x8 x9 0 0 else some (0, 3) := by
  intro rest
  induction rest with
  | nil =>
    intro pre k h
    have hs : x9.size = pre.length := by rw [size_l, h]; simp
    rw [List.length_nil, Nat.add_zero, belvedereref10_Int.l0, if_neg (by omega)]
    rfl
  | cons c r ih =>
    intro pre k h
    have hs : x9.size = pre.length + (r.length + 1) := by rw [size_l, h]; simp
    have hb : bt x9 (pre.length : Int) = (c.toNat : Int) := by
      rw [bt_l x9 pre.length (by rw [h]; simp)]
      congr 1
      simp [h]
    have hw : wrap64 ((pre.length : Int) + 1) = ((pre ++ [c]).length : Int) := by rw [w64 (by omega) (by omega), List.length_append]; simp
    rw [List.length_cons, show k + (r.length + 1) + 1 = (k + r.length + 1) + 1 by omega, belvedereref10_Int.l0, if_pos (by omega), if_pos (Int.natCast_nonneg _), hb, hw, ih (pre ++ [c]) k (by rw [h]; simp), List.all_cons]
    cases hd : isDig c with
    | true =>
      have := isDig_iff.1 hd
      rw [if_neg (by omega), if_neg (by omega), Bool.true_and]
    | false =>
      have hn : ¬ (48 ≤ c.toNat ∧ c.toNat ≤ 57) := fun e => by rw [isDig_iff.2 e] at hd; cases hd
      rw [Bool.false_and, if_neg (by decide : ¬ (false = true))]
      by_cases h1 : (c.toNat : Int) < 48
      · rw [if_pos h1]
      · rw [if_neg h1, if_pos (by omega)]
def refFin (x1 x2 : Int) (x8 : Bool) (v : Int) : Option (Int × Int) :=
  if v > 9223372036854775807 then (some (0, 5)) else (if x8 = true then (if (wrap64 (-(wrap64 (v)))) < x1 then (some (0, 5)) else (if (wrap64 (-(wrap64 (v)))) > x2 then (some (0, 5)) else (some (wrap64 (-(wrap64 (v))), 0)))) else (if (wrap64 (v)) < x1 then (some (0, 5)) else (if (wrap64 (v)) > x2 then (some (0, 5)) else (some (wrap64 (v), 0)))))
theorem acc_step (acc d x : Nat) (hd : d < 10) (hx : acc * 10 + d ≤ x) (h : x < 10000000000000000000) : IntKind.u64.wrap ((IntKind.u64.wrap (10 * (acc : Int))) + ((((48 + d : Nat) : Int) - 48) % 256)) = ((acc * 10 + d : Nat) : Int) := by
  rw [u64w (n := 10 * (acc : Int)) (by omega) (by omega), show ((((48 + d : Nat) : Int) - 48) % 256) = (d : Int) by omega, u64w (by omega) (by omega)]
  omega
theorem ref_l1 (x1 x2 : Int) (x8 : Bool) (x9 : ByteArray) (hz : x9.size < 9000000000000000000) : ∀ (rest pre : List UInt8) (acc k : Nat), x9.data.toList = pre ++ rest → (∀ c ∈ rest, isDig c = true) → val acc rest < 10000000000000000000 →
    belvedereref10_Int.l1 (k + rest.length + 1) x1 x2 x8 x9 (acc : Int) (pre.length : Int) = refFin x1 x2 x8 (val acc rest : Int) := by
  intro rest
  induction rest with
  | nil =>
    intro pre acc k h _ _
    have hs : x9.size = pre.length := by rw [size_l, h]; simp
    rw [List.length_nil, Nat.add_zero, belvedereref10_Int.l1, if_neg (by omega)]
    rfl
  | cons c r ih =>
    intro pre acc k h hd hv
    have hs : x9.size = pre.length + (r.length + 1) := by rw [size_l, h]; simp
    have hb : bt x9 (pre.length : Int) = (c.toNat : Int) := by
      rw [bt_l x9 pre.length (by rw [h]; simp)]
      congr 1
      simp [h]
    have hw : wrap64 ((pre.length : Int) + 1) = ((pre ++ [c]).length : Int) := by rw [w64 (by omega) (by omega), List.length_append]; simp
    have hc := isDig_iff.1 (hd c (List.mem_cons_self ..))
    have hvc : val acc (c :: r) = val (acc * 10 + (c.toNat - 48)) r := rfl
    have hst := acc_step acc (c.toNat - 48) _ (by omega) (val_le r (acc * 10 + (c.toNat - 48))) (by rw [← hvc]; exact hv)
    rw [show (48 + (c.toNat - 48) : Nat) = c.toNat by omega] at hst
    have hi := ih (pre ++ [c]) (acc * 10 + (c.toNat - 48)) k (by rw [h]; simp) (fun d hd' => hd d (List.mem_cons_of_mem _ hd')) (by rw [← hvc]; exact hv)
    rw [List.length_cons, show k + (r.length + 1) + 1 = (k + r.length + 1) + 1 by omega, belvedereref10_Int.l1, if_pos (by omega), if_pos (Int.natCast_nonneg _), hb, hw, hst, hi, hvc]
theorem refFin_neg (x1 x2 : Int) (v : Nat) (h : v < 1000000000000000000) : refFin x1 x2 true (v : Int) = some ((fin (-(v : Int)) x1 x2).1, E (fin (-(v : Int)) x1 x2).2) := by
  have e1 : wrap64 (v : Int) = (v : Int) := w64 (by omega) (by omega)
  have e2 : wrap64 (-(v : Int)) = -(v : Int) := w64 (by omega) (by omega)
  unfold refFin fin
  rw [if_neg (by omega), if_pos rfl, e1, e2]
  by_cases h1 : -(v : Int) < x1
  · rw [if_pos h1, if_pos h1]; rfl
  · rw [if_neg h1, if_neg h1]
    by_cases h2 : -(v : Int) > x2
    · rw [if_pos h2, if_pos h2]; rfl
    · rw [if_neg h2, if_neg h2]; rfl
theorem refFin_pos (x1 x2 : Int) (v : Nat) : refFin x1 x2 false (v : Int) = if v < 9223372036854775808 then some ((fin (v : Int) x1 x2).1, E (fin (v : Int) x1 x2).2) else some (0, 5) := by
  unfold refFin fin
  by_cases hb : v < 9223372036854775808
  · have e1 : wrap64 (v : Int) = (v : Int) := w64 (by omega) (by omega)
    rw [if_neg (by omega), if_neg (by decide), if_pos hb, e1]
    by_cases h1 : (v : Int) < x1
    · rw [if_pos h1, if_pos h1]; rfl
    · rw [if_neg h1, if_neg h1]
      by_cases h2 : (v : Int) > x2
      · rw [if_pos h2, if_pos h2]; rfl
      · rw [if_neg h2, if_neg h2]; rfl
  · rw [if_pos (by omega), if_neg hb]
theorem ref_j1 (k : Nat) (x1 x2 : Int) (x8 : Bool) (x9 : ByteArray) (hz : x9.size < 9000000000000000000) (hv : x9.data.toList.all isDig = true → val 0 x9.data.toList < 10000000000000000000) :
    belvedereref10_Int.j1 (k + x9.size + x9.size + 3) x1 x2 x8 x9 false = if x9.data.toList.all isDig = true then refFin x1 x2 x8 (val 0 x9.data.toList : Int) else some (0, 3) := by
  have h0 := ref_l0 x1 x2 x8 x9 hz x9.data.toList [] (k + x9.size + 1) rfl
  rw [← size_l] at h0
  rw [show k + x9.size + x9.size + 3 = (k + x9.size + 1 + x9.size + 1) + 1 by omega, belvedereref10_Int.j1, if_neg (by decide), show (0 : Int) = (([] : List UInt8).length : Int) from rfl, h0]
  by_cases hd : x9.data.toList.all isDig = true
  · rw [if_pos hd, if_pos hd]
    have h1 := ref_l1 x1 x2 x8 x9 hz x9.data.toList [] 0 k rfl (fun c hc => List.all_eq_true.mp hd c hc) (hv hd)
    rw [← size_l] at h1
    exact h1
  · rw [if_neg hd, if_neg hd]; rfl
theorem ref_j0 (k : Nat) (x0 : ByteArray) (x1 x2 : Int) (x8 : Bool) (x9 : ByteArray) (h9 : x9.size ≤ x0.size) (h0 : x0.size < 9000000000000000000) :
    belvedereref10_Int.j0 (k + x9.size + x9.size + 4) x0 x1 x2 x8 x9 = if digL x9.data.toList x8 = true ∧ x0.size ≤ 19 then refFin x1 x2 x8 (val 0 x9.data.toList : Int) else some (0, 3) := by
  rw [show k + x9.size + x9.size + 4 = (k + x9.size + x9.size + 3) + 1 by omega, belvedereref10_Int.j0, toList_l]
  have j1t : ∀ n, belvedereref10_Int.j1 (n + 1) x1 x2 x8 x9 true = some (0, 3) := fun n => by rw [belvedereref10_Int.j1, if_pos rfl]
  have hv : x0.size ≤ 19 → x9.data.toList.all isDig = true → val 0 x9.data.toList < 10000000000000000000 := fun hz hd => by
    have h1 := val_lt x9.data.toList 0 (fun c hc => List.all_eq_true.mp hd c hc)
    rw [Nat.zero_add, Nat.one_mul] at h1
    exact Nat.lt_of_lt_of_le h1 (pow19 _ (by rw [← size_l]; omega))
  cases h : x9.data.toList with
  | nil =>
    rw [if_pos rfl, show k + x9.size + x9.size + 3 = (k + x9.size + x9.size + 2) + 1 by omega, j1t, if_neg (fun e => by cases e.1)]
  | cons c r =>
    have hb : bt x9 0 = (c.toNat : Int) := by
      have := bt_l x9 0 (by rw [h]; simp)
      simpa [h] using this
    have hsz : x9.size = r.length + 1 := by rw [size_l, h]; simp
    rw [if_neg (List.cons_ne_nil c r)]
    by_cases h19 : (x0.size : Int) > 19
    · rw [if_pos h19, show k + x9.size + x9.size + 3 = (k + x9.size + x9.size + 2) + 1 by omega, j1t, if_neg (fun e => by have := e.2; omega)]
    · have hv' := hv (by omega)
      rw [if_neg h19, if_pos (by omega), hb]
      have hj := ref_j1 k x1 x2 x8 x9 (by omega) hv'
      rw [h] at hj
      have hdig : digL (c :: r) x8 = ((c :: r).all isDig && (if c.toNat = 48 then decide (r = []) && !x8 else true)) := rfl
      by_cases h48 : c.toNat = 48
      · rw [if_pos (by omega)]
        rw [if_pos h48] at hdig
        by_cases hr : (x9.size : Int) > 1
        · have hr' : ¬ r = [] := fun e => by rw [e] at hsz; simp at hsz; omega
          rw [if_pos hr, show k + x9.size + x9.size + 3 = (k + x9.size + x9.size + 2) + 1 by omega, j1t, if_neg (fun e => by rw [hdig, decide_eq_false hr', Bool.false_and, Bool.and_false] at e; cases e.1)]
        · have hr' : r = [] := List.length_eq_zero_iff.1 (by omega)
          rw [if_neg hr]
          cases x8 with
          | true => rw [show k + x9.size + x9.size + 3 = (k + x9.size + x9.size + 2) + 1 by omega, j1t, if_neg (fun e => by rw [hdig, Bool.not_true, Bool.and_false, Bool.and_false] at e; cases e.1)]
          | false =>
            rw [hj]
            rw [decide_eq_true hr', Bool.not_false, Bool.true_and, Bool.and_true] at hdig
            rw [hdig]
            by_cases hd : (c :: r).all isDig = true
            · rw [if_pos hd, if_pos ⟨hd, by omega⟩]
            · rw [if_neg hd, if_neg (fun e => hd e.1)]
      · rw [if_neg (by omega), hj]
        rw [if_neg h48, Bool.and_true] at hdig
        rw [hdig]
        by_cases hd : (c :: r).all isDig = true
        · rw [if_pos hd, if_pos ⟨hd, by omega⟩]
        · rw [if_neg hd, if_neg (fun e => hd e.1)]
theorem ref_int (k : Nat) (s : ByteArray) (lo hi : Int) (hs : s.size ≤ 1000) : belvedereref10_Int.f (k + 3000) s lo hi = some ((intL s.data.toList lo hi).1, E (intL s.data.toList lo hi).2) := by
  unfold belvedereref10_Int.f
  rw [toList_l]
  cases h : s.data.toList with
  | nil => rfl
  | cons c r =>
    have hb : bt s 0 = (c.toNat : Int) := by
      have := bt_l s 0 (by rw [h]; simp)
      simpa [h] using this
    have hsz : s.size = r.length + 1 := by rw [size_l, h]; simp
    rw [if_neg (List.cons_ne_nil c r), if_pos (by omega), hb]
    show _ = some ((if c = 45 then (if digL r true = true then (if 19 < (c :: r).length then (0, some 3) else fin (-(val 0 r : Int)) lo hi) else (0, some 3))
        else (if digL (c :: r) false = true then (if 19 < (c :: r).length then (0, some 3) else if val 0 (c :: r) < 9223372036854775808 then fin (val 0 (c :: r) : Int) lo hi else (0, some 5)) else (0, some 3)) : Int × Option Int).1, E (if c = 45 then (if digL r true = true then (if 19 < (c :: r).length then (0, some 3) else fin (-(val 0 r : Int)) lo hi) else (0, some 3))
        else (if digL (c :: r) false = true then (if 19 < (c :: r).length then (0, some 3) else if val 0 (c :: r) < 9223372036854775808 then fin (val 0 (c :: r) : Int) lo hi else (0, some 5)) else (0, some 3)) : Int × Option Int).2)
    by_cases hc : c = 45
    · have hx : (s.extract 1 s.size).data.toList = r := by
        rw [ByteArray.data_extract, Array.toList_extract, List.extract_eq_take_drop, h, hsz]
        simp
      have hxs : (s.extract 1 s.size).size = r.length := by rw [size_l, hx]
      have hj := ref_j0 (k + 2996 - r.length - r.length) s lo hi true (s.extract 1 s.size) (by omega) (by omega)
      rw [hxs, hx, show k + 2996 - r.length - r.length + r.length + r.length + 4 = k + 3000 by omega] at hj
      have h45 : (c.toNat : Int) = 45 := by rw [hc]; rfl
      rw [if_pos h45, if_pos (by omega), show ((c.toNat : Int) == 45) = true from beq_iff_eq.mpr h45, hj, if_pos hc]
      cases hd : digL r true with
      | false => rw [if_neg (fun e => by cases e.1), if_neg (by decide)]; rfl
      | true =>
        rw [if_pos rfl]
        by_cases hz : 19 < (c :: r).length
        · rw [if_neg (fun e => by have := e.2; simp at hz; omega), if_pos hz]; rfl
        · rw [if_pos ⟨rfl, by simp at hz; omega⟩, if_neg hz]
          obtain ⟨hn, hg⟩ := digL_dig hd
          exact refFin_neg lo hi _ (atoi_neg r hg hn (by simp at hz; omega)).2
    · have hj := ref_j0 (k + 2996 - s.size - s.size) s lo hi false s (Nat.le_refl _) (by omega)
      rw [h, show k + 2996 - s.size - s.size + s.size + s.size + 4 = k + 3000 by omega] at hj
      have h45 : ¬ (c.toNat : Int) = 45 := fun e => hc (UInt8.toNat_inj.1 (by show c.toNat = 45; omega))
      rw [if_neg h45, show ((c.toNat : Int) == 45) = false from beq_eq_false_iff_ne.mpr h45, hj, if_neg hc]
      cases hd : digL (c :: r) false with
      | false => rw [if_neg (fun e => by cases e.1), if_neg (by decide)]; rfl
      | true =>
        rw [if_pos rfl]
        by_cases hz : 19 < (c :: r).length
        · rw [if_neg (fun e => by have := e.2; simp at hz; omega), if_pos hz]; rfl
        · rw [if_pos ⟨rfl, by simp at hz; omega⟩, if_neg hz, refFin_pos]
          by_cases hv : val 0 (c :: r) < 9223372036854775808
          · rw [if_pos hv, if_pos hv]
          · rw [if_neg hv, if_neg hv]; rfl
end Go.Proofs.YtahjnjlkpbjfnaaGreatDoor.PVal
