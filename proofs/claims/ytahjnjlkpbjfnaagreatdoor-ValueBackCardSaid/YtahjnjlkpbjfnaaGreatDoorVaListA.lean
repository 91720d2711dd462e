/- Plain mathematics of layer 10: what must come whatever the input is. -/
import Derived.Test.YtahjnjlkpbjfnaaGreatDoorVaDup
import Derived.Test.YtahjnjlkpbjfnaaGreatDoorPx8
import Derived.Test.YtahjnjlkpbjfnaaGreatDoorPx9
import Derived.Lib.Join
set_option linter.unusedVariables false
set_option linter.unusedSimpArgs false
namespace Go.Proofs.YtahjnjlkpbjfnaaGreatDoor.PVal
open Go Go.RowKit Go.Proofs.YtahjnjlkpbjfnaaGreatDoor.P Go.Proofs.YtahjnjlkpbjfnaaGreatDoorW.PrintWords Go.Proofs.YtahjnjlkpbjfnaaGreatDoorW.PrintLast Go.Proofs.YtahjnjlkpbjfnaaGreatDoorW.PrintMore
theorem may_dur : value_may.f ⟨#[100, 117, 114]⟩ = some true := by decide +kernel
theorem parts_du : partsT ⟨#[100, 44, 117]⟩ = [⟨#[100]⟩, ⟨#[117]⟩] := by decide +kernel
theorem list_du : value_List.f ⟨#[100, 44, 117]⟩ = some ([⟨#[100]⟩, ⟨#[117]⟩], none) := by
  have hd : ¬ dupS [⟨#[100]⟩, ⟨#[117]⟩] = true := by
    rw [dup_iff]
    exact fun h => h (by decide)
  unfold value_List.f
  rw [if_pos (by decide)]
  unfold listOf
  rw [parts_du, if_neg (by decide +kernel), if_neg (by decide +kernel), if_neg hd, if_neg (by decide)]
theorem sec_5m : value_Seconds.f ⟨#[53, 109]⟩ = some (300, none) := by decide +kernel
theorem opt_du : value_Options.f 10 ⟨#[100, 44, 117]⟩ ⟨#[100, 117, 114]⟩ = some (3, none) := by
  unfold value_Options.f
  rw [may_dur, list_du]
  decide +kernel
theorem sure_10 : belvederelaw10_sure.f 10 = some true := by
  unfold belvederelaw10_sure.f
  rw [sec_5m, opt_du]
  decide +kernel
theorem sure_k (k : Nat) : belvederelaw10_sure.f (k + 10) = some true := by
  induction k with
  | zero => exact sure_10
  | succ k ih => exact belvederelaw10_sure.mono _ _ ih
end Go.Proofs.YtahjnjlkpbjfnaaGreatDoor.PVal

/- Plain words of layer 10: numbers of 64 bits, bytes of a text, an error's number. -/
set_option linter.unusedVariables false
set_option linter.unusedSimpArgs false
namespace Go.Proofs.YtahjnjlkpbjfnaaGreatDoor.PVal
open Go Go.RowKit Go.Proofs.YtahjnjlkpbjfnaaGreatDoor.P Go.Proofs.YtahjnjlkpbjfnaaGreatDoorW.PrintWords Go.Proofs.YtahjnjlkpbjfnaaGreatDoorW.PrintLast Go.Proofs.YtahjnjlkpbjfnaaGreatDoorW.PrintMore
theorem w64 {x : Int} (h0 : -9223372036854775808 ≤ x) (h1 : x ≤ 9223372036854775807) : wrap64 x = x := by unfold wrap64; omega
theorem size_l (s : ByteArray) : s.size = s.data.toList.length := Array.length_toList.symm
theorem toList_l (s : ByteArray) : s.toList = s.data.toList := ByteArray.toList_eq ..
theorem bt_l (s : ByteArray) (i : Nat) (h : i < s.data.toList.length) : bt s (i : Int) = ((s.data.toList[i]).toNat : Int) := by
  have hs : i < s.size := by rw [size_l]; exact h
  unfold bt
  rw [dif_pos (by simpa using hs)]
  rfl
def E (e : Option Int) : Int := e.getD 0
end Go.Proofs.YtahjnjlkpbjfnaaGreatDoor.PVal

/- Plain mathematics of layer 10: blanks at two ends, and what is wrong with parts. -/
set_option linter.unusedVariables false
set_option linter.unusedSimpArgs false
namespace Go.Proofs.YtahjnjlkpbjfnaaGreatDoor.PVal
open Go Go.RowKit Go.Proofs.YtahjnjlkpbjfnaaGreatDoor.P Go.Proofs.YtahjnjlkpbjfnaaGreatDoorW.PrintWords Go.Proofs.YtahjnjlkpbjfnaaGreatDoorW.PrintLast Go.Proofs.YtahjnjlkpbjfnaaGreatDoorW.PrintMore
def blank (c : UInt8) : Bool := decide ((c.toNat : Int) = 32) || decide ((c.toNat : Int) = 9)
def lf (l : List UInt8) : List UInt8 := l.dropWhile blank
def rt (l : List UInt8) : List UInt8 := (l.reverse.dropWhile blank).reverse
theorem rt_nil : rt [] = [] := rfl
theorem rt_cons (c : UInt8) (r : List UInt8) : rt (c :: r) = if rt r = [] then (if blank c = true then [] else [c]) else c :: rt r := by
  unfold rt
  rw [List.reverse_cons, List.dropWhile_append]
  cases h : (List.dropWhile blank r.reverse) with
  | nil =>
    rw [if_pos (by rfl), if_pos (by rfl)]
    by_cases hb : blank c = true
    · rw [List.dropWhile_cons_of_pos hb, if_pos hb]; rfl
    · rw [List.dropWhile_cons_of_neg hb, if_neg hb]; rfl
  | cons d q =>
    rw [if_neg (by simp), if_neg (by simp)]
    simp
theorem lf_pos {c : UInt8} {r : List UInt8} (h : blank c = true) : lf (c :: r) = lf r := List.dropWhile_cons_of_pos h
theorem lf_neg {c : UInt8} {r : List UInt8} (h : ¬ blank c = true) : lf (c :: r) = c :: r := List.dropWhile_cons_of_neg h
theorem lf_rt (l : List UInt8) : lf (rt l) = rt (lf l) := by
  induction l with
  | nil => rfl
  | cons c r ih =>
    by_cases hb : blank c = true
    · rw [lf_pos hb, ← ih, rt_cons]
      by_cases h : rt r = []
      · rw [if_pos h, if_pos hb, h]
      · rw [if_neg h, lf_pos hb]
    · rw [lf_neg hb, rt_cons]
      by_cases h : rt r = []
      · rw [if_pos h, if_neg hb, lf_neg hb]
      · rw [if_neg h, lf_neg hb]
theorem blank_set (c : UInt8) : ([32, 9] : List UInt8).contains c = blank c := by
  unfold blank
  by_cases h1 : c = 32
  · subst h1; rfl
  · by_cases h2 : c = 9
    · subst h2; rfl
    · have e1 : ¬ (c.toNat : Int) = 32 := fun e => h1 (UInt8.toNat_inj.1 (by show c.toNat = 32; omega))
      have e2 : ¬ (c.toNat : Int) = 9 := fun e => h2 (UInt8.toNat_inj.1 (by show c.toNat = 9; omega))
      rw [decide_eq_false e1, decide_eq_false e2]
      simp [h1, h2]
theorem trim_l (s : ByteArray) : (trimT s).data.toList = rt (lf s.data.toList) := by
  have e : (fun c : UInt8 => ([32, 9] : List UInt8).contains c) = blank := funext blank_set
  show Lib.trimLeftS (Lib.trimRightS s.data.toList [32, 9]) [32, 9] = _
  unfold Lib.trimLeftS Lib.trimRightS
  rw [e]
  exact lf_rt _
theorem ba_of {s : ByteArray} {l : List UInt8} (h : s.data.toList = l) : s = ⟨l.toArray⟩ := ByteArray.ext (by rw [← h])
theorem ba_inj {s t : ByteArray} (h : s.data.toList = t.data.toList) : s = t := ByteArray.ext (Array.toList_inj.1 h)
theorem tr_l1 (n : Nat) : ∀ (l : List UInt8) (k : Nat), l.length = n → n ≤ 100000 → belvedereref10_trim.l1 (k + n + 1) ⟨l.toArray⟩ = some ⟨(rt l).toArray⟩ := by
  induction n with
  | zero =>
    intro l k hl _
    obtain rfl := List.length_eq_zero_iff.1 hl
    rfl
  | succ n ih =>
    intro l k hl hn
    obtain ⟨m, c, rfl⟩ : ∃ m c, l = m ++ [c] := ⟨l.dropLast, l.getLast (by intro e; rw [e] at hl; cases hl), (List.dropLast_concat_getLast _).symm⟩
    have hm : m.length = n := by rw [List.length_append] at hl; simpa using hl
    have hsz : (⟨(m ++ [c]).toArray⟩ : ByteArray).size = n + 1 := hl
    have hw : wrap64 (((⟨(m ++ [c]).toArray⟩ : ByteArray).size : Int) - 1) = (n : Int) := by rw [hsz, w64 (by omega) (by omega)]; omega
    have hb : bt ⟨(m ++ [c]).toArray⟩ (n : Int) = (c.toNat : Int) := by
      rw [bt_l _ n (by show n < (m ++ [c]).length; omega)]
      congr 1
      simp [← hm]
    have hx : (⟨(m ++ [c]).toArray⟩ : ByteArray).extract 0 n = ⟨m.toArray⟩ := ba_inj (by
      rw [ByteArray.data_extract, Array.toList_extract, List.extract_eq_take_drop, List.drop_zero, Nat.sub_zero]
      show (m ++ [c]).take n = m
      rw [← hm, List.take_left])
    have hrt : rt (m ++ [c]) = if blank c = true then rt m else m ++ [c] := by
      unfold rt
      rw [List.reverse_append]
      show (List.dropWhile blank (c :: m.reverse)).reverse = _
      by_cases h : blank c = true
      · rw [List.dropWhile_cons_of_pos h, if_pos h]
      · rw [List.dropWhile_cons_of_neg h, if_neg h]; simp
    rw [show k + (n + 1) + 1 = (k + n + 1) + 1 by omega, belvedereref10_trim.l1, hw, hb, hsz, if_pos (by omega), if_pos (by omega), if_pos (by omega), Int.toNat_natCast, hx, hrt]
    have hi := ih m k hm (by omega)
    unfold blank
    by_cases h1 : (c.toNat : Int) = 32
    · rw [if_pos h1, if_pos (by omega), hi, decide_eq_true h1, Bool.true_or, if_pos rfl]
    · rw [if_neg h1, decide_eq_false h1, Bool.false_or]
      by_cases h2 : (c.toNat : Int) = 9
      · rw [if_pos h2, if_pos (by omega), hi, decide_eq_true h2, if_pos rfl]
      · rw [if_neg h2, decide_eq_false h2, if_neg (by decide)]
theorem ref_l0_trim (l : List UInt8) : ∀ k : Nat, l.length ≤ 100000 → belvedereref10_trim.l0 (k + l.length + l.length + 3) ⟨l.toArray⟩ = some ⟨(rt (lf l)).toArray⟩ := by
  induction l with
  | nil => intro k _; rfl
  | cons c r ih =>
    intro k hl
    rw [List.length_cons] at hl
    have hsz : (⟨(c :: r).toArray⟩ : ByteArray).size = r.length + 1 := rfl
    have hb : bt ⟨(c :: r).toArray⟩ 0 = (c.toNat : Int) := by
      have := bt_l ⟨(c :: r).toArray⟩ 0 (by show 0 < (c :: r).length; simp)
      simpa using this
    have hx : (⟨(c :: r).toArray⟩ : ByteArray).extract 1 (r.length + 1) = ⟨r.toArray⟩ := ba_inj (by
      rw [ByteArray.data_extract, Array.toList_extract, List.extract_eq_take_drop]
      show ((c :: r).drop 1).take (r.length + 1 - 1) = r
      simp)
    have hi := ih (k + 1) (by omega)
    have hj : ∀ n, belvedereref10_trim.j1 (n + (r.length + 1) + 2) ⟨(c :: r).toArray⟩ = some ⟨(rt (c :: r)).toArray⟩ := fun n => by
      rw [show n + (r.length + 1) + 2 = (n + (r.length + 1) + 1) + 1 by omega, belvedereref10_trim.j1]
      exact tr_l1 (r.length + 1) (c :: r) n rfl (by omega)
    rw [List.length_cons, show k + (r.length + 1) + (r.length + 1) + 3 = (k + 1 + r.length + r.length + 3) + 1 by omega, belvedereref10_trim.l0, hsz, hb, if_pos (by omega), if_pos (by omega)]
    by_cases h1 : (c.toNat : Int) = 32
    · have hbk : blank c = true := by unfold blank; rw [decide_eq_true h1]; rfl
      rw [if_pos h1, if_pos (by omega), hx, hi, lf_pos hbk]
    · rw [if_neg h1]
      by_cases h2 : (c.toNat : Int) = 9
      · have hbk : blank c = true := by unfold blank; rw [decide_eq_true h2, Bool.or_true]
        rw [if_pos h2, if_pos (by omega), hx, hi, lf_pos hbk]
      · have hbk : ¬ blank c = true := by unfold blank; rw [decide_eq_false h1, decide_eq_false h2]; decide
        rw [if_neg h2, lf_neg hbk, show k + 1 + r.length + r.length + 3 = (k + r.length + 1) + (r.length + 1) + 2 by omega]
        exact hj _
theorem ref_trim (s : ByteArray) (k : Nat) (hs : s.size ≤ 1000) : belvedereref10_trim.f (k + 2003) s = some (trimT s) := by
  have h := ref_l0_trim s.data.toList (k + 2000 - s.size - s.size) (by rw [← size_l]; omega)
  rw [← size_l, show k + 2000 - s.size - s.size + s.size + s.size + 3 = k + 2003 by omega] at h
  unfold belvedereref10_trim.f
  rw [show trimT s = ⟨(rt (lf s.data.toList)).toArray⟩ from ba_of (trim_l s)]
  exact h
/-! ### what is wrong with parts -/
open Classical
theorem rd_at (l pre : List ByteArray) (x : ByteArray) (r : List ByteArray) (h : l = pre ++ x :: r) : rdOf ByteArray.empty l (pre.length : Int) = x := by
  unfold rdOf
  rw [Int.toNat_natCast, h, List.getD_eq_getElem?_getD, List.getElem?_append_right (Nat.le_refl _), Nat.sub_self]
  rfl
theorem empty_iff (x : ByteArray) : x.toList = ([] : List UInt8) ↔ x = ⟨#[]⟩ := by
  rw [toList_l]
  constructor
  · intro h; exact ba_inj h
  · intro h; rw [h]
theorem chk_l0 (l : List ByteArray) (hz : l.length ≤ 100000) : ∀ (rest pre : List ByteArray) (k : Nat), l = pre ++ rest →
    belvedereref10_check.l0 (k + rest.length + 1) l (pre.length : Int) = if (⟨#[]⟩ : ByteArray) ∈ rest then some 3 else belvedereref10_check.l1 k l 0 := by
  intro rest
  induction rest with
  | nil =>
    intro pre k h
    have hl : l.length = pre.length := by rw [h]; simp
    rw [List.length_nil, Nat.add_zero, belvedereref10_check.l0, if_neg (by omega), if_neg (by simp)]
  | cons x r ih =>
    intro pre k h
    have hl : l.length = pre.length + (r.length + 1) := by rw [h]; simp
    have hw : wrap64 ((pre.length : Int) + 1) = ((pre ++ [x]).length : Int) := by rw [w64 (by omega) (by omega), List.length_append]; simp
    rw [List.length_cons, show k + (r.length + 1) + 1 = (k + r.length + 1) + 1 by omega, belvedereref10_check.l0, if_pos (by omega), if_pos (Int.natCast_nonneg _), rd_at l pre x r h]
    by_cases hx : x.toList = ([] : List UInt8)
    · rw [if_pos hx, if_pos (by rw [(empty_iff x).1 hx]; exact List.mem_cons_self ..)]
    · rw [if_neg hx, hw, ih (pre ++ [x]) k (by rw [h]; simp)]
      by_cases hm : (⟨#[]⟩ : ByteArray) ∈ r
      · rw [if_pos hm, if_pos (List.mem_cons_of_mem _ hm)]
      · rw [if_neg hm, if_neg (fun e => (List.mem_cons.1 e).elim (fun q => hx ((empty_iff x).2 q.symm)) hm)]
theorem chk_l2 (l : List ByteArray) (hz : l.length ≤ 100000) (done : List ByteArray) (x : ByteArray) (r : List ByteArray) (hl : l = done ++ x :: r) : ∀ (rest pre : List ByteArray) (k : Nat), done = pre ++ rest →
    belvedereref10_check.l2 (k + rest.length + 1) l (done.length : Int) (pre.length : Int) = if x ∈ rest then some 7 else belvedereref10_check.l1 k l ((done.length + 1 : Nat) : Int) := by
  have hll : l.length = done.length + (r.length + 1) := by rw [hl]; simp
  have hwd : wrap64 ((done.length : Int) + 1) = ((done.length + 1 : Nat) : Int) := by rw [w64 (by omega) (by omega)]; omega
  intro rest
  induction rest with
  | nil =>
    intro pre k h
    have hp : done.length = pre.length := by rw [h]; simp
    rw [List.length_nil, Nat.add_zero, belvedereref10_check.l2, if_neg (by omega), hwd, if_neg (by simp)]
  | cons y q ih =>
    intro pre k h
    have hp : done.length = pre.length + (q.length + 1) := by rw [h]; simp
    have hw : wrap64 ((pre.length : Int) + 1) = ((pre ++ [y]).length : Int) := by rw [w64 (by omega) (by omega), List.length_append]; simp
    have hy : rdOf ByteArray.empty l (pre.length : Int) = y := rd_at l pre y (q ++ x :: r) (by rw [hl, h]; simp)
    rw [List.length_cons, show k + (q.length + 1) + 1 = (k + q.length + 1) + 1 by omega, belvedereref10_check.l2, if_pos (by omega), if_pos (Int.natCast_nonneg _), if_pos (by omega), if_pos (Int.natCast_nonneg _), if_pos (by omega), rd_at l done x r hl, hy]
    by_cases hx : x.toList = y.toList
    · have e : x = y := ba_inj (by rw [← toList_l, ← toList_l]; exact hx)
      rw [if_pos hx, if_pos (by rw [e]; exact List.mem_cons_self ..)]
    · rw [if_neg hx, hw, ih (pre ++ [y]) k (by rw [h]; simp)]
      by_cases hm : x ∈ q
      · rw [if_pos hm, if_pos (List.mem_cons_of_mem _ hm)]
      · rw [if_neg hm, if_neg (fun e => (List.mem_cons.1 e).elim (fun p => hx (by rw [p])) hm)]
theorem chk_l1 (l : List ByteArray) (hz : l.length ≤ 600) : ∀ (rest done : List ByteArray) (k : Nat), l = done ++ rest → done.Nodup →
    belvedereref10_check.l1 (k + rest.length * 1000 + 1) l (done.length : Int) = if l.Nodup then (if 4096 < l.length then some 2 else some 0) else some 7 := by
  intro rest
  induction rest with
  | nil =>
    intro done k h hd
    have e : done = l := by rw [h]; simp
    rw [List.length_nil, Nat.zero_mul, Nat.add_zero, belvedereref10_check.l1, e, if_neg (by omega), if_neg (show ¬ ((l.length : Int) > 4096) by omega), if_pos (show l.Nodup by rw [← e]; exact hd), if_neg (by omega)]
  | cons x r ih =>
    intro done k h hd
    have hl : l.length = done.length + (r.length + 1) := by rw [h]; simp
    have h2 := chk_l2 l (by omega) done x r h done [] (k + r.length * 1000 + 999 - done.length) (by simp)
    rw [show k + r.length * 1000 + 999 - done.length + done.length + 1 = k + (r.length + 1) * 1000 by omega] at h2
    rw [List.length_cons, belvedereref10_check.l1, if_pos (by omega)]
    refine h2.trans ?_
    by_cases hx : x ∈ done
    · rw [if_pos hx, if_neg (fun hn => by
        rw [h, List.nodup_append] at hn
        exact hn.2.2 x hx x (List.mem_cons_self ..) rfl)]
    · rw [if_neg hx]
      have hi := ih (done ++ [x]) (k + 998 - done.length) (by rw [h]; simp) (by
        rw [List.nodup_append]
        exact ⟨hd, by simp, fun a ha b hb e => hx (by rw [List.mem_singleton] at hb; rw [← hb, ← e]; exact ha)⟩)
      rw [List.length_append, List.length_singleton, show k + 998 - done.length + r.length * 1000 + 1 = k + r.length * 1000 + 999 - done.length by omega] at hi
      exact hi
/-- What is wrong with parts, by its number. -/
noncomputable def chkC (l : List ByteArray) : Int := if (⟨#[]⟩ : ByteArray) ∈ l then 3 else if l.Nodup then (if 4096 < l.length then 2 else 0) else 7
theorem ref_chk (l : List ByteArray) (hz : l.length ≤ 600) (k : Nat) : belvedereref10_check.f (k + 700000) l = some (chkC l) := by
  unfold belvedereref10_check.f chkC
  have h0 := chk_l0 l (by omega) l [] (k + 699999 - l.length) rfl
  rw [show k + 699999 - l.length + l.length + 1 = k + 700000 by omega] at h0
  refine h0.trans ?_
  by_cases hm : (⟨#[]⟩ : ByteArray) ∈ l
  · rw [if_pos hm, if_pos hm]
  · have h1 := chk_l1 l hz l [] (k + 699998 - l.length - l.length * 1000) (by simp) List.nodup_nil
    rw [show k + 699998 - l.length - l.length * 1000 + l.length * 1000 + 1 = k + 699999 - l.length by omega] at h1
    rw [if_neg hm, if_neg hm]
    refine h1.trans ?_
    by_cases hn : l.Nodup
    · rw [if_pos hn, if_pos hn]
      by_cases h4 : 4096 < l.length
      · rw [if_pos h4, if_pos h4]
      · rw [if_neg h4, if_neg h4]
    · rw [if_neg hn, if_neg hn]
end Go.Proofs.YtahjnjlkpbjfnaaGreatDoor.PVal

/- Plain mathematics of layer 10: parts of a text. -/
set_option linter.unusedVariables false
set_option linter.unusedSimpArgs false
namespace Go.Proofs.YtahjnjlkpbjfnaaGreatDoor.PVal
open Go Go.RowKit Go.Proofs.YtahjnjlkpbjfnaaGreatDoor.P Go.Proofs.YtahjnjlkpbjfnaaGreatDoorW.PrintWords Go.Proofs.YtahjnjlkpbjfnaaGreatDoorW.PrintLast Go.Proofs.YtahjnjlkpbjfnaaGreatDoorW.PrintMore
open Classical
/-! ### List -/
theorem chk_code (l : List ByteArray) : (if Lib.containsS l ⟨#[]⟩ = true then (([] : List ByteArray), some (3 : Int)) else if dupS l = true then ([], some 7) else if 4096 < l.length then ([], some 2) else (l, none)) = if chkC l = 0 then (l, none) else ([], some (chkC l)) := by
  unfold chkC
  by_cases h1 : (⟨#[]⟩ : ByteArray) ∈ l
  · rw [if_pos ((Lib.containsS_iff l _).2 h1), if_pos h1, if_neg (by decide)]
  · rw [if_neg (fun e => h1 ((Lib.containsS_iff l _).1 e)), if_neg h1]
    by_cases h2 : l.Nodup
    · rw [if_neg (fun e => (dup_iff l).1 e h2), if_pos h2]
      by_cases h3 : 4096 < l.length
      · rw [if_pos h3, if_pos h3, if_neg (by decide)]
      · rw [if_neg h3, if_neg h3, if_pos rfl]
    · rw [if_pos ((dup_iff l).2 h2), if_neg h2, if_neg (by decide)]
theorem trim_k (s : ByteArray) (k : Nat) (hs : s.size ≤ 1000) (hk : 2003 ≤ k) : belvedereref10_trim.f k s = some (trimT s) := by
  have h := ref_trim s (k - 2003) hs
  rwa [Nat.sub_add_cancel hk] at h
theorem chk_k (l : List ByteArray) (hz : l.length ≤ 600) (k : Nat) (hk : 700000 ≤ k) : belvedereref10_check.f k l = some (chkC l) := by
  have h := ref_chk l hz (k - 700000)
  rwa [Nat.sub_add_cancel hk] at h
theorem sure_n (k : Nat) (hk : 10 ≤ k) : belvederelaw10_sure.f k = some true := by
  have h := sure_k (k - 10)
  rwa [Nat.sub_add_cancel hk] at h
theorem ref_list_l0 (s : ByteArray) (hs : s.size ≤ 500) : ∀ (rest pre cur : List UInt8) (acc : List ByteArray) (k : Nat), s.data.toList = pre ++ cur ++ rest → acc.length ≤ pre.length → rest.length + 700010 ≤ k →
    belvedereref10_List.l0 k s acc (pre.length : Int) ((pre.length + cur.length : Nat) : Int) =
      if chkC (acc ++ (cutAt 44 cur rest).map fun l => trimT ⟨l.toArray⟩) = 0 then some (acc ++ (cutAt 44 cur rest).map fun l => trimT ⟨l.toArray⟩, 0) else some ([], chkC (acc ++ (cutAt 44 cur rest).map fun l => trimT ⟨l.toArray⟩)) := by
  have hsl := size_l s
  intro rest
  induction rest with
  | nil =>
    intro pre cur acc k h ha hk
    obtain ⟨n, rfl⟩ : ∃ n, k = n + 1 + 1 := ⟨k - 2, by omega⟩
    rw [List.length_nil] at hk
    have hl : s.size = pre.length + cur.length := by rw [hsl, h]; simp
    have hx : s.extract pre.length (pre.length + cur.length) = ⟨cur.toArray⟩ := ba_inj (by
      rw [ByteArray.data_extract, Array.toList_extract, List.extract_eq_take_drop, h, List.append_nil]
      show ((pre ++ cur).drop pre.length).take (pre.length + cur.length - pre.length) = cur
      rw [List.drop_left, Nat.add_sub_cancel_left, List.take_length])
    have hxs : (⟨cur.toArray⟩ : ByteArray).size ≤ 1000 := by show cur.length ≤ _; omega
    have hw : wrap64 (((pre.length + cur.length : Nat) : Int) + 1) = ((s.size + 1 : Nat) : Int) := by rw [w64 (by omega) (by omega)]; omega
    have ht := fun n hn => trim_k ⟨cur.toArray⟩ n hxs hn
    have hc := fun n hn => chk_k (acc ++ [trimT ⟨cur.toArray⟩]) (by rw [List.length_append, List.length_singleton]; omega) n hn
    rw [belvedereref10_List.l0, if_pos (by omega), if_pos (by omega), if_pos (Int.natCast_nonneg _), if_pos (by omega), Int.toNat_natCast, Int.toNat_natCast, hx, ht _ (by omega), Option.bind_some, if_pos (by omega), hw, belvedereref10_List.l0, if_neg (by omega), hc _ (by omega), Option.bind_some]
    rfl
  | cons d r ih =>
    intro pre cur acc k h ha hk
    obtain ⟨n, rfl⟩ : ∃ n, k = n + 1 := ⟨k - 1, by omega⟩
    rw [List.length_cons] at hk
    have hl : s.size = pre.length + cur.length + (r.length + 1) := by rw [hsl, h]; simp; omega
    have hb : bt s ((pre.length + cur.length : Nat) : Int) = (d.toNat : Int) := by
      rw [bt_l s (pre.length + cur.length) (by rw [← hsl]; omega)]
      congr 1
      have : s.data.toList[pre.length + cur.length]? = some d := by
        rw [h, show pre.length + cur.length = (pre ++ cur).length by simp, List.getElem?_append_right (Nat.le_refl _), Nat.sub_self]; rfl
      rw [List.getElem?_eq_getElem (by rw [← hsl]; omega)] at this
      exact congrArg UInt8.toNat (Option.some.inj this)
    have hw : wrap64 (((pre.length + cur.length : Nat) : Int) + 1) = ((pre.length + cur.length + 1 : Nat) : Int) := by rw [w64 (by omega) (by omega)]; omega
    rw [belvedereref10_List.l0, if_pos (by omega), if_neg (by omega), if_pos (Int.natCast_nonneg _), if_pos (by omega), hb]
    by_cases hd : d = 44
    · have hx : s.extract pre.length (pre.length + cur.length) = ⟨cur.toArray⟩ := ba_inj (by
        rw [ByteArray.data_extract, Array.toList_extract, List.extract_eq_take_drop, h, List.append_assoc]
        show ((pre ++ (cur ++ d :: r)).drop pre.length).take (pre.length + cur.length - pre.length) = cur
        rw [List.drop_left, Nat.add_sub_cancel_left, List.take_left])
      have hxs : (⟨cur.toArray⟩ : ByteArray).size ≤ 1000 := by show cur.length ≤ _; omega
      have ht := fun n hn => trim_k ⟨cur.toArray⟩ n hxs hn
      have hi := ih (pre ++ cur ++ [d]) [] (acc ++ [trimT ⟨cur.toArray⟩]) n (by rw [h]; simp) (by simp; omega) (by omega)
      have e2 : (pre ++ cur ++ [d]).length + ([] : List UInt8).length = pre.length + cur.length + 1 := by simp only [List.length_append, List.length_singleton, List.length_nil] <;> omega
      have e1 : (pre ++ cur ++ [d]).length = pre.length + cur.length + 1 := by simp only [List.length_append, List.length_singleton]
      rw [e2, e1] at hi
      have hcut : cutAt 44 cur (d :: r) = cur :: cutAt 44 [] r := by rw [cutAt, if_pos hd]
      rw [if_pos (by rw [hd]; rfl), if_pos (Int.natCast_nonneg _), if_pos (by omega), Int.toNat_natCast, Int.toNat_natCast, hx, ht _ (by omega), Option.bind_some, if_pos (by omega), hw, hi, hcut, List.map_cons, List.append_assoc]
      rfl
    · have hi := ih pre (cur ++ [d]) acc n (by rw [h]; simp) ha (by omega)
      have e3 : pre.length + (cur ++ [d]).length = pre.length + cur.length + 1 := by simp only [List.length_append, List.length_singleton] <;> omega
      rw [e3] at hi
      have hcut : cutAt 44 cur (d :: r) = cutAt 44 (cur ++ [d]) r := by rw [cutAt, if_neg hd]
      rw [if_neg (fun e => hd (UInt8.toNat_inj.1 (by show d.toNat = 44; omega))), hw, hi, hcut]
theorem ref_list (s : ByteArray) (hs : s.size ≤ 500) (k : Nat) (hk : 701000 ≤ k) : belvedereref10_List.f k s = some ((listOf s).1, E (listOf s).2) := by
  have ht := trim_k s k (by omega) (by omega)
  have h0 := ref_list_l0 s hs s.data.toList [] [] [] k (by simp) (Nat.le_refl _) (by rw [← size_l]; omega)
  have hp : (([] : List ByteArray) ++ (cutAt 44 [] s.data.toList).map fun l => trimT ⟨l.toArray⟩) = partsT s := by
    unfold partsT partsAt
    rw [List.nil_append, List.map_map]
    rfl
  rw [hp] at h0
  unfold belvedereref10_List.f listOf
  rw [ht, Option.bind_some]
  by_cases he : (trimT s).toList = ([] : List UInt8)
  · rw [if_pos he, if_pos he]; rfl
  · rw [if_neg he, if_neg he, chk_code]
    refine h0.trans ?_
    by_cases hc : chkC (partsT s) = 0
    · rw [if_pos hc, if_pos hc]; rfl
    · rw [if_neg hc, if_neg hc]; rfl
end Go.Proofs.YtahjnjlkpbjfnaaGreatDoor.PVal
