/- Plain mathematics of layer 10: blanks at two ends, and what is wrong with parts. -/
import Derived.Test.YtahjnjlkpbjfnaaGreatDoorVaIntL
import Derived.Test.YtahjnjlkpbjfnaaGreatDoorPx9
import Derived.Test.YtahjnjlkpbjfnaaGreatDoorPx10
import Derived.Lib.Join
set_option linter.unusedVariables false
set_option linter.unusedSimpArgs false
namespace Go.Proofs.YtahjnjlkpbjfnaaGreatDoor.PVal
open Go Go.RowKit Go.Proofs.YtahjnjlkpbjfnaaGreatDoor.P Go.Proofs.YtahjnjlkpbjfnaaGreatDoorW.PrintWords Go.Proofs.YtahjnjlkpbjfnaaGreatDoorW.PrintLast Go.Proofs.YtahjnjlkpbjfnaaGreatDoorW.PrintMore
def blank (c : UInt8) : Bool := decide ((c.toNat : Int) = 32) || decide ((c.toNat : Int) = 9)
def lf (l : List UInt8) : List UInt8 := l.dropWhile blank
def rt (l : List UInt8) : List UInt8 := (l.reverse.dropWhile blank).reverse
theorem rt_nil : rt [] = [] := rfl
theorem rt_cons (c : UInt8) (r : List UInt8) : rt (c :: r) = if rt r = [] then (if blank c = true then [] else [c]) else c :: rt r := by
  unfold rt
  rw [List.reverse_cons, List.dropWhile_append]
  cases h : (List.dropWhile blank r.reverse) with
  | nil =>
    rw [if_pos (by rfl), if_pos (by rfl)]
    by_cases hb : blank c = true
    · rw [List.dropWhile_cons_of_pos hb, if_pos hb]; rfl
    · rw [List.dropWhile_cons_of_neg hb, if_neg hb]; rfl
  | cons d q =>
    rw [if_neg (by simp), if_neg (by simp)]
    simp
theorem lf_pos {c : UInt8} {r : List UInt8} (h : blank c = true) : lf (c :: r) = lf r := List.dropWhile_cons_of_pos h
theorem lf_neg {c : UInt8} {r : List UInt8} (h : ¬ blank c = true) : lf (c :: r) = c :: r := List.dropWhile_cons_of_neg h
theorem lf_rt (l : List UInt8) : lf (rt l) = rt (lf l) := by
  induction l with
  | nil => rfl
  | cons c r ih =>
    by_cases hb : blank c = true
    · rw [lf_pos hb, ← ih, rt_cons]
      by_cases h : rt r = []
      · rw [if_pos h, if_pos hb, h]
      · rw [if_neg h, lf_pos hb]
    · rw [lf_neg hb, rt_cons]
      by_cases h : rt r = []
      · rw [if_pos h, if_neg hb, lf_neg hb]
      · rw [if_neg h, lf_neg hb]
theorem blank_set (c : UInt8) : ([32, 9] : List UInt8).contains c = blank c := by
  unfold blank
  by_cases h1 : c = 32
  · subst h1; rfl
  · by_cases h2 : c = 9
    · subst h2; rfl
    · have e1 : ¬ (c.toNat : Int) = 32 := fun e => h1 (UInt8.toNat_inj.1 (by show c.toNat = 32; omega))
      have e2 : ¬ (c.toNat : Int) = 9 := fun e => h2 (UInt8.toNat_inj.1 (by show c.toNat = 9; omega))
      rw [decide_eq_false e1, decide_eq_false e2]
      simp [h1, h2]
theorem trim_l (s : ByteArray) : (trimT s).data.toList = rt (lf s.data.toList) := by
  have e : (fun c : UInt8 => ([32, 9] : List UInt8).contains c) = blank := funext blank_set
  show Lib.trimLeftS (Lib.trimRightS s.data.toList [32, 9]) [32, 9] = _
  unfold Lib.trimLeftS Lib.trimRightS
  rw [e]
  exact lf_rt _
theorem ba_of {s : ByteArray} {l : List UInt8} (h : s.data.toList = l) : s = ⟨l.toArray⟩ := ByteArray.ext (by rw [← h])
theorem ba_inj {s t : ByteArray} (h : s.data.toList = t.data.toList) : s = t := ByteArray.ext (Array.toList_inj.1 h)
theorem tr_l1 (n : Nat) : ∀ (l : List UInt8) (k : Nat), l.length = n → n ≤ 100000 → belvedereref10_trim.l1 (k + n + 1) ⟨l.toArray⟩ = some ⟨(rt l).toArray⟩ := by
  induction n with
  | zero =>
    intro l k hl _
    obtain rfl := List.length_eq_zero_iff.1 hl
    rfl
  | succ n ih =>
    intro l k hl hn
    obtain ⟨m, c, rfl⟩ : ∃ m c, l = m ++ [c] := ⟨l.dropLast, l.getLast (by intro e; rw [e] at hl; cases hl), (List.dropLast_concat_getLast _).symm⟩
    have hm : m.length = n := by rw [List.length_append] at hl; simpa using hl
    have hsz : (⟨(m ++ [c]).toArray⟩ : ByteArray).size = n + 1 := hl
    have hw : wrap64 (((⟨(m ++ [c]).toArray⟩ : ByteArray).size : Int) - 1) = (n : Int) := by rw [hsz, w64 (by omega) (by omega)]; omega
    have hb : bt ⟨(m ++ [c]).toArray⟩ (n : Int) = (c.toNat : Int) := by
      rw [bt_l _ n (by show n < (m ++ [c]).length; omega)]
      congr 1
      simp [← hm]
    have hx : (⟨(m ++ [c]).toArray⟩ : ByteArray).extract 0 n = ⟨m.toArray⟩ := ba_inj (by
      rw [ByteArray.data_extract, Array.toList_extract, List.extract_eq_take_drop, List.drop_zero, Nat.sub_zero]
      show (m ++ [c]).take n = m
      rw [← hm, List.take_left])
    have hrt : rt (m ++ [c]) = if blank c = true then rt m else m ++ [c] := by
      unfold rt
      rw [List.reverse_append]
      show (List.dropWhile blank (c :: m.reverse)).reverse = _
      by_cases h : blank c = true
      · rw [List.dropWhile_cons_of_pos h, if_pos h]
      · rw [List.dropWhile_cons_of_neg h, if_neg h]; simp
    rw [show k + (n + 1) + 1 = (k + n + 1) + 1 by omega, belvedereref10_trim.l1, hw, hb, hsz, if_pos (by omega), if_pos (by omega), if_pos (by omega), Int.toNat_natCast, hx, hrt]
    have hi := ih m k hm (by omega)
    unfold blank
    by_cases h1 : (c.toNat : Int) = 32
    · rw [if_pos h1, if_pos (by omega), hi, decide_eq_true h1, Bool.true_or, if_pos rfl]
    · rw [if_neg h1, decide_eq_false h1, Bool.false_or]
      by_cases h2 : (c.toNat : Int) = 9
      · rw [if_pos h2, if_pos (by omega), hi, decide_eq_true h2, if_pos rfl]
      · rw [if_neg h2, decide_eq_false h2, if_neg (by decide)]
theorem ref_l0_trim (l : List UInt8) : ∀ k : Nat, l.length ≤ 100000 → belvedereref10_trim.l0 (k + l.length + l.length + 3) ⟨l.toArray⟩ = some ⟨(rt (lf l)).toArray⟩ := by
  induction l with
  | nil => intro k _; rfl
  | cons c r ih =>
    intro k hl
    rw [List.length_cons] at hl
    have hsz : (⟨(c :: r).toArray⟩ : ByteArray).size = r.length + 1 := rfl
    have hb : bt ⟨(c :: r).toArray⟩ 0 = (c.toNat : Int) := by
      have := bt_l ⟨(c :: r).toArray⟩ 0 (by show 0 < (c :: r).length; simp)
      simpa using this
    have hx : (⟨(c :: r).toArray⟩ : ByteArray).extract 1 (r.length + 1) = ⟨r.toArray⟩ := ba_inj (by
      rw [ByteArray.data_extract, Array.toList_extract, List.extract_eq_take_drop]
      show ((c :: r).drop 1).take (r.length + 1 - 1) = r
      simp)
    have hi := ih (k + 1) (by omega)
    have hj : ∀ n, belvedereref10_trim.j1 (n + (r.length + 1) + 2) ⟨(c :: r).toArray⟩ = some ⟨(rt (c :: r)).toArray⟩ := fun n => by
      rw [show n + (r.length + 1) + 2 = (n + (r.length + 1) + 1) + 1 by omega, belvedereref10_trim.j1]
      exact tr_l1 (r.length + 1) (c :: r) n rfl (by omega)
    rw [List.length_cons, show k + (r.length + 1) + (r.length + 1) + 3 = (k + 1 + r.length + r.length + 3) + 1 by omega, belvedereref10_trim.l0, hsz, hb, if_pos (by omega), if_pos (by omega)]
    by_cases h1 : (c.toNat : Int) = 32
    · have hbk : blank c = true := by unfold blank; rw [decide_eq_true h1]; rfl
      rw [if_pos h1, if_pos (by omega), hx, hi, lf_pos hbk]
    · rw [if_neg h1]
      by_cases h2 : (c.toNat : Int) = 9
      · have hbk : blank c = true := by unfold blank; rw [decide_eq_true h2, Bool.or_true]
        rw [if_pos h2, if_pos (by omega), hx, hi, lf_pos hbk]
      · have hbk : ¬ blank c = true := by unfold blank; rw [decide_eq_false h1, decide_eq_false h2]; decide
        rw [if_neg h2, lf_neg hbk, show k + 1 + r.length + r.length + 3 = (k + r.length + 1) + (r.length + 1) + 2 by omega]
        exact hj _
theorem ref_trim (s : ByteArray) (k : Nat) (hs : s.size ≤ 1000) : belvedereref10_trim.f (k + 2003) s = some (trimT s) := by
  have h := ref_l0_trim s.data.toList (k + 2000 - s.size - s.size) (by rw [← size_l]; omega)
  rw [← size_l, show k + 2000 - s.size - s.size + s.size + s.size + 3 = k + 2003 by omega] at h
  unfold belvedereref10_trim.f
  rw [show trimT s = ⟨(rt (lf s.data.toList)).toArray⟩ from ba_of (trim_l s)]
  exact h
/-! ### what is wrong with parts -/
open Classical
theorem rd_at (l pre : List ByteArray) (x : ByteArray) (r : List ByteArray) (h : l = pre ++ x :: r) : rdOf ByteArray.empty l (pre.length : Int) = x := by
  unfold rdOf
  rw [Int.toNat_natCast, h, List.getD_eq_getElem?_getD, List.getElem?_append_right (Nat.le_refl _), Nat.sub_self]
  rfl
theorem empty_iff (x : ByteArray) : x.toList = ([] : List UInt8) ↔ x = ⟨#[]⟩ := by
  rw [toList_l]
  constructor
  · intro h; exact ba_inj h
  · intro h; rw [h]
theorem chk_l0 (l : List ByteArray) (hz : l.length ≤ 100000) : ∀ (rest pre : List ByteArray) (k : Nat), l = pre ++ rest →
    belvedereref10_check.l0 (k + rest.length + 1) l (pre.length : Int) = if (⟨#[]⟩ : ByteArray) ∈ rest then some 3 else belvedereref10_check.l1 k l 0 := by
  intro rest
  induction rest with
  | nil =>
    intro pre k h
    have hl : l.length = pre.length := by rw [h]; simp
    rw [List.length_nil, Nat.add_zero, belvedereref10_check.l0, if_neg (by omega), if_neg (by simp)]
  | cons x r ih =>
    intro pre k h
    have hl : l.length = pre.length + (r.length + 1) := by rw [h]; simp
    have hw : wrap64 ((pre.length : Int) + 1) = ((pre ++ [x]).length : Int) := by rw [w64 (by omega) (by omega), List.length_append]; simp
    rw [List.length_cons, show k + (r.length + 1) + 1 = (k + r.length + 1) + 1 by omega, belvedereref10_check.l0, if_pos (by omega), if_pos (Int.natCast_nonneg _), rd_at l pre x r h]
    by_cases hx : x.toList = ([] : List UInt8)
    · rw [if_pos hx, if_pos (by rw [(empty_iff x).1 hx]; exact List.mem_cons_self ..)]
    · rw [if_neg hx, hw, ih (pre ++ [x]) k (by rw [h]; simp)]
      by_cases hm : (⟨#[]⟩ : ByteArray) ∈ r
      · rw [if_pos hm, if_pos (List.mem_cons_of_mem _ hm)]
      · rw [if_neg hm, if_neg (fun e => (List.mem_cons.1 e).elim (fun q => hx ((empty_iff x).2 q.symm)) hm)]
theorem chk_l2 (l : List ByteArray) (hz : l.length ≤ 100000) (done : List ByteArray) (x : ByteArray) (r : List ByteArray) (hl : l = done ++ x :: r) : ∀ (rest pre : List ByteArray) (k : Nat), done = pre ++ rest →
    belvedereref10_check.l2 (k + rest.length + 1) l (done.length : Int) (pre.length : Int) = if x ∈ rest then some 7 else belvedereref10_check.l1 k l ((done.length + 1 : Nat) : Int) := by
  have hll : l.length = done.length + (r.length + 1) := by rw [hl]; simp
  have hwd : wrap64 ((done.length : Int) + 1) = ((done.length + 1 : Nat) : Int) := by rw [w64 (by omega) (by omega)]; omega
  intro rest
  induction rest with
  | nil =>
    intro pre k h
    have hp : done.length = pre.length := by rw [h]; simp
    rw [List.length_nil, Nat.add_zero, belvedereref10_check.l2, if_neg (by omega), hwd, if_neg (by simp)]
  | cons y q ih =>
    intro pre k h
    have hp : done.length = pre.length + (q.length + 1) := by rw [h]; simp
    have hw : wrap64 ((pre.length : Int) + 1) = ((pre ++ [y]).length : Int) := by rw [w64 (by omega) (by omega), List.length_append]; simp
    have hy : rdOf ByteArray.empty l (pre.length : Int) = y := rd_at l pre y (q ++ x :: r) (by rw [hl, h]; simp)
    rw [List.length_cons, show k + (q.length + 1) + 1 = (k + q.length + 1) + 1 by omega, belvedereref10_check.l2, if_pos (by omega), if_pos (Int.natCast_nonneg _), if_pos (by omega), if_pos (Int.natCast_nonneg _), if_pos (by omega), rd_at l done x r hl, hy]
    by_cases hx : x.toList = y.toList
    · have e : x = y := ba_inj (by rw [← toList_l, ← toList_l]; exact hx)
      rw [if_pos hx, if_pos (by rw [e]; exact List.mem_cons_self ..)]
    · rw [if_neg hx, hw, ih (pre ++ [y]) k (by rw [h]; simp)]
      by_cases hm : x ∈ q
      · rw [if_pos hm, if_pos (List.mem_cons_of_mem _ hm)]
      · rw [if_neg hm, if_neg (fun e => (List.mem_cons.1 e).elim (fun p => hx (by rw [p])) hm)]
theorem chk_l1 (l : List ByteArray) (hz : l.length ≤ 600) : ∀ (rest done : List ByteArray) (k : Nat), l = done ++ rest → done.Nodup →
    belvedereref10_check.l1 (k + rest.length * 1000 + 1) l (done.length : Int) = if l.Nodup then (if 4096 < l.length then some 2 else some 0) else some 7 := by
  intro rest
  induction rest with
  | nil =>
    intro done k h hd
    have e : done = l := by rw [h]; simp
    rw [List.length_nil, Nat.zero_mul, Nat.add_zero, belvedereref10_check.l1, e, if_neg (by omega), if_neg (show ¬ ((l.length : Int) > 4096) by omega), if_pos (show l.Nodup by rw [← e]; exact hd), if_neg (by omega)]
  | cons x r ih =>
    intro done k h hd
    have hl : l.length = done.length + (r.length + 1) := by rw [h]; simp
    have h2 := chk_l2 l (by omega) done x r h done [] (k + r.length * 1000 + 999 - done.length) (by simp)
    rw [show k + r.length * 1000 + 999 - done.length + done.length + 1 = k + (r.length + 1) * 1000 by omega] at h2
    rw [List.length_cons, belvedereref10_check.l1, if_pos (by omega)]
    refine h2.trans ?_
    by_cases hx : x ∈ done
    · rw [if_pos hx, if_neg (fun hn => by
        rw [h, List.nodup_append] at hn
        exact hn.2.2 x hx x (List.mem_cons_self ..) rfl)]
    · rw [if_neg hx]
      have hi := ih (done ++ [x]) (k + 998 - done.length) (by rw [h]; simp) (by
        rw [List.nodup_append]
        exact ⟨hd, by simp, fun a ha b hb e => hx (by rw [List.mem_singleton] at hb; rw [← hb, ← e]; exact ha)⟩)
      rw [List.length_append, List.length_singleton, show k + 998 - done.length + r.length * 1000 + 1 = k + r.length * 1000 + 999 - done.length by omega] at hi
      exact hi
/-- What is wrong with parts, by its number. -/
noncomputable def chkC (l : List ByteArray) : Int := if (⟨#[]⟩ : ByteArray) ∈ l then 3 else if l.Nodup then (if 4096 < l.length then 2 else 0) else 7
theorem ref_chk (l : List ByteArray) (hz : l.length ≤ 600) (k : Nat) : belvedereref10_check.f (k + 700000) l = some (chkC l) := by
  unfold belvedereref10_check.f chkC
  have h0 := chk_l0 l (by omega) l [] (k + 699999 - l.length) rfl
  rw [show k + 699999 - l.length + l.length + 1 = k + 700000 by omega] at h0
  refine h0.trans ?_
  by_cases hm : (⟨#[]⟩ : ByteArray) ∈ l
  · rw [if_pos hm, if_pos hm]
  · have h1 := chk_l1 l hz l [] (k + 699998 - l.length - l.length * 1000) (by simp) List.nodup_nil
    rw [show k + 699998 - l.length - l.length * 1000 + l.length * 1000 + 1 = k + 699999 - l.length by omega] at h1
    rw [if_neg hm, if_neg hm]
    refine h1.trans ?_
    by_cases hn : l.Nodup
    · rw [if_pos hn, if_pos hn]
      by_cases h4 : 4096 < l.length
      · rw [if_pos h4, if_pos h4]
      · rw [if_neg h4, if_neg h4]
    · rw [if_neg hn, if_neg hn]
end Go.Proofs.YtahjnjlkpbjfnaaGreatDoor.PVal

/- Plain mathematics of layer 10: parts of a text, parts as a text, and the law ValueLists. -/
set_option linter.unusedVariables false
set_option linter.unusedSimpArgs false
namespace Go.Proofs.YtahjnjlkpbjfnaaGreatDoor.PVal
open Go Go.RowKit Go.Proofs.YtahjnjlkpbjfnaaGreatDoor.P Go.Proofs.YtahjnjlkpbjfnaaGreatDoorW.PrintWords Go.Proofs.YtahjnjlkpbjfnaaGreatDoorW.PrintLast Go.Proofs.YtahjnjlkpbjfnaaGreatDoorW.PrintMore
open Classical
/-! ### List -/
theorem chk_code (l : List ByteArray) : (if Lib.containsS l ⟨#[]⟩ = true then (([] : List ByteArray), some (3 : Int)) else if dupS l = true then ([], some 7) else if 4096 < l.length then ([], some 2) else (l, none)) = if chkC l = 0 then (l, none) else ([], some (chkC l)) := by
  unfold chkC
  by_cases h1 : (⟨#[]⟩ : ByteArray) ∈ l
  · rw [if_pos ((Lib.containsS_iff l _).2 h1), if_pos h1, if_neg (by decide)]
  · rw [if_neg (fun e => h1 ((Lib.containsS_iff l _).1 e)), if_neg h1]
    by_cases h2 : l.Nodup
    · rw [if_neg (fun e => (dup_iff l).1 e h2), if_pos h2]
      by_cases h3 : 4096 < l.length
      · rw [if_pos h3, if_pos h3, if_neg (by decide)]
      · rw [if_neg h3, if_neg h3, if_pos rfl]
    · rw [if_pos ((dup_iff l).2 h2), if_neg h2, if_neg (by decide)]
theorem trim_k (s : ByteArray) (k : Nat) (hs : s.size ≤ 1000) (hk : 2003 ≤ k) : belvedereref10_trim.f k s = some (trimT s) := by
  have h := ref_trim s (k - 2003) hs
  rwa [Nat.sub_add_cancel hk] at h
theorem chk_k (l : List ByteArray) (hz : l.length ≤ 600) (k : Nat) (hk : 700000 ≤ k) : belvedereref10_check.f k l = some (chkC l) := by
  have h := ref_chk l hz (k - 700000)
  rwa [Nat.sub_add_cancel hk] at h
theorem sure_n (k : Nat) (hk : 10 ≤ k) : belvederelaw10_sure.f k = some true := by
  have h := sure_k (k - 10)
  rwa [Nat.sub_add_cancel hk] at h
theorem ref_list_l0 (s : ByteArray) (hs : s.size ≤ 500) : ∀ (rest pre cur : List UInt8) (acc : List ByteArray) (k : Nat), s.data.toList = pre ++ cur ++ rest → acc.length ≤ pre.length → rest.length + 700010 ≤ k →
    belvedereref10_List.l0 k s acc (pre.length : Int) ((pre.length + cur.length : Nat) : Int) =
      if chkC (acc ++ (cutAt 44 cur rest).map fun l => trimT ⟨l.toArray⟩) = 0 then some (acc ++ (cutAt 44 cur rest).map fun l => trimT ⟨l.toArray⟩, 0) else some ([], chkC (acc ++ (cutAt 44 cur rest).map fun l => trimT ⟨l.toArray⟩)) := by
  have hsl := size_l s
  intro rest
  induction rest with
  | nil =>
    intro pre cur acc k h ha hk
    obtain ⟨n, rfl⟩ : ∃ n, k = n + 1 + 1 := ⟨k - 2, by omega⟩
    rw [List.length_nil] at hk
    have hl : s.size = pre.length + cur.length := by rw [hsl, h]; simp
    have hx : s.extract pre.length (pre.length + cur.length) = ⟨cur.toArray⟩ := ba_inj (by
      rw [ByteArray.data_extract, Array.toList_extract, List.extract_eq_take_drop, h, List.append_nil]
      show ((pre ++ cur).drop pre.length).take (pre.length + cur.length - pre.length) = cur
      rw [List.drop_left, Nat.add_sub_cancel_left, List.take_length])
    have hxs : (⟨cur.toArray⟩ : ByteArray).size ≤ 1000 := by show cur.length ≤ _; omega
    have hw : wrap64 (((pre.length + cur.length : Nat) : Int) + 1) = ((s.size + 1 : Nat) : Int) := by rw [w64 (by omega) (by omega)]; omega
    have ht := fun n hn => trim_k ⟨cur.toArray⟩ n hxs hn
    have hc := fun n hn => chk_k (acc ++ [trimT ⟨cur.toArray⟩]) (by rw [List.length_append, List.length_singleton]; omega) n hn
    rw [belvedereref10_List.l0, if_pos (by omega), if_pos (by omega), if_pos (Int.natCast_nonneg _), if_pos (by omega), Int.toNat_natCast, Int.toNat_natCast, hx, ht _ (by omega), Option.bind_some, if_pos (by omega), hw, belvedereref10_List.l0, if_neg (by omega), hc _ (by omega), Option.bind_some]
    rfl
  | cons d r ih =>
    intro pre cur acc k h ha hk
    obtain ⟨n, rfl⟩ : ∃ n, k = n + 1 := ⟨k - 1, by omega⟩
    rw [List.length_cons] at hk
    have hl : s.size = pre.length + cur.length + (r.length + 1) := by rw [hsl, h]; simp; omega
    have hb : bt s ((pre.length + cur.length : Nat) : Int) = (d.toNat : Int) := by
      rw [bt_l s (pre.length + cur.length) (by rw [← hsl]; omega)]
      congr 1
      have : s.data.toList[pre.length + cur.length]? = some d := by
        rw [h, show pre.length + cur.length = (pre ++ cur).length by simp, List.getElem?_append_right (Nat.le_refl _), Nat.sub_self]; rfl
      rw [List.getElem?_eq_getElem (by rw [← hsl]; omega)] at this
      exact congrArg UInt8.toNat (Option.some.inj this)
    have hw : wrap64 (((pre.length + cur.length : Nat) : Int) + 1) = ((pre.length + cur.length + 1 : Nat) : Int) := by rw [w64 (by omega) (by omega)]; omega
    rw [belvedereref10_List.l0, if_pos (by omega), if_neg (by omega), if_pos (Int.natCast_nonneg _), if_pos (by omega), hb]
    by_cases hd : d = 44
    · have hx : s.extract pre.length (pre.length + cur.length) = ⟨cur.toArray⟩ := ba_inj (by
        rw [ByteArray.data_extract, Array.toList_extract, List.extract_eq_take_drop, h, List.append_assoc]
        show ((pre ++ (cur ++ d :: r)).drop pre.length).take (pre.length + cur.length - pre.length) = cur
        rw [List.drop_left, Nat.add_sub_cancel_left, List.take_left])
      have hxs : (⟨cur.toArray⟩ : ByteArray).size ≤ 1000 := by show cur.length ≤ _; omega
      have ht := fun n hn => trim_k ⟨cur.toArray⟩ n hxs hn
      have hi := ih (pre ++ cur ++ [d]) [] (acc ++ [trimT ⟨cur.toArray⟩]) n (by rw [h]; simp) (by simp; omega) (by omega)
      have e2 : (pre ++ cur ++ [d]).length + ([] : List UInt8).length = pre.length + cur.length + 1 := by simp only [List.length_append, List.length_singleton, List.length_nil] <;> omega
      have e1 : (pre ++ cur ++ [d]).length = pre.length + cur.length + 1 := by simp only [List.length_append, List.length_singleton]
      rw [e2, e1] at hi
      have hcut : cutAt 44 cur (d :: r) = cur :: cutAt 44 [] r := by rw [cutAt, if_pos hd]
      rw [if_pos (by rw [hd]; rfl), if_pos (Int.natCast_nonneg _), if_pos (by omega), Int.toNat_natCast, Int.toNat_natCast, hx, ht _ (by omega), Option.bind_some, if_pos (by omega), hw, hi, hcut, List.map_cons, List.append_assoc]
      rfl
    · have hi := ih pre (cur ++ [d]) acc n (by rw [h]; simp) ha (by omega)
      have e3 : pre.length + (cur ++ [d]).length = pre.length + cur.length + 1 := by simp only [List.length_append, List.length_singleton] <;> omega
      rw [e3] at hi
      have hcut : cutAt 44 cur (d :: r) = cutAt 44 (cur ++ [d]) r := by rw [cutAt, if_neg hd]
      rw [if_neg (fun e => hd (UInt8.toNat_inj.1 (by show d.toNat = 44; omega))), hw, hi, hcut]
theorem ref_list (s : ByteArray) (hs : s.size ≤ 500) (k : Nat) (hk : 701000 ≤ k) : belvedereref10_List.f k s = some ((listOf s).1, E (listOf s).2) := by
  have ht := trim_k s k (by omega) (by omega)
  have h0 := ref_list_l0 s hs s.data.toList [] [] [] k (by simp) (Nat.le_refl _) (by rw [← size_l]; omega)
  have hp : (([] : List ByteArray) ++ (cutAt 44 [] s.data.toList).map fun l => trimT ⟨l.toArray⟩) = partsT s := by
    unfold partsT partsAt
    rw [List.nil_append, List.map_map]
    rfl
  rw [hp] at h0
  unfold belvedereref10_List.f listOf
  rw [ht, Option.bind_some]
  by_cases he : (trimT s).toList = ([] : List UInt8)
  · rw [if_pos he, if_pos he]; rfl
  · rw [if_neg he, if_neg he, chk_code]
    refine h0.trans ?_
    by_cases hc : chkC (partsT s) = 0
    · rw [if_pos hc, if_pos hc]; rfl
    · rw [if_neg hc, if_neg hc]; rfl
/-! ### Joined -/
theorem contains_iff (l : List UInt8) : Lib.contains l [44] = true ↔ 44 ∈ l := by
  unfold Lib.contains
  rw [decide_eq_true_eq, Lib.index_one]
  constructor
  · intro h
    refine byContradiction fun hn => ?_
    rw [ix_notin 44 l hn] at h
    omega
  · intro h
    obtain ⟨a, r, rfl, hn⟩ := first_at 44 l h
    rw [ix_at 44 r a hn]
    omega
/-- A text that is no part of a list. -/
def oddT (x : ByteArray) : Prop := x.toList = ([] : List UInt8) ∨ 44 ∈ x.data.toList ∨ (trimT x).toList ≠ x.toList
theorem odd_f (x : ByteArray) (hx : x.size ≤ 1000) : value_Joined_1.f x = some (decide (oddT x)) := by
  unfold value_Joined_1.f
  have hc : strings_Contains.f x ⟨#[44]⟩ = some (Lib.contains x.data.toList [44]) := by
    unfold strings_Contains.f
    rw [if_pos (by omega)]
  have ht : strings_Trim.f x ⟨#[32, 9]⟩ = some (trimT x) := by
    unfold strings_Trim.f
    rw [if_pos ⟨by omega, by decide, by decide⟩]
    rfl
  by_cases h0 : x.toList = ([] : List UInt8)
  · rw [if_pos h0, decide_eq_true (show oddT x from .inl h0)]
  · rw [if_neg h0, hc, Option.bind_some]
    by_cases h1 : 44 ∈ x.data.toList
    · rw [if_pos ((contains_iff _).2 h1), decide_eq_true (show oddT x from .inr (.inl h1))]
    · rw [if_neg (fun e => h1 ((contains_iff _).1 e)), ht, Option.bind_some]
      by_cases h2 : (trimT x).toList = x.toList
      · rw [decide_eq_false (show ¬ oddT x by rintro (e | e | e); exact h0 e; exact h1 e; exact e h2), bne_eq_false_iff_eq.mpr h2]
      · rw [decide_eq_true (show oddT x from .inr (.inr h2)), bne_iff_ne.mpr h2]
theorem idx_l0 (l : List ByteArray) (hz : l.length ≤ 1000) (hx : ∀ x ∈ l, x.size ≤ 1000) : ∀ (rest pre : List ByteArray) (k : Nat), l = pre ++ rest →
    ∃ v, slices_IndexFunc_string_string__at_1_value_Joined_1_71.l0 (k + rest.length + 1) l (l.length : Int) (pre.length : Int) = some v ∧ (v ≥ 0 ↔ ∃ x ∈ rest, oddT x) := by
  intro rest
  induction rest with
  | nil =>
    intro pre k h
    have hl : l.length = pre.length := by rw [h]; simp
    refine ⟨-1, ?_, by simp⟩
    rw [List.length_nil, Nat.add_zero, slices_IndexFunc_string_string__at_1_value_Joined_1_71.l0, if_neg (by omega)]
  | cons x r ih =>
    intro pre k h
    have hl : l.length = pre.length + (r.length + 1) := by rw [h]; simp
    have hw : wrap64 ((pre.length : Int) + 1) = ((pre ++ [x]).length : Int) := by rw [w64 (by omega) (by omega), List.length_append]; simp
    obtain ⟨v, hv, hi⟩ := ih (pre ++ [x]) k (by rw [h]; simp)
    rw [List.length_cons, show k + (r.length + 1) + 1 = (k + r.length + 1) + 1 by omega, slices_IndexFunc_string_string__at_1_value_Joined_1_71.l0, if_pos (by omega), if_pos (Int.natCast_nonneg _), if_pos (by omega), rd_at l pre x r h, odd_f x (hx x (by rw [h]; simp)), Option.bind_some]
    by_cases ho : oddT x
    · rw [decide_eq_true ho, if_pos rfl]
      exact ⟨_, rfl, ⟨fun _ => ⟨x, List.mem_cons_self .., ho⟩, fun _ => Int.natCast_nonneg _⟩⟩
    · rw [decide_eq_false ho, if_neg (by decide), hw]
      refine ⟨v, hv, hi.trans ⟨fun ⟨y, hy, hoy⟩ => ⟨y, List.mem_cons_of_mem _ hy, hoy⟩, fun ⟨y, hy, hoy⟩ => ?_⟩⟩
      rcases List.mem_cons.1 hy with rfl | q
      · exact absurd hoy ho
      · exact ⟨y, q, hoy⟩
theorem join_cons (a : List UInt8) (L : List (List UInt8)) (c : UInt8) (h : L ≠ []) : Lib.join (a :: L) [c] = a ++ c :: Lib.join L [c] := by
  cases L with
  | nil => exact absurd rfl h
  | cons b L => simp [Lib.join, List.intercalate]
theorem join_snoc (x : List UInt8) (c : UInt8) : ∀ L : List (List UInt8), L ≠ [] → Lib.join (L ++ [x]) [c] = Lib.join L [c] ++ c :: x
  | [], h => absurd rfl h
  | [a], _ => by simp [Lib.join, List.intercalate]
  | a :: b :: L, _ => by
    rw [List.cons_append, join_cons a _ c (by simp), join_snoc x c (b :: L) (by simp), join_cons a (b :: L) c (by simp), List.append_assoc]
    rfl
theorem join_len (c : UInt8) : ∀ L : List (List UInt8), (∀ x ∈ L, x.length ≤ 200) → (Lib.join L [c]).length ≤ 201 * L.length
  | [], _ => by simp [Lib.join, List.intercalate]
  | [a], h => by
    have := h a (by simp)
    have e : Lib.join [a] [c] = a := by simp [Lib.join, List.intercalate]
    rw [e]; simp; omega
  | a :: b :: L, h => by
    have h1 := h a (by simp)
    have h2 := join_len c (b :: L) (fun x hx => h x (List.mem_cons_of_mem _ hx))
    rw [join_cons a (b :: L) c (by simp), List.length_append, List.length_cons]
    simp only [List.length_cons] at h2 ⊢
    omega
/-- Parts, joined. -/
def jn (l : List ByteArray) : ByteArray := ⟨(Lib.join (l.map (·.data.toList)) [44]).toArray⟩
theorem jn_size (l : List ByteArray) (hx : ∀ x ∈ l, x.size ≤ 200) : (jn l).size ≤ 201 * l.length := by
  have h := join_len 44 (l.map (·.data.toList)) (fun y hy => by
    obtain ⟨x, hm, rfl⟩ := List.mem_map.1 hy
    rw [← size_l]; exact hx x hm)
  rw [List.length_map] at h
  exact h
theorem jn_one (x : ByteArray) : (⟨#[]⟩ : ByteArray) ++ x = jn [x] := ba_inj (by
  rw [ByteArray.data_append, Array.toList_append]
  show ([] ++ x.data.toList : List UInt8) = Lib.join [x.data.toList] [44]
  simp [Lib.join, List.intercalate])
theorem jn_snoc (l : List ByteArray) (x : ByteArray) (h : l ≠ []) : (jn l ++ ⟨#[44]⟩) ++ x = jn (l ++ [x]) := ba_inj (by
  rw [ByteArray.data_append, Array.toList_append, ByteArray.data_append, Array.toList_append]
  show (Lib.join (l.map (·.data.toList)) [44] ++ [44]) ++ x.data.toList = Lib.join ((l ++ [x]).map (·.data.toList)) [44]
  rw [List.map_append, List.map_cons, List.map_nil, join_snoc _ 44 _ (by simpa using h), List.append_assoc]
  rfl)
theorem rj_l1 (l : List ByteArray) (hz : l.length ≤ 1000) (acc : ByteArray) (done : List ByteArray) (x : ByteArray) (r : List ByteArray) (hl : l = done ++ x :: r) (hx : x.size ≤ 200) (ha : acc.size ≤ 1000000) :
    ∀ (rest pre : List UInt8) (k : Nat), x.data.toList = pre ++ rest → belvedereref10_Joined.l1 (k + rest.length + 1) l acc (done.length : Int) (pre.length : Int) =
      if 44 ∈ rest then some (⟨#[]⟩, 3) else belvedereref10_Joined.l0 k l (if done = [] then acc ++ x else (acc ++ ⟨#[44]⟩) ++ x) ((done.length + 1 : Nat) : Int) := by
  have hll : l.length = done.length + (r.length + 1) := by rw [hl]; simp
  have hwd : wrap64 ((done.length : Int) + 1) = ((done.length + 1 : Nat) : Int) := by rw [w64 (by omega) (by omega)]; omega
  have hrd := rd_at l done x r hl
  intro rest
  induction rest with
  | nil =>
    intro pre k h
    have hs : x.size = pre.length := by rw [size_l, h]; simp
    rw [List.length_nil, Nat.add_zero, belvedereref10_Joined.l1, if_pos (Int.natCast_nonneg _), if_pos (by omega), hrd, if_neg (by omega), if_neg (show ¬ (44 : UInt8) ∈ ([] : List UInt8) by simp), hwd]
    by_cases hd : done = []
    · rw [if_pos hd, if_neg (by rw [hd]; decide), if_pos (by omega)]
    · have hp : 0 < done.length := List.length_pos_iff.mpr hd
      have hsz : (acc ++ (⟨#[44]⟩ : ByteArray)).size = acc.size + 1 := ByteArray.size_append
      rw [if_neg hd, if_pos (by omega), if_pos (by omega), if_pos (by rw [hsz]; omega)]
  | cons c q ih =>
    intro pre k h
    have hs : x.size = pre.length + (q.length + 1) := by rw [size_l, h]; simp
    have hb : bt x (pre.length : Int) = (c.toNat : Int) := by
      rw [bt_l x pre.length (by rw [h]; simp)]
      congr 1
      simp [h]
    have hw : wrap64 ((pre.length : Int) + 1) = ((pre ++ [c]).length : Int) := by rw [w64 (by omega) (by omega), List.length_append]; simp
    rw [List.length_cons, show k + (q.length + 1) + 1 = (k + q.length + 1) + 1 by omega, belvedereref10_Joined.l1, if_pos (Int.natCast_nonneg _), if_pos (by omega), hrd, if_pos (by omega), if_pos (Int.natCast_nonneg _), hb]
    by_cases hc : c = 44
    · rw [if_pos (by rw [hc]; rfl), if_pos (by rw [hc]; exact List.mem_cons_self ..)]
    · rw [if_neg (fun e => hc (UInt8.toNat_inj.1 (by show c.toNat = 44; omega))), hw, ih (pre ++ [c]) k (by rw [h]; simp)]
      by_cases hm : 44 ∈ q
      · rw [if_pos hm, if_pos (List.mem_cons_of_mem _ hm)]
      · rw [if_neg hm, if_neg (fun e => (List.mem_cons.1 e).elim (fun p => hc p.symm) hm)]
set_option maxRecDepth 100000 in
theorem rj_l0 (l : List ByteArray) (hz : l.length ≤ 100) (hx : ∀ x ∈ l, x.size ≤ 200) : ∀ (rest done : List ByteArray) (k : Nat), l = done ++ rest → rest.length * 300 + 702001 ≤ k →
    belvedereref10_Joined.l0 k l (jn done) (done.length : Int) = if (∃ x ∈ rest, oddT x) then some (⟨#[]⟩, 3) else if chkC l = 0 then some (jn l, 0) else some (⟨#[]⟩, chkC l) := by
  intro rest
  induction rest with
  | nil =>
    intro done k h hk
    obtain ⟨n, rfl⟩ : ∃ n, k = n + 1 := ⟨k - 1, by omega⟩
    rw [List.length_nil] at hk
    have e : done = l := by rw [h]; simp
    rw [belvedereref10_Joined.l0, e, if_neg (by omega), chk_k l (by omega) _ (by omega), Option.bind_some, if_neg (show ¬ ∃ x ∈ ([] : List ByteArray), oddT x by simp)]
  | cons x r ih =>
    intro done k h hk
    rw [List.length_cons] at hk
    obtain ⟨m, rfl⟩ : ∃ m, k = m + 1 + 1 := ⟨k - 2, by omega⟩
    have hl : l.length = done.length + (r.length + 1) := by rw [h]; simp
    have hxx : x.size ≤ 200 := hx x (by rw [h]; simp)
    have hjs := jn_size done (fun y hy => hx y (by rw [h]; simp [hy]))
    have hrd := rd_at l done x r h
    have jt : ∀ n, belvedereref10_Joined.j1 (n + 1) l (jn done) (done.length : Int) true = some (⟨#[]⟩, 3) := fun n => by rw [belvedereref10_Joined.j1, if_pos rfl]
    rw [belvedereref10_Joined.l0, if_pos (by omega), if_pos (Int.natCast_nonneg _), hrd]
    by_cases h0 : x.toList = ([] : List UInt8)
    · rw [if_pos h0, jt, if_pos ⟨x, List.mem_cons_self .., .inl h0⟩]
    · rw [if_neg h0, trim_k x _ (by omega) (by omega), Option.bind_some]
      by_cases h2 : (trimT x).toList = x.toList
      · have hl1 := rj_l1 l (by omega) (jn done) done x r h hxx (by omega) x.data.toList [] (m - x.size - 1) (by simp)
        rw [← size_l, show m - x.size - 1 + x.size + 1 = m by omega] at hl1
        rw [bne_eq_false_iff_eq.mpr h2, belvedereref10_Joined.j1, if_neg (by decide)]
        refine hl1.trans ?_
        by_cases h1 : 44 ∈ x.data.toList
        · rw [if_pos h1, if_pos ⟨x, List.mem_cons_self .., .inr (.inl h1)⟩]
        · have hno : ¬ oddT x := by rintro (e | e | e); exact h0 e; exact h1 e; exact e h2
          have hj : (if done = [] then jn done ++ x else (jn done ++ ⟨#[44]⟩) ++ x) = jn (done ++ [x]) := by
            by_cases hd : done = []
            · rw [if_pos hd, hd]; exact jn_one x
            · rw [if_neg hd]; exact jn_snoc done x hd
          have hi := ih (done ++ [x]) (m - x.size - 1) (by rw [h]; simp) (by omega)
          rw [List.length_append, List.length_singleton] at hi
          rw [if_neg h1, hj]
          refine hi.trans ?_
          by_cases hr : ∃ y ∈ r, oddT y
          · obtain ⟨y, hy, ho⟩ := hr
            rw [if_pos ⟨y, hy, ho⟩, if_pos ⟨y, List.mem_cons_of_mem _ hy, ho⟩]
          · rw [if_neg hr, if_neg (show ¬ ∃ y ∈ x :: r, oddT y from fun ⟨y, hy, ho⟩ => (List.mem_cons.1 hy).elim (fun e => hno (e ▸ ho)) (fun q => hr ⟨y, q, ho⟩))]
      · rw [bne_iff_ne.mpr h2, jt, if_pos ⟨x, List.mem_cons_self .., .inr (.inr h2)⟩]
/-- What both answer of parts. -/
noncomputable def joinOf (l : List ByteArray) : ByteArray × Option Int := if l = [] then (⟨#[]⟩, some 13) else if (∃ x ∈ l, oddT x) then (⟨#[]⟩, some 3) else if l.Nodup then (jn l, none) else (⟨#[]⟩, some 7)
theorem ref_joined (l : List ByteArray) (hz : l.length ≤ 100) (hx : ∀ x ∈ l, x.size ≤ 200) (k : Nat) (hk : 740000 ≤ k) : belvedereref10_Joined.f k l = some ((joinOf l).1, E (joinOf l).2) := by
  unfold belvedereref10_Joined.f joinOf
  by_cases h0 : l = []
  · rw [if_pos (by rw [h0]; rfl), if_pos h0]; rfl
  · have hp : 0 < l.length := List.length_pos_iff.mpr h0
    have h := rj_l0 l hz hx l [] k (by simp) (by omega)
    rw [if_neg (by omega), if_neg h0]
    refine (show _ = belvedereref10_Joined.l0 k l (jn []) (([] : List ByteArray).length : Int) from rfl).trans (h.trans ?_)
    by_cases ho : ∃ x ∈ l, oddT x
    · rw [if_pos ho, if_pos ho]; rfl
    · have hm : (⟨#[]⟩ : ByteArray) ∉ l := fun e => ho ⟨_, e, .inl ((empty_iff _).2 rfl)⟩
      rw [if_neg ho, if_neg ho]
      unfold chkC
      rw [if_neg hm]
      by_cases hn : l.Nodup
      · rw [if_pos hn, if_pos hn, if_neg (show ¬ 4096 < l.length by omega), if_pos rfl]; rfl
      · rw [if_neg hn, if_neg hn, if_neg (by decide)]; rfl
theorem val_joined (l : List ByteArray) (hz : l.length ≤ 100) (hx : ∀ x ∈ l, x.size ≤ 200) (k : Nat) : value_Joined.f (k + 200) l = some (joinOf l) := by
  unfold value_Joined.f joinOf
  by_cases h0 : l = []
  · rw [if_pos (by rw [h0]; rfl), if_pos h0]
  · have hp : 0 < l.length := List.length_pos_iff.mpr h0
    obtain ⟨v, hv, hi⟩ := idx_l0 l (by omega) (fun x hm => by have := hx x hm; omega) l [] (k + 199 - l.length) (by simp)
    rw [show k + 199 - l.length + l.length + 1 = k + 200 by omega] at hv
    have hc : slices_ContainsFunc_string_string__at_1_value_Joined_1_42.f (k + 200) l = some (decide (v ≥ 0)) := by
      unfold slices_ContainsFunc_string_string__at_1_value_Joined_1_42.f slices_IndexFunc_string_string__at_1_value_Joined_1_71.f
      refine (congrArg (fun o => Option.bind o _) (show slices_IndexFunc_string_string__at_1_value_Joined_1_71.l0 (k + 200) l (l.length : Int) 0 = some v from hv)).trans rfl
    have hr : value_repeated.f l = some (dupS l) := by unfold value_repeated.f; rw [if_pos (by omega)]
    have hj : strings_Join.f l ⟨#[44]⟩ = some (jn l) := by
      unfold strings_Join.f
      have := jn_size l hx
      rw [if_pos ⟨by omega, by show (jn l).size ≤ _; omega⟩]
      rfl
    rw [if_neg (by omega), if_neg h0, hc, Option.bind_some]
    by_cases ho : ∃ x ∈ l, oddT x
    · rw [if_pos (decide_eq_true (hi.2 ho)), if_pos ho]
    · rw [if_neg (by rw [decide_eq_false (fun e => ho (hi.1 e))]; decide), if_neg ho, hr, Option.bind_some]
      by_cases hn : l.Nodup
      · rw [if_neg (fun e => (dup_iff l).1 e hn), if_pos hn, if_neg (by omega), hj]; rfl
      · rw [if_pos ((dup_iff l).2 hn), if_neg hn]
/-! ### the law -/
theorem texts_l0 (l : List ByteArray) (hz : l.length ≤ 10000) : ∀ (rest pre : List ByteArray) (k : Nat), l = pre ++ rest → belvederelaw10_texts.l0 (k + rest.length + 1) l l (pre.length : Int) = some true := by
  intro rest
  induction rest with
  | nil =>
    intro pre k h
    have hl : l.length = pre.length := by rw [h]; simp
    rw [List.length_nil, Nat.add_zero, belvederelaw10_texts.l0, if_neg (by omega)]
  | cons x r ih =>
    intro pre k h
    have hl : l.length = pre.length + (r.length + 1) := by rw [h]; simp
    have hw : wrap64 ((pre.length : Int) + 1) = ((pre ++ [x]).length : Int) := by rw [w64 (by omega) (by omega), List.length_append]; simp
    rw [List.length_cons, show k + (r.length + 1) + 1 = (k + r.length + 1) + 1 by omega, belvederelaw10_texts.l0, if_pos (by omega), if_pos (Int.natCast_nonneg _), if_pos (by omega), if_pos rfl, hw]
    exact ih (pre ++ [x]) k (by rw [h]; simp)
theorem texts_same (l : List ByteArray) (hz : l.length ≤ 1000) (k : Nat) : belvederelaw10_texts.f (k + 2000) l l = some true := by
  have h := texts_l0 l (by omega) l [] (k + 1999 - l.length) (by simp)
  rw [show k + 1999 - l.length + l.length + 1 = k + 2000 by omega] at h
  unfold belvederelaw10_texts.f
  rw [if_pos rfl]
  exact h
theorem listOf_len (s : ByteArray) : (listOf s).1.length ≤ s.size + 1 := by
  have h : (partsT s).length ≤ s.size + 1 := by unfold partsT; rw [List.length_map]; exact parts_len 44 s
  unfold listOf
  repeat' split
  all_goals first | exact h | exact Nat.zero_le _
theorem law_l0 (s : ByteArray) (l : List ByteArray) (hs : s.size ≤ 500) (hz : l.length ≤ 100) : ∀ (rest pre : List ByteArray) (k : Nat), l = pre ++ rest → (∀ x ∈ pre, x.size ≤ 200) → rest.length + 740001 ≤ k →
    belvederelaw10_ValueLists.l0 k s l (pre.length : Int) = some true := by
  intro rest
  induction rest with
  | nil =>
    intro pre k h hp hk
    obtain ⟨n, rfl⟩ : ∃ n, k = n + 1 := ⟨k - 1, by omega⟩
    rw [List.length_nil] at hk
    have e : pre = l := by rw [h]; simp
    rw [e] at hp ⊢
    have hll := listOf_len s
    have h1 : value_List.f s = some (listOf s) := by unfold value_List.f; rw [if_pos (by omega)]
    have h2 := ref_list s hs n (by omega)
    have h3 := val_joined l hz hp (n - 200)
    have h4 := ref_joined l hz hp n (by omega)
    have h5 := texts_same (listOf s).1 (by omega) (n - 2000)
    rw [Nat.sub_add_cancel (show 200 ≤ n by omega)] at h3
    rw [Nat.sub_add_cancel (show 2000 ≤ n by omega)] at h5
    rw [belvederelaw10_ValueLists.l0, if_neg (by omega), h1, Option.bind_some, h2, Option.bind_some, h3, Option.bind_some, h4, Option.bind_some]
    simp only
    rw [h5, Option.bind_some, if_pos rfl, show belvederelaw10_num.f (listOf s).2 = some (E (listOf s).2) from rfl, Option.bind_some, if_pos rfl, if_pos trivial, show belvederelaw10_num.f (joinOf l).2 = some (E (joinOf l).2) from rfl, Option.bind_some, if_pos rfl, sure_n _ (by omega)]
    rfl
  | cons x r ih =>
    intro pre k h hp hk
    rw [List.length_cons] at hk
    obtain ⟨n, rfl⟩ : ∃ n, k = n + 1 := ⟨k - 1, by omega⟩
    have hl : l.length = pre.length + (r.length + 1) := by rw [h]; simp
    have hw : wrap64 ((pre.length : Int) + 1) = ((pre ++ [x]).length : Int) := by rw [w64 (by omega) (by omega), List.length_append]; simp
    rw [belvederelaw10_ValueLists.l0, if_pos (by omega), if_pos (Int.natCast_nonneg _), rd_at l pre x r h]
    by_cases hx : (x.size : Int) > 200
    · rw [if_pos hx, sure_n _ (by omega)]; rfl
    · rw [if_neg hx, hw]
      exact ih (pre ++ [x]) n (by rw [h]; simp) (fun y hy => by
        rcases List.mem_append.1 hy with q | q
        · exact hp y q
        · rw [List.mem_singleton] at q; rw [q]; omega) (by omega)
theorem law_Lists (s : ByteArray) (l : List ByteArray) (k : Nat) (hk : 741000 ≤ k) : belvederelaw10_ValueLists.f k s l = some true := by
  unfold belvederelaw10_ValueLists.f
  by_cases h1 : (s.size : Int) > 500
  · rw [if_pos h1, sure_n _ (by omega)]; rfl
  · rw [if_neg h1]
    by_cases h2 : (l.length : Int) > 100
    · rw [if_pos h2, sure_n _ (by omega)]; rfl
    · have h := law_l0 s l (by omega) (by omega) l [] k (by simp) (fun x hx => by cases hx) (by omega)
      rw [if_neg h2]
      exact h
end Go.Proofs.YtahjnjlkpbjfnaaGreatDoor.PVal

/- ValueLists's mathematics, under the name that the row asks for. -/
namespace Go.Proofs.YtahjnjlkpbjfnaaGreatDoor.Pure
open Go.RowKit Go.Proofs.YtahjnjlkpbjfnaaGreatDoor.P
theorem ValueLists : belvederelaw10_ValueLists.Pure := fun s l _ _ => ⟨741000, PVal.law_Lists s l 741000 (Nat.le_refl _)⟩
end Go.Proofs.YtahjnjlkpbjfnaaGreatDoor.Pure
