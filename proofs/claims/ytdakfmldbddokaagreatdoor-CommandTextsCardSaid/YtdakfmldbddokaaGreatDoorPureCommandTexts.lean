/- Plain mathematics of texts: decimal numbers read back, parts between single bytes, parts joined again (out of XRuT, XRuJ by mk). -/
import Derived.Test.YtdakfmldbddokaaGreatDoorCmParts
import Derived.Lib.AtoiAllCases
import Derived.Lib.IndexBytes
import Derived.Lib.ItoaMem
import Derived.Test.YtdakfmldbddokaaGreatDoorPx7
import Derived.Test.YtdakfmldbddokaaGreatDoorVaRep
import Derived.Test.YtdakfmldbddokaaGreatDoorPx5
import Derived.Test.YtdakfmldbddokaaGreatDoorPx16
import Derived.Lib.Join
import Derived.Test.YtdakfmldbddokaaGreatDoorPx12
import Derived.Test.YtdakfmldbddokaaGreatDoorPx17
import Derived.Test.YtdakfmldbddokaaGreatDoorNumP
import Derived.Test.YtdakfmldbddokaaGreatDoorPx8
import Derived.Test.YtdakfmldbddokaaGreatDoorPx9
import Derived.Test.YtdakfmldbddokaaGreatDoorPx21
set_option linter.unusedVariables false
set_option linter.unusedSimpArgs false
namespace Go.Proofs.YtdakfmldbddokaaGreatDoor.PClk
open Go.RowKit Go.Proofs.YtdakfmldbddokaaGreatDoor.P Go.Proofs.YtdakfmldbddokaaGreatDoorW.PrintWords Go.Proofs.YtdakfmldbddokaaGreatDoorW.PrintLast
/-! Decimal numbers. -/
/-! Parts between single bytes. -/
theorem ix_notin (c : UInt8) : ∀ s : List UInt8, c ∉ s → Lib.index s [c] = -1 := by
 intro s h
 rw [Lib.index_one]
 induction s with
 | nil => rfl
 | cons b l ih =>
  have hb : ¬ b = c := fun e => h (by rw [e]; simp)
  have hl := ih (fun e => h (List.mem_cons_of_mem _ e))
  rw [Lib.indexByte, if_neg (by simpa using hb), hl]
  rfl
theorem ix_at (c : UInt8) (r : List UInt8) : ∀ a : List UInt8, c ∉ a → Lib.index (a ++ c :: r) [c] = (a.length : Int) := by
 intro a h
 rw [Lib.index_one]
 induction a with
 | nil => rw [List.nil_append, Lib.indexByte, if_pos (by simp)]; rfl
 | cons b l ih =>
  have hb : ¬ b = c := fun e => h (by rw [e]; simp)
  have hl := ih (fun e => h (List.mem_cons_of_mem _ e))
  rw [List.cons_append, Lib.indexByte, if_neg (by simpa using hb), hl, if_neg (by simp), List.length_cons]
  omega
theorem drop_at (c : UInt8) (a r : List UInt8) : (a ++ c :: r).drop (a.length + 1) = r := by
 rw [show a ++ c :: r = (a ++ [c]) ++ r by simp, List.drop_append_of_le_length (by simp)]
 simp
theorem split_one (c : UInt8) (s : List UInt8) (h : c ∉ s) : Lib.split s [c] = [s] := by
 unfold Lib.split
 rw [Lib.count_miss (ix_notin c s h)]
 rfl
theorem split_cons (c : UInt8) (a r : List UInt8) (h : c ∉ a) : Lib.split (a ++ c :: r) [c] = a :: Lib.split r [c] := by
 have hx := ix_at c r a h
 unfold Lib.split
 rw [Lib.count_hit (by simp) hx, show a.length + [c].length = a.length + 1 from rfl, drop_at, Nat.add_comm 1, Lib.splitK, hx, if_neg (by simp)]
 show (a ++ c :: r).take a.length :: Lib.splitK [c] 0 _ ((a ++ c :: r).drop (a.length + 1)) = _
 rw [drop_at]
 simp
theorem cut_at (c : UInt8) (a r : List UInt8) (h : c ∉ a) : Lib.cut (a ++ c :: r) [c] = (a, r, true) := by
 have hx := ix_at c r a h
 unfold Lib.cut
 rw [hx, if_pos (by omega)]
 show ((a ++ c :: r).take a.length, (a ++ c :: r).drop (a.length + 1), true) = _
 rw [drop_at]
 simp
theorem parts_data (s sep : ByteArray) : (parts s sep).map (·.data.toList) = Lib.split s.data.toList sep.data.toList := Lib.splitB_data sep 0 _ s
theorem first_at (c : UInt8) : ∀ l : List UInt8, c ∈ l → ∃ a r, l = a ++ c :: r ∧ c ∉ a
 | [], h => by cases h
 | d :: l, h => by
  by_cases g : d = c
  ·exact ⟨[], l, by rw [g]; rfl, by simp⟩
  ·have hl : c ∈ l := by
    rcases List.mem_cons.1 h with e | e
    ·exact absurd e.symm g
    ·exact e
   obtain ⟨a, r, e, hn⟩ := first_at c l hl
   refine ⟨d :: a, r, by rw [e]; rfl, fun hm => ?_⟩
   rcases List.mem_cons.1 hm with e2 | e2
   ·exact g e2.symm
   ·exact hn e2
theorem split_ne (c : UInt8) (l : List UInt8) : Lib.split l [c] ≠ [] := by
 by_cases h : c ∈ l
 ·obtain ⟨a, r, rfl, hn⟩ := first_at c l h
  rw [split_cons c a r hn]
  simp
 ·rw [split_one c l h]
  simp
theorem join_cons (a : List UInt8) (L : List (List UInt8)) (c : UInt8) (h : L ≠ []) : Lib.join (a :: L) [c] = a ++ c :: Lib.join L [c] := by
 cases L with
 | nil => exact absurd rfl h
 | cons b L => simp [Lib.join, List.intercalate]
/-- The parts, joined, are the text. -/
theorem join_split (c : UInt8) : ∀ (m : Nat) (l : List UInt8), l.length ≤ m → Lib.join (Lib.split l [c]) [c] = l
 | 0, l, h => by
  obtain rfl : l = [] := List.length_eq_zero_iff.1 (by omega)
  rw [split_one c [] (by simp)]
  simp [Lib.join, List.intercalate]
 | m + 1, l, h => by
  by_cases hc : c ∈ l
  ·obtain ⟨a, r, rfl, hn⟩ := first_at c l hc
   rw [split_cons c a r hn, join_cons a _ c (split_ne c r), join_split c m r (by simp at h; omega)]
  ·rw [split_one c l hc]
   simp [Lib.join, List.intercalate]
end Go.Proofs.YtdakfmldbddokaaGreatDoor.PClk

/- Plain mathematics of layer 20: what command.Parse does (written by tools/mk_cma.py). -/
set_option linter.unusedVariables false
set_option linter.unusedSimpArgs false
namespace Go.Proofs.YtdakfmldbddokaaGreatDoor.PClk
open Go Go.RowKit Go.Proofs.YtdakfmldbddokaaGreatDoor.P Go.Proofs.YtdakfmldbddokaaGreatDoorW.PrintWords Go.Proofs.YtdakfmldbddokaaGreatDoorW.PrintLast Go.Proofs.YtdakfmldbddokaaGreatDoorW.PrintMore
theorem w64c {x : Int} (h0 : -9223372036854775808 ≤ x) (h1 : x ≤ 9223372036854775807) : wrap64 x = x := by unfold wrap64; omega
theorem size_c (s : ByteArray) : s.size = s.data.toList.length := Array.length_toList.symm
theorem toList_c (s : ByteArray) : s.toList = s.data.toList := ByteArray.toList_eq ..
theorem bt_c {s : ByteArray} {pre r : List UInt8} {d : UInt8} (h : s.data.toList = pre ++ d :: r) : bt s (pre.length : Int) = (d.toNat : Int) := by
 have hl : pre.length < s.data.toList.length := by rw [h]; simp
 have h2 : (pre.length : Int).toNat < s.size := by rw [size_c]; exact hl
 rw [← bt_at s (pre.length : Int) h2]
 have : s.data.toList[pre.length] = d := by simp [h]
 simp at this ⊢
 rw [← this]
 rfl
/-! Names. -/
def nmN (n : Nat) : Bool := decide (97 ≤ n ∧ n ≤ 122) || decide (65 ≤ n ∧ n ≤ 90) || decide (48 ≤ n ∧ n ≤ 57) || decide (n = 95) || decide (n = 45) || decide (n = 46)
def nm1 (c : UInt8) : Bool := nmN c.toNat
theorem nmN_f : ∀ n : Nat, n < 256 → bN1.f (n : Int) = some (nmN n) := by decide +kernel
theorem nm1_f (c : UInt8) : bN1.f (c.toNat : Int) = some (nm1 c) := nmN_f _ (UInt8.toNat_lt c)
def nameL (l : List UInt8) : Bool := l.all nm1 && (decide (1 ≤ l.length) && decide (l.length ≤ 32))
theorem all_l0 (s : ByteArray) (hs : s.size ≤ 1000000) : ∀ (rest pre : List UInt8) (k : Nat), s.data.toList = pre ++ rest → pre.all nm1 = true → rest.length + 1 ≤ k →
  bA.l0 k s (s.size : Int) (pre.length : Int) = some (nameL s.data.toList)
 | [], pre, k, h, ha, hk => by
  obtain ⟨k, rfl⟩ : ∃ m, k = m + 1 := ⟨k - 1, by simp at hk; omega⟩
  have hl : s.size = pre.length := by rw [size_c, h]; simp
  rw [bA.l0, if_neg (by omega)]
  rw [List.append_nil] at h
  unfold nameL
  rw [h, ha, ← hl]
  by_cases g : 1 ≤ s.size
  ·rw [if_pos (by omega), decide_eq_true g, Bool.true_and, Bool.true_and]
   congr 1
   exact decide_eq_decide.2 (by omega)
  ·rw [if_neg (by omega), decide_eq_false g]
   rfl
 | d :: rest, pre, k, h, ha, hk => by
  obtain ⟨k, rfl⟩ : ∃ m, k = m + 1 := ⟨k - 1, by simp at hk; omega⟩
  have hl : s.size = pre.length + (rest.length + 1) := by rw [size_c, h]; simp
  rw [bA.l0, if_pos (by omega), if_pos (by omega), if_pos (by omega), bt_c h, nm1_f, Option.bind_some]
  cases hd : nm1 d with
  | true =>
   rw [if_pos rfl, show wrap64 ((pre.length : Int) + 1) = ((pre ++ [d]).length : Int) by rw [w64c (by omega) (by omega)]; simp]
   exact all_l0 s hs rest (pre ++ [d]) k (by rw [h]; simp) (by rw [List.all_append, ha]; simp [hd]) (by simp at hk; omega)
  | false =>
   rw [if_neg (by decide)]
   unfold nameL
   rw [h, List.all_append, List.all_cons, hd]
   simp
theorem name_f (s : ByteArray) (hs : s.size ≤ 1000000) (k : Nat) (hk : s.size + 1 ≤ k) : bN.f k s = some (nameL s.data.toList) := by
 unfold bN.f bA.f
 have := all_l0 s hs s.data.toList [] k rfl rfl (by rw [← size_c]; exact hk)
 simp only [List.length_nil] at this
 rw [show (0 : Int) = ((0 : Nat) : Int) from rfl, this]
 rfl
theorem cut_len (c : UInt8) (l : List UInt8) : (Lib.cut l [c]).1.length ≤ l.length ∧ (Lib.cut l [c]).2.1.length ≤ l.length := by
 unfold Lib.cut
 split
 ·simp only [List.length_take, List.length_drop]; omega
 ·simp
def namedL (l : List UInt8) : Bool := nameL (Lib.cut l [47]).1 && (!(Lib.cut l [47]).2.2 || nameL (Lib.cut l [47]).2.1)
theorem mk_size (l : List UInt8) : (⟨l.toArray⟩ : ByteArray).size = l.length := by simp [ByteArray.size]
theorem named_f (s : ByteArray) (hs : s.size ≤ 1000000) (k : Nat) (hk : s.size + 1 ≤ k) : cN.f k s = some (namedL s.data.toList) := by
 have hc := cut_len 47 s.data.toList
 rw [← size_c] at hc
 unfold cN.f stU.f
 rw [if_pos (by omega), Option.bind_some]
 simp only []
 rw [name_f _ (by rw [mk_size]; omega) k (by rw [mk_size]; omega), Option.bind_some]
 unfold namedL
 cases h1 : nameL (Lib.cut s.data.toList [47]).1 with
 | false => simp [h1]
 | true =>
  rw [if_pos rfl]
  cases h2 : (Lib.cut s.data.toList [47]).2.2 with
  | false => rw [if_neg (by simp)]; rfl
  | true =>
   rw [if_pos rfl, name_f _ (by rw [mk_size]; omega) k (by rw [mk_size]; omega)]
   rfl
/-! Steps of Parse's loop. -/
abbrev Res := Int × ByteArray × Int × Int × Int × Int × Int × ByteArray × Option Int
def badP (e : Int) : Res := (0, (⟨#[]⟩ : ByteArray), 0, 0, 0, 0, 0, (⟨#[]⟩ : ByteArray), some e)
theorem st_obj (k : Nat) (l : List ByteArray) (a : Int) (ks : List Int) (n i c : Int) (o : ByteArray) (n0 n1 n2 n3 n4 : Int) (t : ByteArray) (h0 : 0 ≤ i) (hi : i < n) (hk : i < (ks.length : Int)) (hl : i < (l.length : Int)) (k0 : rd ks i = 0) (hs : (rdOf ByteArray.empty l i).size ≤ 1000000) (hkk : (rdOf ByteArray.empty l i).size + 1 ≤ k) :
  cP.l0 (k + 1) l a ks n i c o n0 n1 n2 n3 n4 t = if namedL (rdOf ByteArray.empty l i).data.toList = true then cP.l0 k l a ks n (wrap64 (i + 1)) c (rdOf ByteArray.empty l i) n0 n1 n2 n3 n4 t else some (badP 11) := by
 rw [cP.l0, if_pos hi, if_pos h0, if_pos hk, if_pos k0, if_pos hl, named_f _ hs k hkk, Option.bind_some]
 rfl
theorem st_text (k : Nat) (l : List ByteArray) (a : Int) (ks : List Int) (n i c : Int) (o : ByteArray) (n0 n1 n2 n3 n4 : Int) (t : ByteArray) (h0 : 0 ≤ i) (hi : i < n) (hk : i < (ks.length : Int)) (hl : i < (l.length : Int)) (k9 : rd ks i = 9) :
  cP.l0 (k + 1) l a ks n i c o n0 n1 n2 n3 n4 t = cP.l0 k l a ks n (wrap64 (i + 1)) c o n0 n1 n2 n3 n4 (rdOf ByteArray.empty l i) := by
 rw [cP.l0, if_pos hi, if_pos h0, if_pos hk, if_neg (by rw [k9]; decide), if_pos k9, if_pos hl]
theorem st_end (k : Nat) (l : List ByteArray) (a : Int) (ks : List Int) (n i c : Int) (o : ByteArray) (n0 n1 n2 n3 n4 : Int) (t : ByteArray) (hi : ¬ i < n) :
  cP.l0 (k + 1) l a ks n i c o n0 n1 n2 n3 n4 t = some (if c = 1 ∧ n0 ≥ n1 then badP 5 else (c, o, n0, n1, n2, n3, n4, t, none)) := by
 rw [cP.l0, if_neg hi]
 by_cases hc : c = 1
 ·rw [if_pos hc]
  by_cases h : n0 ≥ n1
  ·rw [if_pos h, if_pos ⟨hc, h⟩]; rfl
  ·rw [if_neg h, if_neg (fun q => h q.2)]
 ·rw [if_neg hc, if_neg (fun q => hc q.1)]
theorem st_num0 (k : Nat) (l : List ByteArray) (ks : List Int) (n i c : Int) (o : ByteArray) (n0 n1 n2 n3 n4 : Int) (t : ByteArray) (r : Int × Option Int) (h0 : 0 ≤ i) (hi : i < n) (hk : i < (ks.length : Int)) (hl : i < (l.length : Int)) (k0 : ¬ rd ks i = 0) (k9 : ¬ rd ks i = 9) (hr : cR.f k (rd ks i) (rdOf ByteArray.empty l i) = some r) :
  cP.l0 (k + 1) l 0 ks n i c o n0 n1 n2 n3 n4 t = if r.2.isNone = true then cP.l0 k l 1 ks n (wrap64 (i + 1)) c o r.1 n1 n2 n3 n4 t else some (badP (r.2.getD 0)) := by
 rw [cP.l0, if_pos hi, if_pos h0, if_pos hk, if_neg k0, if_neg k9, if_pos hl, hr, Option.bind_some]
 rw [if_pos rfl, w64c (x := (0 : Int) + 1) (by decide) (by decide)]
 rfl
theorem st_num1 (k : Nat) (l : List ByteArray) (ks : List Int) (n i c : Int) (o : ByteArray) (n0 n1 n2 n3 n4 : Int) (t : ByteArray) (r : Int × Option Int) (h0 : 0 ≤ i) (hi : i < n) (hk : i < (ks.length : Int)) (hl : i < (l.length : Int)) (k0 : ¬ rd ks i = 0) (k9 : ¬ rd ks i = 9) (hr : cR.f k (rd ks i) (rdOf ByteArray.empty l i) = some r) :
  cP.l0 (k + 1) l 1 ks n i c o n0 n1 n2 n3 n4 t = if r.2.isNone = true then cP.l0 k l 2 ks n (wrap64 (i + 1)) c o n0 r.1 n2 n3 n4 t else some (badP (r.2.getD 0)) := by
 rw [cP.l0, if_pos hi, if_pos h0, if_pos hk, if_neg k0, if_neg k9, if_pos hl, hr, Option.bind_some]
 rw [if_neg (show ¬ (1 : Int) = 0 by decide)]; rw [if_pos rfl, w64c (x := (1 : Int) + 1) (by decide) (by decide)]
 rfl
theorem st_num2 (k : Nat) (l : List ByteArray) (ks : List Int) (n i c : Int) (o : ByteArray) (n0 n1 n2 n3 n4 : Int) (t : ByteArray) (r : Int × Option Int) (h0 : 0 ≤ i) (hi : i < n) (hk : i < (ks.length : Int)) (hl : i < (l.length : Int)) (k0 : ¬ rd ks i = 0) (k9 : ¬ rd ks i = 9) (hr : cR.f k (rd ks i) (rdOf ByteArray.empty l i) = some r) :
  cP.l0 (k + 1) l 2 ks n i c o n0 n1 n2 n3 n4 t = if r.2.isNone = true then cP.l0 k l 3 ks n (wrap64 (i + 1)) c o n0 n1 r.1 n3 n4 t else some (badP (r.2.getD 0)) := by
 rw [cP.l0, if_pos hi, if_pos h0, if_pos hk, if_neg k0, if_neg k9, if_pos hl, hr, Option.bind_some]
 rw [if_neg (show ¬ (2 : Int) = 0 by decide)]; rw [if_neg (show ¬ (2 : Int) = 1 by decide)]; rw [if_pos rfl, w64c (x := (2 : Int) + 1) (by decide) (by decide)]
 rfl
theorem st_num3 (k : Nat) (l : List ByteArray) (ks : List Int) (n i c : Int) (o : ByteArray) (n0 n1 n2 n3 n4 : Int) (t : ByteArray) (r : Int × Option Int) (h0 : 0 ≤ i) (hi : i < n) (hk : i < (ks.length : Int)) (hl : i < (l.length : Int)) (k0 : ¬ rd ks i = 0) (k9 : ¬ rd ks i = 9) (hr : cR.f k (rd ks i) (rdOf ByteArray.empty l i) = some r) :
  cP.l0 (k + 1) l 3 ks n i c o n0 n1 n2 n3 n4 t = if r.2.isNone = true then cP.l0 k l 4 ks n (wrap64 (i + 1)) c o n0 n1 n2 r.1 n4 t else some (badP (r.2.getD 0)) := by
 rw [cP.l0, if_pos hi, if_pos h0, if_pos hk, if_neg k0, if_neg k9, if_pos hl, hr, Option.bind_some]
 rw [if_neg (show ¬ (3 : Int) = 0 by decide)]; rw [if_neg (show ¬ (3 : Int) = 1 by decide)]; rw [if_neg (show ¬ (3 : Int) = 2 by decide)]; rw [if_pos rfl, w64c (x := (3 : Int) + 1) (by decide) (by decide)]
 rfl
theorem st_num4 (k : Nat) (l : List ByteArray) (ks : List Int) (n i c : Int) (o : ByteArray) (n0 n1 n2 n3 n4 : Int) (t : ByteArray) (r : Int × Option Int) (h0 : 0 ≤ i) (hi : i < n) (hk : i < (ks.length : Int)) (hl : i < (l.length : Int)) (k0 : ¬ rd ks i = 0) (k9 : ¬ rd ks i = 9) (hr : cR.f k (rd ks i) (rdOf ByteArray.empty l i) = some r) :
  cP.l0 (k + 1) l 4 ks n i c o n0 n1 n2 n3 n4 t = if r.2.isNone = true then cP.l0 k l 5 ks n (wrap64 (i + 1)) c o n0 n1 n2 n3 r.1 t else some (badP (r.2.getD 0)) := by
 rw [cP.l0, if_pos hi, if_pos h0, if_pos hk, if_neg k0, if_neg k9, if_pos hl, hr, Option.bind_some]
 rw [if_neg (show ¬ (4 : Int) = 0 by decide)]; rw [if_neg (show ¬ (4 : Int) = 1 by decide)]; rw [if_neg (show ¬ (4 : Int) = 2 by decide)]; rw [if_neg (show ¬ (4 : Int) = 3 by decide)]; rw [if_pos rfl, w64c (x := (4 : Int) + 1) (by decide) (by decide)]
 rfl
/-! The words. -/
theorem code_next (a : ByteArray) (j : Nat) (hj : j < 10) (h : ¬ (0 < j ∧ wordList.getD j ByteArray.empty = a)) : codeFrom a j = codeFrom a (j + 1) := by rw [codeFrom, if_pos hj, if_neg h]
theorem code_here (a : ByteArray) (j : Nat) (hj : j < 10) (h : 0 < j ∧ wordList.getD j ByteArray.empty = a) : codeFrom a j = j := by rw [codeFrom, if_pos hj, if_pos h]
theorem words_inj : ∀ i : Nat, i < 10 → ∀ j : Nat, j < 10 → (wordList.getD i ByteArray.empty).data.toList = (wordList.getD j ByteArray.empty).data.toList → i = j := by decide +kernel
theorem code_of (i : Nat) (h0 : 0 < i) (h1 : i < 10) : ∀ (m j : Nat), j + m = i → codeFrom (wordList.getD i ByteArray.empty) j = i
 | 0, j, e => by
  obtain rfl : j = i := e
  exact code_here _ _ h1 ⟨h0, rfl⟩
 | m + 1, j, e => by
  rw [code_next _ j (by omega) (fun q => by have := words_inj j (by omega) i h1 (by rw [q.2]); omega)]
  exact code_of i h0 h1 m (j + 1) (by omega)
theorem code_word (i : Nat) (h0 : 0 < i) (h1 : i < 10) : cCo.f (wordList.getD i ByteArray.empty) = some (i : Int) := by
 unfold cCo.f
 rw [code_of i h0 h1 i 0 (Nat.zero_add _)]
def kindsOf (c : Int) : List Int := if c = 1 then [0, 3, 3, 1, 4, 2] else if c = 2 then [5] else if c = 3 then [0, 1] else if c = 4 then [0] else if c = 5 then [0, 6] else if c = 6 then [0, 6] else if c = 7 then [0, 3] else if c = 8 then [0, 7, 9] else if c = 9 then [0, 8, 9] else []
theorem kinds_f (k : Nat) (c : Int) : cF.f (k + 1) c = some (kindsOf c) := by
 unfold cF.f kindsOf
 by_cases h1 : c = 1
 ·rw [if_pos h1, if_pos h1]
 rw [if_neg h1, if_neg h1]
 by_cases h2 : c = 2
 ·rw [if_pos h2, if_pos h2]
 rw [if_neg h2, if_neg h2]
 by_cases h3 : c = 3
 ·rw [if_pos h3, if_pos h3]
 rw [if_neg h3, if_neg h3]
 by_cases h4 : c = 4
 ·rw [if_pos h4, if_pos h4]
 rw [if_neg h4, if_neg h4]
 by_cases h5 : c = 5
 ·rw [if_pos h5, if_pos h5, cF.j0, if_pos (by simp [h5])]
 rw [if_neg h5, if_neg h5]
 by_cases h6 : c = 6
 ·rw [if_pos h6, cF.j0, if_pos (by simp [h6])]
 rw [if_neg h6, cF.j0, if_neg (by simp [h6])]
 by_cases h7 : c = 7
 ·rw [if_pos h7, if_pos h7]
 rw [if_neg h7, if_neg h7]
 by_cases h8 : c = 8
 ·rw [if_pos h8, if_pos h8]
 rw [if_neg h8, if_neg h8]
 by_cases h9 : c = 9
 ·rw [if_pos h9, if_pos h9]
 rw [if_neg h9, if_neg h9]
/-! The fields. -/
theorem join_drop (c : UInt8) : ∀ (n : Nat) (L : List (List UInt8)), (Lib.join (L.drop n) [c]).length ≤ (Lib.join L [c]).length
 | 0, L => Nat.le_refl _
 | n + 1, [] => by simp
 | n + 1, a :: L => by
  rw [List.drop_succ_cons]
  refine Nat.le_trans (join_drop c n L) ?_
  by_cases hL : L = []
  ·subst hL; simp [Lib.join, List.intercalate]
  ·rw [join_cons a L c hL]
   simp
   omega
theorem parts_join (s : ByteArray) : Lib.join ((parts s semi).map (·.data.toList)) [59] = s.data.toList := by
 rw [parts_data]
 exact join_split 59 _ _ (Nat.le_refl _)
theorem last_size (s : ByteArray) (b : Bool) (n : Nat) : (lastText (fieldRow s b) n).size ≤ s.size := by
 unfold lastText fieldRow
 rw [mk_size]
 cases b with
 | false => simp [Lib.join, List.intercalate]
 | true =>
  rw [if_pos rfl, List.map_drop]
  refine Nat.le_trans (join_drop 59 _ _) ?_
  rw [parts_join, size_c]
  exact Nat.le_refl _
theorem kinds_last (c : Int) : ((kindsOf c).getD ((kindsOf c).length - 1) 0 = 9 → (kindsOf c).length = 3) ∧ (kindsOf c).length ≤ 1000 ∧ (1 ≤ c → c ≤ 9 → 1 ≤ (kindsOf c).length) := by
 unfold kindsOf
 by_cases h1 : c = 1
 ·rw [if_pos h1]; exact ⟨by decide, by decide, fun _ _ => by decide⟩
 rw [if_neg h1]
 by_cases h2 : c = 2
 ·rw [if_pos h2]; exact ⟨by decide, by decide, fun _ _ => by decide⟩
 rw [if_neg h2]
 by_cases h3 : c = 3
 ·rw [if_pos h3]; exact ⟨by decide, by decide, fun _ _ => by decide⟩
 rw [if_neg h3]
 by_cases h4 : c = 4
 ·rw [if_pos h4]; exact ⟨by decide, by decide, fun _ _ => by decide⟩
 rw [if_neg h4]
 by_cases h5 : c = 5
 ·rw [if_pos h5]; exact ⟨by decide, by decide, fun _ _ => by decide⟩
 rw [if_neg h5]
 by_cases h6 : c = 6
 ·rw [if_pos h6]; exact ⟨by decide, by decide, fun _ _ => by decide⟩
 rw [if_neg h6]
 by_cases h7 : c = 7
 ·rw [if_pos h7]; exact ⟨by decide, by decide, fun _ _ => by decide⟩
 rw [if_neg h7]
 by_cases h8 : c = 8
 ·rw [if_pos h8]; exact ⟨by decide, by decide, fun _ _ => by decide⟩
 rw [if_neg h8]
 by_cases h9 : c = 9
 ·rw [if_pos h9]; exact ⟨by decide, by decide, fun _ _ => by decide⟩
 rw [if_neg h9]
 refine ⟨by decide, by decide, fun a b => ?_⟩
 omega
theorem parts_ok (s : ByteArray) (b : Bool) (c : Int) (hs : s.size ≤ 4096) (h0 : 1 ≤ c) (h1 : c ≤ 9) : cPa.f s b (kindsOf c) = some (partsOf s b (kindsOf c)) := by
 unfold cPa.f
 have h := kinds_last c
 have h2 := last_size s b (kindsOf c).length
 rw [if_pos ⟨hs, h.2.2 h0 h1, h.2.1, h.1, by omega⟩]
/-- What Parse does ahead of its loop. -/
theorem parse_top (k : Nat) (s : ByteArray) (hs : s.size ≤ 4096) (c : Nat) (hc : cCo.f ⟨(Lib.cut s.data.toList [59]).1.toArray⟩ = some (c : Int)) (h9 : c ≤ 9) :
  cP.f (k + 1) s = if c = 0 then some (badP 12) else match partsOf ⟨(Lib.cut s.data.toList [59]).2.1.toArray⟩ (Lib.cut s.data.toList [59]).2.2 (kindsOf c) with
   | (_, some e) => some (badP e)
   | (l, none) => cP.l0 (k + 1) l 0 (kindsOf c) ((kindsOf c).length : Int) 0 c (⟨#[]⟩ : ByteArray) 0 0 0 0 0 (⟨#[]⟩ : ByteArray) := by
 have hl := cut_len 59 s.data.toList
 rw [← size_c] at hl
 unfold cP.f
 rw [if_neg (by omega)]
 unfold stU.f
 rw [if_pos (by omega), Option.bind_some]
 simp only []
 rw [hc, Option.bind_some]
 by_cases h0 : c = 0
 ·rw [if_pos (by omega), if_pos h0]; rfl
 ·rw [if_neg (by omega), if_neg h0, kinds_f, Option.bind_some, parts_ok _ _ _ (by rw [mk_size]; omega) (by omega) (by omega), Option.bind_some]
  generalize partsOf ⟨(Lib.cut s.data.toList [59]).2.1.toArray⟩ (Lib.cut s.data.toList [59]).2.2 (kindsOf c) = p
  obtain ⟨l, e⟩ := p
  cases e with
  | none => rfl
  | some e => rfl
end Go.Proofs.YtdakfmldbddokaaGreatDoor.PClk

/- Plain mathematics of layer 20: what must come whatever the input is (as in XCmRests). -/
set_option linter.unusedVariables false
set_option linter.unusedSimpArgs false
namespace Go.Proofs.YtdakfmldbddokaaGreatDoor.PClk
open Go Go.RowKit Go.Proofs.YtdakfmldbddokaaGreatDoor.P Go.Proofs.YtdakfmldbddokaaGreatDoorW.PrintWords Go.Proofs.YtdakfmldbddokaaGreatDoorW.PrintLast Go.Proofs.YtdakfmldbddokaaGreatDoorW.PrintMore
theorem wz (n : Int) (h0 : 0 ≤ n) (h1 : n < 1000) : wrap64 (n + 1) = n + 1 := w64c (by omega) (by omega)
theorem ack_parts : partsOf ⟨#[97, 47, 98, 59, 49]⟩ true [0, 1] = ([⟨#[97, 47, 98]⟩, ⟨#[49]⟩], none) := by decide +kernel
theorem ack_int : vInt.f ⟨#[49]⟩ 0 1 = some (1, none) := by decide +kernel
theorem ack_read (k : Nat) : cR.f k 1 ⟨#[49]⟩ = some (1, none) := by
 unfold cR.f
 rw [if_pos rfl, ack_int]
 rfl
theorem ack_named : namedL [97, 47, 98] = true := by decide +kernel
theorem ack_cut : Lib.cut [97, 99, 107, 59, 97, 47, 98, 59, 49] [59] = ([97, 99, 107], [97, 47, 98, 59, 49], true) := cut_at 59 [97, 99, 107] [97, 47, 98, 59, 49] (by decide)
theorem ack_parse (k : Nat) : cP.f (k + 10) ⟨#[97, 99, 107, 59, 97, 47, 98, 59, 49]⟩ = some (3, ⟨#[97, 47, 98]⟩, 1, 0, 0, 0, 0, ⟨#[]⟩, none) := by
 have hc : cCo.f ⟨(Lib.cut (⟨#[97, 99, 107, 59, 97, 47, 98, 59, 49]⟩ : ByteArray).data.toList [59]).1.toArray⟩ = some ((3 : Nat) : Int) := by
  rw [show (⟨#[97, 99, 107, 59, 97, 47, 98, 59, 49]⟩ : ByteArray).data.toList = [97, 99, 107, 59, 97, 47, 98, 59, 49] from rfl, ack_cut]
  exact code_word 3 (by decide) (by decide)
 rw [parse_top (k + 9) _ (by decide) 3 hc (by decide), if_neg (by decide)]
 rw [show (⟨#[97, 99, 107, 59, 97, 47, 98, 59, 49]⟩ : ByteArray).data.toList = [97, 99, 107, 59, 97, 47, 98, 59, 49] from rfl, ack_cut]
 have e : partsOf (⟨([97, 47, 98, 59, 49] : List UInt8).toArray⟩ : ByteArray) true (kindsOf ((3 : Nat) : Int)) = ([⟨#[97, 47, 98]⟩, ⟨#[49]⟩], none) := ack_parts
 simp only []
 rw [e]
 show cP.l0 (k + 9 + 1) [⟨#[97, 47, 98]⟩, ⟨#[49]⟩] 0 [0, 1] 2 0 3 (⟨#[]⟩ : ByteArray) 0 0 0 0 0 (⟨#[]⟩ : ByteArray) = _
 rw [st_obj (k + 9) _ _ _ _ _ _ _ _ _ _ _ _ _ (by decide) (by decide) (by decide) (by decide) rfl (by decide) (by show 3 + 1 ≤ k + 9; omega)]
 refine (if_pos ack_named).trans ?_
 rw [wz 0 (by decide) (by decide)]
 rw [st_num0 (k + 8) _ _ _ _ _ _ _ _ _ _ _ _ (1, none) (by decide) (by decide) (by decide) (by decide) (by decide) (by decide) (ack_read _)]
 refine (if_pos rfl).trans ?_
 rw [show (0 : Int) + 1 = 1 from rfl, wz 1 (by decide) (by decide)]
 rw [st_end (k + 7) _ _ _ _ _ _ _ _ _ _ _ _ _ (by decide), if_neg (by decide)]
 rfl
theorem tl_ab : (⟨#[97, 47, 98]⟩ : ByteArray).toList = ([97, 47, 98] : List UInt8) := by decide +kernel
theorem tl_no : (⟨#[]⟩ : ByteArray).toList = ([] : List UInt8) := by decide +kernel
theorem sure_c (k : Nat) (hk : 10 ≤ k) : w2s.f k = some true := by
 obtain ⟨n, rfl⟩ : ∃ n, k = n + 10 := ⟨k - 10, by omega⟩
 unfold w2s.f
 rw [ack_parse, Option.bind_some]
 refine (if_pos rfl).trans ((if_pos rfl).trans ((if_pos tl_ab).trans ((if_pos rfl).trans ((if_pos rfl).trans ((if_pos rfl).trans ((if_pos rfl).trans ((if_pos rfl).trans (if_pos tl_no))))))))
theorem has_one (c : UInt8) (l : List UInt8) : Lib.contains l [c] = decide (c ∈ l) := by
 unfold Lib.contains
 by_cases h : c ∈ l
 ·obtain ⟨a, r, rfl, hn⟩ := first_at c l h
  rw [decide_eq_true h, decide_eq_true_eq, ix_at c r a hn]
  omega
 ·rw [decide_eq_false h, decide_eq_false_iff_not, ix_notin c l h]
  omega
end Go.Proofs.YtdakfmldbddokaaGreatDoor.PClk

/- Plain mathematics of layer 10: what digits spell, and what Atoi says of them. -/
set_option linter.unusedVariables false
namespace Go.Proofs.YtdakfmldbddokaaGreatDoor.PVal
open Go
def isDig (c : UInt8) : Bool := decide (48 ≤ c.toNat) && decide (c.toNat ≤ 57)
theorem isDig_iff {c : UInt8} : isDig c = true ↔ 48 ≤ c.toNat ∧ c.toNat ≤ 57 := by simp [isDig]
def val : Nat → List UInt8 → Nat
 | acc, [] => acc
 | acc, c :: r => val (acc * 10 + (c.toNat - 48)) r
theorem mul_up (a d p : Nat) : a * (10 * p) ≤ (a * 10 + d) * p := by
 rw [← Nat.mul_assoc, Nat.add_mul]; exact Nat.le_add_right _ _
theorem mul_dn (a d p : Nat) (h : d < 10) : (a * 10 + d + 1) * p ≤ (a + 1) * (10 * p) := by
 rw [← Nat.mul_assoc]; exact Nat.mul_le_mul_right p (by omega)
theorem val_ge (l : List UInt8) : ∀ acc : Nat, acc * 10 ^ l.length ≤ val acc l := by
 induction l with
 | nil => intro acc; rw [List.length_nil, Nat.pow_zero, Nat.mul_one]; exact Nat.le_refl _
 | cons c r ih =>
  intro acc
  have e : 10 ^ (c :: r).length = 10 * 10 ^ r.length := by rw [List.length_cons, Nat.pow_succ, Nat.mul_comm]
  have v : val acc (c :: r) = val (acc * 10 + (c.toNat - 48)) r := rfl
  rw [e, v]
  generalize 10 ^ r.length = p at ih ⊢
  generalize c.toNat - 48 = d
  exact Nat.le_trans (mul_up acc d p) (ih _)
theorem val_le (l : List UInt8) (acc : Nat) : acc ≤ val acc l := Nat.le_trans (Nat.le_mul_of_pos_right _ (Nat.pow_pos (by decide))) (val_ge l acc)
theorem val_lt (l : List UInt8) : ∀ acc : Nat, (∀ c ∈ l, isDig c = true) → val acc l < (acc + 1) * 10 ^ l.length := by
 induction l with
 | nil => intro acc _; rw [List.length_nil, Nat.pow_zero, Nat.mul_one]; exact Nat.lt_succ_self _
 | cons c r ih =>
  intro acc h
  have hc := isDig_iff.1 (h c (List.mem_cons_self ..))
  have e : 10 ^ (c :: r).length = 10 * 10 ^ r.length := by rw [List.length_cons, Nat.pow_succ, Nat.mul_comm]
  have v : val acc (c :: r) = val (acc * 10 + (c.toNat - 48)) r := rfl
  have hd : c.toNat - 48 < 10 := by omega
  have hr := fun a => ih a fun d hd => h d (List.mem_cons_of_mem _ hd)
  rw [e, v]
  clear hc h ih
  generalize 10 ^ r.length = p at hr ⊢
  generalize c.toNat - 48 = d at hd ⊢
  exact Nat.lt_of_lt_of_le (hr _) (mul_dn acc d p hd)
theorem step_nat (acc v d : Nat) (hv : acc * 10 + d ≤ v) : (1844674407370955162 ≤ acc → ¬ v < 18446744073709551616) ∧ (18446744073709551616 ≤ acc * 10 + d → ¬ v < 18446744073709551616) := by omega
theorem parse_dig (l : List UInt8) : ∀ acc : Nat, (∀ c ∈ l, isDig c = true) → acc < 18446744073709551616 → Lib.parseUint10 acc l = if val acc l < 18446744073709551616 then .ok (val acc l) else .range := by
 induction l with
 | nil =>
  intro acc _ ha
  rw [show val acc [] = acc from rfl, if_pos ha]; rfl
 | cons c r ih =>
  intro acc h ha
  have hc := isDig_iff.1 (h c (List.mem_cons_self ..))
  have v : val acc (c :: r) = val (acc * 10 + (c.toNat - 48)) r := rfl
  have hv := step_nat acc _ _ (val_le r (acc * 10 + (c.toNat - 48)))
  have hi := ih (acc * 10 + (c.toNat - 48)) (fun d hd => h d (List.mem_cons_of_mem _ hd))
  rw [Lib.parseUint10, if_pos hc, v]
  generalize c.toNat - 48 = d at hv hi ⊢
  generalize val (acc * 10 + d) r = x at hv hi ⊢
  by_cases h1 : 1844674407370955162 ≤ acc
  ·rw [if_pos h1, if_neg (hv.1 h1)]
  ·rw [if_neg h1]
   by_cases h2 : 18446744073709551616 ≤ acc * 10 + d
   ·rw [if_pos h2, if_neg (hv.2 h2)]
   ·rw [if_neg h2]
    exact hi (Nat.lt_of_not_le h2)
/-- Digits alone: what Atoi says. -/
theorem pow19 (n : Nat) (h : n ≤ 19) : 10 ^ n ≤ 10000000000000000000 := Nat.le_trans (Nat.pow_le_pow_right (by decide) h) (by decide)
theorem pow18 (n : Nat) (h : n ≤ 18) : 10 ^ n ≤ 1000000000000000000 := Nat.le_trans (Nat.pow_le_pow_right (by decide) h) (by decide)
theorem signless_at (v : Nat) (h : v < 18446744073709551616) : Lib.signless (if v < 18446744073709551616 then .ok v else .range) = if v < 9223372036854775808 then .ok (v : Int) else .range := by
 rw [if_pos h]
 by_cases hb : v < 9223372036854775808
 ·rw [if_pos hb]; show (if 9223372036854775808 ≤ v then Lib.NumEnd.range else Lib.NumEnd.ok (v : Int)) = _; rw [if_neg (Nat.not_le_of_lt hb)]
 ·rw [if_neg hb]; show (if 9223372036854775808 ≤ v then Lib.NumEnd.range else Lib.NumEnd.ok (v : Int)) = _; rw [if_pos (Nat.le_of_not_lt hb)]
theorem signed_at (v : Nat) (h : v < 9223372036854775808) : Lib.signed (if v < 18446744073709551616 then .ok v else .range) = .ok (-(v : Int)) := by
 rw [if_pos (Nat.lt_trans h (by decide))]
 show (if 9223372036854775808 < v then Lib.NumEnd.range else Lib.NumEnd.ok (-(v : Int))) = _
 rw [if_neg (Nat.not_lt_of_le (Nat.le_of_lt h))]
theorem dig_sign {c : UInt8} (h : isDig c = true) : c.toNat ≠ 43 ∧ c.toNat ≠ 45 := by
 have := isDig_iff.1 h
 omega
theorem atoi_pos (c : UInt8) (r : List UInt8) (h : ∀ d ∈ c :: r, isDig d = true) (hz : (c :: r).length ≤ 19) :
  Lib.atoiAll (c :: r) = (if val 0 (c :: r) < 9223372036854775808 then .ok (val 0 (c :: r) : Int) else .range) ∧ val 0 (c :: r) < 10000000000000000000 := by
 have hc := dig_sign (h c (List.mem_cons_self ..))
 have hv := val_lt (c :: r) 0 h
 have hp := pow19 _ hz
 rw [Nat.zero_add, Nat.one_mul] at hv
 have hw : val 0 (c :: r) < 10000000000000000000 := Nat.lt_of_lt_of_le hv hp
 refine ⟨?_, hw⟩
 rw [Lib.atoiAll_plain c r hc.1 hc.2]
 unfold Lib.parseMag
 rw [if_neg (List.cons_ne_nil c r), parse_dig _ 0 h (by decide)]
 exact signless_at _ (Nat.lt_trans hw (by decide))
theorem atoi_neg (r : List UInt8) (h : ∀ d ∈ r, isDig d = true) (hn : r ≠ []) (hz : r.length ≤ 18) :
  Lib.atoiAll (45 :: r) = .ok (-(val 0 r : Int)) ∧ val 0 r < 1000000000000000000 := by
 have hv := val_lt r 0 h
 have hp := pow18 _ hz
 rw [Nat.zero_add, Nat.one_mul] at hv
 have hw : val 0 r < 1000000000000000000 := Nat.lt_of_lt_of_le hv hp
 refine ⟨?_, hw⟩
 rw [Lib.atoiAll_minus]
 unfold Lib.parseMag
 rw [if_neg hn, parse_dig _ 0 h (by decide)]
 exact signed_at _ (Nat.lt_trans hw (by decide))
end Go.Proofs.YtdakfmldbddokaaGreatDoor.PVal

/- Plain mathematics of layer 10: texts are fewer, sorted and each taken once, just where one is there twice. -/
set_option linter.unusedVariables false
namespace Go.Proofs.YtdakfmldbddokaaGreatDoor.PVal
open Go Go.Proofs.YtdakfmldbddokaaGreatDoor.P
theorem short_iff {α : Type} [Inhabited α] [DecidableEq α] (l : List α) : (Lib.compact l).length < l.length ↔ ∃ j, 0 < j ∧ j < l.length ∧ l.toArray[j]! = l.toArray[j - 1]! := by
 unfold Lib.compact Lib.compactUpTo
 rw [List.length_map]
 have h := List.length_filter_lt_length_iff_exists (l := List.range l.length) (p := Lib.keeps l.toArray)
 rw [List.length_range] at h
 rw [h]
 constructor
 ·rintro ⟨j, hj, hk⟩
  have hk' : ¬ (j = 0 ∨ l.toArray[j]! ≠ l.toArray[j - 1]!) := fun e => hk (by unfold Lib.keeps; exact decide_eq_true e)
  refine ⟨j, ?_, List.mem_range.1 hj, ?_⟩
  ·rcases Nat.eq_zero_or_pos j with q | q
   ·exact absurd (.inl q) hk'
   ·exact q
  ·exact Classical.byContradiction fun e => hk' (.inr e)
 ·rintro ⟨j, h0, hj, e⟩
  refine ⟨j, List.mem_range.2 hj, ?_⟩
  rw [Lib.keeps_neg h0 e]
  decide
theorem twice_iff {s : List (List UInt8)} (hs : s.Pairwise fun x y => decide (x ≤ y) = true) : (∃ j, 0 < j ∧ j < s.length ∧ s.toArray[j]! = s.toArray[j - 1]!) ↔ ¬ s.Nodup := by
 have hle : ∀ (i j : Nat) (hi : i < s.length) (hj : j < s.length), i < j → s[i] ≤ s[j] := fun i j hi hj hij => of_decide_eq_true (List.pairwise_iff_getElem.1 hs i j hi hj hij)
 have hg : ∀ (j : Nat) (hj : j < s.length), s.toArray[j]! = s[j] := fun j hj => by rw [getElem!_pos s.toArray j (by simpa using hj)]; simp
 constructor
 ·rintro ⟨j, h0, hj, e⟩ hnd
  rw [hg j hj, hg (j - 1) (by omega)] at e
  exact List.pairwise_iff_getElem.1 hnd (j - 1) j (by omega) hj (by omega) e.symm
 ·intro hnd
  refine Classical.byContradiction fun hno => hnd (List.pairwise_iff_getElem.2 fun i j hi hj hij e => hno ⟨i + 1, by omega, by omega, ?_⟩)
  rw [hg (i + 1) (by omega), Nat.add_sub_cancel, hg i hi]
  have h1 := hle i (i + 1) hi (by omega) (by omega)
  rcases Nat.lt_or_ge (i + 1) j with q | q
  ·have h2 := hle (i + 1) j (by omega) hj q
   rw [← e] at h2
   exact List.le_antisymm h2 h1
  ·obtain rfl : j = i + 1 := by omega
   exact e.symm
theorem dup_iff (l : List ByteArray) : dupS l = true ↔ ¬ l.Nodup := by
 unfold dupS
 rw [decide_eq_true_eq]
 have hlen : (sortedOf l).length = l.length := by unfold sortedOf; rw [List.length_mergeSort, List.length_map]
 have hp : (sortedOf l).Perm (l.map (·.data.toList)) := List.mergeSort_perm ..
 have hs : (sortedOf l).Pairwise fun x y => decide (x ≤ y) = true := by
  refine List.pairwise_mergeSort (fun a b c h1 h2 => ?_) (fun a b => ?_) _
  ·simp only [decide_eq_true_eq] at *; exact List.le_trans h1 h2
  ·simp only [Bool.or_eq_true, decide_eq_true_eq]; exact List.le_total a b
 have hn : (sortedOf l).Nodup ↔ l.Nodup := by
  rw [hp.nodup_iff]
  unfold List.Nodup
  rw [List.pairwise_map]
  constructor
  ·exact fun h => h.imp fun hne e => hne (by rw [e])
  ·exact fun h => h.imp fun hne e => hne (ByteArray.ext (Array.toList_inj.1 e))
 rw [← hn, ← twice_iff hs, ← short_iff, hlen]
end Go.Proofs.YtdakfmldbddokaaGreatDoor.PVal

/- Plain mathematics of layer 10 at the seat of layer 20, the program's side (written by tools/mk_cmv.py out of the templates XVaIntM, XVaTrimB, XVaMayM, XVaOptM, XVaOptF). -/
set_option linter.unusedVariables false
set_option linter.unusedSimpArgs false
namespace Go.Proofs.YtdakfmldbddokaaGreatDoor.PVal
open Go Go.RowKit Go.Proofs.YtdakfmldbddokaaGreatDoor.P Go.Proofs.YtdakfmldbddokaaGreatDoor.PClk Go.Proofs.YtdakfmldbddokaaGreatDoorW.PrintWords Go.Proofs.YtdakfmldbddokaaGreatDoorW.PrintLast Go.Proofs.YtdakfmldbddokaaGreatDoorW.PrintMore
open Classical
theorem w64 {x : Int} (h0 : -9223372036854775808 ≤ x) (h1 : x ≤ 9223372036854775807) : wrap64 x = x := by unfold wrap64; omega
theorem u64w {n : Int} (h0 : 0 ≤ n) (h1 : n < 18446744073709551616) : IntKind.u64.wrap n = n := by unfold IntKind.wrap; simp [IntKind.bits, IntKind.signed]; omega
theorem size_l (s : ByteArray) : s.size = s.data.toList.length := Array.length_toList.symm
theorem toList_l (s : ByteArray) : s.toList = s.data.toList := ByteArray.toList_eq ..
theorem bt_l (s : ByteArray) (i : Nat) (h : i < s.data.toList.length) : bt s (i : Int) = ((s.data.toList[i]).toNat : Int) := by
 have hs : i < s.size := by rw [size_l]; exact h
 unfold bt
 rw [dif_pos (by simpa using hs)]
 rfl
theorem any_odd (l : List UInt8) : (l.map fun b => (b.toNat : Int)).any oddDigit = !(l.all isDig) := by
 induction l with
 | nil => rfl
 | cons c r ih =>
  rw [List.map_cons, List.any_cons, List.all_cons, ih, Bool.not_and]
  congr 1
  unfold oddDigit isDig
  rw [Bool.not_and, ← decide_not, ← decide_not]
  congr 1
  ·exact decide_eq_decide.mpr (by omega)
  ·exact decide_eq_decide.mpr (by omega)
/-- Whether a list is a number's digits. -/
def digL : List UInt8 → Bool → Bool
 | [], _ => false
 | c :: r, m => (c :: r).all isDig && (if c.toNat = 48 then decide (r = []) && !m else true)
theorem digOf_eq (t : ByteArray) (m : Bool) : digOf t m = digL t.data.toList m := by
 unfold digOf
 rw [toList_l, show bytesOf t = t.data.toList.map fun b => (b.toNat : Int) from rfl, any_odd]
 cases h : t.data.toList with
 | nil => rfl
 | cons c r =>
  have hb : bt t 0 = (c.toNat : Int) := by
   have := bt_l t 0 (by rw [h]; simp)
   simpa [h] using this
  rw [if_neg (List.cons_ne_nil c r), hb]
  show _ = ((c :: r).all isDig && (if c.toNat = 48 then decide (r = []) && !m else true))
  cases ha : (c :: r).all isDig with
  | false => rw [if_pos (by decide)]; rfl
  | true =>
   rw [if_neg (by decide), Bool.true_and]
   by_cases h48 : c.toNat = 48
   ·rw [if_pos (by omega), if_pos h48]
    have hc : c = 48 := UInt8.toNat_inj.1 h48
    by_cases hr : r = []
    ·rw [if_pos (by rw [hc, hr]), decide_eq_true hr, Bool.true_and]
    ·rw [if_neg (fun e => hr (List.cons.inj e).2), decide_eq_false hr, Bool.false_and]
   ·rw [if_neg (by omega), if_neg h48]
theorem bare_minus {s : ByteArray} {r : List UInt8} (h : s.data.toList = 45 :: r) : (bare s).data.toList = r ∧ minusOf s = true := by
 have hp : Lib.hasPrefix s.data.toList [45] = true := by rw [h]; simp [Lib.hasPrefix]
 refine ⟨?_, hp⟩
 show Lib.trimPrefix s.data.toList [45] = r
 unfold Lib.trimPrefix
 rw [if_pos hp, h]
 rfl
theorem bare_plain {s : ByteArray} {c : UInt8} {r : List UInt8} (h : s.data.toList = c :: r) (hc : c ≠ 45) : (bare s).data.toList = c :: r ∧ minusOf s = false := by
 have hp : Lib.hasPrefix s.data.toList [45] = false := by
  rw [h]
  show ((45 : UInt8) == c && _) = false
  rw [beq_eq_false_iff_ne.mpr (fun e => hc e.symm)]
  rfl
 refine ⟨?_, hp⟩
 show Lib.trimPrefix s.data.toList [45] = _
 unfold Lib.trimPrefix
 rw [hp, if_neg (by decide), h]
def fin (v lo hi : Int) : Int × Option Int := if v < lo then (0, some 5) else if v > hi then (0, some 5) else (v, none)
/-- What a list of bytes says between two bounds. -/
def intL (l : List UInt8) (lo hi : Int) : Int × Option Int := match l with
 | [] => (0, some 13)
 | c :: r => if c = 45 then (if digL r true = true then (if 19 < (c :: r).length then (0, some 3) else fin (-(val 0 r : Int)) lo hi) else (0, some 3))
  else (if digL (c :: r) false = true then (if 19 < (c :: r).length then (0, some 3) else if val 0 (c :: r) < 9223372036854775808 then fin (val 0 (c :: r) : Int) lo hi else (0, some 5)) else (0, some 3))
theorem digL_dig {l : List UInt8} {m : Bool} (h : digL l m = true) : l ≠ [] ∧ ∀ c ∈ l, isDig c = true := by
 cases l with
 | nil => cases h
 | cons c r =>
  unfold digL at h
  rw [Bool.and_eq_true] at h
  exact ⟨List.cons_ne_nil c r, List.all_eq_true.mp h.1⟩
theorem intOf_eq (s : ByteArray) (lo hi : Int) : Go.Proofs.YtdakfmldbddokaaGreatDoor.P.intOf s lo hi = intL s.data.toList lo hi := by
 unfold Go.Proofs.YtdakfmldbddokaaGreatDoor.P.intOf
 rw [toList_l, digOf_eq, size_l]
 cases h : s.data.toList with
 | nil => rfl
 | cons c r =>
  rw [if_neg (List.cons_ne_nil c r)]
  unfold intL
  by_cases hc : c = 45
  ·subst hc
   obtain ⟨h1, h2⟩ := bare_minus h
   rw [h1, h2]
   simp only [if_true]
   cases hd : digL r true with
   | false => rw [if_pos rfl, if_neg (by decide)]
   | true =>
    rw [if_neg (by decide), if_pos rfl]
    obtain ⟨hn, hg⟩ := digL_dig hd
    by_cases hz : 19 < ((45 : UInt8) :: r).length
    ·rw [if_pos hz, if_pos hz]
    ·rw [if_neg hz, if_neg hz, (atoi_neg r hg hn (by simp at hz; omega)).1]
     rfl
  ·obtain ⟨h1, h2⟩ := bare_plain h hc
   rw [h1, h2]
   show _ = (if c = 45 then (if digL r true = true then (if 19 < (c :: r).length then (0, some 3) else fin (-(val 0 r : Int)) lo hi) else (0, some 3))
    else (if digL (c :: r) false = true then (if 19 < (c :: r).length then (0, some 3) else if val 0 (c :: r) < 9223372036854775808 then fin (val 0 (c :: r) : Int) lo hi else (0, some 5)) else (0, some 3)))
   rw [if_neg hc]
   cases hd : digL (c :: r) false with
   | false => rw [if_pos rfl, if_neg (by decide)]
   | true =>
    rw [if_neg (by decide), if_pos rfl]
    obtain ⟨_, hg⟩ := digL_dig hd
    by_cases hz : 19 < (c :: r).length
    ·rw [if_pos hz, if_pos hz]
    ·rw [if_neg hz, if_neg hz, (atoi_pos c r hg (by omega)).1]
     by_cases hb : val 0 (c :: r) < 9223372036854775808
     ·rw [if_pos hb, if_pos hb]; rfl
     ·rw [if_neg hb, if_neg hb]
def E (e : Option Int) : Int := e.getD 0
theorem ba_of {s : ByteArray} {l : List UInt8} (h : s.data.toList = l) : s = ⟨l.toArray⟩ := ByteArray.ext (by rw [← h])
theorem ba_inj {s t : ByteArray} (h : s.data.toList = t.data.toList) : s = t := ByteArray.ext (Array.toList_inj.1 h)
theorem rd_at (l pre : List ByteArray) (x : ByteArray) (r : List ByteArray) (h : l = pre ++ x :: r) : rdOf ByteArray.empty l (pre.length : Int) = x := by
 unfold rdOf
 rw [Int.toNat_natCast, h, List.getD_eq_getElem?_getD, List.getElem?_append_right (Nat.le_refl _), Nat.sub_self]
 rfl
theorem up64 {n : Nat} (h : n ≤ 1000000000) : wrap64 ((n : Int) + 1) = ((n + 1 : Nat) : Int) := by rw [w64 (by omega) (by omega)]; omega
/-- What letters must be. -/
def MayL (l : List UInt8) : Prop := l.length ≤ 16 ∧ (∀ c ∈ l, 97 ≤ c.toNat ∧ c.toNat ≤ 122) ∧ l.Nodup
theorem ix_lt_of_mem (c : UInt8) (l : List UInt8) (h : c ∈ l) : ∃ n : Nat, Lib.indexByte l c = (n : Int) ∧ n < l.length ∧ l[n]? = some c := by
 obtain ⟨a, r, rfl, hn⟩ := Go.Proofs.YtdakfmldbddokaaGreatDoor.P.first_at c l h
 refine ⟨a.length, Go.Proofs.YtdakfmldbddokaaGreatDoor.P.ix_at c r a hn, by simp, ?_⟩
 rw [List.getElem?_append_right (Nat.le_refl _), Nat.sub_self]
 rfl
theorem or_i64 (a b : Nat) (ha : a < 65536) (hb : b < 65536) : Go.bits .or .i64 (a : Int) (b : Int) = ((a ||| b : Nat) : Int) := by
 have hx : a ||| b < 2 ^ 16 := Nat.or_lt_two_pow (by omega) (by omega)
 have h1 : (BitVec.ofInt 64 (a : Int)).toNat = a := by
  rw [BitVec.ofInt_natCast, BitVec.toNat_ofNat]; exact Nat.mod_eq_of_lt (by omega)
 have h2 : (BitVec.ofInt 64 (b : Int)).toNat = b := by
  rw [BitVec.ofInt_natCast, BitVec.toNat_ofNat]; exact Nat.mod_eq_of_lt (by omega)
 show IntKind.i64.wrap ((BitVec.ofInt 64 (a : Int) ||| BitVec.ofInt 64 (b : Int)).toNat : Int) = _
 rw [BitVec.toNat_or, h1, h2, i64_w, w64 (by omega) (by omega)]
theorem or_add (b p : Nat) (hp : p < 16) (hb : b < 65536) (h : b.testBit p = false) : b ||| 2 ^ p = b + 2 ^ p := by
 have hp2 : 2 ^ p < 2 ^ 16 := Nat.pow_lt_pow_right (by decide) hp
 have hz : BitVec.ofNat 32 b &&& BitVec.ofNat 32 (2 ^ p) = 0#32 := by
  apply BitVec.eq_of_toNat_eq
  rw [BitVec.toNat_and, BitVec.toNat_ofNat, BitVec.toNat_ofNat, Nat.mod_eq_of_lt (by omega), Nat.mod_eq_of_lt (by omega)]
  show b &&& 2 ^ p = 0
  apply Nat.eq_of_testBit_eq
  intro i
  rw [Nat.testBit_and, Nat.testBit_two_pow, Nat.zero_testBit]
  by_cases hi : p = i
  ·rw [← hi, h]; rfl
  ·rw [decide_eq_false hi, Bool.and_false]
 have e := BitVec.add_eq_or_of_and_eq_zero _ _ hz
 have e2 := congrArg BitVec.toNat e
 rw [BitVec.toNat_add, BitVec.toNat_or, BitVec.toNat_ofNat, BitVec.toNat_ofNat, Nat.mod_eq_of_lt (a := b) (by omega), Nat.mod_eq_of_lt (a := 2 ^ p) (by omega), Nat.mod_eq_of_lt (by omega)] at e2
 exact e2.symm
theorem shl_one (p : Nat) (hp : p < 16) : shl .i64 1 (p : Int) = ((2 ^ p : Nat) : Int) := by
 have hp2 : 2 ^ p < 2 ^ 16 := Nat.pow_lt_pow_right (by decide) hp
 unfold shl
 rw [Int.toNat_natCast, show IntKind.i64.bits = 64 from rfl, Nat.min_eq_left (by omega), Int.one_mul, show ((2 : Int) ^ p) = ((2 ^ p : Nat) : Int) by push_cast; rfl, i64_w]
 generalize 2 ^ p = q at hp2 ⊢
 rw [w64 (by omega) (by omega)]
/-- The place of a letter, as a number. -/
def ixN (l : List UInt8) (c : UInt8) : Nat := (Lib.indexByte l c).toNat
theorem ixN_mem {l : List UInt8} {c : UInt8} (h : c ∈ l) : Lib.indexByte l c = (ixN l c : Int) ∧ ixN l c < l.length ∧ l[ixN l c]? = some c := by
 obtain ⟨n, h1, h2, h3⟩ := ix_lt_of_mem c l h
 have : ixN l c = n := by unfold ixN; rw [h1]; rfl
 rw [this]
 exact ⟨h1, h2, h3⟩
theorem ixN_inj {l : List UInt8} {c d : UInt8} (hc : c ∈ l) (hd : d ∈ l) (h : ixN l c = ixN l d) : c = d := by
 have h1 := (ixN_mem hc).2.2
 have h2 := (ixN_mem hd).2.2
 rw [h, h2] at h1
 exact (Option.some.inj h1).symm
/-- The bits of parts. -/
def optL (l : List UInt8) : List ByteArray → Nat → Int × Option Int
 | [], b => ((b : Int), none)
 | x :: r, b => match x.data.toList with
  | [c] => if c ∈ l then optL l r (b + 2 ^ ixN l c) else (0, some 3)
  | _ => (0, some 3)
theorem opt_one {l : List UInt8} {x : ByteArray} {r : List ByteArray} {b : Nat} {c : UInt8} (h : x.data.toList = [c]) : optL l (x :: r) b = if c ∈ l then optL l r (b + 2 ^ ixN l c) else (0, some 3) := by rw [optL, h]
theorem opt_odd {l : List UInt8} {x : ByteArray} {r : List ByteArray} {b : Nat} (h : x.size ≠ 1) : optL l (x :: r) b = (0, some 3) := by
 rw [optL]
 split
 ·rename_i c hc
  exact absurd (by rw [size_l, hc]; rfl) h
 ·rfl
theorem one_of {x : ByteArray} (h : x.size = 1) : ∃ c, x.data.toList = [c] := List.length_eq_one_iff.1 (by rw [← size_l]; exact h)
theorem po_l0 (L : ByteArray) (hL : MayL L.data.toList) (xs : List ByteArray) (hz : xs.length ≤ 1000000) : ∀ (rest pre : List ByteArray) (b k : Nat), xs = pre ++ rest → b < 65536 → rest.Nodup → (∀ x ∈ rest, ∀ c ∈ L.data.toList, x.data.toList = [c] → b.testBit (ixN L.data.toList c) = false) → rest.length + 1 ≤ k →
  oO.l0 k L (b : Int) xs (xs.length : Int) (pre.length : Int) = some (optL L.data.toList rest b) := by
 have hLs : L.size ≤ 16 := by rw [size_l]; exact hL.1
 intro rest
 induction rest with
 | nil =>
  intro pre b k h hb hn ht hk
  obtain ⟨n, rfl⟩ : ∃ n, k = n + 1 := ⟨k - 1, by simp at hk; omega⟩
  have hlen : xs.length = pre.length := by rw [h]; simp
  rw [oO.l0, if_neg (by omega)]
  rfl
 | cons x r ih =>
  intro pre b k h hb hn ht hk
  rw [List.length_cons] at hk
  obtain ⟨n, rfl⟩ : ∃ n, k = n + 1 := ⟨k - 1, by omega⟩
  have hlen : xs.length = pre.length + (r.length + 1) := by rw [h]; simp
  have hrd : rdOf ByteArray.empty xs (pre.length : Int) = x := rd_at xs pre x r h
  have hI : stI.f L x = some (Lib.index L.data.toList x.data.toList) := by unfold stI.f; rw [if_pos (by omega)]
  rw [oO.l0, if_pos (by omega), if_pos (Int.natCast_nonneg _), if_pos (by omega), hrd, hI, Option.bind_some]
  by_cases h1 : x.size = 1
  ·obtain ⟨c, hc⟩ := one_of h1
   rw [opt_one hc, hc, Lib.index_one]
   by_cases hm : c ∈ L.data.toList
   ·obtain ⟨i1, i2, i3⟩ := ixN_mem hm
    have hi : ixN L.data.toList c < 16 := by have := hL.1; omega
    have hp2 : 2 ^ ixN L.data.toList c < 2 ^ 16 := Nat.pow_lt_pow_right (by decide) hi
    have htb := ht x (by simp) c hm hc
    have hor := or_add b _ hi hb htb
    have hlt : b ||| 2 ^ ixN L.data.toList c < 2 ^ 16 := Nat.or_lt_two_pow (by omega) (by omega)
    rw [i1, if_neg (by omega), if_pos (by omega), if_pos (Int.natCast_nonneg _), shl_one _ hi, or_i64 b _ hb (by omega), hor, if_pos hm, up64 (by omega)]
    rw [hor] at hlt
    have hno := List.nodup_cons.1 hn
    have := ih (pre ++ [x]) (b + 2 ^ ixN L.data.toList c) n (by rw [h]; simp) (by omega) hno.2 (fun y hy d hd hyd => by
     rw [← hor, Nat.testBit_or, ht y (List.mem_cons_of_mem _ hy) d hd hyd, Nat.testBit_two_pow, Bool.false_or]
     refine decide_eq_false fun e => ?_
     have e2 := ixN_inj hm hd e
     exact hno.1 (by rw [show x = y from ba_inj (by rw [hc, hyd, e2])]; exact hy)) (by omega)
    rw [List.length_append] at this
    exact this
   ·rw [Go.Proofs.YtdakfmldbddokaaGreatDoor.P.ix_notin c _ hm, if_pos (by decide), if_neg hm]
  ·rw [opt_odd h1]
   by_cases h2 : Lib.index L.data.toList x.data.toList < 0
   ·rw [if_pos h2]
   ·rw [if_neg h2, if_neg (by omega)]
theorem has_iff (l : List UInt8) (c : UInt8) : Lib.contains l [c] = true ↔ c ∈ l := by
 unfold Lib.contains
 rw [decide_eq_true_eq, Lib.index_one]
 constructor
 ·intro h
  refine byContradiction fun hn => ?_
  rw [Go.Proofs.YtdakfmldbddokaaGreatDoor.P.ix_notin c l hn] at h
  omega
 ·intro h
  obtain ⟨a, r, rfl, hn⟩ := Go.Proofs.YtdakfmldbddokaaGreatDoor.P.first_at c l h
  rw [Go.Proofs.YtdakfmldbddokaaGreatDoor.P.ix_at c r a hn]
  omega
theorem listOf_none (s : ByteArray) (h : (listOf s).2 = none) : (listOf s).1 = partsT s ∧ (partsT s).Nodup ∧ (⟨#[]⟩ : ByteArray) ∉ partsT s := by
 unfold listOf at h ⊢
 by_cases h1 : (trimT s).toList = ([] : List UInt8)
 ·rw [if_pos h1] at h; cases h
 ·rw [if_neg h1] at h ⊢
  by_cases h2 : Lib.containsS (partsT s) ⟨#[]⟩ = true
  ·rw [if_pos h2] at h; cases h
  ·rw [if_neg h2] at h ⊢
   by_cases h3 : dupS (partsT s) = true
   ·rw [if_pos h3] at h; cases h
   ·rw [if_neg h3] at h ⊢
    by_cases h4 : 4096 < (partsT s).length
    ·rw [if_pos h4] at h; cases h
    ·rw [if_neg h4]
     exact ⟨rfl, byContradiction fun q => h3 ((dup_iff _).2 q), fun q => h2 ((Lib.containsS_iff _ _).2 q)⟩
theorem listOf_short (s : ByteArray) : (listOf s).1.length ≤ s.size + 1 := by
 have hc : ∀ (l cur : List UInt8), (cutAt 44 cur l).length ≤ l.length + 1 := by
  intro l
  induction l with
  | nil => intro cur; simp [cutAt]
  | cons d r ih =>
   intro cur
   rw [cutAt]
   split
   ·rw [List.length_cons, List.length_cons]; have := ih []; omega
   ·rw [List.length_cons]; have := ih (cur ++ [d]); omega
 have hp : (partsT s).length ≤ s.size + 1 := by
  unfold partsT partsAt
  rw [List.length_map, List.length_map, size_l]
  exact hc _ _
 unfold listOf
 repeat' split
 all_goals first | exact hp | exact Nat.zero_le _
theorem not_one {l : List ByteArray} (h : l ≠ [⟨#[110]⟩]) (h1 : (l.length : Int) = 1) : ¬ (rdOf ByteArray.empty l 0).toList = ([110] : List UInt8) := by
 obtain ⟨x, rfl⟩ := List.length_eq_one_iff.1 (show l.length = 1 by omega)
 intro e
 have e2 : x.toList = ([110] : List UInt8) := e
 rw [toList_l] at e2
 exact h (by rw [show x = ⟨#[110]⟩ from ba_of e2])
def acf : ByteArray := ⟨#[97, 99, 102]⟩
theorem acf_may : vMay.f acf = some true := by decide +kernel
theorem acf_L : MayL acf.data.toList := by
 refine ⟨by decide, ?_, ?_⟩
 ·show ∀ c ∈ ([97, 99, 102] : List UInt8), 97 ≤ c.toNat ∧ c.toNat ≤ 122
  decide
 ·show ([97, 99, 102] : List UInt8).Nodup
  decide
theorem acf_n : (110 : UInt8) ∉ acf.data.toList := by show (110 : UInt8) ∉ ([97, 99, 102] : List UInt8); decide
/-- What Options answers at the letters of layer 20. -/
noncomputable def optOf (s : ByteArray) : Int × Option Int := if (listOf s).2 = none then (if (listOf s).1 = [⟨#[110]⟩] then (0, none) else optL acf.data.toList (listOf s).1 0) else (0, (listOf s).2)
theorem own_opt (s : ByteArray) (hs : s.size ≤ 100000) (k : Nat) (hk : s.size + 10 ≤ k) : oO.f k s acf = some (optOf s) := by
 unfold oO.f optOf
 rw [acf_may, Option.bind_some, if_pos rfl, show vLst.f s = some (listOf s) by unfold vLst.f; rw [if_pos (by omega)], Option.bind_some]
 by_cases h2 : (listOf s).2 = none
 ·have hn := listOf_none s h2
  have hlen := listOf_short s
  rw [if_pos (by rw [h2]; rfl), if_pos h2]
  have hnd : (listOf s).1.Nodup := by rw [hn.1]; exact hn.2.1
  generalize (listOf s).1 = l at hlen hnd ⊢
  have hgo : oO.j0 k acf l false = some (optL acf.data.toList l 0) := by
   obtain ⟨n, rfl⟩ : ∃ n, k = n + 1 := ⟨k - 1, by omega⟩
   rw [oO.j0, if_neg (by decide)]
   exact po_l0 acf acf_L l (by omega) l [] 0 n (by simp) (by omega) hnd (fun x hx c hc hxc => Nat.zero_testBit _) (by omega)
  by_cases h1 : l = [⟨#[110]⟩]
  ·have hc : stC.f acf ⟨#[110]⟩ = some (Lib.contains acf.data.toList [110]) := by unfold stC.f; rw [if_pos (by decide)]
   have hcf : Lib.contains acf.data.toList [110] = false := Bool.eq_false_iff.2 fun q => acf_n ((has_iff _ _).1 q)
   rw [if_pos (by rw [h1]; rfl), if_pos (by rw [h1]; decide), if_pos (by rw [h1]; show (⟨#[110]⟩ : ByteArray).toList = _; rw [toList_l]), hc, Option.bind_some, hcf, if_pos h1]
   obtain ⟨n, rfl⟩ : ∃ n, k = n + 1 := ⟨k - 1, by omega⟩
   rw [oO.j0, if_pos (show (!false) = true from rfl)]
  ·rw [if_neg h1]
   by_cases h3 : (l.length : Int) = 1
   ·rw [if_pos h3, if_pos (by omega), if_neg (not_one h1 h3)]
    exact hgo
   ·rw [if_neg h3]
    exact hgo
 ·rw [if_neg h2]
  obtain ⟨e, he⟩ : ∃ e, (listOf s).2 = some e := by
   cases hq : (listOf s).2 with
   | none => exact absurd hq h2
   | some e => exact ⟨e, rfl⟩
  rw [he, if_neg (show ¬ (some e).isNone = true by simp)]
  rfl
/-- Letters are few. -/
theorem optL_rng (l : List ByteArray) : ∀ (b : Nat), l.Nodup → (∀ x ∈ l, ∀ c ∈ acf.data.toList, x.data.toList = [c] → b.testBit (ixN acf.data.toList c) = false) → b < 8 → (optL acf.data.toList l b).2 = none → 0 ≤ (optL acf.data.toList l b).1 ∧ (optL acf.data.toList l b).1 < 8 := by
 induction l with
 | nil => intro b _ _ hb _; exact ⟨Int.natCast_nonneg _, by show (b : Int) < 8; omega⟩
 | cons x r ih =>
  intro b hn ht hb he
  by_cases h1 : x.size = 1
  ·obtain ⟨c, hc⟩ := one_of h1
   rw [opt_one hc] at he ⊢
   by_cases hm : c ∈ acf.data.toList
   ·rw [if_pos hm] at he ⊢
    have hi : ixN acf.data.toList c < 3 := (ixN_mem hm).2.1
    have htb := ht x (by simp) c hm hc
    have hor := or_add b _ (by omega) (by omega) htb
    have hp : 2 ^ ixN acf.data.toList c < 2 ^ 3 := Nat.pow_lt_pow_right (by decide) hi
    have hlt : b ||| 2 ^ ixN acf.data.toList c < 2 ^ 3 := Nat.or_lt_two_pow hb hp
    have hno := List.nodup_cons.1 hn
    rw [hor] at hlt
    exact ih _ hno.2 (fun y hy d hd hyd => by
     rw [← hor, Nat.testBit_or, ht y (List.mem_cons_of_mem _ hy) d hd hyd, Nat.testBit_two_pow, Bool.false_or]
     refine decide_eq_false fun e => ?_
     have e2 := ixN_inj hm hd e
     exact hno.1 (by rw [show x = y from ba_inj (by rw [hc, hyd, e2])]; exact hy)) hlt he
   ·rw [if_neg hm] at he; cases he
  ·rw [opt_odd h1] at he; cases he
theorem opt_rng (s : ByteArray) (h : (optOf s).2 = none) : 0 ≤ (optOf s).1 ∧ (optOf s).1 < 8 := by
 unfold optOf at h ⊢
 by_cases h2 : (listOf s).2 = none
 ·rw [if_pos h2] at h ⊢
  by_cases h1 : (listOf s).1 = [⟨#[110]⟩]
  ·rw [if_pos h1]; decide
  ·rw [if_neg h1] at h ⊢
   have hn := listOf_none s h2
   exact optL_rng _ 0 (by rw [hn.1]; exact hn.2.1) (fun x hx c hc hxc => Nat.zero_testBit _) (by decide) h
 ·rw [if_neg h2] at h
  exact absurd h h2
/-! Numbers. -/
theorem int_f (s : ByteArray) (lo hi : Int) (hs : s.size ≤ 100000) : vInt.f s lo hi = some (intL s.data.toList lo hi) := by
 unfold vInt.f
 rw [if_pos (by omega), intOf_eq]
theorem fin_rng (v lo hi : Int) (h : (fin v lo hi).2 = none) : (fin v lo hi).1 = v ∧ lo ≤ v ∧ v ≤ hi := by
 unfold fin at h ⊢
 by_cases h1 : v < lo
 ·rw [if_pos h1] at h; cases h
 ·rw [if_neg h1] at h ⊢
  by_cases h2 : v > hi
  ·rw [if_pos h2] at h; cases h
  ·rw [if_neg h2]; exact ⟨rfl, by omega, by omega⟩
theorem intL_rng (l : List UInt8) (lo hi : Int) (h : (intL l lo hi).2 = none) : lo ≤ (intL l lo hi).1 ∧ (intL l lo hi).1 ≤ hi := by
 have key : ∀ v : Int, (fin v lo hi).2 = none → lo ≤ (fin v lo hi).1 ∧ (fin v lo hi).1 ≤ hi := fun v hv => by
  have g := fin_rng v lo hi hv
  rw [g.1]; exact g.2
 cases l with
 | nil => unfold intL at h; cases h
 | cons c r =>
  have e : intL (c :: r) lo hi = if c = 45 then (if digL r true = true then (if 19 < (c :: r).length then (0, some 3) else fin (-(val 0 r : Int)) lo hi) else (0, some 3))
   else (if digL (c :: r) false = true then (if 19 < (c :: r).length then (0, some 3) else if val 0 (c :: r) < 9223372036854775808 then fin (val 0 (c :: r) : Int) lo hi else (0, some 5)) else (0, some 3)) := rfl
  rw [e] at h ⊢
  by_cases h1 : c = 45
  ·rw [if_pos h1] at h ⊢
   by_cases h2 : digL r true = true
   ·rw [if_pos h2] at h ⊢
    by_cases h3 : 19 < (c :: r).length
    ·rw [if_pos h3] at h; cases h
    ·rw [if_neg h3] at h ⊢; exact key _ h
   ·rw [if_neg h2] at h; cases h
  ·rw [if_neg h1] at h ⊢
   by_cases h2 : digL (c :: r) false = true
   ·rw [if_pos h2] at h ⊢
    by_cases h3 : 19 < (c :: r).length
    ·rw [if_pos h3] at h; cases h
    ·rw [if_neg h3] at h ⊢
     by_cases h4 : val 0 (c :: r) < 9223372036854775808
     ·rw [if_pos h4] at h ⊢; exact key _ h
     ·rw [if_neg h4] at h; cases h
   ·rw [if_neg h2] at h; cases h
theorem dec_len : ∀ (k n : Nat), n < 10 ^ (k + 1) → (Lib.decDigits n).length ≤ k + 1
 | 0, n, h => by
  rw [Lib.decDigits, dif_pos (by simpa using h)]
  simp
 | k + 1, n, h => by
  rw [Lib.decDigits]
  by_cases h10 : n < 10
  ·rw [dif_pos h10]; simp
  ·rw [dif_neg h10]
   have := dec_len k (n / 10) (by rw [Nat.pow_succ] at h; omega)
   simp
   omega
end Go.Proofs.YtdakfmldbddokaaGreatDoor.PVal

/- Plain mathematics of layer 20: what command.Parse answers, as one definition. -/
set_option linter.unusedVariables false
set_option linter.unusedSimpArgs false
namespace Go.Proofs.YtdakfmldbddokaaGreatDoor.PVal
open Go Go.RowKit Go.Proofs.YtdakfmldbddokaaGreatDoor.P Go.Proofs.YtdakfmldbddokaaGreatDoor.PClk Go.Proofs.YtdakfmldbddokaaGreatDoorW.PrintWords Go.Proofs.YtdakfmldbddokaaGreatDoorW.PrintLast Go.Proofs.YtdakfmldbddokaaGreatDoorW.PrintMore
open Classical
theorem part_size : ∀ (k : Nat) (s sep : ByteArray), ∀ p ∈ Lib.splitB sep 0 k s, p.size ≤ s.size := by
 intro k
 induction k with
 | zero => intro s sep p hp; rw [List.mem_singleton.mp hp]; exact Nat.le_refl _
 | succ k ih =>
  intro s sep p hp
  unfold Lib.splitB at hp
  split at hp
  ·rw [List.mem_singleton.mp hp]; exact Nat.le_refl _
  ·rcases List.mem_cons.mp hp with rfl | hp
   ·simp [ByteArray.size_extract]; omega
   ·have h := ih _ sep p hp
    have h2 : (s.extract ((Lib.indexB s sep).toNat + sep.size) s.size).size ≤ s.size := by simp [ByteArray.size_extract]
    omega
/-- The numbers of a command. -/
structure N5 where
 a : Int
 b : Int
 c : Int
 d : Int
 e : Int
def N5.upd (n : N5) (j : Nat) (v : Int) : N5 := match j with
 | 0 => { n with a := v }
 | 1 => { n with b := v }
 | 2 => { n with c := v }
 | 3 => { n with d := v }
 | _ => { n with e := v }
def N5.at_ (n : N5) (j : Nat) : Int := match j with
 | 0 => n.a
 | 1 => n.b
 | 2 => n.c
 | 3 => n.d
 | _ => n.e
theorem N5.at_upd (n : N5) (i j : Nat) (v : Int) (hi : i ≤ 4) (hj : j ≤ 4) : (n.upd j v).at_ i = if i = j then v else n.at_ i := by
 have h1 : i = 0 ∨ i = 1 ∨ i = 2 ∨ i = 3 ∨ i = 4 := by omega
 have h2 : j = 0 ∨ j = 1 ∨ j = 2 ∨ j = 3 ∨ j = 4 := by omega
 rcases h1 with rfl | rfl | rfl | rfl | rfl <;> rcases h2 with rfl | rfl | rfl | rfl | rfl <;> rfl
def finOf (c : Int) (o : ByteArray) (n : N5) (t : ByteArray) : Res := if c = 1 ∧ n.a ≥ n.b then badP 5 else (c, o, n.a, n.b, n.c, n.d, n.e, t, none)
/-- What a field says as a number. -/
noncomputable def readOf (kd : Int) (x : ByteArray) : Int × Option Int :=
 if kd = 1 then intL x.data.toList 0 1 else if kd = 2 then intL x.data.toList 0 2147483648 else if kd = 3 then intL x.data.toList 0 4611686018427387904 else if kd = 4 then intL x.data.toList 0 34560000
 else if kd = 5 then intL x.data.toList 1 2147483648 else if kd = 6 then optOf x else if kd = 7 then intL x.data.toList 0 3 else intL x.data.toList 0 255
theorem read_f (kd : Int) (x : ByteArray) (hs : x.size ≤ 100000) (k : Nat) (hk : x.size + 10 ≤ k) : cR.f k kd x = some (readOf kd x) := by
 unfold cR.f readOf
 by_cases h1 : kd = 1
 ·rw [if_pos h1, if_pos h1, int_f x _ _ hs]; rfl
 rw [if_neg h1, if_neg h1]
 by_cases h2 : kd = 2
 ·rw [if_pos h2, if_pos h2, int_f x _ _ hs]; rfl
 rw [if_neg h2, if_neg h2]
 by_cases h3 : kd = 3
 ·rw [if_pos h3, if_pos h3, int_f x _ _ hs]; rfl
 rw [if_neg h3, if_neg h3]
 by_cases h4 : kd = 4
 ·rw [if_pos h4, if_pos h4, int_f x _ _ hs]; rfl
 rw [if_neg h4, if_neg h4]
 by_cases h5 : kd = 5
 ·rw [if_pos h5, if_pos h5, int_f x _ _ hs]; rfl
 rw [if_neg h5, if_neg h5]
 by_cases h6 : kd = 6
 ·rw [if_pos h6, if_pos h6, show (⟨#[97, 99, 102]⟩ : ByteArray) = acf from rfl, own_opt x hs k hk]; rfl
 rw [if_neg h6, if_neg h6]
 by_cases h7 : kd = 7
 ·rw [if_pos h7, if_pos h7, int_f x _ _ hs]; rfl
 rw [if_neg h7, if_neg h7, int_f x _ _ hs]; rfl
/-- What Parse's loop answers of the kinds and the fields that are left. -/
noncomputable def loopOf (c : Int) : List Int → List ByteArray → Nat → ByteArray → N5 → ByteArray → Res
 | [], _, _, o, n, t => finOf c o n t
 | _ :: _, [], _, _, _, _ => badP 0
 | kd :: ks, x :: l, j, o, n, t =>
  if kd = 0 then (if namedL x.data.toList = true then loopOf c ks l j x n t else badP 11)
  else if kd = 9 then loopOf c ks l j o n x
  else if (readOf kd x).2 = none then loopOf c ks l (j + 1) o (n.upd j (readOf kd x).1) t else badP ((readOf kd x).2.getD 0)
def isNum (kd : Int) : Bool := !(kd == 0 || kd == 9)
theorem rdi_at (l pre : List Int) (x : Int) (r : List Int) (h : l = pre ++ x :: r) : rd l (pre.length : Int) = x := by
 unfold rd
 rw [h, Int.toNat_natCast]
 simp
theorem isn (e : Option Int) : (e.isNone = true) = (e = none) := by cases e <;> simp
theorem loop_f (c : Int) (KS : List Int) (L : List ByteArray) (hz : KS.length ≤ 1000) (hsz : ∀ x ∈ L, x.size ≤ 5000) : ∀ (ks : List Int) (l : List ByteArray) (pre : List Int) (preL : List ByteArray) (k j : Nat) (o : ByteArray) (n : N5) (t : ByteArray),
  KS = pre ++ ks → L = preL ++ l → pre.length = preL.length → ks.length ≤ l.length → j + ks.countP isNum ≤ 5 → 5020 + ks.length ≤ k →
  cP.l0 k L (j : Int) KS (KS.length : Int) (pre.length : Int) c o n.a n.b n.c n.d n.e t = some (loopOf c ks l j o n t)
 | [], l, pre, preL, k, j, o, n, t, h1, h2, h3, h4, h5, hk => by
  obtain ⟨k, rfl⟩ : ∃ m, k = m + 1 := ⟨k - 1, by omega⟩
  have hl : KS.length = pre.length := by rw [h1]; simp
  rw [st_end _ _ _ _ _ _ _ _ _ _ _ _ _ _ (by omega)]
  rfl
 | kd :: ks, [], pre, preL, k, j, o, n, t, h1, h2, h3, h4, h5, hk => by simp at h4
 | kd :: ks, x :: l, pre, preL, k, j, o, n, t, h1, h2, h3, h4, h5, hk => by
  obtain ⟨k, rfl⟩ : ∃ m, k = m + 1 := ⟨k - 1, by simp at hk; omega⟩
  have hl : KS.length = pre.length + (ks.length + 1) := by rw [h1]; simp
  have hl2 : L.length = pre.length + (l.length + 1) := by rw [h2, h3]; simp
  have hrd : rd KS (pre.length : Int) = kd := rdi_at KS pre kd ks h1
  have hx : rdOf ByteArray.empty L (pre.length : Int) = x := by rw [h3]; exact rd_at L preL x l h2
  have hxs : x.size ≤ 100000 := by have := hsz x (by rw [h2]; simp); omega
  have hxs5 : x.size ≤ 5000 := hsz x (by rw [h2]; simp)
  have hw : wrap64 ((pre.length : Int) + 1) = ((pre ++ [kd]).length : Int) := by rw [w64c (by omega) (by omega)]; simp
  simp only [List.length_cons] at hk h4
  by_cases h0 : kd = 0
  ·rw [st_obj k L _ KS _ _ c o _ _ _ _ _ t (Int.natCast_nonneg _) (by omega) (by omega) (by omega) (by rw [hrd]; exact h0) (by rw [hx]; omega) (by rw [hx]; omega), hx, hw]
   unfold loopOf
   rw [if_pos h0]
   by_cases hn : namedL x.data.toList = true
   ·rw [if_pos hn, if_pos hn]
    refine loop_f c KS L hz hsz ks l (pre ++ [kd]) (preL ++ [x]) k j x n t (by rw [h1]; simp) (by rw [h2]; simp) (by simp [h3]) (by omega) ?_ (by omega)
    rw [List.countP_cons_of_neg (by rw [h0]; decide)] at h5
    exact h5
   ·rw [if_neg hn, if_neg hn]
  ·by_cases h9 : kd = 9
   ·rw [st_text k L _ KS _ _ c o _ _ _ _ _ t (Int.natCast_nonneg _) (by omega) (by omega) (by omega) (by rw [hrd]; exact h9), hx, hw]
    unfold loopOf
    rw [if_neg h0, if_pos h9]
    refine loop_f c KS L hz hsz ks l (pre ++ [kd]) (preL ++ [x]) k j o n x (by rw [h1]; simp) (by rw [h2]; simp) (by simp [h3]) (by omega) ?_ (by omega)
    rw [List.countP_cons_of_neg (by rw [h9]; decide)] at h5
    exact h5
   ·have hc : isNum kd = true := by
     unfold isNum
     rw [beq_eq_false_iff_ne.2 h0, beq_eq_false_iff_ne.2 h9]
     rfl
    rw [List.countP_cons_of_pos hc] at h5
    have hstep : cP.l0 (k + 1) L (j : Int) KS (KS.length : Int) (pre.length : Int) c o n.a n.b n.c n.d n.e t = if (readOf kd x).2.isNone = true then cP.l0 k L ((j + 1 : Nat) : Int) KS (KS.length : Int) ((pre ++ [kd]).length : Int) c o (n.upd j (readOf kd x).1).a (n.upd j (readOf kd x).1).b (n.upd j (readOf kd x).1).c (n.upd j (readOf kd x).1).d (n.upd j (readOf kd x).1).e t else some (badP ((readOf kd x).2.getD 0)) := by
     have hj : j ≤ 4 := by omega
     have hr : cR.f k (rd KS (pre.length : Int)) (rdOf ByteArray.empty L (pre.length : Int)) = some (readOf kd x) := by rw [hrd, hx]; exact read_f _ _ hxs k (by omega)
     have hcase : j = 0 ∨ j = 1 ∨ j = 2 ∨ j = 3 ∨ j = 4 := by omega
     rcases hcase with rfl | rfl | rfl | rfl | rfl
     ·rw [show (((0 : Nat) : Int)) = 0 from rfl, st_num0 k L KS _ _ c o _ _ _ _ _ t _ (Int.natCast_nonneg _) (by omega) (by omega) (by omega) (by rw [hrd]; exact h0) (by rw [hrd]; exact h9) hr, hw]
      rfl
     ·rw [show (((1 : Nat) : Int)) = 1 from rfl, st_num1 k L KS _ _ c o _ _ _ _ _ t _ (Int.natCast_nonneg _) (by omega) (by omega) (by omega) (by rw [hrd]; exact h0) (by rw [hrd]; exact h9) hr, hw]
      rfl
     ·rw [show (((2 : Nat) : Int)) = 2 from rfl, st_num2 k L KS _ _ c o _ _ _ _ _ t _ (Int.natCast_nonneg _) (by omega) (by omega) (by omega) (by rw [hrd]; exact h0) (by rw [hrd]; exact h9) hr, hw]
      rfl
     ·rw [show (((3 : Nat) : Int)) = 3 from rfl, st_num3 k L KS _ _ c o _ _ _ _ _ t _ (Int.natCast_nonneg _) (by omega) (by omega) (by omega) (by rw [hrd]; exact h0) (by rw [hrd]; exact h9) hr, hw]
      rfl
     ·rw [show (((4 : Nat) : Int)) = 4 from rfl, st_num4 k L KS _ _ c o _ _ _ _ _ t _ (Int.natCast_nonneg _) (by omega) (by omega) (by omega) (by rw [hrd]; exact h0) (by rw [hrd]; exact h9) hr, hw]
      rfl
    rw [hstep]
    unfold loopOf
    rw [if_neg h0, if_neg h9]
    by_cases he : (readOf kd x).2 = none
    ·rw [if_pos (by rw [he]; rfl), if_pos he]
     exact loop_f c KS L hz hsz ks l (pre ++ [kd]) (preL ++ [x]) k (j + 1) o _ t (by rw [h1]; simp) (by rw [h2]; simp) (by simp [h3]) (by omega) (by omega) (by omega)
    ·rw [if_neg (by rw [isn]; exact he), if_neg he]
/-! What Parse answers. -/
theorem code_le (a : ByteArray) : ∀ (m j : Nat), j + m = 10 → codeFrom a j ≤ 9
 | 0, j, e => by rw [codeFrom, if_neg (by omega)]; omega
 | m + 1, j, e => by
  by_cases h : 0 < j ∧ wordList.getD j ByteArray.empty = a
  ·rw [code_here a j (by omega) h]; omega
  ·rw [code_next a j (by omega) h]; exact code_le a m (j + 1) (by omega)
noncomputable def parseOf (s : ByteArray) : Res :=
 if 4096 < s.size then badP 2
 else if codeFrom ⟨(Lib.cut s.data.toList [59]).1.toArray⟩ 0 = 0 then badP 12
 else match partsOf ⟨(Lib.cut s.data.toList [59]).2.1.toArray⟩ (Lib.cut s.data.toList [59]).2.2 (kindsOf (codeFrom ⟨(Lib.cut s.data.toList [59]).1.toArray⟩ 0 : Nat)) with
  | (_, some e) => badP e
  | (l, none) => loopOf (codeFrom ⟨(Lib.cut s.data.toList [59]).1.toArray⟩ 0 : Nat) (kindsOf (codeFrom ⟨(Lib.cut s.data.toList [59]).1.toArray⟩ 0 : Nat)) l 0 ⟨#[]⟩ ⟨0, 0, 0, 0, 0⟩ ⟨#[]⟩
theorem row_sizes (s : ByteArray) (b : Bool) : ∀ x ∈ fieldRow s b, x.size ≤ s.size := by
 intro x hx
 unfold fieldRow at hx
 cases b with
 | false => cases hx
 | true =>
  rw [if_pos rfl] at hx
  exact part_size _ s semi x hx
theorem partsOf_ok (s : ByteArray) (b : Bool) (ks : List Int) (h1 : 1 ≤ ks.length) (l : List ByteArray) (h : partsOf s b ks = (l, none)) : l.length = ks.length ∧ ∀ x ∈ l, x.size ≤ s.size := by
 unfold partsOf at h
 by_cases g1 : (fieldRow s b).length < ks.length
 ·rw [if_pos g1] at h; cases h
 ·rw [if_neg g1] at h
  by_cases g2 : ks.getD (ks.length - 1) 0 = 9
  ·rw [if_pos g2] at h
   by_cases g3 : Lib.contains (lastText (fieldRow s b) ks.length).data.toList [10] = true
   ·rw [if_pos g3] at h; cases h
   ·rw [if_neg g3] at h
    have h := (Prod.mk.inj h).1
    subst h
    refine ⟨by simp; omega, fun x hx => ?_⟩
    rcases List.mem_append.1 hx with hx | hx
    ·exact row_sizes s b x (List.mem_of_mem_take hx)
    ·rw [List.mem_singleton.1 hx]; exact last_size s b _
  ·rw [if_neg g2] at h
   by_cases g3 : ks.length < (fieldRow s b).length
   ·rw [if_pos g3] at h; cases h
   ·rw [if_neg g3] at h
    have h := (Prod.mk.inj h).1
    subst h
    exact ⟨by omega, row_sizes s b⟩
theorem kinds_num (c : Nat) (h : c ≤ 9) : (kindsOf c).countP isNum ≤ 5 := by
 have : c = 0 ∨ c = 1 ∨ c = 2 ∨ c = 3 ∨ c = 4 ∨ c = 5 ∨ c = 6 ∨ c = 7 ∨ c = 8 ∨ c = 9 := by omega
 rcases this with rfl | rfl | rfl | rfl | rfl | rfl | rfl | rfl | rfl | rfl <;> decide
theorem parse_f (s : ByteArray) (k : Nat) (hk : 6100 ≤ k) : cP.f k s = some (parseOf s) := by
 obtain ⟨k, rfl⟩ : ∃ m, k = m + 1 := ⟨k - 1, by omega⟩
 unfold parseOf
 by_cases hs : 4096 < s.size
 ·rw [if_pos hs]
  unfold cP.f
  rw [if_pos (by omega)]
  rfl
 rw [if_neg hs]
 have hc9 := code_le ⟨(Lib.cut s.data.toList [59]).1.toArray⟩ 10 0 rfl
 rw [parse_top k s (by omega) _ rfl hc9]
 generalize codeFrom ⟨(Lib.cut s.data.toList [59]).1.toArray⟩ 0 = c at hc9
 by_cases h0 : c = 0
 ·rw [if_pos h0, if_pos h0]
 rw [if_neg h0, if_neg h0]
 have hkl := kinds_last c
 have hpo := partsOf_ok ⟨(Lib.cut s.data.toList [59]).2.1.toArray⟩ (Lib.cut s.data.toList [59]).2.2 (kindsOf c) (hkl.2.2 (by omega) (by omega))
 have hcl := (cut_len 59 s.data.toList).2
 rw [← size_c] at hcl
 rw [mk_size] at hpo
 generalize partsOf ⟨(Lib.cut s.data.toList [59]).2.1.toArray⟩ (Lib.cut s.data.toList [59]).2.2 (kindsOf c) = p at hpo
 obtain ⟨l, e⟩ := p
 cases e with
 | some e => rfl
 | none =>
  obtain ⟨hl, hz⟩ := hpo l rfl
  exact loop_f c (kindsOf c) l (by omega) (fun x hx => by have := hz x hx; omega) (kindsOf c) l [] [] (k + 1) 0 ⟨#[]⟩ ⟨0, 0, 0, 0, 0⟩ ⟨#[]⟩ rfl rfl rfl (by omega) (by rw [Nat.zero_add]; exact kinds_num c hc9) (by omega)
end Go.Proofs.YtdakfmldbddokaaGreatDoor.PVal

/- Plain mathematics of layer 10 at the seat of layer 20, the document's side, up to 5,000 bytes (written by tools/mk_cmr.py out of the templates XVaIntM, XVaTrimB, XVaListA, XVaMayM, XVaOptM, XVaOptF). -/
set_option linter.unusedVariables false
set_option linter.unusedSimpArgs false
namespace Go.Proofs.YtdakfmldbddokaaGreatDoor.PVal
open Go Go.RowKit Go.Proofs.YtdakfmldbddokaaGreatDoor.P Go.Proofs.YtdakfmldbddokaaGreatDoor.PClk Go.Proofs.YtdakfmldbddokaaGreatDoorW.PrintWords Go.Proofs.YtdakfmldbddokaaGreatDoorW.PrintLast Go.Proofs.YtdakfmldbddokaaGreatDoorW.PrintMore
open Classical
theorem ref_l0 (x1 x2 : Int) (x8 : Bool) (x9 : ByteArray) (hz : x9.size < 9000000000000000000) : ∀ (rest pre : List UInt8) (k : Nat), x9.data.toList = pre ++ rest →
  vI.l0 (k + rest.length + 1) x1 x2 x8 x9 (pre.length : Int) = if rest.all isDig = true then vI.l1 k x1 x2 x8 x9 0 0 else some (0, 3) := by
 intro rest
 induction rest with
 | nil =>
  intro pre k h
  have hs : x9.size = pre.length := by rw [size_l, h]; simp
  rw [List.length_nil, Nat.add_zero, vI.l0, if_neg (by omega)]
  rfl
 | cons c r ih =>
  intro pre k h
  have hs : x9.size = pre.length + (r.length + 1) := by rw [size_l, h]; simp
  have hb : bt x9 (pre.length : Int) = (c.toNat : Int) := by
   rw [bt_l x9 pre.length (by rw [h]; simp)]
   congr 1
   simp [h]
  have hw : wrap64 ((pre.length : Int) + 1) = ((pre ++ [c]).length : Int) := by rw [w64 (by omega) (by omega), List.length_append]; simp
  rw [List.length_cons, show k + (r.length + 1) + 1 = (k + r.length + 1) + 1 by omega, vI.l0, if_pos (by omega), if_pos (Int.natCast_nonneg _), hb, hw, ih (pre ++ [c]) k (by rw [h]; simp), List.all_cons]
  cases hd : isDig c with
  | true =>
   have := isDig_iff.1 hd
   rw [if_neg (by omega), if_neg (by omega), Bool.true_and]
  | false =>
   have hn : ¬ (48 ≤ c.toNat ∧ c.toNat ≤ 57) := fun e => by rw [isDig_iff.2 e] at hd; cases hd
   rw [Bool.false_and, if_neg (by decide : ¬ (false = true))]
   by_cases h1 : (c.toNat : Int) < 48
   ·rw [if_pos h1]
   ·rw [if_neg h1, if_pos (by omega)]
def refFin (x1 x2 : Int) (x8 : Bool) (v : Int) : Option (Int × Int) :=
 if v > 9223372036854775807 then (some (0, 5)) else (if x8 = true then (if (wrap64 (-(wrap64 (v)))) < x1 then (some (0, 5)) else (if (wrap64 (-(wrap64 (v)))) > x2 then (some (0, 5)) else (some (wrap64 (-(wrap64 (v))), 0)))) else (if (wrap64 (v)) < x1 then (some (0, 5)) else (if (wrap64 (v)) > x2 then (some (0, 5)) else (some (wrap64 (v), 0)))))
theorem acc_step (acc d x : Nat) (hd : d < 10) (hx : acc * 10 + d ≤ x) (h : x < 10000000000000000000) : IntKind.u64.wrap ((IntKind.u64.wrap (10 * (acc : Int))) + ((((48 + d : Nat) : Int) - 48) % 256)) = ((acc * 10 + d : Nat) : Int) := by
 rw [u64w (n := 10 * (acc : Int)) (by omega) (by omega), show ((((48 + d : Nat) : Int) - 48) % 256) = (d : Int) by omega, u64w (by omega) (by omega)]
 omega
theorem ref_l1 (x1 x2 : Int) (x8 : Bool) (x9 : ByteArray) (hz : x9.size < 9000000000000000000) : ∀ (rest pre : List UInt8) (acc k : Nat), x9.data.toList = pre ++ rest → (∀ c ∈ rest, isDig c = true) → val acc rest < 10000000000000000000 →
  vI.l1 (k + rest.length + 1) x1 x2 x8 x9 (acc : Int) (pre.length : Int) = refFin x1 x2 x8 (val acc rest : Int) := by
 intro rest
 induction rest with
 | nil =>
  intro pre acc k h _ _
  have hs : x9.size = pre.length := by rw [size_l, h]; simp
  rw [List.length_nil, Nat.add_zero, vI.l1, if_neg (by omega)]
  rfl
 | cons c r ih =>
  intro pre acc k h hd hv
  have hs : x9.size = pre.length + (r.length + 1) := by rw [size_l, h]; simp
  have hb : bt x9 (pre.length : Int) = (c.toNat : Int) := by
   rw [bt_l x9 pre.length (by rw [h]; simp)]
   congr 1
   simp [h]
  have hw : wrap64 ((pre.length : Int) + 1) = ((pre ++ [c]).length : Int) := by rw [w64 (by omega) (by omega), List.length_append]; simp
  have hc := isDig_iff.1 (hd c (List.mem_cons_self ..))
  have hvc : val acc (c :: r) = val (acc * 10 + (c.toNat - 48)) r := rfl
  have hst := acc_step acc (c.toNat - 48) _ (by omega) (val_le r (acc * 10 + (c.toNat - 48))) (by rw [← hvc]; exact hv)
  rw [show (48 + (c.toNat - 48) : Nat) = c.toNat by omega] at hst
  have hi := ih (pre ++ [c]) (acc * 10 + (c.toNat - 48)) k (by rw [h]; simp) (fun d hd' => hd d (List.mem_cons_of_mem _ hd')) (by rw [← hvc]; exact hv)
  rw [List.length_cons, show k + (r.length + 1) + 1 = (k + r.length + 1) + 1 by omega, vI.l1, if_pos (by omega), if_pos (Int.natCast_nonneg _), hb, hw, hst, hi, hvc]
theorem refFin_neg (x1 x2 : Int) (v : Nat) (h : v < 1000000000000000000) : refFin x1 x2 true (v : Int) = some ((fin (-(v : Int)) x1 x2).1, E (fin (-(v : Int)) x1 x2).2) := by
 have e1 : wrap64 (v : Int) = (v : Int) := w64 (by omega) (by omega)
 have e2 : wrap64 (-(v : Int)) = -(v : Int) := w64 (by omega) (by omega)
 unfold refFin fin
 rw [if_neg (by omega), if_pos rfl, e1, e2]
 by_cases h1 : -(v : Int) < x1
 ·rw [if_pos h1, if_pos h1]; rfl
 ·rw [if_neg h1, if_neg h1]
  by_cases h2 : -(v : Int) > x2
  ·rw [if_pos h2, if_pos h2]; rfl
  ·rw [if_neg h2, if_neg h2]; rfl
theorem refFin_pos (x1 x2 : Int) (v : Nat) : refFin x1 x2 false (v : Int) = if v < 9223372036854775808 then some ((fin (v : Int) x1 x2).1, E (fin (v : Int) x1 x2).2) else some (0, 5) := by
 unfold refFin fin
 by_cases hb : v < 9223372036854775808
 ·have e1 : wrap64 (v : Int) = (v : Int) := w64 (by omega) (by omega)
  rw [if_neg (by omega), if_neg (by decide), if_pos hb, e1]
  by_cases h1 : (v : Int) < x1
  ·rw [if_pos h1, if_pos h1]; rfl
  ·rw [if_neg h1, if_neg h1]
   by_cases h2 : (v : Int) > x2
   ·rw [if_pos h2, if_pos h2]; rfl
   ·rw [if_neg h2, if_neg h2]; rfl
 ·rw [if_pos (by omega), if_neg hb]
theorem ref_j1 (k : Nat) (x1 x2 : Int) (x8 : Bool) (x9 : ByteArray) (hz : x9.size < 9000000000000000000) (hv : x9.data.toList.all isDig = true → val 0 x9.data.toList < 10000000000000000000) :
  vI.j1 (k + x9.size + x9.size + 3) x1 x2 x8 x9 false = if x9.data.toList.all isDig = true then refFin x1 x2 x8 (val 0 x9.data.toList : Int) else some (0, 3) := by
 have h0 := ref_l0 x1 x2 x8 x9 hz x9.data.toList [] (k + x9.size + 1) rfl
 rw [← size_l] at h0
 rw [show k + x9.size + x9.size + 3 = (k + x9.size + 1 + x9.size + 1) + 1 by omega, vI.j1, if_neg (by decide), show (0 : Int) = (([] : List UInt8).length : Int) from rfl, h0]
 by_cases hd : x9.data.toList.all isDig = true
 ·rw [if_pos hd, if_pos hd]
  have h1 := ref_l1 x1 x2 x8 x9 hz x9.data.toList [] 0 k rfl (fun c hc => List.all_eq_true.mp hd c hc) (hv hd)
  rw [← size_l] at h1
  exact h1
 ·rw [if_neg hd, if_neg hd]; rfl
theorem ref_j0 (k : Nat) (x0 : ByteArray) (x1 x2 : Int) (x8 : Bool) (x9 : ByteArray) (h9 : x9.size ≤ x0.size) (h0 : x0.size < 9000000000000000000) :
  vI.j0 (k + x9.size + x9.size + 4) x0 x1 x2 x8 x9 = if digL x9.data.toList x8 = true ∧ x0.size ≤ 19 then refFin x1 x2 x8 (val 0 x9.data.toList : Int) else some (0, 3) := by
 rw [show k + x9.size + x9.size + 4 = (k + x9.size + x9.size + 3) + 1 by omega, vI.j0, toList_l]
 have j1t : ∀ n, vI.j1 (n + 1) x1 x2 x8 x9 true = some (0, 3) := fun n => by rw [vI.j1, if_pos rfl]
 have hv : x0.size ≤ 19 → x9.data.toList.all isDig = true → val 0 x9.data.toList < 10000000000000000000 := fun hz hd => by
  have h1 := val_lt x9.data.toList 0 (fun c hc => List.all_eq_true.mp hd c hc)
  rw [Nat.zero_add, Nat.one_mul] at h1
  exact Nat.lt_of_lt_of_le h1 (pow19 _ (by rw [← size_l]; omega))
 cases h : x9.data.toList with
 | nil =>
  rw [if_pos rfl, show k + x9.size + x9.size + 3 = (k + x9.size + x9.size + 2) + 1 by omega, j1t, if_neg (fun e => by cases e.1)]
 | cons c r =>
  have hb : bt x9 0 = (c.toNat : Int) := by
   have := bt_l x9 0 (by rw [h]; simp)
   simpa [h] using this
  have hsz : x9.size = r.length + 1 := by rw [size_l, h]; simp
  rw [if_neg (List.cons_ne_nil c r)]
  by_cases h19 : (x0.size : Int) > 19
  ·rw [if_pos h19, show k + x9.size + x9.size + 3 = (k + x9.size + x9.size + 2) + 1 by omega, j1t, if_neg (fun e => by have := e.2; omega)]
  ·have hv' := hv (by omega)
   rw [if_neg h19, if_pos (by omega), hb]
   have hj := ref_j1 k x1 x2 x8 x9 (by omega) hv'
   rw [h] at hj
   have hdig : digL (c :: r) x8 = ((c :: r).all isDig && (if c.toNat = 48 then decide (r = []) && !x8 else true)) := rfl
   by_cases h48 : c.toNat = 48
   ·rw [if_pos (by omega)]
    rw [if_pos h48] at hdig
    by_cases hr : (x9.size : Int) > 1
    ·have hr' : ¬ r = [] := fun e => by rw [e] at hsz; simp at hsz; omega
     rw [if_pos hr, show k + x9.size + x9.size + 3 = (k + x9.size + x9.size + 2) + 1 by omega, j1t, if_neg (fun e => by rw [hdig, decide_eq_false hr', Bool.false_and, Bool.and_false] at e; cases e.1)]
    ·have hr' : r = [] := List.length_eq_zero_iff.1 (by omega)
     rw [if_neg hr]
     cases x8 with
     | true => rw [show k + x9.size + x9.size + 3 = (k + x9.size + x9.size + 2) + 1 by omega, j1t, if_neg (fun e => by rw [hdig, Bool.not_true, Bool.and_false, Bool.and_false] at e; cases e.1)]
     | false =>
      rw [hj]
      rw [decide_eq_true hr', Bool.not_false, Bool.true_and, Bool.and_true] at hdig
      rw [hdig]
      by_cases hd : (c :: r).all isDig = true
      ·rw [if_pos hd, if_pos ⟨hd, by omega⟩]
      ·rw [if_neg hd, if_neg (fun e => hd e.1)]
   ·rw [if_neg (by omega), hj]
    rw [if_neg h48, Bool.and_true] at hdig
    rw [hdig]
    by_cases hd : (c :: r).all isDig = true
    ·rw [if_pos hd, if_pos ⟨hd, by omega⟩]
    ·rw [if_neg hd, if_neg (fun e => hd e.1)]
theorem ref_int (k : Nat) (s : ByteArray) (lo hi : Int) (hs : s.size ≤ 5000) : vI.f (k + 11000) s lo hi = some ((intL s.data.toList lo hi).1, E (intL s.data.toList lo hi).2) := by
 unfold vI.f
 rw [toList_l]
 cases h : s.data.toList with
 | nil => rfl
 | cons c r =>
  have hb : bt s 0 = (c.toNat : Int) := by
   have := bt_l s 0 (by rw [h]; simp)
   simpa [h] using this
  have hsz : s.size = r.length + 1 := by rw [size_l, h]; simp
  rw [if_neg (List.cons_ne_nil c r), if_pos (by omega), hb]
  show _ = some ((if c = 45 then (if digL r true = true then (if 19 < (c :: r).length then (0, some 3) else fin (-(val 0 r : Int)) lo hi) else (0, some 3))
    else (if digL (c :: r) false = true then (if 19 < (c :: r).length then (0, some 3) else if val 0 (c :: r) < 9223372036854775808 then fin (val 0 (c :: r) : Int) lo hi else (0, some 5)) else (0, some 3)) : Int × Option Int).1, E (if c = 45 then (if digL r true = true then (if 19 < (c :: r).length then (0, some 3) else fin (-(val 0 r : Int)) lo hi) else (0, some 3))
    else (if digL (c :: r) false = true then (if 19 < (c :: r).length then (0, some 3) else if val 0 (c :: r) < 9223372036854775808 then fin (val 0 (c :: r) : Int) lo hi else (0, some 5)) else (0, some 3)) : Int × Option Int).2)
  by_cases hc : c = 45
  ·have hx : (s.extract 1 s.size).data.toList = r := by
    rw [ByteArray.data_extract, Array.toList_extract, List.extract_eq_take_drop, h, hsz]
    simp
   have hxs : (s.extract 1 s.size).size = r.length := by rw [size_l, hx]
   have hj := ref_j0 (k + 10996 - r.length - r.length) s lo hi true (s.extract 1 s.size) (by omega) (by omega)
   rw [hxs, hx, show k + 10996 - r.length - r.length + r.length + r.length + 4 = k + 11000 by omega] at hj
   have h45 : (c.toNat : Int) = 45 := by rw [hc]; rfl
   rw [if_pos h45, if_pos (by omega), show ((c.toNat : Int) == 45) = true from beq_iff_eq.mpr h45, hj, if_pos hc]
   cases hd : digL r true with
   | false => rw [if_neg (fun e => by cases e.1), if_neg (by decide)]; rfl
   | true =>
    rw [if_pos rfl]
    by_cases hz : 19 < (c :: r).length
    ·rw [if_neg (fun e => by have := e.2; simp at hz; omega), if_pos hz]; rfl
    ·rw [if_pos ⟨rfl, by simp at hz; omega⟩, if_neg hz]
     obtain ⟨hn, hg⟩ := digL_dig hd
     exact refFin_neg lo hi _ (atoi_neg r hg hn (by simp at hz; omega)).2
  ·have hj := ref_j0 (k + 10996 - s.size - s.size) s lo hi false s (Nat.le_refl _) (by omega)
   rw [h, show k + 10996 - s.size - s.size + s.size + s.size + 4 = k + 11000 by omega] at hj
   have h45 : ¬ (c.toNat : Int) = 45 := fun e => hc (UInt8.toNat_inj.1 (by show c.toNat = 45; omega))
   rw [if_neg h45, show ((c.toNat : Int) == 45) = false from beq_eq_false_iff_ne.mpr h45, hj, if_neg hc]
   cases hd : digL (c :: r) false with
   | false => rw [if_neg (fun e => by cases e.1), if_neg (by decide)]; rfl
   | true =>
    rw [if_pos rfl]
    by_cases hz : 19 < (c :: r).length
    ·rw [if_neg (fun e => by have := e.2; simp at hz; omega), if_pos hz]; rfl
    ·rw [if_pos ⟨rfl, by simp at hz; omega⟩, if_neg hz, refFin_pos]
     by_cases hv : val 0 (c :: r) < 9223372036854775808
     ·rw [if_pos hv, if_pos hv]
     ·rw [if_neg hv, if_neg hv]; rfl
def blank (c : UInt8) : Bool := decide ((c.toNat : Int) = 32) || decide ((c.toNat : Int) = 9)
def lf (l : List UInt8) : List UInt8 := l.dropWhile blank
def rt (l : List UInt8) : List UInt8 := (l.reverse.dropWhile blank).reverse
theorem rt_cons (c : UInt8) (r : List UInt8) : rt (c :: r) = if rt r = [] then (if blank c = true then [] else [c]) else c :: rt r := by
 unfold rt
 rw [List.reverse_cons, List.dropWhile_append]
 cases h : (List.dropWhile blank r.reverse) with
 | nil =>
  rw [if_pos (by rfl), if_pos (by rfl)]
  by_cases hb : blank c = true
  ·rw [List.dropWhile_cons_of_pos hb, if_pos hb]; rfl
  ·rw [List.dropWhile_cons_of_neg hb, if_neg hb]; rfl
 | cons d q =>
  rw [if_neg (by simp), if_neg (by simp)]
  simp
theorem lf_pos {c : UInt8} {r : List UInt8} (h : blank c = true) : lf (c :: r) = lf r := List.dropWhile_cons_of_pos h
theorem lf_neg {c : UInt8} {r : List UInt8} (h : ¬ blank c = true) : lf (c :: r) = c :: r := List.dropWhile_cons_of_neg h
theorem lf_rt (l : List UInt8) : lf (rt l) = rt (lf l) := by
 induction l with
 | nil => rfl
 | cons c r ih =>
  by_cases hb : blank c = true
  ·rw [lf_pos hb, ← ih, rt_cons]
   by_cases h : rt r = []
   ·rw [if_pos h, if_pos hb, h]
   ·rw [if_neg h, lf_pos hb]
  ·rw [lf_neg hb, rt_cons]
   by_cases h : rt r = []
   ·rw [if_pos h, if_neg hb, lf_neg hb]
   ·rw [if_neg h, lf_neg hb]
theorem blank_set (c : UInt8) : ([32, 9] : List UInt8).contains c = blank c := by
 unfold blank
 by_cases h1 : c = 32
 ·subst h1; rfl
 ·by_cases h2 : c = 9
  ·subst h2; rfl
  ·have e1 : ¬ (c.toNat : Int) = 32 := fun e => h1 (UInt8.toNat_inj.1 (by show c.toNat = 32; omega))
   have e2 : ¬ (c.toNat : Int) = 9 := fun e => h2 (UInt8.toNat_inj.1 (by show c.toNat = 9; omega))
   rw [decide_eq_false e1, decide_eq_false e2]
   simp [h1, h2]
theorem trim_l (s : ByteArray) : (trimT s).data.toList = rt (lf s.data.toList) := by
 have e : (fun c : UInt8 => ([32, 9] : List UInt8).contains c) = blank := funext blank_set
 show Lib.trimLeftS (Lib.trimRightS s.data.toList [32, 9]) [32, 9] = _
 unfold Lib.trimLeftS Lib.trimRightS
 rw [e]
 exact lf_rt _
theorem tr_l1 (n : Nat) : ∀ (l : List UInt8) (k : Nat), l.length = n → n ≤ 100000 → vTr.l1 (k + n + 1) ⟨l.toArray⟩ = some ⟨(rt l).toArray⟩ := by
 induction n with
 | zero =>
  intro l k hl _
  obtain rfl := List.length_eq_zero_iff.1 hl
  rfl
 | succ n ih =>
  intro l k hl hn
  obtain ⟨m, c, rfl⟩ : ∃ m c, l = m ++ [c] := ⟨l.dropLast, l.getLast (by intro e; rw [e] at hl; cases hl), (List.dropLast_concat_getLast _).symm⟩
  have hm : m.length = n := by rw [List.length_append] at hl; simpa using hl
  have hsz : (⟨(m ++ [c]).toArray⟩ : ByteArray).size = n + 1 := hl
  have hw : wrap64 (((⟨(m ++ [c]).toArray⟩ : ByteArray).size : Int) - 1) = (n : Int) := by rw [hsz, w64 (by omega) (by omega)]; omega
  have hb : bt ⟨(m ++ [c]).toArray⟩ (n : Int) = (c.toNat : Int) := by
   rw [bt_l _ n (by show n < (m ++ [c]).length; omega)]
   congr 1
   simp [← hm]
  have hx : (⟨(m ++ [c]).toArray⟩ : ByteArray).extract 0 n = ⟨m.toArray⟩ := ba_inj (by
   rw [ByteArray.data_extract, Array.toList_extract, List.extract_eq_take_drop, List.drop_zero, Nat.sub_zero]
   show (m ++ [c]).take n = m
   rw [← hm, List.take_left])
  have hrt : rt (m ++ [c]) = if blank c = true then rt m else m ++ [c] := by
   unfold rt
   rw [List.reverse_append]
   show (List.dropWhile blank (c :: m.reverse)).reverse = _
   by_cases h : blank c = true
   ·rw [List.dropWhile_cons_of_pos h, if_pos h]
   ·rw [List.dropWhile_cons_of_neg h, if_neg h]; simp
  rw [show k + (n + 1) + 1 = (k + n + 1) + 1 by omega, vTr.l1, hw, hb, hsz, if_pos (by omega), if_pos (by omega), if_pos (by omega), Int.toNat_natCast, hx, hrt]
  have hi := ih m k hm (by omega)
  unfold blank
  by_cases h1 : (c.toNat : Int) = 32
  ·rw [if_pos h1, if_pos (by omega), hi, decide_eq_true h1, Bool.true_or, if_pos rfl]
  ·rw [if_neg h1, decide_eq_false h1, Bool.false_or]
   by_cases h2 : (c.toNat : Int) = 9
   ·rw [if_pos h2, if_pos (by omega), hi, decide_eq_true h2, if_pos rfl]
   ·rw [if_neg h2, decide_eq_false h2, if_neg (by decide)]
theorem ref_l0_trim (l : List UInt8) : ∀ k : Nat, l.length ≤ 100000 → vTr.l0 (k + l.length + l.length + 3) ⟨l.toArray⟩ = some ⟨(rt (lf l)).toArray⟩ := by
 induction l with
 | nil => intro k _; rfl
 | cons c r ih =>
  intro k hl
  rw [List.length_cons] at hl
  have hsz : (⟨(c :: r).toArray⟩ : ByteArray).size = r.length + 1 := rfl
  have hb : bt ⟨(c :: r).toArray⟩ 0 = (c.toNat : Int) := by
   have := bt_l ⟨(c :: r).toArray⟩ 0 (by show 0 < (c :: r).length; simp)
   simpa using this
  have hx : (⟨(c :: r).toArray⟩ : ByteArray).extract 1 (r.length + 1) = ⟨r.toArray⟩ := ba_inj (by
   rw [ByteArray.data_extract, Array.toList_extract, List.extract_eq_take_drop]
   show ((c :: r).drop 1).take (r.length + 1 - 1) = r
   simp)
  have hi := ih (k + 1) (by omega)
  have hj : ∀ n, vTr.j1 (n + (r.length + 1) + 2) ⟨(c :: r).toArray⟩ = some ⟨(rt (c :: r)).toArray⟩ := fun n => by
   rw [show n + (r.length + 1) + 2 = (n + (r.length + 1) + 1) + 1 by omega, vTr.j1]
   exact tr_l1 (r.length + 1) (c :: r) n rfl (by omega)
  rw [List.length_cons, show k + (r.length + 1) + (r.length + 1) + 3 = (k + 1 + r.length + r.length + 3) + 1 by omega, vTr.l0, hsz, hb, if_pos (by omega), if_pos (by omega)]
  by_cases h1 : (c.toNat : Int) = 32
  ·have hbk : blank c = true := by unfold blank; rw [decide_eq_true h1]; rfl
   rw [if_pos h1, if_pos (by omega), hx, hi, lf_pos hbk]
  ·rw [if_neg h1]
   by_cases h2 : (c.toNat : Int) = 9
   ·have hbk : blank c = true := by unfold blank; rw [decide_eq_true h2, Bool.or_true]
    rw [if_pos h2, if_pos (by omega), hx, hi, lf_pos hbk]
   ·have hbk : ¬ blank c = true := by unfold blank; rw [decide_eq_false h1, decide_eq_false h2]; decide
    rw [if_neg h2, lf_neg hbk, show k + 1 + r.length + r.length + 3 = (k + r.length + 1) + (r.length + 1) + 2 by omega]
    exact hj _
theorem ref_trim (s : ByteArray) (k : Nat) (hs : s.size ≤ 5000) : vTr.f (k + 10003) s = some (trimT s) := by
 have h := ref_l0_trim s.data.toList (k + 10000 - s.size - s.size) (by rw [← size_l]; omega)
 rw [← size_l, show k + 10000 - s.size - s.size + s.size + s.size + 3 = k + 10003 by omega] at h
 unfold vTr.f
 rw [show trimT s = ⟨(rt (lf s.data.toList)).toArray⟩ from ba_of (trim_l s)]
 exact h
theorem empty_iff (x : ByteArray) : x.toList = ([] : List UInt8) ↔ x = ⟨#[]⟩ := by
 rw [toList_l]
 constructor
 ·intro h; exact ba_inj h
 ·intro h; rw [h]
theorem chk_l0 (l : List ByteArray) (hz : l.length ≤ 100000) : ∀ (rest pre : List ByteArray) (k : Nat), l = pre ++ rest →
  vCk.l0 (k + rest.length + 1) l (pre.length : Int) = if (⟨#[]⟩ : ByteArray) ∈ rest then some 3 else vCk.l1 k l 0 := by
 intro rest
 induction rest with
 | nil =>
  intro pre k h
  have hl : l.length = pre.length := by rw [h]; simp
  rw [List.length_nil, Nat.add_zero, vCk.l0, if_neg (by omega), if_neg (by simp)]
 | cons x r ih =>
  intro pre k h
  have hl : l.length = pre.length + (r.length + 1) := by rw [h]; simp
  have hw : wrap64 ((pre.length : Int) + 1) = ((pre ++ [x]).length : Int) := by rw [w64 (by omega) (by omega), List.length_append]; simp
  rw [List.length_cons, show k + (r.length + 1) + 1 = (k + r.length + 1) + 1 by omega, vCk.l0, if_pos (by omega), if_pos (Int.natCast_nonneg _), rd_at l pre x r h]
  by_cases hx : x.toList = ([] : List UInt8)
  ·rw [if_pos hx, if_pos (by rw [(empty_iff x).1 hx]; exact List.mem_cons_self ..)]
  ·rw [if_neg hx, hw, ih (pre ++ [x]) k (by rw [h]; simp)]
   by_cases hm : (⟨#[]⟩ : ByteArray) ∈ r
   ·rw [if_pos hm, if_pos (List.mem_cons_of_mem _ hm)]
   ·rw [if_neg hm, if_neg (fun e => (List.mem_cons.1 e).elim (fun q => hx ((empty_iff x).2 q.symm)) hm)]
theorem chk_l2 (l : List ByteArray) (hz : l.length ≤ 100000) (done : List ByteArray) (x : ByteArray) (r : List ByteArray) (hl : l = done ++ x :: r) : ∀ (rest pre : List ByteArray) (k : Nat), done = pre ++ rest →
  vCk.l2 (k + rest.length + 1) l (done.length : Int) (pre.length : Int) = if x ∈ rest then some 7 else vCk.l1 k l ((done.length + 1 : Nat) : Int) := by
 have hll : l.length = done.length + (r.length + 1) := by rw [hl]; simp
 have hwd : wrap64 ((done.length : Int) + 1) = ((done.length + 1 : Nat) : Int) := by rw [w64 (by omega) (by omega)]; omega
 intro rest
 induction rest with
 | nil =>
  intro pre k h
  have hp : done.length = pre.length := by rw [h]; simp
  rw [List.length_nil, Nat.add_zero, vCk.l2, if_neg (by omega), hwd, if_neg (by simp)]
 | cons y q ih =>
  intro pre k h
  have hp : done.length = pre.length + (q.length + 1) := by rw [h]; simp
  have hw : wrap64 ((pre.length : Int) + 1) = ((pre ++ [y]).length : Int) := by rw [w64 (by omega) (by omega), List.length_append]; simp
  have hy : rdOf ByteArray.empty l (pre.length : Int) = y := rd_at l pre y (q ++ x :: r) (by rw [hl, h]; simp)
  rw [List.length_cons, show k + (q.length + 1) + 1 = (k + q.length + 1) + 1 by omega, vCk.l2, if_pos (by omega), if_pos (Int.natCast_nonneg _), if_pos (by omega), if_pos (Int.natCast_nonneg _), if_pos (by omega), rd_at l done x r hl, hy]
  by_cases hx : x.toList = y.toList
  ·have e : x = y := ba_inj (by rw [← toList_l, ← toList_l]; exact hx)
   rw [if_pos hx, if_pos (by rw [e]; exact List.mem_cons_self ..)]
  ·rw [if_neg hx, hw, ih (pre ++ [y]) k (by rw [h]; simp)]
   by_cases hm : x ∈ q
   ·rw [if_pos hm, if_pos (List.mem_cons_of_mem _ hm)]
   ·rw [if_neg hm, if_neg (fun e => (List.mem_cons.1 e).elim (fun p => hx (by rw [p])) hm)]
theorem chk_l1 (l : List ByteArray) (hz : l.length ≤ 5500) : ∀ (rest done : List ByteArray) (k : Nat), l = done ++ rest → done.Nodup →
  vCk.l1 (k + rest.length * 6000 + 1) l (done.length : Int) = if l.Nodup then (if 4096 < l.length then some 2 else some 0) else some 7 := by
 intro rest
 induction rest with
 | nil =>
  intro done k h hd
  have e : done = l := by rw [h]; simp
  rw [List.length_nil, Nat.zero_mul, Nat.add_zero, vCk.l1, e, if_neg (by omega), if_pos (show l.Nodup by rw [← e]; exact hd)]
  by_cases h4 : 4096 < l.length
  ·rw [if_pos (show ((l.length : Int) > 4096) by omega), if_pos h4]
  ·rw [if_neg (show ¬ ((l.length : Int) > 4096) by omega), if_neg h4]
 | cons x r ih =>
  intro done k h hd
  have hl : l.length = done.length + (r.length + 1) := by rw [h]; simp
  have h2 := chk_l2 l (by omega) done x r h done [] (k + r.length * 6000 + 5999 - done.length) (by simp)
  rw [show k + r.length * 6000 + 5999 - done.length + done.length + 1 = k + (r.length + 1) * 6000 by omega] at h2
  rw [List.length_cons, vCk.l1, if_pos (by omega)]
  refine h2.trans ?_
  by_cases hx : x ∈ done
  ·rw [if_pos hx, if_neg (fun hn => by
    rw [h, List.nodup_append] at hn
    exact hn.2.2 x hx x (List.mem_cons_self ..) rfl)]
  ·rw [if_neg hx]
   have hi := ih (done ++ [x]) (k + 5998 - done.length) (by rw [h]; simp) (by
    rw [List.nodup_append]
    exact ⟨hd, by simp, fun a ha b hb e => hx (by rw [List.mem_singleton] at hb; rw [← hb, ← e]; exact ha)⟩)
   rw [List.length_append, List.length_singleton, show k + 5998 - done.length + r.length * 6000 + 1 = k + r.length * 6000 + 5999 - done.length by omega] at hi
   exact hi
/-- What is wrong with parts, by its number. -/
noncomputable def chkC (l : List ByteArray) : Int := if (⟨#[]⟩ : ByteArray) ∈ l then 3 else if l.Nodup then (if 4096 < l.length then 2 else 0) else 7
theorem ref_chk (l : List ByteArray) (hz : l.length ≤ 5500) (k : Nat) : vCk.f (k + 40000000) l = some (chkC l) := by
 unfold vCk.f chkC
 have h0 := chk_l0 l (by omega) l [] (k + 39999999 - l.length) rfl
 rw [show k + 39999999 - l.length + l.length + 1 = k + 40000000 by omega] at h0
 refine h0.trans ?_
 by_cases hm : (⟨#[]⟩ : ByteArray) ∈ l
 ·rw [if_pos hm, if_pos hm]
 ·have h1 := chk_l1 l hz l [] (k + 39999998 - l.length - l.length * 6000) (by simp) List.nodup_nil
  rw [show k + 39999998 - l.length - l.length * 6000 + l.length * 6000 + 1 = k + 39999999 - l.length by omega] at h1
  rw [if_neg hm, if_neg hm]
  refine h1.trans ?_
  by_cases hn : l.Nodup
  ·rw [if_pos hn, if_pos hn]
   by_cases h4 : 4096 < l.length
   ·rw [if_pos h4, if_pos h4]
   ·rw [if_neg h4, if_neg h4]
  ·rw [if_neg hn, if_neg hn]
theorem chk_code (l : List ByteArray) : (if Lib.containsS l ⟨#[]⟩ = true then (([] : List ByteArray), some (3 : Int)) else if dupS l = true then ([], some 7) else if 4096 < l.length then ([], some 2) else (l, none)) = if chkC l = 0 then (l, none) else ([], some (chkC l)) := by
 unfold chkC
 by_cases h1 : (⟨#[]⟩ : ByteArray) ∈ l
 ·rw [if_pos ((Lib.containsS_iff l _).2 h1), if_pos h1, if_neg (by decide)]
 ·rw [if_neg (fun e => h1 ((Lib.containsS_iff l _).1 e)), if_neg h1]
  by_cases h2 : l.Nodup
  ·rw [if_neg (fun e => (dup_iff l).1 e h2), if_pos h2]
   by_cases h3 : 4096 < l.length
   ·rw [if_pos h3, if_pos h3, if_neg (by decide)]
   ·rw [if_neg h3, if_neg h3, if_pos rfl]
  ·rw [if_pos ((dup_iff l).2 h2), if_neg h2, if_neg (by decide)]
theorem trim_k (s : ByteArray) (k : Nat) (hs : s.size ≤ 5000) (hk : 10003 ≤ k) : vTr.f k s = some (trimT s) := by
 have h := ref_trim s (k - 10003) hs
 rwa [Nat.sub_add_cancel hk] at h
theorem chk_k (l : List ByteArray) (hz : l.length ≤ 5500) (k : Nat) (hk : 40000000 ≤ k) : vCk.f k l = some (chkC l) := by
 have h := ref_chk l hz (k - 40000000)
 rwa [Nat.sub_add_cancel hk] at h
theorem ref_list_l0 (s : ByteArray) (hs : s.size ≤ 5000) : ∀ (rest pre cur : List UInt8) (acc : List ByteArray) (k : Nat), s.data.toList = pre ++ cur ++ rest → acc.length ≤ pre.length → rest.length + 40000010 ≤ k →
  vl.l0 k s acc (pre.length : Int) ((pre.length + cur.length : Nat) : Int) =
   if chkC (acc ++ (cutAt 44 cur rest).map fun l => trimT ⟨l.toArray⟩) = 0 then some (acc ++ (cutAt 44 cur rest).map fun l => trimT ⟨l.toArray⟩, 0) else some ([], chkC (acc ++ (cutAt 44 cur rest).map fun l => trimT ⟨l.toArray⟩)) := by
 have hsl := size_l s
 intro rest
 induction rest with
 | nil =>
  intro pre cur acc k h ha hk
  obtain ⟨n, rfl⟩ : ∃ n, k = n + 1 + 1 := ⟨k - 2, by omega⟩
  rw [List.length_nil] at hk
  have hl : s.size = pre.length + cur.length := by rw [hsl, h]; simp
  have hx : s.extract pre.length (pre.length + cur.length) = ⟨cur.toArray⟩ := ba_inj (by
   rw [ByteArray.data_extract, Array.toList_extract, List.extract_eq_take_drop, h, List.append_nil]
   show ((pre ++ cur).drop pre.length).take (pre.length + cur.length - pre.length) = cur
   rw [List.drop_left, Nat.add_sub_cancel_left, List.take_length])
  have hxs : (⟨cur.toArray⟩ : ByteArray).size ≤ 5000 := by show cur.length ≤ _; omega
  have hw : wrap64 (((pre.length + cur.length : Nat) : Int) + 1) = ((s.size + 1 : Nat) : Int) := by rw [w64 (by omega) (by omega)]; omega
  have ht := fun n hn => trim_k ⟨cur.toArray⟩ n hxs hn
  have hc := fun n hn => chk_k (acc ++ [trimT ⟨cur.toArray⟩]) (by rw [List.length_append, List.length_singleton]; omega) n hn
  rw [vl.l0, if_pos (by omega), if_pos (by omega), if_pos (Int.natCast_nonneg _), if_pos (by omega), Int.toNat_natCast, Int.toNat_natCast, hx, ht _ (by omega), Option.bind_some, if_pos (by omega), hw, vl.l0, if_neg (by omega), hc _ (by omega), Option.bind_some]
  rfl
 | cons d r ih =>
  intro pre cur acc k h ha hk
  obtain ⟨n, rfl⟩ : ∃ n, k = n + 1 := ⟨k - 1, by omega⟩
  rw [List.length_cons] at hk
  have hl : s.size = pre.length + cur.length + (r.length + 1) := by rw [hsl, h]; simp; omega
  have hb : bt s ((pre.length + cur.length : Nat) : Int) = (d.toNat : Int) := by
   rw [bt_l s (pre.length + cur.length) (by rw [← hsl]; omega)]
   congr 1
   have : s.data.toList[pre.length + cur.length]? = some d := by
    rw [h, show pre.length + cur.length = (pre ++ cur).length by simp, List.getElem?_append_right (Nat.le_refl _), Nat.sub_self]; rfl
   rw [List.getElem?_eq_getElem (by rw [← hsl]; omega)] at this
   exact congrArg UInt8.toNat (Option.some.inj this)
  have hw : wrap64 (((pre.length + cur.length : Nat) : Int) + 1) = ((pre.length + cur.length + 1 : Nat) : Int) := by rw [w64 (by omega) (by omega)]; omega
  rw [vl.l0, if_pos (by omega), if_neg (by omega), if_pos (Int.natCast_nonneg _), if_pos (by omega), hb]
  by_cases hd : d = 44
  ·have hx : s.extract pre.length (pre.length + cur.length) = ⟨cur.toArray⟩ := ba_inj (by
    rw [ByteArray.data_extract, Array.toList_extract, List.extract_eq_take_drop, h, List.append_assoc]
    show ((pre ++ (cur ++ d :: r)).drop pre.length).take (pre.length + cur.length - pre.length) = cur
    rw [List.drop_left, Nat.add_sub_cancel_left, List.take_left])
   have hxs : (⟨cur.toArray⟩ : ByteArray).size ≤ 5000 := by show cur.length ≤ _; omega
   have ht := fun n hn => trim_k ⟨cur.toArray⟩ n hxs hn
   have hi := ih (pre ++ cur ++ [d]) [] (acc ++ [trimT ⟨cur.toArray⟩]) n (by rw [h]; simp) (by simp; omega) (by omega)
   have e2 : (pre ++ cur ++ [d]).length + ([] : List UInt8).length = pre.length + cur.length + 1 := by simp only [List.length_append, List.length_singleton, List.length_nil] <;> omega
   have e1 : (pre ++ cur ++ [d]).length = pre.length + cur.length + 1 := by simp only [List.length_append, List.length_singleton]
   rw [e2, e1] at hi
   have hcut : cutAt 44 cur (d :: r) = cur :: cutAt 44 [] r := by rw [cutAt, if_pos hd]
   rw [if_pos (by rw [hd]; rfl), if_pos (Int.natCast_nonneg _), if_pos (by omega), Int.toNat_natCast, Int.toNat_natCast, hx, ht _ (by omega), Option.bind_some, if_pos (by omega), hw, hi, hcut, List.map_cons, List.append_assoc]
   rfl
  ·have hi := ih pre (cur ++ [d]) acc n (by rw [h]; simp) ha (by omega)
   have e3 : pre.length + (cur ++ [d]).length = pre.length + cur.length + 1 := by simp only [List.length_append, List.length_singleton] <;> omega
   rw [e3] at hi
   have hcut : cutAt 44 cur (d :: r) = cutAt 44 (cur ++ [d]) r := by rw [cutAt, if_neg hd]
   rw [if_neg (fun e => hd (UInt8.toNat_inj.1 (by show d.toNat = 44; omega))), hw, hi, hcut]
theorem ref_list (s : ByteArray) (hs : s.size ≤ 5000) (k : Nat) (hk : 40010000 ≤ k) : vl.f k s = some ((listOf s).1, E (listOf s).2) := by
 have ht := trim_k s k (by omega) (by omega)
 have h0 := ref_list_l0 s hs s.data.toList [] [] [] k (by simp) (Nat.le_refl _) (by rw [← size_l]; omega)
 have hp : (([] : List ByteArray) ++ (cutAt 44 [] s.data.toList).map fun l => trimT ⟨l.toArray⟩) = partsT s := by
  unfold partsT partsAt
  rw [List.nil_append, List.map_map]
  rfl
 rw [hp] at h0
 unfold vl.f listOf
 rw [ht, Option.bind_some]
 by_cases he : (trimT s).toList = ([] : List UInt8)
 ·rw [if_pos he, if_pos he]; rfl
 ·rw [if_neg he, if_neg he, chk_code]
  refine h0.trans ?_
  by_cases hc : chkC (partsT s) = 0
  ·rw [if_pos hc, if_pos hc]; rfl
  ·rw [if_neg hc, if_neg hc]; rfl
theorem bt_mid {s : ByteArray} {pre r : List UInt8} {d : UInt8} (h : s.data.toList = pre ++ d :: r) : bt s (pre.length : Int) = (d.toNat : Int) := by
 rw [bt_l s pre.length (by rw [h]; simp)]
 congr 1
 have : s.data.toList[pre.length]? = some d := by
  rw [h, List.getElem?_append_right (Nat.le_refl _), Nat.sub_self]; rfl
 rw [List.getElem?_eq_getElem (by rw [h]; simp)] at this
 exact congrArg UInt8.toNat (Option.some.inj this)
/-- Where a letter is first. -/
theorem at_l0 (L : ByteArray) (c : UInt8) (hL : L.size ≤ 1000) : ∀ (rest pre : List UInt8) (k : Nat), L.data.toList = pre ++ rest → c ∉ pre → rest.length + 1 ≤ k → vAt.l0 k L (c.toNat : Int) (pre.length : Int) = some (Lib.indexByte L.data.toList c) := by
 intro rest
 induction rest with
 | nil =>
  intro pre k h hn hk
  obtain ⟨n, rfl⟩ : ∃ n, k = n + 1 := ⟨k - 1, by simp at hk; omega⟩
  have hl : L.size = pre.length := by rw [size_l, h]; simp
  rw [vAt.l0, if_neg (by omega), h, List.append_nil, Go.Proofs.YtdakfmldbddokaaGreatDoor.P.ix_notin c pre hn]
 | cons d r ih =>
  intro pre k h hn hk
  rw [List.length_cons] at hk
  obtain ⟨n, rfl⟩ : ∃ n, k = n + 1 := ⟨k - 1, by omega⟩
  have hl : L.size = pre.length + (r.length + 1) := by rw [size_l, h]; simp
  rw [vAt.l0, if_pos (by omega), if_pos (Int.natCast_nonneg _), bt_mid h]
  by_cases hd : d = c
  ·subst hd
   rw [if_pos rfl, h, Go.Proofs.YtdakfmldbddokaaGreatDoor.P.ix_at d r pre hn]
  ·rw [if_neg (fun e => hd (UInt8.toNat_inj.1 (by omega))), up64 (by omega)]
   have := ih (pre ++ [d]) n (by rw [h]; simp) (by simp only [List.mem_append, List.mem_singleton]; exact fun q => q.elim hn (fun e => hd e.symm)) (by omega)
   rw [List.length_append] at this
   exact this
theorem at_f (L : ByteArray) (c : UInt8) (hL : L.size ≤ 1000) (k : Nat) (hk : 1001 ≤ k) : vAt.f k L (c.toNat : Int) = some (Lib.indexByte L.data.toList c) :=
 at_l0 L c hL L.data.toList [] k (by simp) (by simp) (by rw [← size_l]; omega)
theorem may_acf (k : Nat) (hk : 60 ≤ k) : vM.f k acf = some true := by
 obtain ⟨m, rfl⟩ : ∃ m, k = m + 60 := ⟨k - 60, by omega⟩
 clear hk
 induction m with
 | zero => decide +kernel
 | succ m ih => exact vM.mono _ _ _ ih
theorem wl_add (b p : Nat) (hb : b ≤ 1000000000) (hp : p < 16) : wrap64 ((b : Int) + ((2 ^ p : Nat) : Int)) = ((b + 2 ^ p : Nat) : Int) := by
 have hp2 : 2 ^ p < 2 ^ 16 := Nat.pow_lt_pow_right (by decide) hp
 generalize 2 ^ p = q at hp2 ⊢
 rw [w64 (by omega) (by omega)]; omega
theorem ro_l1 (L : ByteArray) (hL : MayL L.data.toList) (xs pre : List ByteArray) (x : ByteArray) (r : List ByteArray) (hxs : xs = pre ++ x :: r) (hz : xs.length ≤ 6000) (c : UInt8) (hx : x.data.toList = [c]) (hc : c ∈ L.data.toList) (b : Nat) (hb : b ≤ 1000000000) : ∀ (m j k : Nat), m + j = ixN L.data.toList c → 2000 + m ≤ k →
  ∃ n, n + m + 1 = k ∧ vO.l1 k L xs (b : Int) (pre.length : Int) ((2 ^ j : Nat) : Int) (j : Int) = vO.l0 n L xs ((b + 2 ^ ixN L.data.toList c : Nat) : Int) ((pre.length + 1 : Nat) : Int) := by
 have hLs : L.size ≤ 16 := by rw [size_l]; exact hL.1
 obtain ⟨i1, i2, i3⟩ := ixN_mem hc
 have hlen : xs.length = pre.length + (r.length + 1) := by rw [hxs]; simp
 have hrd : rdOf ByteArray.empty xs (pre.length : Int) = x := rd_at xs pre x r hxs
 have hsz : x.size = 1 := by rw [size_l, hx]; rfl
 have hbt : bt x 0 = (c.toNat : Int) := bt_mid (pre := []) (r := []) hx
 have h16 : ixN L.data.toList c < 16 := by have := hL.1; omega
 intro m
 induction m with
 | zero =>
  intro j k hm hk
  obtain ⟨n, rfl⟩ : ∃ n, k = n + 1 := ⟨k - 1, by omega⟩
  refine ⟨n, by omega, ?_⟩
  have hj : j = ixN L.data.toList c := by omega
  rw [vO.l1, if_pos (Int.natCast_nonneg _), if_pos (by omega), hrd, if_pos (by omega), hbt, at_f L c (by omega) n (by omega), Option.bind_some, i1, if_neg (by omega), hj, wl_add b _ hb (by omega), up64 (by omega)]
 | succ m ih =>
  intro j k hm hk
  obtain ⟨n, rfl⟩ : ∃ n, k = n + 1 := ⟨k - 1, by omega⟩
  obtain ⟨n', h1, h2⟩ := ih (j + 1) n (by omega) (by omega)
  refine ⟨n', by omega, ?_⟩
  have hp2 : 2 ^ (j + 1) < 2 ^ 16 := Nat.pow_lt_pow_right (by decide) (by omega)
  have hw : wrap64 (2 * ((2 ^ j : Nat) : Int)) = ((2 ^ (j + 1) : Nat) : Int) := by
   rw [Nat.pow_succ] at hp2 ⊢
   generalize 2 ^ j = q at hp2 ⊢
   rw [w64 (by omega) (by omega)]; omega
  rw [vO.l1, if_pos (Int.natCast_nonneg _), if_pos (by omega), hrd, if_pos (by omega), hbt, at_f L c (by omega) n (by omega), Option.bind_some, i1, if_pos (by omega), hw, up64 (by omega)]
  exact h2
theorem ro_l0 (L : ByteArray) (hL : MayL L.data.toList) (xs : List ByteArray) (hz : xs.length ≤ 6000) : ∀ (rest pre : List ByteArray) (b k : Nat), xs = pre ++ rest → b ≤ 65536 * pre.length → 3000 + 100 * rest.length ≤ k →
  vO.l0 k L xs (b : Int) (pre.length : Int) = some ((optL L.data.toList rest b).1, E (optL L.data.toList rest b).2) := by
 have hLs : L.size ≤ 16 := by rw [size_l]; exact hL.1
 intro rest
 induction rest with
 | nil =>
  intro pre b k h hb hk
  obtain ⟨n, rfl⟩ : ∃ n, k = n + 1 := ⟨k - 1, by omega⟩
  have hlen : xs.length = pre.length := by rw [h]; simp
  rw [vO.l0, if_neg (by omega)]
  rfl
 | cons x r ih =>
  intro pre b k h hb hk
  rw [List.length_cons] at hk
  obtain ⟨n, rfl⟩ : ∃ n, k = n + 1 + 1 := ⟨k - 2, by omega⟩
  have hlen : xs.length = pre.length + (r.length + 1) := by rw [h]; simp
  have hrd : rdOf ByteArray.empty xs (pre.length : Int) = x := rd_at xs pre x r h
  rw [vO.l0, if_pos (by omega), if_pos (Int.natCast_nonneg _), hrd]
  by_cases h1 : x.size = 1
  ·obtain ⟨c, hc⟩ := one_of h1
   have hbt : bt x 0 = (c.toNat : Int) := bt_mid (pre := []) (r := []) hc
   rw [if_pos (by omega), if_pos (by omega), hbt, at_f L c (by omega) (n + 1) (by omega), Option.bind_some, opt_one hc, vO.j2]
   by_cases hm : c ∈ L.data.toList
   ·obtain ⟨i1, i2, i3⟩ := ixN_mem hm
    obtain ⟨n', e1, e2⟩ := ro_l1 L hL xs pre x r h hz c hc hm b (by omega) (ixN L.data.toList c) 0 n (by omega) (by have := hL.1; omega)
    rw [i1, if_neg (by simp), if_pos hm]
    have hp2 : 2 ^ ixN L.data.toList c < 2 ^ 16 := Nat.pow_lt_pow_right (by decide) (by have := hL.1; omega)
    have := ih (pre ++ [x]) (b + 2 ^ ixN L.data.toList c) n' (by rw [h]; simp) (by rw [List.length_append, List.length_singleton]; omega) (by have := hL.1; omega)
    rw [List.length_append] at this
    exact e2.trans this
   ·rw [Go.Proofs.YtdakfmldbddokaaGreatDoor.P.ix_notin c _ hm, if_pos (by decide), if_neg hm]
    rfl
  ·rw [if_neg (by omega), opt_odd h1, vO.j2, if_pos rfl]
   rfl
theorem ix_neg (l : List UInt8) (c : UInt8) : Lib.indexByte l c < 0 ↔ c ∉ l := by
 constructor
 ·intro h hm
  obtain ⟨a, r, rfl, hn⟩ := Go.Proofs.YtdakfmldbddokaaGreatDoor.P.first_at c l hm
  rw [Go.Proofs.YtdakfmldbddokaaGreatDoor.P.ix_at c r a hn] at h
  omega
 ·intro h
  rw [Go.Proofs.YtdakfmldbddokaaGreatDoor.P.ix_notin c l h]
  decide
theorem acf_size : acf.size ≤ 1000 := by decide
theorem ref_opt (s : ByteArray) (hs : s.size ≤ 5000) (k : Nat) (hk : 41000000 ≤ k) : vO.f k s acf = some ((optOf s).1, E (optOf s).2) := by
 unfold vO.f optOf
 rw [may_acf k (by omega), Option.bind_some, if_pos rfl, ref_list s hs k (by omega), Option.bind_some]
 by_cases h2 : (listOf s).2 = none
 ·have hlen := listOf_short s
  rw [if_pos (by rw [h2]; rfl), if_pos h2]
  generalize (listOf s).1 = l at hlen ⊢
  have hgo : vO.j0 k acf l false = some ((optL acf.data.toList l 0).1, E (optL acf.data.toList l 0).2) := by
   obtain ⟨n, rfl⟩ : ∃ n, k = n + 1 := ⟨k - 1, by omega⟩
   rw [vO.j0, if_neg (by decide)]
   exact ro_l0 acf acf_L l (by omega) l [] 0 n (by simp) (by omega) (by omega)
  by_cases h1 : l = [⟨#[110]⟩]
  ·rw [if_pos (by rw [h1]; rfl), if_pos (by rw [h1]; decide), if_pos (by rw [h1]; show (⟨#[110]⟩ : ByteArray).toList = _; rw [toList_l]), show (110 : Int) = (((110 : UInt8).toNat : Nat) : Int) from rfl, at_f acf 110 acf_size k (by omega), Option.bind_some, if_pos h1, decide_eq_true ((ix_neg _ _).2 acf_n)]
   obtain ⟨n, rfl⟩ : ∃ n, k = n + 1 := ⟨k - 1, by omega⟩
   rw [vO.j0, if_pos rfl]
   rfl
  ·rw [if_neg h1]
   by_cases h3 : (l.length : Int) = 1
   ·rw [if_pos h3, if_pos (by omega), if_neg (not_one h1 h3)]
    exact hgo
   ·rw [if_neg h3]
    exact hgo
 ·rw [if_neg h2]
  obtain ⟨e, he⟩ : ∃ e, (listOf s).2 = some e := by
   cases hq : (listOf s).2 with
   | none => exact absurd hq h2
   | some e => exact ⟨e, rfl⟩
  have hez : e ≠ 0 := by
   intro q
   subst q
   unfold listOf at he
   repeat' split at he
   all_goals cases he
  rw [he]
  show (if E (some e) = 0 then _ else _) = _
  rw [if_neg (show ¬ E (some e) = 0 from hez)]
theorem ref_int_k (s : ByteArray) (lo hi : Int) (hs : s.size ≤ 5000) (k : Nat) (hk : 11000 ≤ k) : vI.f k s lo hi = some ((intL s.data.toList lo hi).1, E (intL s.data.toList lo hi).2) := by
 have h := ref_int (k - 11000) s lo hi hs
 rwa [Nat.sub_add_cancel hk] at h
end Go.Proofs.YtdakfmldbddokaaGreatDoor.PVal

/- Plain mathematics of layer 20: what the document's Parse answers is what the program's does (written by tools/mk_cmd.py). -/
set_option linter.unusedVariables false
set_option linter.unusedSimpArgs false
namespace Go.Proofs.YtdakfmldbddokaaGreatDoor.PVal
open Go Go.RowKit Go.Proofs.YtdakfmldbddokaaGreatDoor.P Go.Proofs.YtdakfmldbddokaaGreatDoor.PClk Go.Proofs.YtdakfmldbddokaaGreatDoorW.PrintWords Go.Proofs.YtdakfmldbddokaaGreatDoorW.PrintLast Go.Proofs.YtdakfmldbddokaaGreatDoorW.PrintMore
open Classical
/-! Names. -/
def nmAll : ByteArray := ⟨#[97, 98, 99, 100, 101, 102, 103, 104, 105, 106, 107, 108, 109, 110, 111, 112, 113, 114, 115, 116, 117, 118, 119, 120, 121, 122, 65, 66, 67, 68, 69, 70, 71, 72, 73, 74, 75, 76, 77, 78, 79, 80, 81, 82, 83, 84, 85, 86, 87, 88, 89, 90, 48, 49, 50, 51, 52, 53, 54, 55, 56, 57, 95, 45, 46]⟩
theorem nm_mem : ∀ n : Nat, n < 256 → ((nmAll.data.toList.map UInt8.toNat).contains n) = nmN n := by decide +kernel
theorem am_l1 (s : ByteArray) (hs : s.size ≤ 1000000) (i : Nat) (hi : i < s.size) (d : UInt8) (hd : bt s (i : Int) = (d.toNat : Int)) : ∀ (rest pre : List UInt8) (ok : Bool) (k : Nat), nmAll.data.toList = pre ++ rest → rest.length + 1 ≤ k →
  ba9.l1 k s nmAll (i : Int) ok (pre.length : Int) = if (ok || (rest.map UInt8.toNat).contains d.toNat) = true then ba9.l0 (k - rest.length - 1) s nmAll ((i + 1 : Nat) : Int) else some false
 | [], pre, ok, k, h, hk => by
  obtain ⟨k, rfl⟩ : ∃ m, k = m + 1 := ⟨k - 1, by omega⟩
  have hl : nmAll.size = pre.length := by rw [size_c, h]; simp
  rw [ba9.l1, if_neg (by omega), w64c (x := (i : Int) + 1) (by omega) (by omega)]
  cases ok <;> rfl
 | c :: rest, pre, ok, k, h, hk => by
  obtain ⟨k, rfl⟩ : ∃ m, k = m + 1 := ⟨k - 1, by omega⟩
  have hl : nmAll.size = pre.length + (rest.length + 1) := by rw [size_c, h]; simp
  have h65 : nmAll.size = 65 := by decide +kernel
  have hw : wrap64 ((pre.length : Int) + 1) = ((pre ++ [c]).length : Int) := by rw [w64c (by omega) (by omega)]; simp
  have e : k + 1 - (c :: rest).length - 1 = k - rest.length - 1 := by simp
  rw [ba9.l1, if_pos (by omega), hw, e]
  cases ok with
  | true =>
   rw [if_pos rfl, am_l1 s hs i hi d hd rest (pre ++ [c]) true k (by rw [h]; simp) (by simp at hk; omega)]
   rfl
  | false =>
   rw [if_neg (by decide), if_pos (Int.natCast_nonneg _), if_pos (Int.natCast_nonneg _), if_pos (by omega), bt_c h, hd, am_l1 s hs i hi d hd rest (pre ++ [c]) _ k (by rw [h]; simp) (by simp at hk; omega)]
   rw [List.map_cons, List.contains_cons, Bool.false_or]
   have : (((c.toNat : Int)) == ((d.toNat : Int))) = (d.toNat == c.toNat) := by
    rw [Bool.eq_iff_iff, beq_iff_eq, beq_iff_eq]
    omega
   rw [this]
theorem am_l0 (s : ByteArray) (hs : s.size ≤ 1000000) : ∀ (rest pre : List UInt8) (k : Nat), s.data.toList = pre ++ rest → pre.all nm1 = true → 100 * rest.length + 1 ≤ k →
  ba9.l0 k s nmAll (pre.length : Int) = some (nameL s.data.toList)
 | [], pre, k, h, ha, hk => by
  obtain ⟨k, rfl⟩ : ∃ m, k = m + 1 := ⟨k - 1, by omega⟩
  have hl : s.size = pre.length := by rw [size_c, h]; simp
  rw [ba9.l0, if_neg (by omega)]
  rw [List.append_nil] at h
  unfold nameL
  rw [h, ha, ← hl]
  by_cases g : 1 ≤ s.size
  ·rw [if_pos (by omega), decide_eq_true g, Bool.true_and, Bool.true_and]
   congr 1
   exact decide_eq_decide.2 (by omega)
  ·rw [if_neg (by omega), decide_eq_false g]
   rfl
 | d :: rest, pre, k, h, ha, hk => by
  obtain ⟨k, rfl⟩ : ∃ m, k = m + 1 := ⟨k - 1, by omega⟩
  have hl : s.size = pre.length + (rest.length + 1) := by rw [size_c, h]; simp
  have h65 : nmAll.data.toList.length = 65 := by decide +kernel
  simp only [List.length_cons] at hk
  have h1 := am_l1 s hs pre.length (by omega) d (bt_c h) nmAll.data.toList [] false k rfl (by omega)
  simp only [List.length_nil] at h1
  rw [ba9.l0, if_pos (by omega), show (0 : Int) = ((0 : Nat) : Int) from rfl, h1, Bool.false_or, nm_mem _ (UInt8.toNat_lt d)]
  cases hd : nm1 d with
  | true =>
   rw [if_pos (show nmN d.toNat = true from hd), show ((pre.length + 1 : Nat) : Int) = ((pre ++ [d]).length : Int) by simp]
   exact am_l0 s hs rest (pre ++ [d]) _ (by rw [h]; simp) (by rw [List.all_append, ha]; simp [hd]) (by omega)
  | false =>
   rw [if_neg (show ¬ nmN d.toNat = true by rw [show nmN d.toNat = false from hd]; decide)]
   unfold nameL
   rw [h, List.all_append, List.all_cons, hd]
   simp
theorem ref_name (s : ByteArray) (hs : s.size ≤ 1000000) (k : Nat) (hk : 100 * s.size + 1 ≤ k) : bn9.f k s = some (nameL s.data.toList) := by
 unfold bn9.f ba9.f
 have := am_l0 s hs s.data.toList [] k rfl rfl (by rw [← size_c]; exact hk)
 simp only [List.length_nil] at this
 rw [show (0 : Int) = ((0 : Nat) : Int) from rfl]
 rw [show (⟨#[97, 98, 99, 100, 101, 102, 103, 104, 105, 106, 107, 108, 109, 110, 111, 112, 113, 114, 115, 116, 117, 118, 119, 120, 121, 122, 65, 66, 67, 68, 69, 70, 71, 72, 73, 74, 75, 76, 77, 78, 79, 80, 81, 82, 83, 84, 85, 86, 87, 88, 89, 90, 48, 49, 50, 51, 52, 53, 54, 55, 56, 57, 95, 45, 46]⟩ : ByteArray) = nmAll from rfl, this]
 rfl
theorem cut_no (c : UInt8) (l : List UInt8) (h : c ∉ l) : Lib.cut l [c] = (l, [], false) := by
 unfold Lib.cut
 rw [Go.Proofs.YtdakfmldbddokaaGreatDoor.PClk.ix_notin c l h]
 rfl
theorem nd_l0 (s : ByteArray) (hs : s.size ≤ 100000) : ∀ (rest pre : List UInt8) (k : Nat), s.data.toList = pre ++ rest → 47 ∉ pre → 100 * s.size + rest.length + 10 ≤ k →
  qN.l0 k s (pre.length : Int) = some (namedL s.data.toList)
 | [], pre, k, h, hn, hk => by
  obtain ⟨k, rfl⟩ : ∃ m, k = m + 1 := ⟨k - 1, by omega⟩
  have hl : s.size = pre.length := by rw [size_c, h]; simp
  rw [qN.l0, if_neg (by omega), ref_name s (by omega) k (by omega)]
  rw [List.append_nil] at h
  unfold namedL
  rw [h, cut_no 47 pre hn]
  simp
 | d :: rest, pre, k, h, hn, hk => by
  obtain ⟨k, rfl⟩ : ∃ m, k = m + 1 := ⟨k - 1, by omega⟩
  have hl : s.size = pre.length + (rest.length + 1) := by rw [size_c, h]; simp
  have hw : wrap64 ((pre.length : Int) + 1) = ((pre.length + 1 : Nat) : Int) := by rw [w64c (by omega) (by omega)]; omega
  simp only [List.length_cons] at hk
  rw [qN.l0, if_pos (by omega), if_pos (Int.natCast_nonneg _), bt_c h, hw]
  by_cases hd : d = 47
  ·have e1 : (s.extract 0 pre.length).data.toList = pre := by
    rw [ByteArray.data_extract, Array.toList_extract, List.extract_eq_take_drop, h]
    simp
   have e2 : (s.extract (pre.length + 1) s.size).data.toList = rest := by
    rw [ByteArray.data_extract, Array.toList_extract, List.extract_eq_take_drop, h, hl, show (pre ++ d :: rest).drop (pre.length + 1) = rest by rw [show pre ++ d :: rest = (pre ++ [d]) ++ rest by simp, show pre.length + 1 = (pre ++ [d]).length by simp, List.drop_left]]
    exact List.take_of_length_le (by omega)
   have z1 : (s.extract 0 pre.length).size = pre.length := by rw [size_c, e1]
   have z2 : (s.extract (pre.length + 1) s.size).size = rest.length := by rw [size_c, e2]
   have hc : Lib.cut s.data.toList [47] = (pre, rest, true) := by rw [h, hd]; exact cut_at 47 pre rest hn
   rw [if_pos (by rw [hd]; rfl), if_pos (by omega), Int.toNat_natCast, ref_name _ (by omega) k (by omega), Option.bind_some, e1]
   unfold namedL
   rw [hc]
   simp only []
   cases h1 : nameL pre with
   | false => simp
   | true =>
    rw [if_pos rfl, if_pos (Int.natCast_nonneg _), if_pos (by omega), Int.toNat_natCast, ref_name _ (by omega) k (by omega), e2]
    simp
  ·rw [if_neg (fun e => hd (UInt8.toNat_inj.1 (by show d.toNat = 47; omega))), show ((pre.length + 1 : Nat) : Int) = ((pre ++ [d]).length : Int) by simp]
   exact nd_l0 s hs rest (pre ++ [d]) k (by rw [h]; simp) (fun hm => by
    rcases List.mem_append.1 hm with hm | hm
    ·exact hn hm
    ·exact hd (List.mem_singleton.1 hm).symm) (by omega)
theorem ref_named (s : ByteArray) (hs : s.size ≤ 5000) (k : Nat) (hk : 600000 ≤ k) : qN.f k s = some (namedL s.data.toList) := by
 unfold qN.f
 exact nd_l0 s (by omega) s.data.toList [] k rfl (by simp) (by rw [← size_c]; omega)
/-! Shapes. -/
def shapeList : List ByteArray := [⟨#[]⟩, ⟨#[111, 109, 109, 102, 115, 110]⟩, ⟨#[105]⟩, ⟨#[111, 102]⟩, ⟨#[111]⟩, ⟨#[111, 98]⟩, ⟨#[111, 98]⟩, ⟨#[111, 109]⟩, ⟨#[111, 120, 116]⟩, ⟨#[111, 97, 116]⟩]
theorem sh_l0 (a : ByteArray) : ∀ (m j k : Nat), j + m = 10 → 0 < j → m + 1 ≤ k → qS.l0 k a wordList shapeList (j : Int) = some (((codeFrom a j : Nat) : Int), if codeFrom a j = 0 then ⟨#[]⟩ else shapeList.getD (codeFrom a j) ByteArray.empty)
 | 0, j, k, e, h0, hk => by
  obtain ⟨k, rfl⟩ : ∃ m, k = m + 1 := ⟨k - 1, by omega⟩
  rw [qS.l0, if_neg (by omega), codeFrom, if_neg (by omega), if_pos rfl]
  rfl
 | m + 1, j, k, e, h0, hk => by
  obtain ⟨k, rfl⟩ : ∃ m, k = m + 1 := ⟨k - 1, by omega⟩
  have hrd : rdOf ByteArray.empty wordList (j : Int) = wordList.getD j ByteArray.empty := by unfold rdOf; rw [Int.toNat_natCast]
  have hrs : rdOf ByteArray.empty shapeList (j : Int) = shapeList.getD j ByteArray.empty := by unfold rdOf; rw [Int.toNat_natCast]
  rw [qS.l0, if_pos (by omega), if_pos (Int.natCast_nonneg _), if_pos (show (j : Int) < (wordList.length : Int) by show (j : Int) < ((10 : Nat) : Int); omega), hrd, hrs]
  by_cases h : wordList.getD j ByteArray.empty = a
  ·rw [if_pos (by rw [h]), if_pos (show (j : Int) < (shapeList.length : Int) by show (j : Int) < ((10 : Nat) : Int); omega), code_here a j (by omega) ⟨h0, h⟩, if_neg (by omega)]
  ·rw [if_neg (fun q => h (ba_inj (by rw [← toList_c, ← toList_c]; exact q))), code_next a j (by omega) (fun q => h q.2), w64c (x := (j : Int) + 1) (by omega) (by omega)]
   exact sh_l0 a m (j + 1) k (by omega) (by omega) (by omega)
theorem ref_shape (a : ByteArray) (k : Nat) (hk : 20 ≤ k) : qS.f k a = some (((codeFrom a 0 : Nat) : Int), if codeFrom a 0 = 0 then ⟨#[]⟩ else shapeList.getD (codeFrom a 0) ByteArray.empty) := by
 rw [code_next a 0 (by decide) (fun q => absurd q.1 (by decide))]
 exact sh_l0 a 9 1 k rfl (by decide) (by omega)
/-- A kind's letter. -/
def chOf (kd : Int) : Nat := if kd = 0 then 111 else if kd = 9 then 116 else if kd = 1 then 102 else if kd = 2 then 110 else if kd = 3 then 109 else if kd = 4 then 115 else if kd = 5 then 105 else if kd = 6 then 98 else if kd = 7 then 120 else 97
theorem shape_kinds : ∀ c : Nat, c < 10 → (shapeList.getD c ByteArray.empty).data.toList.map UInt8.toNat = (kindsOf c).map chOf := by decide +kernel
theorem kinds_few : ∀ c : Nat, c < 10 → ∀ kd ∈ kindsOf c, 0 ≤ kd ∧ kd ≤ 9 := by decide +kernel
theorem ref_read (kd : Int) (h0 : 0 ≤ kd) (h9 : kd ≤ 9) (n0 : ¬ kd = 0) (n9 : ¬ kd = 9) (x : ByteArray) (hs : x.size ≤ 5000) (k : Nat) (hk : 41000000 ≤ k) : qr.f k (chOf kd : Int) x = some ((readOf kd x).1, E (readOf kd x).2) := by
 have hi := fun lo hi => ref_int_k x lo hi hs k (by omega)
 have : kd = 1 ∨ kd = 2 ∨ kd = 3 ∨ kd = 4 ∨ kd = 5 ∨ kd = 6 ∨ kd = 7 ∨ kd = 8 := by omega
 unfold qr.f
 rcases this with rfl | rfl | rfl | rfl | rfl | rfl | rfl | rfl
 ·rw [show (chOf 1 : Int) = 102 from rfl, if_pos rfl, hi]; rfl
 ·rw [show (chOf 2 : Int) = 110 from rfl, if_neg (by decide), if_pos rfl, hi]; rfl
 ·rw [show (chOf 3 : Int) = 109 from rfl, if_neg (by decide), if_neg (by decide), if_pos rfl, hi]; rfl
 ·rw [show (chOf 4 : Int) = 115 from rfl, if_neg (by decide), if_neg (by decide), if_neg (by decide), if_pos rfl, hi]; rfl
 ·rw [show (chOf 5 : Int) = 105 from rfl, if_neg (by decide), if_neg (by decide), if_neg (by decide), if_neg (by decide), if_pos rfl, hi]; rfl
 ·rw [show (chOf 6 : Int) = 98 from rfl, if_neg (by decide), if_neg (by decide), if_neg (by decide), if_neg (by decide), if_neg (by decide), if_pos rfl, show (⟨#[97, 99, 102]⟩ : ByteArray) = acf from rfl, ref_opt x hs k hk]; rfl
 ·rw [show (chOf 7 : Int) = 120 from rfl, if_neg (by decide), if_neg (by decide), if_neg (by decide), if_neg (by decide), if_neg (by decide), if_neg (by decide), if_pos rfl, hi]; rfl
 ·rw [show (chOf 8 : Int) = 97 from rfl, if_neg (by decide), if_neg (by decide), if_neg (by decide), if_neg (by decide), if_neg (by decide), if_neg (by decide), if_neg (by decide), hi]; rfl
end Go.Proofs.YtdakfmldbddokaaGreatDoor.PVal

/- Plain mathematics of layer 20: what the document's Parse answers is what the program's does (written by tools/mk_cmd.py). -/
set_option linter.unusedVariables false
set_option linter.unusedSimpArgs false
namespace Go.Proofs.YtdakfmldbddokaaGreatDoor.PVal
open Go Go.RowKit Go.Proofs.YtdakfmldbddokaaGreatDoor.P Go.Proofs.YtdakfmldbddokaaGreatDoor.PClk Go.Proofs.YtdakfmldbddokaaGreatDoorW.PrintWords Go.Proofs.YtdakfmldbddokaaGreatDoorW.PrintLast Go.Proofs.YtdakfmldbddokaaGreatDoorW.PrintMore
open Classical
/-! The loop over the fields. -/
def eR (r : Res) : Int × ByteArray × Int × Int × Int × Int × Int × ByteArray × Int := (r.1, r.2.1, r.2.2.1, r.2.2.2.1, r.2.2.2.2.1, r.2.2.2.2.2.1, r.2.2.2.2.2.2.1, r.2.2.2.2.2.2.2.1, E r.2.2.2.2.2.2.2.2)
/-- The text that the loop ends with. -/
def finalT : List Int → List ByteArray → ByteArray → ByteArray
 | kd :: ks, x :: l, t => if kd = 9 then finalT ks l x else finalT ks l t
 | _, _, t => t
/-- Two rows of fields that differ at texts alone. -/
def agree : List Int → List ByteArray → List ByteArray → Prop
 | [], _, _ => True
 | kd :: ks, x :: l, d :: dl => (kd = 9 ∨ x = d) ∧ agree ks l dl
 | _ :: _, _, _ => False
theorem err_nz (kd : Int) (x : ByteArray) : (readOf kd x).2 ≠ some 0 := by
 have hi : ∀ l lo hi, (intL l lo hi).2 ≠ some 0 := by
  intro l lo hi
  have hf : ∀ v, (fin v lo hi).2 ≠ some 0 := by
   intro v
   unfold fin
   by_cases h1 : v < lo
   ·rw [if_pos h1]; simp
   ·rw [if_neg h1]
    by_cases h2 : v > hi
    ·rw [if_pos h2]; simp
    ·rw [if_neg h2]; simp
  cases l with
  | nil => show (some (13 : Int)) ≠ some 0; decide
  | cons c r =>
   have e : intL (c :: r) lo hi = if c = 45 then (if digL r true = true then (if 19 < (c :: r).length then (0, some 3) else fin (-(val 0 r : Int)) lo hi) else (0, some 3))
    else (if digL (c :: r) false = true then (if 19 < (c :: r).length then (0, some 3) else if val 0 (c :: r) < 9223372036854775808 then fin (val 0 (c :: r) : Int) lo hi else (0, some 5)) else (0, some 3)) := rfl
   rw [e]
   by_cases h1 : c = 45
   ·rw [if_pos h1]
    by_cases h2 : digL r true = true
    ·rw [if_pos h2]
     by_cases h3 : 19 < (c :: r).length
     ·rw [if_pos h3]; simp
     ·rw [if_neg h3]; exact hf _
    ·rw [if_neg h2]; simp
   ·rw [if_neg h1]
    by_cases h2 : digL (c :: r) false = true
    ·rw [if_pos h2]
     by_cases h3 : 19 < (c :: r).length
     ·rw [if_pos h3]; simp
     ·rw [if_neg h3]
      by_cases h4 : val 0 (c :: r) < 9223372036854775808
      ·rw [if_pos h4]; exact hf _
      ·rw [if_neg h4]; simp
    ·rw [if_neg h2]; simp
 have ho : (optOf x).2 ≠ some 0 := by
  have hol : ∀ (l : List ByteArray) (b : Nat), (optL acf.data.toList l b).2 ≠ some 0 := by
   intro l
   induction l with
   | nil => intro b; show (none : Option Int) ≠ some 0; decide
   | cons y r ih =>
    intro b
    by_cases h1 : y.size = 1
    ·obtain ⟨c, hc⟩ := one_of h1
     rw [opt_one hc]
     by_cases hm : c ∈ acf.data.toList
     ·rw [if_pos hm]; exact ih _
     ·rw [if_neg hm]; simp
    ·rw [opt_odd h1]; simp
  unfold optOf
  by_cases h2 : (listOf x).2 = none
  ·rw [if_pos h2]
   by_cases h1 : (listOf x).1 = [⟨#[110]⟩]
   ·rw [if_pos h1]; simp
   ·rw [if_neg h1]; exact hol _ _
  ·rw [if_neg h2]
   show (listOf x).2 ≠ some 0
   unfold listOf
   repeat' split
   all_goals simp
 unfold readOf
 repeat' split
 all_goals first | exact hi _ _ _ | exact ho
theorem wz1 (n : Nat) (h : n ≤ 1000000) : wrap64 ((n : Int) + 1) = ((n + 1 : Nat) : Int) := by rw [w64c (by omega) (by omega)]; omega
theorem l3_f (K0 : Nat) (hK0 : 41000000 ≤ K0) (c : Int) (KS : List Int) (D : List ByteArray) (F : ByteArray) (T : ByteArray) (hz : D.length ≤ 100000) (hF : F.data.toList.map UInt8.toNat = KS.map chOf) (hK : ∀ kd ∈ KS, 0 ≤ kd ∧ kd ≤ 9) (hsz : ∀ x ∈ D, x.size ≤ 5000) :
  ∀ (ks : List Int) (l dl : List ByteArray) (pre : List Int) (preD : List ByteArray) (k j : Nat) (o : ByteArray) (n : N5) (t : ByteArray), KS = pre ++ ks → D = preD ++ dl → preD.length = pre.length + 1 → agree ks l dl → finalT ks l t = T → j + ks.countP isNum ≤ 5 → K0 + ks.length ≤ k →
  qP.l3 k D c F (KS.length : Int) (j : Int) (pre.length : Int) c o n.a n.b n.c n.d n.e T = some (eR (loopOf c ks l j o n t))
 | [], l, dl, pre, preD, k, j, o, n, t, h1, h2, h3, h4, ht, h5, hk => by
  obtain ⟨k, rfl⟩ : ∃ m, k = m + 1 := ⟨k - 1, by omega⟩
  have hl : KS.length = pre.length := by rw [h1]; simp
  have ht : t = T := by cases l <;> exact ht
  subst ht
  rw [qP.l3, if_neg (by omega)]
  show _ = some (eR (finOf c o n t))
  unfold finOf
  by_cases hc : c = 1
  ·rw [if_pos hc]
   by_cases h : n.a ≥ n.b
   ·rw [if_pos h, if_pos ⟨hc, h⟩]; rfl
   ·rw [if_neg h, if_neg (fun q => h q.2)]; rfl
  ·rw [if_neg hc, if_neg (fun q => hc q.1)]; rfl
 | kd :: ks, [], dl, pre, preD, k, j, o, n, t, h1, h2, h3, h4, ht, h5, hk => by cases h4
 | kd :: ks, x :: l, [], pre, preD, k, j, o, n, t, h1, h2, h3, h4, ht, h5, hk => by cases h4
 | kd :: ks, x :: l, d :: dl, pre, preD, k, j, o, n, t, h1, h2, h3, h4, ht, h5, hk => by
  obtain ⟨k, rfl⟩ : ∃ m, k = m + 1 := ⟨k - 1, by simp at hk; omega⟩
  have hl : KS.length = pre.length + (ks.length + 1) := by rw [h1]; simp
  have hl2 : D.length = pre.length + 1 + (dl.length + 1) := by rw [h2]; simp [h3]
  have hFl : F.size = KS.length := by
   have := congrArg List.length hF
   simp only [List.length_map] at this
   rw [size_c]; exact this
  have hd : rdOf ByteArray.empty D (((pre.length + 1 : Nat) : Int)) = d := by rw [← h3]; exact rd_at D preD d dl h2
  have hds : d.size ≤ 5000 := hsz d (by rw [h2]; simp)
  have hbt : bt F (pre.length : Int) = (chOf kd : Int) := by
   have hi : pre.length < F.data.toList.length := by rw [← size_c]; omega
   rw [bt_l F pre.length hi]
   have e := congrArg (·[pre.length]?) hF
   simp only [List.getElem?_map, List.getElem?_eq_getElem hi, h1] at e
   simp at e
   have e2 : (F.data.toList[pre.length]).toNat = chOf kd := by simpa using e
   rw [e2]
  have hpz : pre.length ≤ 1000000 := by omega
  have hpl : ((pre.length + 1 : Nat) : Int) = ((pre ++ [kd]).length : Int) := by simp
  have hkd := hK kd (by rw [h1]; simp)
  simp only [List.length_cons] at hk
  obtain ⟨hx, hag⟩ := h4
  by_cases h0 : kd = 0
  ·have hx : x = d := by
    rcases hx with hx | hx
    ·rw [h0] at hx; exact absurd hx (by decide)
    ·exact hx
   rw [qP.l3, if_pos (by omega), if_pos (Int.natCast_nonneg _), if_pos (by omega), hbt, if_pos (by rw [h0]; rfl), wz1 pre.length hpz, if_pos (Int.natCast_nonneg _), if_pos (by omega), hd, ref_named d hds k (by omega), Option.bind_some]
   unfold loopOf
   rw [if_pos h0, hx]
   by_cases hn : namedL d.data.toList = true
   ·rw [if_pos hn, if_pos hn, hpl]
    refine l3_f K0 hK0 c KS D F T hz hF hK hsz ks l dl (pre ++ [kd]) (preD ++ [d]) k j d n t (by rw [h1]; simp) (by rw [h2]; simp) (by simp [h3]) hag ?_ ?_ (by omega)
    ·rw [finalT, if_neg (by rw [h0]; decide)] at ht; exact ht
    ·rw [List.countP_cons_of_neg (by rw [h0]; decide)] at h5; exact h5
   ·rw [if_neg hn, if_neg hn]
    rfl
  ·by_cases h9 : kd = 9
   ·rw [qP.l3, if_pos (by omega), if_pos (Int.natCast_nonneg _), if_pos (by omega), hbt, if_neg (by rw [h9]; decide), if_pos (by rw [h9]; rfl), wz1 pre.length hpz]
    unfold loopOf
    rw [if_neg h0, if_pos h9, hpl]
    refine l3_f K0 hK0 c KS D F T hz hF hK hsz ks l dl (pre ++ [kd]) (preD ++ [d]) k j o n x (by rw [h1]; simp) (by rw [h2]; simp) (by simp [h3]) hag ?_ ?_ (by omega)
    ·rw [finalT, if_pos h9] at ht; exact ht
    ·rw [List.countP_cons_of_neg (by rw [h9]; decide)] at h5; exact h5
   ·have hx : x = d := by
     rcases hx with hx | hx
     ·exact absurd hx h9
     ·exact hx
    have hc : isNum kd = true := by
     unfold isNum
     rw [beq_eq_false_iff_ne.2 h0, beq_eq_false_iff_ne.2 h9]
     rfl
    rw [List.countP_cons_of_pos hc] at h5
    have hch : ∀ kd : Nat, kd < 10 → kd ≠ 0 → kd ≠ 9 → (chOf kd : Int) ≠ 111 ∧ (chOf kd : Int) ≠ 116 := by decide
    have hcc : (chOf kd : Int) ≠ 111 ∧ (chOf kd : Int) ≠ 116 := by
     have := hch kd.toNat (by omega) (by omega) (by omega)
     rwa [Int.toNat_of_nonneg hkd.1] at this
    have hc1 := hcc.1
    have hc2 := hcc.2
    have hr := ref_read kd hkd.1 hkd.2 h0 h9 d hds k (by omega)
    have hstep : qP.l3 (k + 1) D c F (KS.length : Int) (j : Int) (pre.length : Int) c o n.a n.b n.c n.d n.e T = if E (readOf kd d).2 = 0 then qP.l3 k D c F (KS.length : Int) ((j + 1 : Nat) : Int) ((pre.length + 1 : Nat) : Int) c o (n.upd j (readOf kd d).1).a (n.upd j (readOf kd d).1).b (n.upd j (readOf kd d).1).c (n.upd j (readOf kd d).1).d (n.upd j (readOf kd d).1).e T else some (0, (⟨#[]⟩ : ByteArray), 0, 0, 0, 0, 0, (⟨#[]⟩ : ByteArray), E (readOf kd d).2) := by
     have hj : j ≤ 4 := by omega
     have hcase : j = 0 ∨ j = 1 ∨ j = 2 ∨ j = 3 ∨ j = 4 := by omega
     rcases hcase with rfl | rfl | rfl | rfl | rfl
     ·rw [show (((0 : Nat) : Int)) = 0 from rfl, qP.l3, if_pos (by omega), if_pos (Int.natCast_nonneg _), if_pos (by omega), hbt, if_neg hc1, if_neg hc2, wz1 pre.length hpz, if_pos (Int.natCast_nonneg _), if_pos (by omega), hd, hr, Option.bind_some]
      simp only [if_true]
      rw [w64c (x := (0 : Int) + 1) (by decide) (by decide)]
      rfl
     ·rw [show (((1 : Nat) : Int)) = 1 from rfl, qP.l3, if_pos (by omega), if_pos (Int.natCast_nonneg _), if_pos (by omega), hbt, if_neg hc1, if_neg hc2, wz1 pre.length hpz, if_pos (Int.natCast_nonneg _), if_pos (by omega), hd, hr, Option.bind_some]
      simp only [show ¬ (1 : Int) = 0 by decide, if_false]; simp only [if_true]
      rw [w64c (x := (1 : Int) + 1) (by decide) (by decide)]
      rfl
     ·rw [show (((2 : Nat) : Int)) = 2 from rfl, qP.l3, if_pos (by omega), if_pos (Int.natCast_nonneg _), if_pos (by omega), hbt, if_neg hc1, if_neg hc2, wz1 pre.length hpz, if_pos (Int.natCast_nonneg _), if_pos (by omega), hd, hr, Option.bind_some]
      simp only [show ¬ (2 : Int) = 0 by decide, if_false]; simp only [show ¬ (2 : Int) = 1 by decide, if_false]; simp only [if_true]
      rw [w64c (x := (2 : Int) + 1) (by decide) (by decide)]
      rfl
     ·rw [show (((3 : Nat) : Int)) = 3 from rfl, qP.l3, if_pos (by omega), if_pos (Int.natCast_nonneg _), if_pos (by omega), hbt, if_neg hc1, if_neg hc2, wz1 pre.length hpz, if_pos (Int.natCast_nonneg _), if_pos (by omega), hd, hr, Option.bind_some]
      simp only [show ¬ (3 : Int) = 0 by decide, if_false]; simp only [show ¬ (3 : Int) = 1 by decide, if_false]; simp only [show ¬ (3 : Int) = 2 by decide, if_false]; simp only [if_true]
      rw [w64c (x := (3 : Int) + 1) (by decide) (by decide)]
      rfl
     ·rw [show (((4 : Nat) : Int)) = 4 from rfl, qP.l3, if_pos (by omega), if_pos (Int.natCast_nonneg _), if_pos (by omega), hbt, if_neg hc1, if_neg hc2, wz1 pre.length hpz, if_pos (Int.natCast_nonneg _), if_pos (by omega), hd, hr, Option.bind_some]
      simp only [show ¬ (4 : Int) = 0 by decide, if_false]; simp only [show ¬ (4 : Int) = 1 by decide, if_false]; simp only [show ¬ (4 : Int) = 2 by decide, if_false]; simp only [show ¬ (4 : Int) = 3 by decide, if_false]; simp only [if_true]
      rw [w64c (x := (4 : Int) + 1) (by decide) (by decide)]
      rfl
    rw [hstep]
    unfold loopOf
    rw [if_neg h0, if_neg h9, hx]
    have hnz := err_nz kd d
    by_cases he : (readOf kd d).2 = none
    ·rw [if_pos (by rw [he]; rfl), if_pos he, hpl]
     refine l3_f K0 hK0 c KS D F T hz hF hK hsz ks l dl (pre ++ [kd]) (preD ++ [d]) k (j + 1) o _ t (by rw [h1]; simp) (by rw [h2]; simp) (by simp [h3]) hag ?_ (by omega) (by omega)
     rw [finalT, if_neg h9] at ht; exact ht
    ·have hE : ¬ E (readOf kd d).2 = 0 := by
      cases hq : (readOf kd d).2 with
      | none => exact absurd hq he
      | some e =>
       rw [hq] at hnz
       intro z
       have z : e = 0 := z
       exact hnz (by rw [z])
     rw [if_neg hE, if_neg he]
     rfl
end Go.Proofs.YtdakfmldbddokaaGreatDoor.PVal

/- Plain mathematics of layer 20: the document's Parse, as in XCmDocP. -/
set_option linter.unusedVariables false
set_option linter.unusedSimpArgs false
namespace Go.Proofs.YtdakfmldbddokaaGreatDoor.PVal
open Go Go.RowKit Go.Proofs.YtdakfmldbddokaaGreatDoor.P Go.Proofs.YtdakfmldbddokaaGreatDoor.PClk Go.Proofs.YtdakfmldbddokaaGreatDoorW.PrintWords Go.Proofs.YtdakfmldbddokaaGreatDoorW.PrintLast Go.Proofs.YtdakfmldbddokaaGreatDoorW.PrintMore
open Classical
theorem ex_c (s : ByteArray) (a b : Nat) : (s.extract a b).data.toList = (s.data.toList.take b).drop a := by
 rw [Lib.extract_data, List.drop_take]
theorem sp_l0 (s : ByteArray) (hs : s.size ≤ 5000) : ∀ (r i f : Nat) (acc : List ByteArray) (k : Nat), i + r = s.size → f ≤ i → acc.length ≤ i → 59 ∉ (s.data.toList.take i).drop f → r + 2 ≤ k →
  ∃ L : List ByteArray, qP.l0 k s acc (f : Int) (i : Int) = qP.l0 (k - r - 1) s (acc ++ L) ((s.size + 1 : Nat) : Int) ((s.size + 1 : Nat) : Int) ∧ L.map (·.data.toList) = Lib.split (s.data.toList.drop f) [59]
 | 0, i, f, acc, k, e, hf, ha, hc, hk => by
  obtain ⟨k, rfl⟩ : ∃ m, k = m + 1 := ⟨k - 1, by omega⟩
  have hl := size_c s
  refine ⟨[s.extract f i], ?_, ?_⟩
  ·rw [qP.l0, if_pos (by omega), if_pos (by omega), if_pos (by omega), if_pos (by omega), if_pos (by omega), wz1 i (by omega), Int.toNat_natCast, Int.toNat_natCast, show i = s.size by omega]
   rfl
  ·show [(s.extract f i).data.toList] = _
   rw [ex_c, List.take_of_length_le (by omega)]
   rw [List.take_of_length_le (by omega)] at hc
   exact (split_one 59 _ hc).symm
 | r + 1, i, f, acc, k, e, hf, ha, hc, hk => by
  obtain ⟨k, rfl⟩ : ∃ m, k = m + 1 := ⟨k - 1, by omega⟩
  have hl := size_c s
  have hi : i < s.data.toList.length := by omega
  have hb := bt_l s i hi
  have ht : s.data.toList.take (i + 1) = s.data.toList.take i ++ [s.data.toList[i]] := List.take_succ_eq_append_getElem hi
  have hd : s.data.toList.drop f = (s.data.toList.take i).drop f ++ s.data.toList[i] :: s.data.toList.drop (i + 1) := by
   rw [show s.data.toList[i] :: s.data.toList.drop (i + 1) = s.data.toList.drop i from (List.drop_eq_getElem_cons hi).symm]
   conv => lhs; rw [← List.take_append_drop i s.data.toList]
   rw [List.drop_append_of_le_length (by rw [List.length_take]; omega)]
  have ek : k + 1 - (r + 1) - 1 = k - r - 1 := by omega
  rw [ek]
  by_cases g : s.data.toList[i] = 59
  ·obtain ⟨L, h1, h2⟩ := sp_l0 s hs r (i + 1) (i + 1) (acc ++ [s.extract f i]) k (by omega) (Nat.le_refl _) (by simp; omega) (by simp) (by omega)
   refine ⟨s.extract f i :: L, ?_, ?_⟩
   ·rw [qP.l0, if_pos (by omega), if_neg (by omega), if_pos (by omega), if_pos (by omega), hb, if_pos (by rw [g]; rfl), if_pos (by omega), if_pos (by omega), if_pos (by omega), wz1 i (by omega), Int.toNat_natCast, Int.toNat_natCast, h1, List.append_assoc]
    rfl
   ·rw [List.map_cons, h2, hd, g, split_cons 59 _ _ hc, ex_c]
  ·obtain ⟨L, h1, h2⟩ := sp_l0 s hs r (i + 1) f acc k (by omega) (by omega) (by omega) (by
    rw [ht, List.drop_append_of_le_length (by rw [List.length_take]; omega)]
    intro hm
    rcases List.mem_append.1 hm with hm | hm
    ·exact hc hm
    ·exact g (List.mem_singleton.1 hm).symm) (by omega)
   refine ⟨L, ?_, h2⟩
   have gn : ¬ ((s.data.toList[i]).toNat : Int) = 59 := fun e => g (UInt8.toNat_inj.1 (by show (s.data.toList[i]).toNat = 59; omega))
   rw [qP.l0, if_pos (by omega), if_neg (by omega), if_pos (by omega), if_pos (by omega), hb, if_neg gn, wz1 i (by omega), h1]
theorem map_inj : ∀ (a b : List ByteArray), a.map (·.data.toList) = b.map (·.data.toList) → a = b
 | [], [], _ => rfl
 | [], _ :: _, h => by cases h
 | _ :: _, [], h => by cases h
 | x :: a, y :: b, h => by
  simp only [List.map_cons, List.cons.injEq] at h
  rw [ba_inj h.1, map_inj a b h.2]
/-- The document's parts are the word and the program's fields. -/
theorem doc_parts (s : ByteArray) (L : List ByteArray) (h : L.map (·.data.toList) = Lib.split s.data.toList [59]) : L = ⟨(Lib.cut s.data.toList [59]).1.toArray⟩ :: fieldRow ⟨(Lib.cut s.data.toList [59]).2.1.toArray⟩ (Lib.cut s.data.toList [59]).2.2 := by
 apply map_inj
 rw [h]
 by_cases hc : 59 ∈ s.data.toList
 ·obtain ⟨a, r, e, hn⟩ := Go.Proofs.YtdakfmldbddokaaGreatDoor.PClk.first_at 59 _ hc
  rw [e, cut_at 59 a r hn, split_cons 59 a r hn, List.map_cons]
  show _ = a :: (parts ⟨r.toArray⟩ semi).map (·.data.toList)
  rw [parts_data]
  rfl
 ·rw [cut_no 59 _ hc, split_one 59 _ hc]
  rfl
theorem join_flat : ∀ (r : List (List UInt8)) (x : List UInt8), Lib.join (x :: r) [59] = x ++ r.flatMap fun q => 59 :: q
 | [], x => by simp [Lib.join, List.intercalate]
 | y :: r, x => by
  rw [join_cons x (y :: r) 59 (by simp), join_flat r y]
  simp
theorem l1_f (c : Int) (F : ByteArray) (n : Nat) (D : List ByteArray) (hz : D.length ≤ 10000) (hsz : ∀ x ∈ D, x.size ≤ 5000) (q : Int) (o : ByteArray) (n0 n1 n2 n3 n4 : Int) : ∀ (dl preD : List ByteArray) (T : ByteArray) (k : Nat), D = preD ++ dl → n < preD.length → T.size + 5001 * dl.length ≤ 100000000 → dl.length + 1 ≤ k →
  ∃ T' : ByteArray, qP.l1 k D c F (n : Int) (preD.length : Int) q o n0 n1 n2 n3 n4 T = qP.l2 (k - dl.length - 1) D c F (n : Int) 0 q o n0 n1 n2 n3 n4 T' ∧ T'.data.toList = T.data.toList ++ dl.flatMap fun x => 59 :: x.data.toList
 | [], preD, T, k, h, hn, hT, hk => by
  obtain ⟨k, rfl⟩ : ∃ m, k = m + 1 := ⟨k - 1, by omega⟩
  have hl : D.length = preD.length := by rw [h]; simp
  refine ⟨T, ?_, by simp⟩
  rw [qP.l1, if_neg (by omega)]
  rfl
 | x :: dl, preD, T, k, h, hn, hT, hk => by
  obtain ⟨k, rfl⟩ : ∃ m, k = m + 1 := ⟨k - 1, by simp at hk; omega⟩
  have hl : D.length = preD.length + (dl.length + 1) := by rw [h]; simp
  have hd : rdOf ByteArray.empty D (preD.length : Int) = x := rd_at D preD x dl h
  have hx := hsz x (by rw [h]; simp)
  simp only [List.length_cons] at hT hk
  have hs1 : (T ++ (⟨#[59]⟩ : ByteArray)).size = T.size + 1 := by rw [ByteArray.size_append]; rfl
  obtain ⟨T', h1, h2⟩ := l1_f c F n D hz hsz q o n0 n1 n2 n3 n4 dl (preD ++ [x]) ((T ++ (⟨#[59]⟩ : ByteArray)) ++ x) k (by rw [h]; simp) (by simp; omega) (by rw [ByteArray.size_append, hs1]; omega) (by omega)
  refine ⟨T', ?_, ?_⟩
  ·rw [qP.l1, if_pos (by omega), if_pos (by omega), if_pos (by omega), if_pos (Int.natCast_nonneg _), hd, if_pos (by rw [hs1]; omega), wz1 preD.length (by omega), show ((preD.length + 1 : Nat) : Int) = ((preD ++ [x]).length : Int) by simp, h1]
   simp
  ·rw [h2]; simp
theorem l2_f (c : Int) (F : ByteArray) (n : Nat) (D : List ByteArray) (q : Int) (o : ByteArray) (n0 n1 n2 n3 n4 : Int) (T : ByteArray) (hT : T.size ≤ 1000000) : ∀ (rest pre : List UInt8) (k : Nat), T.data.toList = pre ++ rest → rest.length + 1 ≤ k →
  qP.l2 k D c F (n : Int) (pre.length : Int) q o n0 n1 n2 n3 n4 T = if 10 ∈ rest then some (0, (⟨#[]⟩ : ByteArray), 0, 0, 0, 0, 0, (⟨#[]⟩ : ByteArray), 3) else qP.j4 (k - rest.length - 1) D c F (n : Int) q o n0 n1 n2 n3 n4 T
 | [], pre, k, h, hk => by
  obtain ⟨k, rfl⟩ : ∃ m, k = m + 1 := ⟨k - 1, by omega⟩
  have hl : T.size = pre.length := by rw [size_c, h]; simp
  rw [qP.l2, if_neg (by omega), if_neg (by simp)]
  rfl
 | d :: rest, pre, k, h, hk => by
  obtain ⟨k, rfl⟩ : ∃ m, k = m + 1 := ⟨k - 1, by simp at hk; omega⟩
  have hl : T.size = pre.length + (rest.length + 1) := by rw [size_c, h]; simp
  rw [qP.l2, if_pos (by omega), if_pos (Int.natCast_nonneg _), bt_c h]
  by_cases g : d = 10
  ·rw [if_pos (by rw [g]; rfl), if_pos (by rw [g]; simp)]
  ·rw [if_neg (fun e => g (UInt8.toNat_inj.1 (by show d.toNat = 10; omega))), wz1 pre.length (by omega), show ((pre.length + 1 : Nat) : Int) = ((pre ++ [d]).length : Int) by simp, l2_f c F n D q o n0 n1 n2 n3 n4 T hT rest (pre ++ [d]) k (by rw [h]; simp) (by simp at hk; omega)]
   have : (10 ∈ d :: rest) = (10 ∈ rest) := by
    rw [List.mem_cons]
    exact propext ⟨fun q => q.elim (fun e => absurd e.symm g) id, .inr⟩
   simp only [this, List.length_cons]
   rw [show k + 1 - (rest.length + 1) - 1 = k - rest.length - 1 by omega]
theorem agree_refl : ∀ (ks : List Int) (l : List ByteArray), ks.length ≤ l.length → agree ks l l
 | [], _, _ => trivial
 | kd :: ks, [], h => by simp at h
 | kd :: ks, x :: l, h => ⟨.inr rfl, agree_refl ks l (by simp at h; omega)⟩
theorem finalT_no : ∀ (ks : List Int) (l : List ByteArray) (t : ByteArray), (∀ kd ∈ ks, kd ≠ 9) → finalT ks l t = t
 | [], _, _, _ => rfl
 | kd :: ks, [], t, _ => rfl
 | kd :: ks, x :: l, t, h => by
  rw [finalT, if_neg (h kd (by simp))]
  exact finalT_no ks l t (fun y hy => h y (List.mem_cons_of_mem _ hy))
theorem last_is : ∀ c : Nat, c < 10 → 0 < c → (bt (shapeList.getD c ByteArray.empty) (((kindsOf c).length : Int) - 1) = 116 ↔ (kindsOf c).getD ((kindsOf c).length - 1) 0 = 9) := by decide +kernel
theorem no_text : ∀ c : Nat, c < 10 → (kindsOf c).getD ((kindsOf c).length - 1) 0 ≠ 9 → ∀ kd ∈ kindsOf c, kd ≠ 9 := by decide +kernel
theorem is_text : ∀ c : Nat, c < 10 → (kindsOf c).getD ((kindsOf c).length - 1) 0 = 9 → ∃ a : Int, kindsOf c = [0, a, 9] ∧ a ≠ 9 := by
 intro c hc h
 have : c = 0 ∨ c = 1 ∨ c = 2 ∨ c = 3 ∨ c = 4 ∨ c = 5 ∨ c = 6 ∨ c = 7 ∨ c = 8 ∨ c = 9 := by omega
 rcases this with rfl | rfl | rfl | rfl | rfl | rfl | rfl | rfl | rfl | rfl
 all_goals first
  | exact ⟨7, rfl, by decide⟩
  | exact ⟨8, rfl, by decide⟩
  | (exact absurd h (by decide))
theorem shape_len (c : Nat) (hc : c < 10) : (shapeList.getD c ByteArray.empty).size = (kindsOf c).length := by
 have := congrArg List.length (shape_kinds c hc)
 simp only [List.length_map] at this
 rw [size_c]; exact this
theorem ref_parse (K0 : Nat) (hK0 : 41000000 ≤ K0) (s : ByteArray) (k : Nat) (hk : K0 + 200000 ≤ k) : qP.f k s = some (eR (parseOf s)) := by
 unfold qP.f parseOf
 by_cases hs : 4096 < s.size
 ·rw [if_pos (by omega), if_pos hs]
  rfl
 rw [if_neg (by omega), if_neg hs]
 obtain ⟨L, h1, h2⟩ := sp_l0 s (by omega) s.size 0 0 [] k (Nat.zero_add _) (Nat.le_refl _) (Nat.le_refl _) (by simp) (by omega)
 rw [List.drop_zero] at h2
 have hL := doc_parts s L h2
 rw [show ((0 : Nat) : Int) = 0 from rfl, List.nil_append] at h1
 rw [h1]
 have hcl := (cut_len 59 s.data.toList).2
 rw [← size_c] at hcl
 have hrs := row_sizes ⟨(Lib.cut s.data.toList [59]).2.1.toArray⟩ (Lib.cut s.data.toList [59]).2.2
 rw [mk_size] at hrs
 have hrl : (fieldRow ⟨(Lib.cut s.data.toList [59]).2.1.toArray⟩ (Lib.cut s.data.toList [59]).2.2).length ≤ 4097 := by
  unfold fieldRow
  cases (Lib.cut s.data.toList [59]).2.2 with
  | false => simp
  | true => rw [if_pos rfl]; exact cm_parts_len _ (by rw [mk_size]; omega)
 have hlt := last_size ⟨(Lib.cut s.data.toList [59]).2.1.toArray⟩ (Lib.cut s.data.toList [59]).2.2
 rw [mk_size] at hlt
 have hws : (⟨(Lib.cut s.data.toList [59]).1.toArray⟩ : ByteArray).size ≤ 5000 := by have := (cut_len 59 s.data.toList).1; rw [← size_c] at this; rw [mk_size]; omega
 have hc9 := code_le ⟨(Lib.cut s.data.toList [59]).1.toArray⟩ 10 0 rfl
 obtain ⟨m, hm⟩ : ∃ m, k - s.size - 1 = m + 1 := ⟨k - s.size - 2, by omega⟩
 have hm2 : K0 + 190000 ≤ m := by omega
 rw [hm]
 unfold partsOf
 generalize fieldRow ⟨(Lib.cut s.data.toList [59]).2.1.toArray⟩ (Lib.cut s.data.toList [59]).2.2 = row at hL hrs hrl hlt ⊢
 generalize (⟨(Lib.cut s.data.toList [59]).1.toArray⟩ : ByteArray) = wd at hL hc9 hws ⊢
 have hDl : (wd :: row).length = row.length + 1 := rfl
 have hw1 : wrap64 (((wd :: row).length : Int) - 1) = (row.length : Int) := by rw [hDl, w64c (by omega) (by omega)]; omega
 have hrd0 : rdOf ByteArray.empty (wd :: row) 0 = wd := rfl
 rw [hL, qP.l0, if_neg (by omega), if_pos (by rw [hDl]; omega), hrd0, ref_shape wd m (by omega), Option.bind_some]
 generalize codeFrom wd 0 = c at hc9 ⊢
 clear h1 h2 hL hm hk
 by_cases h0 : c = 0
 ·rw [if_pos (by show (c : Int) = 0; omega), if_pos h0]
  rfl
 rw [if_neg (show ¬ (c : Int) = 0 by omega), if_neg h0]
 simp only []
 rw [if_neg h0, hw1, shape_len c (by omega)]
 have hK := kinds_few c (by omega)
 have hF := shape_kinds c (by omega)
 have hLI := last_is c (by omega) (by omega)
 have hkn := kinds_num c hc9
 have hkl := kinds_last c
 have hk1 : 1 ≤ (kindsOf c).length := hkl.2.2 (by omega) (by omega)
 have hk2 : (kindsOf c).length ≤ 1000 := hkl.2.1
 have hFs := shape_len c (by omega)
 have hDs : ∀ x ∈ wd :: row, x.size ≤ 5000 := fun x hx => by
  rcases List.mem_cons.1 hx with e | hx
  ·rw [e]; exact hws
  ·have := hrs x hx; omega
 by_cases g1 : row.length < (kindsOf c).length
 ·rw [if_pos (by omega), if_pos g1]
  rfl
 rw [if_neg (by omega), if_neg g1]
 have hwn : wrap64 (((kindsOf c).length : Int) - 1) = ((kindsOf c).length : Int) - 1 := w64c (by omega) (by omega)
 rw [hwn, if_pos (by omega), if_pos (by omega)]
 obtain ⟨m, rfl⟩ : ∃ m', m = m' + 1 := ⟨m - 1, by omega⟩
 have hj1 : ∀ b : Bool, qP.j1 (m + 1) (wd :: row) c (shapeList.getD c ByteArray.empty) ((kindsOf c).length : Int) b = if b = true then some (eR (badP 3)) else if bt (shapeList.getD c ByteArray.empty) (((kindsOf c).length : Int) - 1) = 116 then qP.l1 m (wd :: row) c (shapeList.getD c ByteArray.empty) ((kindsOf c).length : Int) ((kindsOf c).length : Int) c (⟨#[]⟩ : ByteArray) 0 0 0 0 0 (⟨#[]⟩ : ByteArray) else qP.j4 m (wd :: row) c (shapeList.getD c ByteArray.empty) ((kindsOf c).length : Int) c (⟨#[]⟩ : ByteArray) 0 0 0 0 0 (⟨#[]⟩ : ByteArray) := fun b => by
  rw [qP.j1, hwn, hFs]
  cases b with
  | true => rw [if_pos rfl, if_pos rfl]; rfl
  | false =>
   rw [if_neg (by decide), if_pos (by omega), if_pos (by omega)]
   exact (if_neg (by decide)).symm
 by_cases g2 : (kindsOf c).getD ((kindsOf c).length - 1) 0 = 9
 ·have g2b := hLI.2 g2
  rw [if_pos g2b, hj1, if_neg (by decide), if_pos g2b, if_pos g2]
  obtain ⟨a, hKS, ha9⟩ := is_text c (by omega) g2
  have hn3 : (kindsOf c).length = 3 := by rw [hKS]; rfl
  rw [hn3] at g1 ⊢
  obtain ⟨y0, y1, y2, r2, hrow⟩ : ∃ y0 y1 y2 r2, row = y0 :: y1 :: y2 :: r2 := by
   match row, g1 with
   | y0 :: y1 :: y2 :: r2, _ => exact ⟨y0, y1, y2, r2, rfl⟩
   | [], h => exact absurd (by decide) h
   | [_], h => exact absurd (show (1 : Nat) < 3 by decide) h
   | [_, _], h => exact absurd (show (2 : Nat) < 3 by decide) h
  have hy2 := hDs y2 (by rw [hrow]; simp)
  have hr2 : r2.length ≤ 4097 := by rw [hrow] at hrl; simp at hrl; omega
  have hstep : qP.l1 m (wd :: row) c (shapeList.getD c ByteArray.empty) ((3 : Nat) : Int) ((3 : Nat) : Int) c (⟨#[]⟩ : ByteArray) 0 0 0 0 0 (⟨#[]⟩ : ByteArray) = qP.l1 (m - 1) (wd :: row) c (shapeList.getD c ByteArray.empty) ((3 : Nat) : Int) ((4 : Nat) : Int) c (⟨#[]⟩ : ByteArray) 0 0 0 0 0 y2 := by
   obtain ⟨m', rfl⟩ : ∃ m', m = m' + 1 := ⟨m - 1, by omega⟩
   have hd : rdOf ByteArray.empty (wd :: row) ((3 : Nat) : Int) = y2 := by rw [hrow]; rfl
   rw [qP.l1, if_pos (by rw [hrow]; simp; omega), if_neg (by omega), if_pos (by omega), hd, if_pos (by show 0 + y2.size ≤ _; omega), wz1 3 (by decide)]
   have he : ((⟨#[]⟩ : ByteArray) ++ y2) = y2 := ba_inj (by simp)
   rw [he]
   rfl
  rw [hstep]
  obtain ⟨T, e1, e2⟩ := l1_f c (shapeList.getD c ByteArray.empty) 3 (wd :: row) (by rw [hDl]; omega) hDs c ⟨#[]⟩ 0 0 0 0 0 r2 [wd, y0, y1, y2] y2 (m - 1) (by rw [hrow]; rfl) (show (3 : Nat) < 4 by decide) (by omega) (by omega)
  rw [show (([wd, y0, y1, y2] : List ByteArray).length : Int) = ((4 : Nat) : Int) from rfl] at e1
  rw [e1]
  have hT : lastText row 3 = T := by
   refine ba_inj ?_
   rw [e2]
   unfold lastText
   show Lib.join ((row.drop 2).map (·.data.toList)) [59] = _
   rw [hrow]
   show Lib.join (y2.data.toList :: r2.map (·.data.toList)) [59] = _
   rw [join_flat, List.flatMap_map]
  have hTs : T.size ≤ 4096 := by rw [← hT]; have := hlt 3; omega
  have e3 := l2_f c (shapeList.getD c ByteArray.empty) 3 (wd :: row) c ⟨#[]⟩ 0 0 0 0 0 T (by omega) T.data.toList [] (m - 1 - r2.length - 1) rfl (by rw [← size_c]; omega)
  rw [show (([] : List UInt8).length : Int) = 0 from rfl] at e3
  rw [e3, hT, has_one]
  by_cases g : 10 ∈ T.data.toList
  ·rw [if_pos g, if_pos (decide_eq_true g)]
   rfl
  ·rw [if_neg g, if_neg (by simpa using g)]
   obtain ⟨m2, hm3⟩ : ∃ m2, m - 1 - r2.length - 1 - T.data.toList.length - 1 = m2 + 1 := ⟨m - 1 - r2.length - 1 - T.data.toList.length - 2, by rw [← size_c]; omega⟩
   have hm4 : K0 + 1000 ≤ m2 := by rw [← size_c] at hm3; omega
   rw [hm3, qP.j4]
   have := l3_f K0 hK0 c (kindsOf c) (wd :: row) (shapeList.getD c ByteArray.empty) T (by rw [hDl]; omega) hF hK hDs (kindsOf c) [y0, y1, T] row [] [wd] m2 0 ⟨#[]⟩ ⟨0, 0, 0, 0, 0⟩ ⟨#[]⟩ rfl rfl rfl (by rw [hKS, hrow]; exact ⟨.inr rfl, .inr rfl, .inl rfl, trivial⟩) (by rw [hKS]; simp [finalT, ha9]) (by omega) (by omega)
   rw [hn3] at this
   refine this.trans ?_
   rw [hrow]
   rfl
 ·have g2b : ¬ bt (shapeList.getD c ByteArray.empty) (((kindsOf c).length : Int) - 1) = 116 := fun q => g2 (hLI.1 q)
  rw [if_neg g2b, hj1, if_neg g2b, if_neg g2]
  by_cases g3 : (kindsOf c).length < row.length
  ·rw [if_pos (decide_eq_true (by omega)), if_pos g3]
  ·rw [if_neg (by rw [decide_eq_false (by omega)]; decide), if_neg g3]
   obtain ⟨m2, rfl⟩ : ∃ m2, m = m2 + 1 := ⟨m - 1, by omega⟩
   rw [qP.j4]
   exact l3_f K0 hK0 c (kindsOf c) (wd :: row) (shapeList.getD c ByteArray.empty) ⟨#[]⟩ (by rw [hDl]; omega) hF hK hDs (kindsOf c) row row [] [wd] m2 0 ⟨#[]⟩ ⟨0, 0, 0, 0, 0⟩ ⟨#[]⟩ rfl rfl rfl (agree_refl _ _ (by omega)) (finalT_no _ _ _ (no_text c (by omega) g2)) (by omega) (by omega)
theorem num_E (e : Option Int) : w2n.f e = some (E e) := rfl
end Go.Proofs.YtdakfmldbddokaaGreatDoor.PVal

/- Plain mathematics of layer 10 at the seat of layer 20, the letters of bits (written by tools/mk_cmv.py out of the templates XVaIntM, XVaTrimB, XVaMayM, XVaOptM, XVaOptF). -/
set_option linter.unusedVariables false
set_option linter.unusedSimpArgs false
namespace Go.Proofs.YtdakfmldbddokaaGreatDoor.PVal
open Go Go.RowKit Go.Proofs.YtdakfmldbddokaaGreatDoor.P Go.Proofs.YtdakfmldbddokaaGreatDoor.PClk Go.Proofs.YtdakfmldbddokaaGreatDoorW.PrintWords Go.Proofs.YtdakfmldbddokaaGreatDoorW.PrintLast Go.Proofs.YtdakfmldbddokaaGreatDoorW.PrintMore
open Classical
/-! Letters of bits. -/
def letText (b : Nat) : ByteArray := match b with | 0 => ⟨#[110]⟩ | 1 => ⟨#[97]⟩ | 2 => ⟨#[99]⟩ | 3 => ⟨#[97, 44, 99]⟩ | 4 => ⟨#[102]⟩ | 5 => ⟨#[97, 44, 102]⟩ | 6 => ⟨#[99, 44, 102]⟩ | _ => ⟨#[97, 44, 99, 44, 102]⟩
theorem let_small : ∀ b : Nat, b < 8 → oL.f 20 (b : Int) acf = some (letText b, none) := by decide +kernel
theorem let_no_n : stC.f acf (⟨#[110]⟩ : ByteArray) = some false := by decide +kernel
theorem let_shl : shl .i64 1 ((⟨#[97, 99, 102]⟩ : ByteArray).size : Int) = 8 := by decide +kernel
theorem let_bad (b : Int) (h : b < 0 ∨ 8 ≤ b) (k : Nat) : oL.f (k + 1) b acf = some (⟨#[]⟩, some 1) := by
 unfold oL.f
 rw [acf_may, Option.bind_some, if_pos rfl, let_no_n, Option.bind_some, if_neg (by decide)]
 by_cases hb : b < 0
 ·rw [if_pos hb, oL.j0, if_pos rfl]
 ·rw [if_neg hb, show shl .i64 1 (acf.size : Int) = 8 from let_shl, oL.j0, if_pos (decide_eq_true (by omega))]
theorem let_f (b : Int) (k : Nat) (hk : 20 ≤ k) : oL.f k b acf = some (if b < 0 ∨ 8 ≤ b then (⟨#[]⟩, some 1) else (letText b.toNat, none)) := by
 by_cases h : b < 0 ∨ 8 ≤ b
 ·obtain ⟨n, rfl⟩ : ∃ n, k = n + 1 := ⟨k - 1, by omega⟩
  rw [if_pos h, let_bad b h]
 ·rw [if_neg h]
  obtain ⟨n, rfl⟩ := Int.eq_ofNat_of_zero_le (show 0 ≤ b by omega)
  rw [Int.toNat_natCast]
  obtain ⟨m, rfl⟩ : ∃ m, k = m + 20 := ⟨k - 20, by omega⟩
  have h20 := let_small n (by omega)
  clear hk h
  induction m with
  | zero => exact h20
  | succ m ih => exact oL.mono _ _ _ _ ih
end Go.Proofs.YtdakfmldbddokaaGreatDoor.PVal

/- Plain mathematics of layer 20: what command.Text answers (written by tools/mk_cmt.py). -/
set_option linter.unusedVariables false
set_option linter.unusedSimpArgs false
namespace Go.Proofs.YtdakfmldbddokaaGreatDoor.PVal
open Go Go.RowKit Go.Proofs.YtdakfmldbddokaaGreatDoor.P Go.Proofs.YtdakfmldbddokaaGreatDoor.PClk Go.Proofs.YtdakfmldbddokaaGreatDoorW.PrintWords Go.Proofs.YtdakfmldbddokaaGreatDoorW.PrintLast Go.Proofs.YtdakfmldbddokaaGreatDoorW.PrintMore
open Classical
def pieceOf (kd : Int) (v : Int) : Option ByteArray := if kd = 6 then (if v < 0 ∨ 8 ≤ v then none else some (letText v.toNat)) else some ⟨(Lib.itoa v).toArray⟩
/-- The fields that Text writes. -/
def piecesOf : List Int → Nat → ByteArray → N5 → ByteArray → Option (List ByteArray)
 | [], _, _, _, _ => some []
 | kd :: ks, j, o, n, t => if kd = 0 then (piecesOf ks j o n t).map (o :: ·) else if kd = 9 then (piecesOf ks j o n t).map (t :: ·) else (pieceOf kd (n.at_ j)).bind fun p => (piecesOf ks (j + 1) o n t).map (p :: ·)
def joinT (l : List ByteArray) : ByteArray := ⟨(Lib.join (l.map (·.data.toList)) [59]).toArray⟩
def resOf (c : Int) (o : ByteArray) (n : N5) (t : ByteArray) : Res := (c, o, n.a, n.b, n.c, n.d, n.e, t, none)
noncomputable def endText (c : Int) (o : ByteArray) (n : N5) (t : ByteArray) (l : List ByteArray) : ByteArray × Option Int := if parseOf (joinT l) = resOf c o n t then (joinT l, none) else (⟨#[]⟩, some 1)
noncomputable def tailText (c : Int) (o : ByteArray) (n : N5) (t : ByteArray) (acc : List ByteArray) (p : Option (List ByteArray)) : ByteArray × Option Int := match p with
 | none => (⟨#[]⟩, some 1)
 | some l => endText c o n t (acc ++ l)
noncomputable def textOf (c : Int) (o : ByteArray) (n : N5) (t : ByteArray) : ByteArray × Option Int := if kindsOf c = [] then (⟨#[]⟩, some 1) else tailText c o n t [wordList.getD c.toNat ByteArray.empty] (piecesOf (kindsOf c) 0 o n t)
theorem join_len (c : UInt8) : ∀ L : List (List UInt8), (∀ x ∈ L, x.length ≤ 5000) → (Lib.join L [c]).length ≤ 5001 * L.length
 | [], _ => by simp [Lib.join, List.intercalate]
 | x :: L, h => by
  have hx := h x (by simp)
  by_cases hL : L = []
  ·subst hL
   simp [Lib.join, List.intercalate]
   omega
  ·have := join_len c L (fun y hy => h y (List.mem_cons_of_mem _ hy))
   rw [join_cons x L c hL]
   simp
   omega
theorem joinT_size (L : List ByteArray) (h : ∀ x ∈ L, x.size ≤ 5000) : (joinT L).size ≤ 5001 * L.length := by
 unfold joinT
 rw [mk_size]
 have := join_len 59 (L.map (·.data.toList)) (fun x hx => by
  obtain ⟨y, hy, rfl⟩ := List.mem_map.1 hx
  have := h y hy
  rw [← size_c]; exact this)
 rwa [List.length_map] at this
theorem join_f (L : List ByteArray) (hl : L.length ≤ 1000) (h : ∀ x ∈ L, x.size ≤ 5000) : stJ.f L (⟨#[59]⟩ : ByteArray) = some (joinT L) := by
 have hs := joinT_size L h
 unfold joinT at hs
 rw [mk_size] at hs
 unfold stJ.f
 rw [if_pos ⟨by omega, by show (Lib.join (L.map (·.data.toList)) [59]).length ≤ _; omega⟩]
 rfl
theorem let_size (b : Nat) : (letText b).size ≤ 5000 := by
 unfold letText
 repeat' split
 all_goals decide
theorem itoa_size (v : Int) (h1 : -9223372036854775808 ≤ v) (h2 : v ≤ 9223372036854775807) : (⟨(Lib.itoa v).toArray⟩ : ByteArray).size ≤ 5000 := by
 rw [mk_size]
 have h19 : (9223372036854775809 : Nat) ≤ 10 ^ 19 := by decide +kernel
 by_cases h : 0 ≤ v
 ·obtain ⟨u, rfl⟩ := Int.eq_ofNat_of_zero_le h
  rw [Lib.itoa_nonneg]
  have := dec_len 18 u (Nat.lt_of_lt_of_le (by omega) h19)
  omega
 ·have hu : v = -((v.natAbs : Nat) : Int) := by omega
  have := dec_len 18 v.natAbs (Nat.lt_of_lt_of_le (by omega) h19)
  have e : (Lib.itoa v).length ≤ (Lib.decDigits v.natAbs).length + 1 := by
   unfold Lib.itoa
   rw [if_pos (by omega)]
   simp
  omega
theorem itoa_f (v : Int) (h1 : -9223372036854775808 ≤ v) (h2 : v ≤ 9223372036854775807) : sItoa.f v = some ⟨(Lib.itoa v).toArray⟩ := by
 unfold sItoa.f
 rw [if_pos h1, if_pos h2]
structure Fit (n : N5) : Prop where
 a1 : -9223372036854775808 ≤ n.a
 a2 : n.a ≤ 9223372036854775807
 b1 : -9223372036854775808 ≤ n.b
 b2 : n.b ≤ 9223372036854775807
 c1 : -9223372036854775808 ≤ n.c
 c2 : n.c ≤ 9223372036854775807
 d1 : -9223372036854775808 ≤ n.d
 d2 : n.d ≤ 9223372036854775807
 e1 : -9223372036854775808 ≤ n.e
 e2 : n.e ≤ 9223372036854775807
theorem cmp_f (r : Res) (c : Int) (o : ByteArray) (n : N5) (t x : ByteArray) : (if r.2.2.2.2.2.2.2.2.isNone = true then (if r.1 = c then (if r.2.1.toList = o.toList then (if r.2.2.1 = n.a then (if r.2.2.2.1 = n.b then (if r.2.2.2.2.1 = n.c then (if r.2.2.2.2.2.1 = n.d then (if r.2.2.2.2.2.2.1 = n.e then (if r.2.2.2.2.2.2.2.1.toList = t.toList then (some (x, none)) else (some ((⟨#[]⟩ : ByteArray), some 1))) else (some ((⟨#[]⟩ : ByteArray), some 1))) else (some ((⟨#[]⟩ : ByteArray), some 1))) else (some ((⟨#[]⟩ : ByteArray), some 1))) else (some ((⟨#[]⟩ : ByteArray), some 1))) else (some ((⟨#[]⟩ : ByteArray), some 1))) else (some ((⟨#[]⟩ : ByteArray), some 1))) else (some ((⟨#[]⟩ : ByteArray), some 1))) else (some ((⟨#[]⟩ : ByteArray), some 1))) = (some (if r = resOf c o n t then (x, none) else (⟨#[]⟩, some 1)) : Option (ByteArray × Option Int)) := by
 obtain ⟨r1, r2, r3, r4, r5, r6, r7, r8, r9⟩ := r
 simp only []
 by_cases h : (r1, r2, r3, r4, r5, r6, r7, r8, r9) = resOf c o n t
 ·rw [if_pos h]
  simp only [resOf, Prod.mk.injEq] at h
  obtain ⟨rfl, rfl, rfl, rfl, rfl, rfl, rfl, rfl, rfl⟩ := h
  refine (if_pos rfl).trans ((if_pos rfl).trans ((if_pos rfl).trans ((if_pos rfl).trans ((if_pos rfl).trans ((if_pos rfl).trans ((if_pos rfl).trans ((if_pos rfl).trans (if_pos rfl))))))))
 ·rw [if_neg h]
  by_cases q9 : r9 = none
  ·rw [if_pos (by rw [q9]; rfl)]
   by_cases q1 : r1 = c
   ·rw [if_pos q1]
    by_cases q2 : r2.toList = o.toList
    ·rw [if_pos q2]
     by_cases q3 : r3 = n.a
     ·rw [if_pos q3]
      by_cases q4 : r4 = n.b
      ·rw [if_pos q4]
       by_cases q5 : r5 = n.c
       ·rw [if_pos q5]
        by_cases q6 : r6 = n.d
        ·rw [if_pos q6]
         by_cases q7 : r7 = n.e
         ·rw [if_pos q7]
          by_cases q8 : r8.toList = t.toList
          ·refine absurd ?_ h
           rw [q1, q3, q4, q5, q6, q7, q9, show r2 = o from ba_inj (by rw [← toList_c, ← toList_c]; exact q2), show r8 = t from ba_inj (by rw [← toList_c, ← toList_c]; exact q8)]
           rfl
          ·rw [if_neg q8]
         ·rw [if_neg q7]
        ·rw [if_neg q6]
       ·rw [if_neg q5]
      ·rw [if_neg q4]
     ·rw [if_neg q3]
    ·rw [if_neg q2]
   ·rw [if_neg q1]
  ·rw [if_neg (by rw [isn]; exact q9)]
theorem text_l0 (c : Int) (o : ByteArray) (n : N5) (t : ByteArray) (hn : Fit n) (ho : o.size ≤ 5000) (ht : t.size ≤ 5000) (KS : List Int) (hz : KS.length ≤ 100) : ∀ (ks pre : List Int) (acc : List ByteArray) (k j : Nat), KS = pre ++ ks → acc.length ≤ pre.length + 1 → (∀ x ∈ acc, x.size ≤ 5000) → j + ks.countP isNum ≤ 5 → 7000 + ks.length ≤ k →
  cT.l0 k acc (j : Int) KS (KS.length : Int) (pre.length : Int) c o n.a n.b n.c n.d n.e t = some (tailText c o n t acc (piecesOf ks j o n t))
 | [], pre, acc, k, j, h1, h2, h3, h5, hk => by
  obtain ⟨k, rfl⟩ : ∃ m, k = m + 1 := ⟨k - 1, by omega⟩
  have hl : KS.length = pre.length := by rw [h1]; simp
  rw [cT.l0, if_neg (by omega), join_f acc (by omega) h3, Option.bind_some, parse_f _ k (by omega), Option.bind_some, cmp_f]
  show _ = some (endText c o n t (acc ++ []))
  rw [List.append_nil]
  rfl
 | kd :: ks, pre, acc, k, j, h1, h2, h3, h5, hk => by
  obtain ⟨k, rfl⟩ : ∃ m, k = m + 1 := ⟨k - 1, by omega⟩
  have hl : KS.length = pre.length + (ks.length + 1) := by rw [h1]; simp
  have hrd : rd KS (pre.length : Int) = kd := rdi_at KS pre kd ks h1
  have hw : wrap64 ((pre.length : Int) + 1) = ((pre ++ [kd]).length : Int) := by rw [w64c (by omega) (by omega)]; simp
  have happ : ∀ (p : ByteArray) (q : Option (List ByteArray)), tailText c o n t (acc ++ [p]) q = tailText c o n t acc (q.map (p :: ·)) := by
   intro p q
   cases q with
   | none => rfl
   | some l => simp [tailText]
  have hin : ∀ p : ByteArray, p.size ≤ 5000 → ∀ x ∈ acc ++ [p], x.size ≤ 5000 := fun p hp x hx => by
   rcases List.mem_append.1 hx with hx | hx
   ·exact h3 x hx
   ·rw [List.mem_singleton.1 hx]; exact hp
  simp only [List.length_cons] at hk
  unfold piecesOf
  by_cases h0 : kd = 0
  ·rw [cT.l0, if_pos (by omega), if_pos (Int.natCast_nonneg _), if_pos (by omega), hrd, if_pos h0, if_pos (by omega), hw, if_pos h0, ← happ]
   refine text_l0 c o n t hn ho ht KS hz ks (pre ++ [kd]) (acc ++ [o]) k j (by rw [h1]; simp) (by simp; omega) (hin o ho) ?_ (by omega)
   rw [List.countP_cons_of_neg (by rw [h0]; decide)] at h5; exact h5
  by_cases h9 : kd = 9
  ·rw [cT.l0, if_pos (by omega), if_pos (Int.natCast_nonneg _), if_pos (by omega), hrd, if_neg h0, if_pos h9, if_pos (by omega), hw, if_neg h0, if_pos h9, ← happ]
   refine text_l0 c o n t hn ho ht KS hz ks (pre ++ [kd]) (acc ++ [t]) k j (by rw [h1]; simp) (by simp; omega) (hin t ht) ?_ (by omega)
   rw [List.countP_cons_of_neg (by rw [h9]; decide)] at h5; exact h5
  have hc : isNum kd = true := by
   unfold isNum
   rw [beq_eq_false_iff_ne.2 h0, beq_eq_false_iff_ne.2 h9]
   rfl
  rw [List.countP_cons_of_pos hc] at h5
  rw [if_neg h0, if_neg h9]
  have hrec : ∀ p : ByteArray, p.size ≤ 5000 → cT.l0 k (acc ++ [p]) ((j + 1 : Nat) : Int) KS (KS.length : Int) ((pre ++ [kd]).length : Int) c o n.a n.b n.c n.d n.e t = some (tailText c o n t acc ((piecesOf ks (j + 1) o n t).map (p :: ·))) := fun p hp => by
   rw [← happ]
   exact text_l0 c o n t hn ho ht KS hz ks (pre ++ [kd]) (acc ++ [p]) k (j + 1) (by rw [h1]; simp) (by simp; omega) (hin p hp) (by omega) (by omega)
  have hcase : j = 0 ∨ j = 1 ∨ j = 2 ∨ j = 3 ∨ j = 4 := by omega
  unfold pieceOf
  by_cases h6 : kd = 6
  ·rw [if_pos h6]
   rcases hcase with rfl | rfl | rfl | rfl | rfl
   ·rw [cT.l0, if_pos (by omega), if_pos (Int.natCast_nonneg _), if_pos (by omega), hrd, if_neg h0, if_neg h9, if_pos h6, if_pos (show ((0 : Nat) : Int) = 0 from rfl), show (⟨#[97, 99, 102]⟩ : ByteArray) = acf from rfl, let_f n.a k (by omega), Option.bind_some, hw, w64c (x := ((0 : Nat) : Int) + 1) (by decide) (by decide)]
    have hv : n.at_ 0 = n.a := rfl
    rw [hv]
    by_cases hb : n.a < 0 ∨ 8 ≤ n.a
    ·rw [if_pos hb, if_pos hb]
     exact if_neg (by decide)
    ·rw [if_neg hb, if_neg hb]
     refine (if_pos rfl).trans ?_
     rw [if_pos (by omega)]
     exact hrec (letText n.a.toNat) (let_size _)
   ·rw [cT.l0, if_pos (by omega), if_pos (Int.natCast_nonneg _), if_pos (by omega), hrd, if_neg h0, if_neg h9, if_pos h6, if_neg (show ¬ ((1 : Nat) : Int) = 0 by decide), if_pos (show ((1 : Nat) : Int) = 1 from rfl), show (⟨#[97, 99, 102]⟩ : ByteArray) = acf from rfl, let_f n.b k (by omega), Option.bind_some, hw, w64c (x := ((1 : Nat) : Int) + 1) (by decide) (by decide)]
    have hv : n.at_ 1 = n.b := rfl
    rw [hv]
    by_cases hb : n.b < 0 ∨ 8 ≤ n.b
    ·rw [if_pos hb, if_pos hb]
     exact if_neg (by decide)
    ·rw [if_neg hb, if_neg hb]
     refine (if_pos rfl).trans ?_
     rw [if_pos (by omega)]
     exact hrec (letText n.b.toNat) (let_size _)
   ·rw [cT.l0, if_pos (by omega), if_pos (Int.natCast_nonneg _), if_pos (by omega), hrd, if_neg h0, if_neg h9, if_pos h6, if_neg (show ¬ ((2 : Nat) : Int) = 0 by decide), if_neg (show ¬ ((2 : Nat) : Int) = 1 by decide), if_pos (show ((2 : Nat) : Int) = 2 from rfl), show (⟨#[97, 99, 102]⟩ : ByteArray) = acf from rfl, let_f n.c k (by omega), Option.bind_some, hw, w64c (x := ((2 : Nat) : Int) + 1) (by decide) (by decide)]
    have hv : n.at_ 2 = n.c := rfl
    rw [hv]
    by_cases hb : n.c < 0 ∨ 8 ≤ n.c
    ·rw [if_pos hb, if_pos hb]
     exact if_neg (by decide)
    ·rw [if_neg hb, if_neg hb]
     refine (if_pos rfl).trans ?_
     rw [if_pos (by omega)]
     exact hrec (letText n.c.toNat) (let_size _)
   ·rw [cT.l0, if_pos (by omega), if_pos (Int.natCast_nonneg _), if_pos (by omega), hrd, if_neg h0, if_neg h9, if_pos h6, if_neg (show ¬ ((3 : Nat) : Int) = 0 by decide), if_neg (show ¬ ((3 : Nat) : Int) = 1 by decide), if_neg (show ¬ ((3 : Nat) : Int) = 2 by decide), if_pos (show ((3 : Nat) : Int) = 3 from rfl), show (⟨#[97, 99, 102]⟩ : ByteArray) = acf from rfl, let_f n.d k (by omega), Option.bind_some, hw, w64c (x := ((3 : Nat) : Int) + 1) (by decide) (by decide)]
    have hv : n.at_ 3 = n.d := rfl
    rw [hv]
    by_cases hb : n.d < 0 ∨ 8 ≤ n.d
    ·rw [if_pos hb, if_pos hb]
     exact if_neg (by decide)
    ·rw [if_neg hb, if_neg hb]
     refine (if_pos rfl).trans ?_
     rw [if_pos (by omega)]
     exact hrec (letText n.d.toNat) (let_size _)
   ·rw [cT.l0, if_pos (by omega), if_pos (Int.natCast_nonneg _), if_pos (by omega), hrd, if_neg h0, if_neg h9, if_pos h6, if_neg (show ¬ ((4 : Nat) : Int) = 0 by decide), if_neg (show ¬ ((4 : Nat) : Int) = 1 by decide), if_neg (show ¬ ((4 : Nat) : Int) = 2 by decide), if_neg (show ¬ ((4 : Nat) : Int) = 3 by decide), if_pos (show ((4 : Nat) : Int) = 4 from rfl), show (⟨#[97, 99, 102]⟩ : ByteArray) = acf from rfl, let_f n.e k (by omega), Option.bind_some, hw, w64c (x := ((4 : Nat) : Int) + 1) (by decide) (by decide)]
    have hv : n.at_ 4 = n.e := rfl
    rw [hv]
    by_cases hb : n.e < 0 ∨ 8 ≤ n.e
    ·rw [if_pos hb, if_pos hb]
     exact if_neg (by decide)
    ·rw [if_neg hb, if_neg hb]
     refine (if_pos rfl).trans ?_
     rw [if_pos (by omega)]
     exact hrec (letText n.e.toNat) (let_size _)
  ·rw [if_neg h6, Option.bind_some]
   rcases hcase with rfl | rfl | rfl | rfl | rfl
   ·rw [cT.l0, if_pos (by omega), if_pos (Int.natCast_nonneg _), if_pos (by omega), hrd, if_neg h0, if_neg h9, if_neg h6, if_pos (show ((0 : Nat) : Int) = 0 from rfl), itoa_f n.a hn.a1 hn.a2, Option.bind_some, if_pos (by omega), hw, w64c (x := ((0 : Nat) : Int) + 1) (by decide) (by decide)]
    exact hrec ⟨(Lib.itoa n.a).toArray⟩ (itoa_size _ hn.a1 hn.a2)
   ·rw [cT.l0, if_pos (by omega), if_pos (Int.natCast_nonneg _), if_pos (by omega), hrd, if_neg h0, if_neg h9, if_neg h6, if_neg (show ¬ ((1 : Nat) : Int) = 0 by decide), if_pos (show ((1 : Nat) : Int) = 1 from rfl), itoa_f n.b hn.b1 hn.b2, Option.bind_some, if_pos (by omega), hw, w64c (x := ((1 : Nat) : Int) + 1) (by decide) (by decide)]
    exact hrec ⟨(Lib.itoa n.b).toArray⟩ (itoa_size _ hn.b1 hn.b2)
   ·rw [cT.l0, if_pos (by omega), if_pos (Int.natCast_nonneg _), if_pos (by omega), hrd, if_neg h0, if_neg h9, if_neg h6, if_neg (show ¬ ((2 : Nat) : Int) = 0 by decide), if_neg (show ¬ ((2 : Nat) : Int) = 1 by decide), if_pos (show ((2 : Nat) : Int) = 2 from rfl), itoa_f n.c hn.c1 hn.c2, Option.bind_some, if_pos (by omega), hw, w64c (x := ((2 : Nat) : Int) + 1) (by decide) (by decide)]
    exact hrec ⟨(Lib.itoa n.c).toArray⟩ (itoa_size _ hn.c1 hn.c2)
   ·rw [cT.l0, if_pos (by omega), if_pos (Int.natCast_nonneg _), if_pos (by omega), hrd, if_neg h0, if_neg h9, if_neg h6, if_neg (show ¬ ((3 : Nat) : Int) = 0 by decide), if_neg (show ¬ ((3 : Nat) : Int) = 1 by decide), if_neg (show ¬ ((3 : Nat) : Int) = 2 by decide), if_pos (show ((3 : Nat) : Int) = 3 from rfl), itoa_f n.d hn.d1 hn.d2, Option.bind_some, if_pos (by omega), hw, w64c (x := ((3 : Nat) : Int) + 1) (by decide) (by decide)]
    exact hrec ⟨(Lib.itoa n.d).toArray⟩ (itoa_size _ hn.d1 hn.d2)
   ·rw [cT.l0, if_pos (by omega), if_pos (Int.natCast_nonneg _), if_pos (by omega), hrd, if_neg h0, if_neg h9, if_neg h6, if_neg (show ¬ ((4 : Nat) : Int) = 0 by decide), if_neg (show ¬ ((4 : Nat) : Int) = 1 by decide), if_neg (show ¬ ((4 : Nat) : Int) = 2 by decide), if_neg (show ¬ ((4 : Nat) : Int) = 3 by decide), if_pos (show ((4 : Nat) : Int) = 4 from rfl), itoa_f n.e hn.e1 hn.e2, Option.bind_some, if_pos (by omega), hw, w64c (x := ((4 : Nat) : Int) + 1) (by decide) (by decide)]
    exact hrec ⟨(Lib.itoa n.e).toArray⟩ (itoa_size _ hn.e1 hn.e2)
theorem text_f (c : Int) (o : ByteArray) (n : N5) (t : ByteArray) (hn : Fit n) (ho : o.size ≤ 5000) (ht : t.size ≤ 5000) (k : Nat) (hk : 7100 ≤ k) : cT.f k c o n.a n.b n.c n.d n.e t = some (textOf c o n t) := by
 unfold cT.f textOf
 obtain ⟨k, rfl⟩ : ∃ m, k = m + 1 := ⟨k - 1, by omega⟩
 rw [kinds_f, Option.bind_some]
 by_cases h0 : kindsOf c = []
 ·rw [if_pos (by rw [h0]; rfl), if_pos h0]
 have hne : 0 < (kindsOf c).length := List.length_pos_iff.2 h0
 have hr : 1 ≤ c ∧ c ≤ 9 := by
  refine byContradiction fun q => h0 ?_
  unfold kindsOf
  rw [if_neg (by omega), if_neg (by omega), if_neg (by omega), if_neg (by omega), if_neg (by omega), if_neg (by omega), if_neg (by omega), if_neg (by omega), if_neg (by omega)]
 rw [if_neg (by omega), if_neg h0]
 unfold sSm.f
 rw [if_pos ⟨by omega, by omega⟩, Option.bind_some]
 obtain ⟨m, rfl⟩ := Int.eq_ofNat_of_zero_le (show 0 ≤ c by omega)
 rw [Int.toNat_natCast]
 have hws : ∀ i : Nat, i < 10 → (wordList.getD i ByteArray.empty).size ≤ 5000 := by decide +kernel
 have hkl : (kindsOf (m : Int)).length ≤ 100 := by
  have : ∀ i : Nat, i < 10 → (kindsOf i).length ≤ 100 := by decide +kernel
  exact this m (by omega)
 exact text_l0 m o n t hn ho ht (kindsOf m) hkl (kindsOf m) [] [wordList.getD m ByteArray.empty] (k + 1) 0 rfl (Nat.le_refl _) (fun x hx => by rw [List.mem_singleton.1 hx]; exact hws m (by omega)) (by rw [Nat.zero_add]; exact kinds_num m (by omega)) (by omega)
end Go.Proofs.YtdakfmldbddokaaGreatDoor.PVal

/- Plain mathematics of layer 20: the document's Text answers what the program's does; CommandTexts (written by tools/mk_cmx.py). -/
set_option linter.unusedVariables false
set_option linter.unusedSimpArgs false
namespace Go.Proofs.YtdakfmldbddokaaGreatDoor.PVal
open Go Go.RowKit Go.Proofs.YtdakfmldbddokaaGreatDoor.P Go.Proofs.YtdakfmldbddokaaGreatDoor.PClk Go.Proofs.YtdakfmldbddokaaGreatDoorW.PrintWords Go.Proofs.YtdakfmldbddokaaGreatDoorW.PrintLast Go.Proofs.YtdakfmldbddokaaGreatDoorW.PrintMore
open Classical
theorem w64d {x : Int} (h0 : -9223372036854775808 ≤ x) (h1 : x ≤ 9223372036854775807) : wrap64 x = x := by unfold wrap64; omega
theorem ten (d : Nat) (h : d < 10) : (⟨#[48, 49, 50, 51, 52, 53, 54, 55, 56, 57]⟩ : ByteArray).extract d (d + 1) = ⟨#[UInt8.ofNat (48 + d)]⟩ := by
 have hc : d = 0 ∨ d = 1 ∨ d = 2 ∨ d = 3 ∨ d = 4 ∨ d = 5 ∨ d = 6 ∨ d = 7 ∨ d = 8 ∨ d = 9 := by omega
 rcases hc with rfl | rfl | rfl | rfl | rfl | rfl | rfl | rfl | rfl | rfl <;> decide +kernel
/-- One round: the last digit ahead. -/
theorem dig_round (n : Nat) (s : ByteArray) (hn : n < 9223372036854775808) (hs : s.size ≤ 1000) (k : Nat) (hc : 0 < n ∨ s.toList = []) : qd.l0 (k + 1) (n : Int) s = qd.l0 k ((n / 10 : Nat) : Int) (⟨#[UInt8.ofNat (48 + n % 10)]⟩ ++ s) := by
 have t1 : Int.tmod (n : Int) 10 = ((n % 10 : Nat) : Int) := by rw [Int.tmod_eq_emod_of_nonneg (Int.natCast_nonneg n)]; omega
 have t2 : Int.tdiv (n : Int) 10 = ((n / 10 : Nat) : Int) := by rw [Int.tdiv_eq_ediv_of_nonneg (Int.natCast_nonneg n)]; omega
 have w1 : wrap64 (((n % 10 : Nat) : Int) + 1) = ((n % 10 + 1 : Nat) : Int) := by rw [w64d (by omega) (by omega)]; omega
 have w2 : wrap64 ((n / 10 : Nat) : Int) = ((n / 10 : Nat) : Int) := w64d (by omega) (by omega)
 have hx : (⟨#[48, 49, 50, 51, 52, 53, 54, 55, 56, 57]⟩ : ByteArray).extract (((n % 10 : Nat) : Int)).toNat (((n % 10 + 1 : Nat) : Int)).toNat = ⟨#[UInt8.ofNat (48 + n % 10)]⟩ := ten (n % 10) (by omega)
 have hz : (⟨#[UInt8.ofNat (48 + n % 10)]⟩ : ByteArray).size + s.size ≤ 9223372036854775807 := by
  show 1 + s.size ≤ _
  omega
 rw [qd.l0]
 by_cases h : (n : Int) > 0
 ·rw [if_pos h, t1, t2, w1, w2, if_pos (by omega), if_pos (by omega), if_pos (by omega), hx, if_pos hz]
 ·rw [if_neg h, if_pos (hc.resolve_left (by omega)), t1, t2, w1, w2, if_pos (by omega), if_pos (by omega), if_pos (by omega), hx, if_pos hz]
theorem dig_end (s : ByteArray) (k : Nat) (hc : s.toList ≠ []) : qd.l0 (k + 1) 0 s = some s := by
 rw [qd.l0, if_neg (by decide), if_neg hc]
theorem one_app (c : UInt8) (s : ByteArray) : (⟨#[c]⟩ ++ s : ByteArray).data.toList = c :: s.data.toList := by simp
theorem one_ne (c : UInt8) (s : ByteArray) : (⟨#[c]⟩ ++ s : ByteArray).toList ≠ [] := by
 rw [ByteArray.toList_eq, one_app]
 simp
theorem mk_list (s : ByteArray) (l : List UInt8) (h : s.data.toList = l) : s = ⟨l.toArray⟩ := by
 cases s with
 | mk d => rw [← h]
theorem dig_all (n : Nat) : 0 < n → n < 9223372036854775808 → ∀ s : ByteArray, s.size + (Lib.decDigits n).length ≤ 1000 → ∃ k, qd.l0 k (n : Int) s = some ⟨(Lib.decDigits n ++ s.data.toList).toArray⟩ := by
 induction n using Nat.strongRecOn with
 | _ n ih =>
  intro h0 hn s hs
  by_cases h : n < 10
  ·refine ⟨1 + 1, ?_⟩
   rw [dig_round n s hn (by omega) 1 (.inl h0), show n / 10 = 0 by omega]
   refine (dig_end _ 0 (one_ne _ _)).trans ?_
   congr 1
   refine mk_list _ _ ?_
   rw [one_app, Lib.decDigits, dif_pos h, show n % 10 = n by omega]
   rfl
  ·have e : Lib.decDigits n = Lib.decDigits (n / 10) ++ [UInt8.ofNat (48 + n % 10)] := by
    conv => lhs; rw [Lib.decDigits]
    rw [dif_neg h]
   rw [e, List.length_append] at hs
   have hsz : (⟨#[UInt8.ofNat (48 + n % 10)]⟩ ++ s : ByteArray).size = 1 + s.size := by rw [ByteArray.size_append]; rfl
   obtain ⟨k, hk⟩ := ih (n / 10) (by omega) (by omega) (by omega) (⟨#[UInt8.ofNat (48 + n % 10)]⟩ ++ s) (by rw [hsz]; simp at hs; omega)
   refine ⟨k + 1, ?_⟩
   rw [dig_round n s hn (by omega) k (.inl h0), hk, one_app, e, List.append_assoc]
   rfl
theorem dec_short : ∀ (k n : Nat), n < 10 ^ (k + 1) → (Lib.decDigits n).length ≤ k + 1
 | 0, n, h => by rw [Lib.decDigits_one (by simpa using h)]; exact Nat.le_refl _
 | k + 1, n, h => by
  rw [Lib.decDigits]
  by_cases h1 : n < 10
  ·rw [dif_pos h1]; simp
  ·rw [dif_neg h1, List.length_append]
   have := dec_short k (n / 10) (by rw [Nat.pow_succ] at h; omega)
   simp
   omega
theorem digits_nat (n : Nat) (hn : n < 9223372036854775808) : ∃ k, qd.f k (n : Int) = some ⟨(Lib.decDigits n).toArray⟩ := by
 have h19 : (9223372036854775808 : Nat) ≤ 10 ^ 19 := by decide +kernel
 have hl := dec_short 18 n (Nat.lt_of_lt_of_le hn h19)
 have key : ∃ k, qd.l0 k (n : Int) ⟨#[]⟩ = some ⟨(Lib.decDigits n).toArray⟩ := by
  by_cases h : 0 < n
  ·obtain ⟨k, hk⟩ := dig_all n h hn ⟨#[]⟩ (by show 0 + _ ≤ _; omega)
   exact ⟨k, hk.trans (by simp)⟩
  ·obtain rfl : n = 0 := by omega
   refine ⟨1 + 1, ?_⟩
   rw [dig_round 0 ⟨#[]⟩ hn (by decide) 1 (.inr (by decide +kernel))]
   refine (dig_end _ 0 (one_ne _ _)).trans ?_
   decide +kernel
 obtain ⟨k, hk⟩ := key
 refine ⟨k, ?_⟩
 rw [qd.f, if_neg (by omega)]
 exact hk
/-- A number as the document writes it. -/
def dgT (v : Int) : ByteArray := if v < 0 then ⟨#[45]⟩ else ⟨(Lib.itoa v).toArray⟩
theorem dg_size (v : Int) (h1 : -9223372036854775808 ≤ v) (h2 : v ≤ 9223372036854775807) : (dgT v).size ≤ 5000 := by
 unfold dgT
 by_cases h : v < 0
 ·rw [if_pos h]; decide
 ·rw [if_neg h]; exact itoa_size v h1 h2
theorem dg_up (v : Int) (r : ByteArray) (K : Nat) (h : qd.f K v = some r) : ∀ k, K ≤ k → qd.f k v = some r := by
 intro k hk
 obtain ⟨m, rfl⟩ : ∃ m, k = K + m := ⟨k - K, by omega⟩
 clear hk
 induction m with
 | zero => exact h
 | succ m ih => exact qd.mono _ _ _ ih
theorem dg_ev (v : Int) (h2 : v ≤ 9223372036854775807) : ∃ K, ∀ k, K ≤ k → qd.f k v = some (dgT v) := by
 by_cases h : v < 0
 ·refine ⟨0, fun k _ => ?_⟩
  unfold qd.f dgT
  rw [if_pos h, if_pos h]
 ·obtain ⟨u, rfl⟩ := Int.eq_ofNat_of_zero_le (show 0 ≤ v by omega)
  obtain ⟨K, hK⟩ := digits_nat u (by omega)
  refine ⟨K, dg_up _ _ K ?_⟩
  unfold dgT
  rw [if_neg h, Lib.itoa_nonneg]
  exact hK
/-- Rounds enough for five numbers. -/
structure Dig (n : N5) (K : Nat) : Prop where
 a : ∀ k, K ≤ k → qd.f k n.a = some (dgT n.a)
 b : ∀ k, K ≤ k → qd.f k n.b = some (dgT n.b)
 c : ∀ k, K ≤ k → qd.f k n.c = some (dgT n.c)
 d : ∀ k, K ≤ k → qd.f k n.d = some (dgT n.d)
 e : ∀ k, K ≤ k → qd.f k n.e = some (dgT n.e)
theorem dig_all5 (n : N5) (hn : Fit n) : ∃ K, Dig n K := by
 obtain ⟨K1, h1⟩ := dg_ev n.a hn.a2
 obtain ⟨K2, h2⟩ := dg_ev n.b hn.b2
 obtain ⟨K3, h3⟩ := dg_ev n.c hn.c2
 obtain ⟨K4, h4⟩ := dg_ev n.d hn.d2
 obtain ⟨K5, h5⟩ := dg_ev n.e hn.e2
 exact ⟨K1 + K2 + K3 + K4 + K5, ⟨fun k hk => h1 k (by omega), fun k hk => h2 k (by omega), fun k hk => h3 k (by omega), fun k hk => h4 k (by omega), fun k hk => h5 k (by omega)⟩⟩
/-! The document's letters of bits. -/
theorem rl_small : ∀ b : Nat, b < 8 → vL.f 80 (b : Int) acf = some (letText b, 0) := by decide +kernel
theorem rl_at (k : Nat) (hk : 1001 ≤ k) : vAt.f k acf 110 = some (-1) := by
 rw [show (110 : Int) = (((110 : UInt8).toNat : Nat) : Int) from rfl, at_f acf 110 acf_size k hk, Go.Proofs.YtdakfmldbddokaaGreatDoor.P.ix_notin 110 _ acf_n]
theorem acf_n3 : acf.size = 3 := by decide
theorem tdiv2 (v : Int) (h0 : 0 ≤ v) (h1 : v ≤ 9223372036854775807) : wrap64 (Int.tdiv v 2) = v / 2 := by
 rw [Int.tdiv_eq_ediv_of_nonneg h0, w64c (by omega) (by omega)]
theorem rl_step (k : Nat) (v : Int) (h0 : 0 ≤ v) (h1 : v ≤ 9223372036854775807) (T : ByteArray) (hT : T.size ≤ 1000) (i : Nat) (hi : i < 3) : ∃ T' : ByteArray, T'.size ≤ T.size + 2 ∧ vL.l0 (k + 1) v acf T (i : Int) = vL.l0 k (v / 2) acf T' ((i + 1 : Nat) : Int) := by
 have h3 := acf_n3
 rw [vL.l0, if_pos (by omega), tdiv2 v h0 h1, wz1 i (by omega)]
 by_cases h : Int.tmod v 2 = 1
 ·have hs : (T ++ (⟨#[44]⟩ : ByteArray)).size = T.size + 1 := by rw [ByteArray.size_append]; rfl
  have he : (acf.extract i (i + 1)).size ≤ 1 := by rw [ByteArray.size_extract]; omega
  refine ⟨(T ++ (⟨#[44]⟩ : ByteArray)) ++ acf.extract i (i + 1), by rw [ByteArray.size_append, hs]; omega, ?_⟩
  rw [if_pos h, if_pos (by omega), if_pos (Int.natCast_nonneg _), if_pos (by omega), if_pos (by omega), Int.toNat_natCast, Int.toNat_natCast, if_pos (by rw [hs]; omega)]
 ·exact ⟨T, by omega, by rw [if_neg h]⟩
theorem rl_big (v : Int) (h0 : 8 ≤ v) (h1 : v ≤ 9223372036854775807) (k : Nat) : vL.l0 (k + 4) v acf ⟨#[]⟩ 0 = some (⟨#[]⟩, 1) := by
 obtain ⟨T1, s1, e1⟩ := rl_step (k + 3) v (by omega) h1 ⟨#[]⟩ (by decide) 0 (by decide)
 have hz : (⟨#[]⟩ : ByteArray).size = 0 := rfl
 obtain ⟨T2, s2, e2⟩ := rl_step (k + 2) (v / 2) (by omega) (by omega) T1 (by omega) 1 (by decide)
 obtain ⟨T3, s3, e3⟩ := rl_step (k + 1) (v / 2 / 2) (by omega) (by omega) T2 (by omega) 2 (by decide)
 have h3 := acf_n3
 refine e1.trans (e2.trans (e3.trans ?_))
 rw [vL.l0, if_neg (by omega), if_pos (by omega)]
theorem rl_f (v : Int) (k : Nat) (hk : 2000 ≤ k) (h1 : v ≤ 9223372036854775807) : vL.f k v acf = some (if v < 0 ∨ 8 ≤ v then (⟨#[]⟩, 1) else (letText v.toNat, 0)) := by
 by_cases h : v < 0 ∨ 8 ≤ v
 ·rw [if_pos h]
  unfold vL.f
  rw [may_acf k (by omega), Option.bind_some, if_pos rfl, rl_at k (by omega), Option.bind_some, if_neg (by decide)]
  obtain ⟨m, rfl⟩ : ∃ m, k = m + 5 := ⟨k - 5, by omega⟩
  by_cases hv : v < 0
  ·rw [vL.j0, if_pos (decide_eq_true hv)]
  ·rw [vL.j0, if_neg (by rw [decide_eq_false hv]; decide)]
   exact rl_big v (by omega) h1 m
 ·rw [if_neg h]
  obtain ⟨n, rfl⟩ := Int.eq_ofNat_of_zero_le (show 0 ≤ v by omega)
  rw [Int.toNat_natCast]
  obtain ⟨m, rfl⟩ : ∃ m, k = m + 80 := ⟨k - 80, by omega⟩
  have h20 := rl_small n (by omega)
  clear hk h h1
  induction m with
  | zero => exact h20
  | succ m ih => exact vL.mono _ _ _ _ ih
/-! The document's Text. -/
def docPiece (kd : Int) (v : Int) : Option ByteArray := if kd = 6 then (if v < 0 ∨ 8 ≤ v then none else some (letText v.toNat)) else some (dgT v)
def docPieces : List Int → Nat → ByteArray → N5 → ByteArray → Option (List ByteArray)
 | [], _, _, _, _ => some []
 | kd :: ks, j, o, n, t => if kd = 0 then (docPieces ks j o n t).map (o :: ·) else if kd = 9 then (docPieces ks j o n t).map (t :: ·) else (docPiece kd (n.at_ j)).bind fun p => (docPieces ks (j + 1) o n t).map (p :: ·)
noncomputable def docEnd (c : Int) (o : ByteArray) (n : N5) (t : ByteArray) (l : List ByteArray) : ByteArray × Bool := if parseOf (joinT l) = resOf c o n t then (joinT l, true) else (⟨#[]⟩, false)
noncomputable def docTail (c : Int) (o : ByteArray) (n : N5) (t : ByteArray) (acc : List ByteArray) (p : Option (List ByteArray)) : ByteArray × Bool := match p with
 | none => (⟨#[]⟩, false)
 | some l => docEnd c o n t (acc ++ l)
theorem joinT_snoc (acc : List ByteArray) (h : acc ≠ []) (p : ByteArray) : joinT (acc ++ [p]) = (joinT acc ++ (⟨#[59]⟩ : ByteArray)) ++ p := by
 have key : ∀ L : List (List UInt8), L ≠ [] → ∀ x : List UInt8, Lib.join (L ++ [x]) [59] = Lib.join L [59] ++ 59 :: x := by
  intro L
  induction L with
  | nil => intro h; exact absurd rfl h
  | cons a L ih =>
   intro _ x
   by_cases hL : L = []
   ·subst hL; simp [Lib.join, List.intercalate]
   ·rw [List.cons_append, join_cons a (L ++ [x]) 59 (by simp), join_cons a L 59 hL, ih hL x]
    simp
 refine ba_inj ?_
 unfold joinT
 rw [List.map_append]
 have := key (acc.map (·.data.toList)) (by simpa using h) p.data.toList
 simp at this ⊢
 exact this
theorem dcmp_f (r : Res) (hz : r.2.2.2.2.2.2.2.2 ≠ some 0) (c : Int) (o : ByteArray) (n : N5) (t x : ByteArray) : (if (eR r).2.2.2.2.2.2.2.2 = 0 then (if (eR r).1 = c then (if (eR r).2.1.toList = o.toList then (if (eR r).2.2.1 = n.a then (if (eR r).2.2.2.1 = n.b then (if (eR r).2.2.2.2.1 = n.c then (if (eR r).2.2.2.2.2.1 = n.d then (if (eR r).2.2.2.2.2.2.1 = n.e then (if (eR r).2.2.2.2.2.2.2.1.toList = t.toList then (some (x, true)) else (some ((⟨#[]⟩ : ByteArray), false))) else (some ((⟨#[]⟩ : ByteArray), false))) else (some ((⟨#[]⟩ : ByteArray), false))) else (some ((⟨#[]⟩ : ByteArray), false))) else (some ((⟨#[]⟩ : ByteArray), false))) else (some ((⟨#[]⟩ : ByteArray), false))) else (some ((⟨#[]⟩ : ByteArray), false))) else (some ((⟨#[]⟩ : ByteArray), false))) else (some ((⟨#[]⟩ : ByteArray), false))) = (some (if r = resOf c o n t then (x, true) else (⟨#[]⟩, false)) : Option (ByteArray × Bool)) := by
 obtain ⟨r1, r2, r3, r4, r5, r6, r7, r8, r9⟩ := r
 show (if E r9 = 0 then (if r1 = c then (if r2.toList = o.toList then (if r3 = n.a then (if r4 = n.b then (if r5 = n.c then (if r6 = n.d then (if r7 = n.e then (if r8.toList = t.toList then (some (x, true)) else (some ((⟨#[]⟩ : ByteArray), false))) else (some ((⟨#[]⟩ : ByteArray), false))) else (some ((⟨#[]⟩ : ByteArray), false))) else (some ((⟨#[]⟩ : ByteArray), false))) else (some ((⟨#[]⟩ : ByteArray), false))) else (some ((⟨#[]⟩ : ByteArray), false))) else (some ((⟨#[]⟩ : ByteArray), false))) else (some ((⟨#[]⟩ : ByteArray), false))) else (some ((⟨#[]⟩ : ByteArray), false))) = _
 by_cases h : (r1, r2, r3, r4, r5, r6, r7, r8, r9) = resOf c o n t
 ·rw [if_pos h]
  simp only [resOf, Prod.mk.injEq] at h
  obtain ⟨rfl, rfl, rfl, rfl, rfl, rfl, rfl, rfl, rfl⟩ := h
  refine (if_pos rfl).trans ((if_pos rfl).trans ((if_pos rfl).trans ((if_pos rfl).trans ((if_pos rfl).trans ((if_pos rfl).trans ((if_pos rfl).trans ((if_pos rfl).trans (if_pos rfl))))))))
 ·rw [if_neg h]
  by_cases q9 : r9 = none
  ·rw [if_pos (by rw [q9]; rfl)]
   by_cases q1 : r1 = c
   ·rw [if_pos q1]
    by_cases q2 : r2.toList = o.toList
    ·rw [if_pos q2]
     by_cases q3 : r3 = n.a
     ·rw [if_pos q3]
      by_cases q4 : r4 = n.b
      ·rw [if_pos q4]
       by_cases q5 : r5 = n.c
       ·rw [if_pos q5]
        by_cases q6 : r6 = n.d
        ·rw [if_pos q6]
         by_cases q7 : r7 = n.e
         ·rw [if_pos q7]
          by_cases q8 : r8.toList = t.toList
          ·refine absurd ?_ h
           rw [q1, q3, q4, q5, q6, q7, q9, show r2 = o from ba_inj (by rw [← toList_c, ← toList_c]; exact q2), show r8 = t from ba_inj (by rw [← toList_c, ← toList_c]; exact q8)]
           rfl
          ·rw [if_neg q8]
         ·rw [if_neg q7]
        ·rw [if_neg q6]
       ·rw [if_neg q5]
      ·rw [if_neg q4]
     ·rw [if_neg q3]
    ·rw [if_neg q2]
   ·rw [if_neg q1]
  ·rw [if_neg (show ¬ E r9 = 0 by
    cases hq : r9 with
    | none => exact absurd hq q9
    | some e =>
     simp only [hq] at hz
     intro z
     exact hz (by rw [show e = 0 from z]))]
/-- An error of Parse has a number. -/
theorem loop_nz (c : Int) : ∀ (ks : List Int) (l : List ByteArray) (j : Nat) (o : ByteArray) (n : N5) (t : ByteArray), ks.length ≤ l.length → (loopOf c ks l j o n t).2.2.2.2.2.2.2.2 ≠ some 0
 | [], l, j, o, n, t, _ => by
  show (finOf c o n t).2.2.2.2.2.2.2.2 ≠ some 0
  unfold finOf
  split
  ·show (some (5 : Int)) ≠ some 0; decide
  ·show (none : Option Int) ≠ some 0; decide
 | kd :: ks, [], j, o, n, t, h => by simp at h
 | kd :: ks, x :: l, j, o, n, t, h => by
  have h2 : ks.length ≤ l.length := by simp at h; omega
  unfold loopOf
  by_cases h0 : kd = 0
  ·rw [if_pos h0]
   split
   ·exact loop_nz c ks l _ _ _ _ h2
   ·show (some (11 : Int)) ≠ some 0; decide
  ·rw [if_neg h0]
   by_cases h9 : kd = 9
   ·rw [if_pos h9]; exact loop_nz c ks l _ _ _ _ h2
   ·rw [if_neg h9]
    by_cases he : (readOf kd x).2 = none
    ·rw [if_pos he]; exact loop_nz c ks l _ _ _ _ h2
    ·rw [if_neg he]
     have hnz := err_nz kd x
     cases hq : (readOf kd x).2 with
     | none => exact absurd hq he
     | some e =>
      rw [hq] at hnz
      show some e ≠ some 0
      exact hnz
theorem parts_nz (s : ByteArray) (b : Bool) (ks : List Int) : (partsOf s b ks).2 ≠ some 0 := by
 unfold partsOf
 repeat' split
 all_goals simp
theorem parse_nz (s : ByteArray) : (parseOf s).2.2.2.2.2.2.2.2 ≠ some 0 := by
 unfold parseOf
 by_cases h1 : 4096 < s.size
 ·rw [if_pos h1]; show (some (2 : Int)) ≠ some 0; decide
 rw [if_neg h1]
 have hc9 := code_le ⟨(Lib.cut s.data.toList [59]).1.toArray⟩ 10 0 rfl
 by_cases h2 : codeFrom ⟨(Lib.cut s.data.toList [59]).1.toArray⟩ 0 = 0
 ·rw [if_pos h2]; show (some (12 : Int)) ≠ some 0; decide
 rw [if_neg h2]
 generalize codeFrom ⟨(Lib.cut s.data.toList [59]).1.toArray⟩ 0 = c at hc9 h2 ⊢
 have hz := parts_nz ⟨(Lib.cut s.data.toList [59]).2.1.toArray⟩ (Lib.cut s.data.toList [59]).2.2 (kindsOf c)
 have hpo := partsOf_ok ⟨(Lib.cut s.data.toList [59]).2.1.toArray⟩ (Lib.cut s.data.toList [59]).2.2 (kindsOf c) ((kinds_last c).2.2 (by omega) (by omega))
 generalize partsOf ⟨(Lib.cut s.data.toList [59]).2.1.toArray⟩ (Lib.cut s.data.toList [59]).2.2 (kindsOf c) = p at hz hpo ⊢
 obtain ⟨l, e⟩ := p
 cases e with
 | some e => exact hz
 | none => exact loop_nz c _ l _ _ _ _ (by rw [(hpo l rfl).1]; exact Nat.le_refl _)
theorem dtext_l0 (K0 : Nat) (hK0 : 42000000 ≤ K0) (c : Int) (o : ByteArray) (n : N5) (t : ByteArray) (hn : Fit n) (hdg : Dig n K0) (ho : o.size ≤ 5000) (ht : t.size ≤ 5000) (KS : List Int) (F : ByteArray) (hz : KS.length ≤ 100) (hF : F.data.toList.map UInt8.toNat = KS.map chOf) (hK : ∀ kd ∈ KS, 0 ≤ kd ∧ kd ≤ 9) : ∀ (ks pre : List Int) (acc : List ByteArray) (k j : Nat), KS = pre ++ ks → acc ≠ [] → acc.length ≤ pre.length + 1 → (∀ x ∈ acc, x.size ≤ 5000) → j + ks.countP isNum ≤ 5 → K0 + ks.length ≤ k →
  qT.l0 k (joinT acc) F (j : Int) (pre.length : Int) c o n.a n.b n.c n.d n.e t = some (docTail c o n t acc (docPieces ks j o n t))
 | [], pre, acc, k, j, h1, ha, h2, h3, h5, hk => by
  obtain ⟨k, rfl⟩ : ∃ m, k = m + 1 := ⟨k - 1, by omega⟩
  have hl : KS.length = pre.length := by rw [h1]; simp
  have hFl : F.size = KS.length := by
   have := congrArg List.length hF
   simp only [List.length_map] at this
   rw [size_c]; exact this
  rw [qT.l0, if_neg (by omega), ref_parse 41000000 (Nat.le_refl _) _ k (by omega), Option.bind_some, dcmp_f _ (parse_nz _)]
  show _ = some (docEnd c o n t (acc ++ []))
  rw [List.append_nil]
  rfl
 | kd :: ks, pre, acc, k, j, h1, ha, h2, h3, h5, hk => by
  obtain ⟨k, rfl⟩ : ∃ m, k = m + 1 := ⟨k - 1, by omega⟩
  have hl : KS.length = pre.length + (ks.length + 1) := by rw [h1]; simp
  have hpz : pre.length ≤ 1000000 := by omega
  have hFl : F.size = KS.length := by
   have := congrArg List.length hF
   simp only [List.length_map] at this
   rw [size_c]; exact this
  have hbt : bt F (pre.length : Int) = (chOf kd : Int) := by
   have hi : pre.length < F.data.toList.length := by rw [← size_c]; omega
   rw [bt_l F pre.length hi]
   have e := congrArg (·[pre.length]?) hF
   simp only [List.getElem?_map, List.getElem?_eq_getElem hi, h1] at e
   simp at e
   have e2 : (F.data.toList[pre.length]).toNat = chOf kd := by simpa using e
   rw [e2]
  have happ : ∀ (p : ByteArray) (q : Option (List ByteArray)), docTail c o n t (acc ++ [p]) q = docTail c o n t acc (q.map (p :: ·)) := by
   intro p q
   cases q with
   | none => rfl
   | some l => simp [docTail]
  have hin : ∀ p : ByteArray, p.size ≤ 5000 → ∀ x ∈ acc ++ [p], x.size ≤ 5000 := fun p hp x hx => by
   rcases List.mem_append.1 hx with hx | hx
   ·exact h3 x hx
   ·rw [List.mem_singleton.1 hx]; exact hp
  have hjs := joinT_size acc h3
  have hs59 : (joinT acc ++ (⟨#[59]⟩ : ByteArray)).size = (joinT acc).size + 1 := by rw [ByteArray.size_append]; rfl
  simp only [List.length_cons] at hk
  have hkd := hK kd (by rw [h1]; simp)
  unfold docPieces
  by_cases h0 : kd = 0
  ·rw [qT.l0, if_pos (by omega), if_pos (Int.natCast_nonneg _), hbt, if_pos (by rw [h0]; rfl), if_pos (by omega), if_pos (by rw [hs59]; omega), wz1 pre.length hpz, if_pos h0, ← happ, ← joinT_snoc acc ha]
   rw [show ((pre.length + 1 : Nat) : Int) = ((pre ++ [kd]).length : Int) by simp]
   refine dtext_l0 K0 hK0 c o n t hn hdg ho ht KS F hz hF hK ks (pre ++ [kd]) (acc ++ [o]) k j (by rw [h1]; simp) (by simp) (by simp; omega) (hin o ho) ?_ (by omega)
   rw [List.countP_cons_of_neg (by rw [h0]; decide)] at h5; exact h5
  by_cases h9 : kd = 9
  ·rw [qT.l0, if_pos (by omega), if_pos (Int.natCast_nonneg _), hbt, if_neg (by rw [h9]; decide), if_pos (by rw [h9]; rfl), if_pos (by omega), if_pos (by rw [hs59]; omega), wz1 pre.length hpz, if_neg h0, if_pos h9, ← happ, ← joinT_snoc acc ha]
   rw [show ((pre.length + 1 : Nat) : Int) = ((pre ++ [kd]).length : Int) by simp]
   refine dtext_l0 K0 hK0 c o n t hn hdg ho ht KS F hz hF hK ks (pre ++ [kd]) (acc ++ [t]) k j (by rw [h1]; simp) (by simp) (by simp; omega) (hin t ht) ?_ (by omega)
   rw [List.countP_cons_of_neg (by rw [h9]; decide)] at h5; exact h5
  have hc : isNum kd = true := by
   unfold isNum
   rw [beq_eq_false_iff_ne.2 h0, beq_eq_false_iff_ne.2 h9]
   rfl
  rw [List.countP_cons_of_pos hc] at h5
  rw [if_neg h0, if_neg h9]
  have hch : ∀ kd : Nat, kd < 10 → kd ≠ 0 → kd ≠ 9 → ((chOf kd : Int) ≠ 111 ∧ (chOf kd : Int) ≠ 116) ∧ (kd ≠ 6 → (chOf kd : Int) ≠ 98) := by decide
  have hcc : ((chOf kd : Int) ≠ 111 ∧ (chOf kd : Int) ≠ 116) ∧ (kd ≠ 6 → (chOf kd : Int) ≠ 98) := by
   have := hch kd.toNat (by omega) (by omega) (by omega)
   rw [Int.toNat_of_nonneg hkd.1] at this
   exact ⟨this.1, fun q => this.2 (by omega)⟩
  have hc1 := hcc.1.1
  have hc2 := hcc.1.2
  have hrec : ∀ p : ByteArray, p.size ≤ 5000 → qT.l0 k ((joinT acc ++ (⟨#[59]⟩ : ByteArray)) ++ p) F ((j + 1 : Nat) : Int) ((pre.length + 1 : Nat) : Int) c o n.a n.b n.c n.d n.e t = some (docTail c o n t acc ((docPieces ks (j + 1) o n t).map (p :: ·))) := fun p hp => by
   rw [← happ, ← joinT_snoc acc ha, show ((pre.length + 1 : Nat) : Int) = ((pre ++ [kd]).length : Int) by simp]
   exact dtext_l0 K0 hK0 c o n t hn hdg ho ht KS F hz hF hK ks (pre ++ [kd]) (acc ++ [p]) k (j + 1) (by rw [h1]; simp) (by simp) (by simp; omega) (hin p hp) (by omega) (by omega)
  have hcase : j = 0 ∨ j = 1 ∨ j = 2 ∨ j = 3 ∨ j = 4 := by omega
  unfold docPiece
  by_cases h6 : kd = 6
  ·rw [if_pos h6]
   rcases hcase with rfl | rfl | rfl | rfl | rfl
   ·rw [qT.l0, if_pos (by omega), if_pos (Int.natCast_nonneg _), hbt, if_neg hc1, if_neg hc2, if_pos (by rw [h6]; rfl), if_pos (show ((0 : Nat) : Int) = 0 from rfl), show (⟨#[97, 99, 102]⟩ : ByteArray) = acf from rfl, rl_f n.a k (by omega) hn.a2, Option.bind_some]
    have hv : n.at_ 0 = n.a := rfl
    rw [hv]
    by_cases hb : n.a < 0 ∨ 8 ≤ n.a
    ·rw [if_pos hb, if_pos hb]
     exact if_neg (by decide)
    ·rw [if_neg hb, if_neg hb]
     have hp := let_size n.a.toNat
     refine (if_pos rfl).trans ?_
     rw [if_pos (by omega), if_pos (by show (joinT acc ++ (⟨#[59]⟩ : ByteArray)).size + (letText n.a.toNat).size ≤ _; rw [hs59]; omega), wz1 pre.length hpz, w64c (x := ((0 : Nat) : Int) + 1) (by decide) (by decide)]
     exact hrec (letText n.a.toNat) hp
   ·rw [qT.l0, if_pos (by omega), if_pos (Int.natCast_nonneg _), hbt, if_neg hc1, if_neg hc2, if_pos (by rw [h6]; rfl), if_neg (show ¬ ((1 : Nat) : Int) = 0 by decide), if_pos (show ((1 : Nat) : Int) = 1 from rfl), show (⟨#[97, 99, 102]⟩ : ByteArray) = acf from rfl, rl_f n.b k (by omega) hn.b2, Option.bind_some]
    have hv : n.at_ 1 = n.b := rfl
    rw [hv]
    by_cases hb : n.b < 0 ∨ 8 ≤ n.b
    ·rw [if_pos hb, if_pos hb]
     exact if_neg (by decide)
    ·rw [if_neg hb, if_neg hb]
     have hp := let_size n.b.toNat
     refine (if_pos rfl).trans ?_
     rw [if_pos (by omega), if_pos (by show (joinT acc ++ (⟨#[59]⟩ : ByteArray)).size + (letText n.b.toNat).size ≤ _; rw [hs59]; omega), wz1 pre.length hpz, w64c (x := ((1 : Nat) : Int) + 1) (by decide) (by decide)]
     exact hrec (letText n.b.toNat) hp
   ·rw [qT.l0, if_pos (by omega), if_pos (Int.natCast_nonneg _), hbt, if_neg hc1, if_neg hc2, if_pos (by rw [h6]; rfl), if_neg (show ¬ ((2 : Nat) : Int) = 0 by decide), if_neg (show ¬ ((2 : Nat) : Int) = 1 by decide), if_pos (show ((2 : Nat) : Int) = 2 from rfl), show (⟨#[97, 99, 102]⟩ : ByteArray) = acf from rfl, rl_f n.c k (by omega) hn.c2, Option.bind_some]
    have hv : n.at_ 2 = n.c := rfl
    rw [hv]
    by_cases hb : n.c < 0 ∨ 8 ≤ n.c
    ·rw [if_pos hb, if_pos hb]
     exact if_neg (by decide)
    ·rw [if_neg hb, if_neg hb]
     have hp := let_size n.c.toNat
     refine (if_pos rfl).trans ?_
     rw [if_pos (by omega), if_pos (by show (joinT acc ++ (⟨#[59]⟩ : ByteArray)).size + (letText n.c.toNat).size ≤ _; rw [hs59]; omega), wz1 pre.length hpz, w64c (x := ((2 : Nat) : Int) + 1) (by decide) (by decide)]
     exact hrec (letText n.c.toNat) hp
   ·rw [qT.l0, if_pos (by omega), if_pos (Int.natCast_nonneg _), hbt, if_neg hc1, if_neg hc2, if_pos (by rw [h6]; rfl), if_neg (show ¬ ((3 : Nat) : Int) = 0 by decide), if_neg (show ¬ ((3 : Nat) : Int) = 1 by decide), if_neg (show ¬ ((3 : Nat) : Int) = 2 by decide), if_pos (show ((3 : Nat) : Int) = 3 from rfl), show (⟨#[97, 99, 102]⟩ : ByteArray) = acf from rfl, rl_f n.d k (by omega) hn.d2, Option.bind_some]
    have hv : n.at_ 3 = n.d := rfl
    rw [hv]
    by_cases hb : n.d < 0 ∨ 8 ≤ n.d
    ·rw [if_pos hb, if_pos hb]
     exact if_neg (by decide)
    ·rw [if_neg hb, if_neg hb]
     have hp := let_size n.d.toNat
     refine (if_pos rfl).trans ?_
     rw [if_pos (by omega), if_pos (by show (joinT acc ++ (⟨#[59]⟩ : ByteArray)).size + (letText n.d.toNat).size ≤ _; rw [hs59]; omega), wz1 pre.length hpz, w64c (x := ((3 : Nat) : Int) + 1) (by decide) (by decide)]
     exact hrec (letText n.d.toNat) hp
   ·rw [qT.l0, if_pos (by omega), if_pos (Int.natCast_nonneg _), hbt, if_neg hc1, if_neg hc2, if_pos (by rw [h6]; rfl), if_neg (show ¬ ((4 : Nat) : Int) = 0 by decide), if_neg (show ¬ ((4 : Nat) : Int) = 1 by decide), if_neg (show ¬ ((4 : Nat) : Int) = 2 by decide), if_neg (show ¬ ((4 : Nat) : Int) = 3 by decide), if_pos (show ((4 : Nat) : Int) = 4 from rfl), show (⟨#[97, 99, 102]⟩ : ByteArray) = acf from rfl, rl_f n.e k (by omega) hn.e2, Option.bind_some]
    have hv : n.at_ 4 = n.e := rfl
    rw [hv]
    by_cases hb : n.e < 0 ∨ 8 ≤ n.e
    ·rw [if_pos hb, if_pos hb]
     exact if_neg (by decide)
    ·rw [if_neg hb, if_neg hb]
     have hp := let_size n.e.toNat
     refine (if_pos rfl).trans ?_
     rw [if_pos (by omega), if_pos (by show (joinT acc ++ (⟨#[59]⟩ : ByteArray)).size + (letText n.e.toNat).size ≤ _; rw [hs59]; omega), wz1 pre.length hpz, w64c (x := ((4 : Nat) : Int) + 1) (by decide) (by decide)]
     exact hrec (letText n.e.toNat) hp
  ·rw [if_neg h6, Option.bind_some]
   have hc3 := hcc.2 h6
   rcases hcase with rfl | rfl | rfl | rfl | rfl
   ·rw [qT.l0, if_pos (by omega), if_pos (Int.natCast_nonneg _), hbt, if_neg hc1, if_neg hc2, if_neg hc3, if_pos (by omega), if_pos (show ((0 : Nat) : Int) = 0 from rfl), hdg.a k (by omega), Option.bind_some]
    have hp := dg_size n.a hn.a1 hn.a2
    rw [if_pos (by rw [hs59]; omega), wz1 pre.length hpz, w64c (x := ((0 : Nat) : Int) + 1) (by decide) (by decide)]
    exact hrec (dgT n.a) hp
   ·rw [qT.l0, if_pos (by omega), if_pos (Int.natCast_nonneg _), hbt, if_neg hc1, if_neg hc2, if_neg hc3, if_pos (by omega), if_neg (show ¬ ((1 : Nat) : Int) = 0 by decide), if_pos (show ((1 : Nat) : Int) = 1 from rfl), hdg.b k (by omega), Option.bind_some]
    have hp := dg_size n.b hn.b1 hn.b2
    rw [if_pos (by rw [hs59]; omega), wz1 pre.length hpz, w64c (x := ((1 : Nat) : Int) + 1) (by decide) (by decide)]
    exact hrec (dgT n.b) hp
   ·rw [qT.l0, if_pos (by omega), if_pos (Int.natCast_nonneg _), hbt, if_neg hc1, if_neg hc2, if_neg hc3, if_pos (by omega), if_neg (show ¬ ((2 : Nat) : Int) = 0 by decide), if_neg (show ¬ ((2 : Nat) : Int) = 1 by decide), if_pos (show ((2 : Nat) : Int) = 2 from rfl), hdg.c k (by omega), Option.bind_some]
    have hp := dg_size n.c hn.c1 hn.c2
    rw [if_pos (by rw [hs59]; omega), wz1 pre.length hpz, w64c (x := ((2 : Nat) : Int) + 1) (by decide) (by decide)]
    exact hrec (dgT n.c) hp
   ·rw [qT.l0, if_pos (by omega), if_pos (Int.natCast_nonneg _), hbt, if_neg hc1, if_neg hc2, if_neg hc3, if_pos (by omega), if_neg (show ¬ ((3 : Nat) : Int) = 0 by decide), if_neg (show ¬ ((3 : Nat) : Int) = 1 by decide), if_neg (show ¬ ((3 : Nat) : Int) = 2 by decide), if_pos (show ((3 : Nat) : Int) = 3 from rfl), hdg.d k (by omega), Option.bind_some]
    have hp := dg_size n.d hn.d1 hn.d2
    rw [if_pos (by rw [hs59]; omega), wz1 pre.length hpz, w64c (x := ((3 : Nat) : Int) + 1) (by decide) (by decide)]
    exact hrec (dgT n.d) hp
   ·rw [qT.l0, if_pos (by omega), if_pos (Int.natCast_nonneg _), hbt, if_neg hc1, if_neg hc2, if_neg hc3, if_pos (by omega), if_neg (show ¬ ((4 : Nat) : Int) = 0 by decide), if_neg (show ¬ ((4 : Nat) : Int) = 1 by decide), if_neg (show ¬ ((4 : Nat) : Int) = 2 by decide), if_neg (show ¬ ((4 : Nat) : Int) = 3 by decide), if_pos (show ((4 : Nat) : Int) = 4 from rfl), hdg.e k (by omega), Option.bind_some]
    have hp := dg_size n.e hn.e1 hn.e2
    rw [if_pos (by rw [hs59]; omega), wz1 pre.length hpz, w64c (x := ((4 : Nat) : Int) + 1) (by decide) (by decide)]
    exact hrec (dgT n.e) hp
end Go.Proofs.YtdakfmldbddokaaGreatDoor.PVal

/- Plain mathematics of layer 20: CommandTexts. -/
set_option linter.unusedVariables false
set_option linter.unusedSimpArgs false
namespace Go.Proofs.YtdakfmldbddokaaGreatDoor.PVal
open Go Go.RowKit Go.Proofs.YtdakfmldbddokaaGreatDoor.P Go.Proofs.YtdakfmldbddokaaGreatDoor.PClk Go.Proofs.YtdakfmldbddokaaGreatDoorW.PrintWords Go.Proofs.YtdakfmldbddokaaGreatDoorW.PrintLast Go.Proofs.YtdakfmldbddokaaGreatDoorW.PrintMore
open Classical
theorem read_nn (kd : Int) (x : ByteArray) (h : (readOf kd x).2 = none) : 0 ≤ (readOf kd x).1 := by
 have hi : ∀ lo hi : Int, 0 ≤ lo → (intL x.data.toList lo hi).2 = none → 0 ≤ (intL x.data.toList lo hi).1 := fun lo hi h0 h => Int.le_trans h0 (intL_rng _ lo hi h).1
 unfold readOf at h ⊢
 by_cases h1 : kd = 1
 ·rw [if_pos h1] at h ⊢; exact hi _ _ (by decide) h
 rw [if_neg h1] at h ⊢
 by_cases h2 : kd = 2
 ·rw [if_pos h2] at h ⊢; exact hi _ _ (by decide) h
 rw [if_neg h2] at h ⊢
 by_cases h3 : kd = 3
 ·rw [if_pos h3] at h ⊢; exact hi _ _ (by decide) h
 rw [if_neg h3] at h ⊢
 by_cases h4 : kd = 4
 ·rw [if_pos h4] at h ⊢; exact hi _ _ (by decide) h
 rw [if_neg h4] at h ⊢
 by_cases h5 : kd = 5
 ·rw [if_pos h5] at h ⊢; exact hi _ _ (by decide) h
 rw [if_neg h5] at h ⊢
 by_cases h6 : kd = 6
 ·rw [if_pos h6] at h ⊢; exact (opt_rng x h).1
 rw [if_neg h6] at h ⊢
 by_cases h7 : kd = 7
 ·rw [if_pos h7] at h ⊢; exact hi _ _ (by decide) h
 rw [if_neg h7] at h ⊢
 exact hi _ _ (by decide) h
theorem bad_ne (e c : Int) (o : ByteArray) (n : N5) (t : ByteArray) : badP e ≠ resOf c o n t := by
 intro h
 have := congrArg (fun r : Res => r.2.2.2.2.2.2.2.2) h
 simp [badP, resOf] at this
/-- What a command that is read holds: no negative number among those that its code has. -/
theorem loop_keep (c : Int) : ∀ (ks : List Int) (l : List ByteArray) (j : Nat) (o : ByteArray) (n : N5) (t : ByteArray) (c' : Int) (o' : ByteArray) (n' : N5) (t' : ByteArray), ks.length ≤ l.length → j + ks.countP isNum ≤ 5 → loopOf c ks l j o n t = resOf c' o' n' t' →
  c' = c ∧ (∀ i, i < j → n'.at_ i = n.at_ i) ∧ (∀ i, j ≤ i → i < j + ks.countP isNum → 0 ≤ n'.at_ i)
 | [], l, j, o, n, t, c', o', n', t', hl, h5, h => by
  have h : finOf c o n t = resOf c' o' n' t' := h
  unfold finOf at h
  split at h
  ·exact absurd h (bad_ne _ _ _ _ _)
  ·simp only [resOf, Prod.mk.injEq] at h
   obtain ⟨e1, e2, e3, e4, e5, e6, e7, e8, _⟩ := h
   refine ⟨e1.symm, fun i _ => ?_, fun i h1 h2 => ?_⟩
   ·have : n' = n := by
     cases n; cases n'
     simp only at e3 e4 e5 e6 e7
     rw [e3, e4, e5, e6, e7]
    rw [this]
   ·simp only [List.countP_nil] at h2; omega
 | kd :: ks, [], j, o, n, t, c', o', n', t', hl, h5, h => by simp at hl
 | kd :: ks, x :: l, j, o, n, t, c', o', n', t', hl, h5, h => by
  have hl2 : ks.length ≤ l.length := by simp at hl; omega
  unfold loopOf at h
  by_cases h0 : kd = 0
  ·rw [if_pos h0] at h
   rw [List.countP_cons_of_neg (by rw [h0]; decide)] at h5 ⊢
   split at h
   ·exact loop_keep c ks l j _ n t c' o' n' t' hl2 h5 h
   ·exact absurd h (bad_ne _ _ _ _ _)
  rw [if_neg h0] at h
  by_cases h9 : kd = 9
  ·rw [if_pos h9] at h
   rw [List.countP_cons_of_neg (by rw [h9]; decide)] at h5 ⊢
   exact loop_keep c ks l j o n _ c' o' n' t' hl2 h5 h
  rw [if_neg h9] at h
  have hc : isNum kd = true := by
   unfold isNum
   rw [beq_eq_false_iff_ne.2 h0, beq_eq_false_iff_ne.2 h9]
   rfl
  rw [List.countP_cons_of_pos hc] at h5 ⊢
  by_cases he : (readOf kd x).2 = none
  ·rw [if_pos he] at h
   obtain ⟨e1, e2, e3⟩ := loop_keep c ks l (j + 1) o _ t c' o' n' t' hl2 (by omega) h
   refine ⟨e1, fun i hi => ?_, fun i h1 h2 => ?_⟩
   ·rw [e2 i (by omega), N5.at_upd n i j _ (by omega) (by omega), if_neg (by omega)]
   ·by_cases q : i = j
    ·rw [q, e2 j (by omega), N5.at_upd n j j _ (by omega) (by omega), if_pos rfl]
     exact read_nn kd x he
    ·exact e3 i (by omega) (by omega)
  ·rw [if_neg he] at h
   exact absurd h (bad_ne _ _ _ _ _)
theorem parse_used (s : ByteArray) (c : Int) (o : ByteArray) (n : N5) (t : ByteArray) (h : parseOf s = resOf c o n t) : ∀ i, i < (kindsOf c).countP isNum → 0 ≤ n.at_ i := by
 unfold parseOf at h
 by_cases h1 : 4096 < s.size
 ·rw [if_pos h1] at h; exact absurd h (bad_ne _ _ _ _ _)
 rw [if_neg h1] at h
 have hc9 := code_le ⟨(Lib.cut s.data.toList [59]).1.toArray⟩ 10 0 rfl
 by_cases h2 : codeFrom ⟨(Lib.cut s.data.toList [59]).1.toArray⟩ 0 = 0
 ·rw [if_pos h2] at h; exact absurd h (bad_ne _ _ _ _ _)
 rw [if_neg h2] at h
 generalize codeFrom ⟨(Lib.cut s.data.toList [59]).1.toArray⟩ 0 = d at hc9 h2 h
 have hpo := partsOf_ok ⟨(Lib.cut s.data.toList [59]).2.1.toArray⟩ (Lib.cut s.data.toList [59]).2.2 (kindsOf d) ((kinds_last d).2.2 (by omega) (by omega))
 generalize partsOf ⟨(Lib.cut s.data.toList [59]).2.1.toArray⟩ (Lib.cut s.data.toList [59]).2.2 (kindsOf d) = p at hpo h
 obtain ⟨l, e⟩ := p
 cases e with
 | some e => exact absurd h (bad_ne _ _ _ _ _)
 | none =>
  obtain ⟨e1, _, e3⟩ := loop_keep d (kindsOf d) l 0 _ _ _ c o n t (by rw [(hpo l rfl).1]; exact Nat.le_refl _) (by rw [Nat.zero_add]; exact kinds_num d hc9) h
  intro i hi
  rw [e1] at hi
  exact e3 i (Nat.zero_le _) (by omega)
theorem pieces_eq (o : ByteArray) (n : N5) (t : ByteArray) : ∀ (ks : List Int) (j : Nat), (∀ i, j ≤ i → i < j + ks.countP isNum → 0 ≤ n.at_ i) → docPieces ks j o n t = piecesOf ks j o n t
 | [], j, h => rfl
 | kd :: ks, j, h => by
  unfold docPieces piecesOf
  by_cases h0 : kd = 0
  ·rw [if_pos h0, if_pos h0, pieces_eq o n t ks j (by rw [List.countP_cons_of_neg (by rw [h0]; decide)] at h; exact h)]
  rw [if_neg h0, if_neg h0]
  by_cases h9 : kd = 9
  ·rw [if_pos h9, if_pos h9, pieces_eq o n t ks j (by rw [List.countP_cons_of_neg (by rw [h9]; decide)] at h; exact h)]
  rw [if_neg h9, if_neg h9]
  have hc : isNum kd = true := by
   unfold isNum
   rw [beq_eq_false_iff_ne.2 h0, beq_eq_false_iff_ne.2 h9]
   rfl
  rw [List.countP_cons_of_pos hc] at h
  rw [pieces_eq o n t ks (j + 1) (fun i h1 h2 => h i (by omega) (by omega))]
  have hv := h j (Nat.le_refl _) (by omega)
  have : docPiece kd (n.at_ j) = pieceOf kd (n.at_ j) := by
   unfold docPiece pieceOf dgT
   rw [if_neg (show ¬ n.at_ j < 0 by omega)]
  rw [this]
noncomputable def docOf (c : Int) (o : ByteArray) (n : N5) (t : ByteArray) : ByteArray × Bool := if kindsOf c = [] then (⟨#[]⟩, false) else docTail c o n t [wordList.getD c.toNat ByteArray.empty] (docPieces (kindsOf c) 0 o n t)
theorem text_none (c : Int) (o : ByteArray) (n : N5) (t : ByteArray) (hneg : ¬ ∀ i, i < (kindsOf c).countP isNum → 0 ≤ n.at_ i) (acc : List ByteArray) (p : Option (List ByteArray)) : tailText c o n t acc p = (⟨#[]⟩, some 1) ∧ docTail c o n t acc p = (⟨#[]⟩, false) := by
 cases p with
 | none => exact ⟨rfl, rfl⟩
 | some l =>
  have hne : ¬ parseOf (joinT (acc ++ l)) = resOf c o n t := fun q => hneg (parse_used _ c o n t q)
  refine ⟨?_, ?_⟩
  ·show endText c o n t (acc ++ l) = _
   unfold endText
   rw [if_neg hne]
  ·show docEnd c o n t (acc ++ l) = _
   unfold docEnd
   rw [if_neg hne]
/-- The two texts are one. -/
theorem doc_text (c : Int) (o : ByteArray) (n : N5) (t : ByteArray) : (∃ s, textOf c o n t = (s, none) ∧ docOf c o n t = (s, true)) ∨ (textOf c o n t = (⟨#[]⟩, some 1) ∧ docOf c o n t = (⟨#[]⟩, false)) := by
 unfold textOf docOf
 by_cases h0 : kindsOf c = []
 ·rw [if_pos h0, if_pos h0]; exact .inr ⟨rfl, rfl⟩
 rw [if_neg h0, if_neg h0]
 by_cases hp : ∀ i, i < (kindsOf c).countP isNum → 0 ≤ n.at_ i
 ·rw [pieces_eq o n t (kindsOf c) 0 (fun i _ h2 => hp i (by omega))]
  cases piecesOf (kindsOf c) 0 o n t with
  | none => exact .inr ⟨rfl, rfl⟩
  | some l =>
   show (∃ s, endText c o n t _ = (s, none) ∧ docEnd c o n t _ = (s, true)) ∨ (endText c o n t _ = (⟨#[]⟩, some 1) ∧ docEnd c o n t _ = (⟨#[]⟩, false))
   unfold endText docEnd
   by_cases hq : parseOf (joinT ([wordList.getD c.toNat ByteArray.empty] ++ l)) = resOf c o n t
   ·rw [if_pos hq, if_pos hq]; exact .inl ⟨_, rfl, rfl⟩
   ·rw [if_neg hq, if_neg hq]; exact .inr ⟨rfl, rfl⟩
 ·exact .inr ⟨(text_none c o n t hp _ _).1, (text_none c o n t hp _ _).2⟩
theorem words_at : ∀ c : Nat, 0 < c → c < 10 → ([(⟨#[100, 111, 119, 110]⟩ : ByteArray), (⟨#[117, 110, 100, 111, 119, 110]⟩ : ByteArray), (⟨#[97, 99, 107]⟩ : ByteArray), (⟨#[117, 110, 97, 99, 107]⟩ : ByteArray), (⟨#[101, 110, 97, 98, 108, 101]⟩ : ByteArray), (⟨#[100, 105, 115, 97, 98, 108, 101]⟩ : ByteArray), (⟨#[99, 104, 101, 99, 107]⟩ : ByteArray), (⟨#[114, 101, 115, 117, 108, 116]⟩ : ByteArray), (⟨#[116, 101, 108, 108]⟩ : ByteArray)] : List ByteArray).getD (c - 1) ByteArray.empty = wordList.getD c ByteArray.empty := by
 intro c h0 h1
 have : c = 1 ∨ c = 2 ∨ c = 3 ∨ c = 4 ∨ c = 5 ∨ c = 6 ∨ c = 7 ∨ c = 8 ∨ c = 9 := by omega
 rcases this with rfl | rfl | rfl | rfl | rfl | rfl | rfl | rfl | rfl <;> rfl
theorem kinds_nil (c : Int) (h : ¬ (1 ≤ c ∧ c ≤ 9)) : kindsOf c = [] := by
 unfold kindsOf
 rw [if_neg (by omega), if_neg (by omega), if_neg (by omega), if_neg (by omega), if_neg (by omega), if_neg (by omega), if_neg (by omega), if_neg (by omega), if_neg (by omega)]
theorem dtext_f (K0 : Nat) (hK0 : 42000000 ≤ K0) (c : Int) (o : ByteArray) (n : N5) (t : ByteArray) (hn : Fit n) (hdg : Dig n K0) (ho : o.size ≤ 5000) (ht : t.size ≤ 5000) (k : Nat) (hk : K0 + 200 ≤ k) : qT.f k c o n.a n.b n.c n.d n.e t = some (docOf c o n t) := by
 unfold qT.f
 rw [Option.bind_some]
 obtain ⟨k, rfl⟩ : ∃ m, k = m + 1 := ⟨k - 1, by omega⟩
 by_cases hr : 1 ≤ c ∧ c ≤ 9
 ·rw [if_neg (by omega), decide_eq_false (by omega), qT.j0, if_neg (by decide)]
  obtain ⟨m, rfl⟩ := Int.eq_ofNat_of_zero_le (show 0 ≤ c by omega)
  have hw : wrap64 ((m : Int) - 1) = ((m - 1 : Nat) : Int) := by rw [w64c (by omega) (by omega)]; omega
  have hm9 : m < 10 := by omega
  have h0 : kindsOf (m : Int) ≠ [] := by
   have : ∀ i : Nat, i < 10 → 0 < i → kindsOf i ≠ [] := by decide +kernel
   exact this m hm9 (by omega)
  rw [hw, if_pos (Int.natCast_nonneg _), if_pos (by show ((m - 1 : Nat) : Int) < ((9 : Nat) : Int); omega)]
  unfold rdOf
  rw [Int.toNat_natCast, words_at m (by omega) hm9, ref_shape _ k (by omega), Option.bind_some, code_of m (by omega) hm9 m 0 (Nat.zero_add _), if_neg (by omega)]
  unfold docOf
  rw [if_neg h0, Int.toNat_natCast]
  have hj : joinT [wordList.getD m ByteArray.empty] = wordList.getD m ByteArray.empty := by
   refine ba_inj ?_
   unfold joinT
   simp [Lib.join, List.intercalate]
  have hws : ∀ i : Nat, i < 10 → (wordList.getD i ByteArray.empty).size ≤ 5000 := by decide +kernel
  have hkl : (kindsOf (m : Int)).length ≤ 100 := by
   have : ∀ i : Nat, i < 10 → (kindsOf i).length ≤ 100 := by decide +kernel
   exact this m hm9
  have := dtext_l0 K0 hK0 m o n t hn hdg ho ht (kindsOf m) (shapeList.getD m ByteArray.empty) hkl (shape_kinds m hm9) (kinds_few m hm9) (kindsOf m) [] [wordList.getD m ByteArray.empty] k 0 rfl (by simp) (Nat.le_refl _) (fun x hx => by rw [List.mem_singleton.1 hx]; exact hws m hm9) (by rw [Nat.zero_add]; exact kinds_num m (by omega)) (by omega)
  rw [hj] at this
  exact this
 ·have hb : ∀ y b, b = true → qT.j0 (k + 1) y b c o n.a n.b n.c n.d n.e t = some (⟨#[]⟩, false) := fun y b hb => by rw [qT.j0, if_pos hb]
  unfold docOf
  rw [if_pos (kinds_nil c hr)]
  by_cases h1 : c < 1
  ·rw [if_pos h1]; exact hb _ _ rfl
  ·rw [if_neg h1]; exact hb _ _ (decide_eq_true (by omega))
theorem wf_i {n : Int} (h : (Lit.int .i64 n).wf = true) : -9223372036854775808 ≤ n ∧ n ≤ 9223372036854775807 := by
 simp [Lit.wf, IntKind.min, IntKind.max, IntKind.bits, IntKind.signed] at h
 omega
theorem texts (c : Int) (o : ByteArray) (n : N5) (t : ByteArray) (hn : Fit n) : ∃ k, w2T.f k c o n.a n.b n.c n.d n.e t = some true := by
 obtain ⟨K, hK⟩ := dig_all5 n hn
 refine ⟨K + 50000000, ?_⟩
 generalize hk0 : K + 50000000 = k
 have hs := sure_c k (by omega)
 unfold w2T.f
 by_cases h1 : (o.size : Int) > 500
 ·rw [if_pos h1, hs]; rfl
 rw [if_neg h1]
 by_cases h2 : (t.size : Int) > 500
 ·rw [if_pos h2, hs]; rfl
 rw [if_neg h2]
 have hd : Dig n (K + 42000000) := ⟨fun m hm => hK.a m (by omega), fun m hm => hK.b m (by omega), fun m hm => hK.c m (by omega), fun m hm => hK.d m (by omega), fun m hm => hK.e m (by omega)⟩
 rw [text_f c o n t hn (by omega) (by omega) k (by omega), Option.bind_some, dtext_f (K + 42000000) (by omega) c o n t hn hd (by omega) (by omega) k (by omega), Option.bind_some, hs]
 rcases doc_text c o n t with ⟨s, e1, e2⟩ | ⟨e1, e2⟩
 ·rw [e1, e2]
  refine (if_pos rfl).trans ((if_pos rfl).trans ((if_pos rfl).trans ((if_pos rfl).trans rfl)))
 ·rw [e1, e2]
  refine (if_pos rfl).trans ((if_neg (by decide)).trans ((if_pos rfl).trans ((if_neg (by decide)).trans ?_)))
  rw [num_E, Option.bind_some]
  exact (if_pos rfl).trans rfl
end Go.Proofs.YtdakfmldbddokaaGreatDoor.PVal

/- The law of CommandTexts, about its plain reading. -/
namespace Go.Proofs.YtdakfmldbddokaaGreatDoor.Pure
open Go.RowKit Go.Proofs.YtdakfmldbddokaaGreatDoor.P Go.Proofs.YtdakfmldbddokaaGreatDoor.PVal Go.Proofs.YtdakfmldbddokaaGreatDoorW.PrintWords Go.Proofs.YtdakfmldbddokaaGreatDoorW.PrintLast
theorem CommandTexts : w2T.Pure := fun c o n0 n1 n2 n3 n4 t _ _ h0 h1 h2 h3 h4 _ => texts c o ⟨n0, n1, n2, n3, n4⟩ t ⟨(wf_i h0).1, (wf_i h0).2, (wf_i h1).1, (wf_i h1).2, (wf_i h2).1, (wf_i h2).2, (wf_i h3).1, (wf_i h3).2, (wf_i h4).1, (wf_i h4).2⟩
end Go.Proofs.YtdakfmldbddokaaGreatDoor.Pure
