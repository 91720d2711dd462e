/- Plain mathematics of texts: decimal numbers read back, parts between single bytes, parts joined again (out of XRuT, XRuJ by mk). -/
import Derived.Test.YtdakfmldbddokaaGreatDoorCmParts
import Derived.Lib.AtoiAllCases
import Derived.Lib.IndexBytes
import Derived.Lib.ItoaMem
import Derived.Test.YtdakfmldbddokaaGreatDoorPx7
set_option linter.unusedVariables false
set_option linter.unusedSimpArgs false
namespace Go.Proofs.YtdakfmldbddokaaGreatDoor.PClk
open Go.RowKit Go.Proofs.YtdakfmldbddokaaGreatDoor.P Go.Proofs.YtdakfmldbddokaaGreatDoorW.PrintWords Go.Proofs.YtdakfmldbddokaaGreatDoorW.PrintLast
/-! Decimal numbers. -/
theorem dig_toNat (d : Nat) (h : d < 10) : (UInt8.ofNat (48 + d)).toNat = 48 + d := by
  rw [UInt8.toNat_ofNat']
  omega
theorem dec_digit (n : Nat) : ∀ c ∈ Lib.decDigits n, 48 ≤ c.toNat ∧ c.toNat ≤ 57 := by
  induction n using Nat.strongRecOn with
  | _ n ih =>
    intro c hc
    rw [Lib.decDigits] at hc
    by_cases h : n < 10
    · rw [dif_pos h] at hc
      obtain rfl := List.mem_singleton.1 hc
      rw [dig_toNat n h]
      omega
    · rw [dif_neg h] at hc
      rcases List.mem_append.1 hc with hc | hc
      · exact ih (n / 10) (by omega) c hc
      · obtain rfl := List.mem_singleton.1 hc
        rw [dig_toNat _ (by omega)]
        omega
theorem dec_ne (n : Nat) : Lib.decDigits n ≠ [] := by
  rw [Lib.decDigits]
  by_cases h : n < 10
  · rw [dif_pos h]; simp
  · rw [dif_neg h]; simp
theorem pu_step (a d : Nat) (ha : a * 10 + d < 10000000000000000) (hd : d < 10) (r : List UInt8) : Lib.parseUint10 a (UInt8.ofNat (48 + d) :: r) = Lib.parseUint10 (a * 10 + d) r := by
  rw [Lib.parseUint10, dig_toNat d hd, if_pos (by omega), if_neg (by omega), if_neg (by omega), show 48 + d - 48 = d by omega]
theorem pu (n : Nat) : n < 1000000000000000 → ∀ r, Lib.parseUint10 0 (Lib.decDigits n ++ r) = Lib.parseUint10 n r := by
  induction n using Nat.strongRecOn with
  | _ n ih =>
    intro hn r
    rw [Lib.decDigits]
    by_cases h : n < 10
    · rw [dif_pos h]
      show Lib.parseUint10 0 (UInt8.ofNat (48 + n) :: r) = _
      rw [pu_step 0 n (by omega) h, Nat.zero_mul, Nat.zero_add]
    · rw [dif_neg h, List.append_assoc, ih (n / 10) (by omega) (by omega)]
      show Lib.parseUint10 (n / 10) (UInt8.ofNat (48 + n % 10) :: r) = _
      rw [pu_step (n / 10) (n % 10) (by omega) (by omega), show n / 10 * 10 + n % 10 = n by omega]
theorem mag_dec (n : Nat) (h : n < 1000000000000000) : Lib.parseMag (Lib.decDigits n) = .ok n := by
  unfold Lib.parseMag
  rw [if_neg (dec_ne n)]
  have := pu n h []
  rw [List.append_nil] at this
  rw [this, Lib.parseUint10]
theorem all_dec (n : Int) (h0 : -1000000000000000 < n) (h1 : n < 1000000000000000) : Lib.atoiAll (Lib.itoa n) = .ok n := by
  by_cases h : 0 ≤ n
  · obtain ⟨u, rfl⟩ := Int.eq_ofNat_of_zero_le h
    have hm := mag_dec u (by omega)
    rw [Lib.itoa_nonneg]
    have hd := dec_digit u
    obtain ⟨c, r, hcr⟩ : ∃ c r, Lib.decDigits u = c :: r := by
      cases hx : Lib.decDigits u with
      | nil => exact absurd hx (dec_ne u)
      | cons c r => exact ⟨c, r, rfl⟩
    rw [hcr] at hm hd ⊢
    have hc := hd c (by simp)
    rw [Lib.atoiAll_plain c r (by omega) (by omega), hm]
    show (if 9223372036854775808 ≤ u then (Lib.NumEnd.range : Lib.NumEnd Int) else .ok (u : Int)) = _
    rw [if_neg (by omega)]
  · obtain ⟨u, hu, rfl⟩ : ∃ u : Nat, 1 ≤ u ∧ n = -(u : Int) := ⟨n.natAbs, by omega, by omega⟩
    have hm := mag_dec u (by omega)
    rw [Lib.itoa_neg u hu, Lib.atoiAll_minus, hm]
    show (if 9223372036854775808 < u then (Lib.NumEnd.range : Lib.NumEnd Int) else .ok (-(u : Int))) = _
    rw [if_neg (by omega)]
theorem itoa_mem (n : Int) : ∀ c ∈ Lib.itoa n, (48 ≤ c.toNat ∧ c.toNat ≤ 57) ∨ (c = 45 ∧ n < 0) := by
  intro c hc
  by_cases h : 0 ≤ n
  · obtain ⟨u, rfl⟩ := Int.eq_ofNat_of_zero_le h
    rw [Lib.itoa_nonneg] at hc
    exact .inl (dec_digit u c hc)
  · obtain ⟨u, hu, rfl⟩ : ∃ u : Nat, 1 ≤ u ∧ n = -(u : Int) := ⟨n.natAbs, by omega, by omega⟩
    rw [Lib.itoa_neg u hu] at hc
    rcases List.mem_cons.1 hc with rfl | hc
    · exact .inr ⟨rfl, by omega⟩
    · exact .inl (dec_digit u c hc)
theorem itoa_blank (n : Int) : (32 : UInt8) ∉ Lib.itoa n := by
  intro h
  rcases itoa_mem n 32 h with ⟨h1, _⟩ | ⟨h1, _⟩
  · exact absurd h1 (by decide)
  · exact absurd h1 (by decide)
theorem itoa_dash (n : Int) (hn : 0 ≤ n) : (45 : UInt8) ∉ Lib.itoa n := by
  intro h
  rcases itoa_mem n 45 h with ⟨h1, _⟩ | ⟨_, h1⟩
  · exact absurd h1 (by decide)
  · omega
/-! Parts between single bytes. -/
theorem ix_notin (c : UInt8) : ∀ s : List UInt8, c ∉ s → Lib.index s [c] = -1 := by
  intro s h
  rw [Lib.index_one]
  induction s with
  | nil => rfl
  | cons b l ih =>
    have hb : ¬ b = c := fun e => h (by rw [e]; simp)
    have hl := ih (fun e => h (List.mem_cons_of_mem _ e))
    rw [Lib.indexByte, if_neg (by simpa using hb), hl]
    rfl
theorem ix_at (c : UInt8) (r : List UInt8) : ∀ a : List UInt8, c ∉ a → Lib.index (a ++ c :: r) [c] = (a.length : Int) := by
  intro a h
  rw [Lib.index_one]
  induction a with
  | nil => rw [List.nil_append, Lib.indexByte, if_pos (by simp)]; rfl
  | cons b l ih =>
    have hb : ¬ b = c := fun e => h (by rw [e]; simp)
    have hl := ih (fun e => h (List.mem_cons_of_mem _ e))
    rw [List.cons_append, Lib.indexByte, if_neg (by simpa using hb), hl, if_neg (by simp), List.length_cons]
    omega
theorem drop_at (c : UInt8) (a r : List UInt8) : (a ++ c :: r).drop (a.length + 1) = r := by
  rw [show a ++ c :: r = (a ++ [c]) ++ r by simp, List.drop_append_of_le_length (by simp)]
  simp
theorem split_one (c : UInt8) (s : List UInt8) (h : c ∉ s) : Lib.split s [c] = [s] := by
  unfold Lib.split
  rw [Lib.count_miss (ix_notin c s h)]
  rfl
theorem split_cons (c : UInt8) (a r : List UInt8) (h : c ∉ a) : Lib.split (a ++ c :: r) [c] = a :: Lib.split r [c] := by
  have hx := ix_at c r a h
  unfold Lib.split
  rw [Lib.count_hit (by simp) hx, show a.length + [c].length = a.length + 1 from rfl, drop_at, Nat.add_comm 1, Lib.splitK, hx, if_neg (by simp)]
  show (a ++ c :: r).take a.length :: Lib.splitK [c] 0 _ ((a ++ c :: r).drop (a.length + 1)) = _
  rw [drop_at]
  simp
theorem cut_at (c : UInt8) (a r : List UInt8) (h : c ∉ a) : Lib.cut (a ++ c :: r) [c] = (a, r, true) := by
  have hx := ix_at c r a h
  unfold Lib.cut
  rw [hx, if_pos (by omega)]
  show ((a ++ c :: r).take a.length, (a ++ c :: r).drop (a.length + 1), true) = _
  rw [drop_at]
  simp
theorem parts_data (s sep : ByteArray) : (parts s sep).map (·.data.toList) = Lib.split s.data.toList sep.data.toList := Lib.splitB_data sep 0 _ s
theorem first_at (c : UInt8) : ∀ l : List UInt8, c ∈ l → ∃ a r, l = a ++ c :: r ∧ c ∉ a
  | [], h => by cases h
  | d :: l, h => by
    by_cases g : d = c
    · exact ⟨[], l, by rw [g]; rfl, by simp⟩
    · have hl : c ∈ l := by
        rcases List.mem_cons.1 h with e | e
        · exact absurd e.symm g
        · exact e
      obtain ⟨a, r, e, hn⟩ := first_at c l hl
      refine ⟨d :: a, r, by rw [e]; rfl, fun hm => ?_⟩
      rcases List.mem_cons.1 hm with e2 | e2
      · exact g e2.symm
      · exact hn e2
theorem split_ne (c : UInt8) (l : List UInt8) : Lib.split l [c] ≠ [] := by
  by_cases h : c ∈ l
  · obtain ⟨a, r, rfl, hn⟩ := first_at c l h
    rw [split_cons c a r hn]
    simp
  · rw [split_one c l h]
    simp
theorem join_cons (a : List UInt8) (L : List (List UInt8)) (c : UInt8) (h : L ≠ []) : Lib.join (a :: L) [c] = a ++ c :: Lib.join L [c] := by
  cases L with
  | nil => exact absurd rfl h
  | cons b L => simp [Lib.join, List.intercalate]
/-- The parts, joined, are the text. -/
theorem join_split (c : UInt8) : ∀ (m : Nat) (l : List UInt8), l.length ≤ m → Lib.join (Lib.split l [c]) [c] = l
  | 0, l, h => by
    obtain rfl : l = [] := List.length_eq_zero_iff.1 (by omega)
    rw [split_one c [] (by simp)]
    simp [Lib.join, List.intercalate]
  | m + 1, l, h => by
    by_cases hc : c ∈ l
    · obtain ⟨a, r, rfl, hn⟩ := first_at c l hc
      rw [split_cons c a r hn, join_cons a _ c (split_ne c r), join_split c m r (by simp at h; omega)]
    · rw [split_one c l hc]
      simp [Lib.join, List.intercalate]
/-- No part holds the byte. -/
theorem split_free (c : UInt8) : ∀ (m : Nat) (l : List UInt8), l.length ≤ m → ∀ x ∈ Lib.split l [c], c ∉ x
  | 0, l, h => by
    obtain rfl : l = [] := List.length_eq_zero_iff.1 (by omega)
    rw [split_one c [] (by simp)]
    simp
  | m + 1, l, h => by
    by_cases hc : c ∈ l
    · obtain ⟨a, r, rfl, hn⟩ := first_at c l hc
      rw [split_cons c a r hn]
      intro x hx
      rcases List.mem_cons.1 hx with rfl | hx
      · exact hn
      · exact split_free c m r (by simp at h; omega) x hx
    · rw [split_one c l hc]
      intro x hx
      rw [List.mem_singleton.1 hx]
      exact hc
end Go.Proofs.YtdakfmldbddokaaGreatDoor.PClk

/- Plain mathematics of layer 20: what command.Parse does (written by tools/mk_cma.py). -/
set_option linter.unusedVariables false
set_option linter.unusedSimpArgs false
namespace Go.Proofs.YtdakfmldbddokaaGreatDoor.PClk
open Go Go.RowKit Go.Proofs.YtdakfmldbddokaaGreatDoor.P Go.Proofs.YtdakfmldbddokaaGreatDoorW.PrintWords Go.Proofs.YtdakfmldbddokaaGreatDoorW.PrintLast Go.Proofs.YtdakfmldbddokaaGreatDoorW.PrintMore
theorem w64c {x : Int} (h0 : -9223372036854775808 ≤ x) (h1 : x ≤ 9223372036854775807) : wrap64 x = x := by unfold wrap64; omega
theorem size_c (s : ByteArray) : s.size = s.data.toList.length := Array.length_toList.symm
theorem toList_c (s : ByteArray) : s.toList = s.data.toList := ByteArray.toList_eq ..
theorem ba_c {s : ByteArray} {l : List UInt8} (h : s.data.toList = l) : s = ⟨l.toArray⟩ := ByteArray.ext (by rw [← h])
theorem bt_c {s : ByteArray} {pre r : List UInt8} {d : UInt8} (h : s.data.toList = pre ++ d :: r) : bt s (pre.length : Int) = (d.toNat : Int) := by
  have hl : pre.length < s.data.toList.length := by rw [h]; simp
  have h2 : (pre.length : Int).toNat < s.size := by rw [size_c]; exact hl
  rw [← bt_at s (pre.length : Int) h2]
  have : s.data.toList[pre.length] = d := by simp [h]
  simp at this ⊢
  rw [← this]
  rfl
/-! Names. -/
def nmN (n : Nat) : Bool := decide (97 ≤ n ∧ n ≤ 122) || decide (65 ≤ n ∧ n ≤ 90) || decide (48 ≤ n ∧ n ≤ 57) || decide (n = 95) || decide (n = 45) || decide (n = 46)
def nm1 (c : UInt8) : Bool := nmN c.toNat
theorem nmN_f : ∀ n : Nat, n < 256 → block_Name_1.f (n : Int) = some (nmN n) := by decide +kernel
theorem nm1_f (c : UInt8) : block_Name_1.f (c.toNat : Int) = some (nm1 c) := nmN_f _ (UInt8.toNat_lt c)
def nameL (l : List UInt8) : Bool := l.all nm1 && (decide (1 ≤ l.length) && decide (l.length ≤ 32))
theorem all_l0 (s : ByteArray) (hs : s.size ≤ 1000000) : ∀ (rest pre : List UInt8) (k : Nat), s.data.toList = pre ++ rest → pre.all nm1 = true → rest.length + 1 ≤ k →
    block_all_at_1_block_Name_1_47.l0 k s (s.size : Int) (pre.length : Int) = some (nameL s.data.toList)
  | [], pre, k, h, ha, hk => by
    obtain ⟨k, rfl⟩ : ∃ m, k = m + 1 := ⟨k - 1, by simp at hk; omega⟩
    have hl : s.size = pre.length := by rw [size_c, h]; simp
    rw [block_all_at_1_block_Name_1_47.l0, if_neg (by omega)]
    rw [List.append_nil] at h
    unfold nameL
    rw [h, ha, ← hl]
    by_cases g : 1 ≤ s.size
    · rw [if_pos (by omega), decide_eq_true g, Bool.true_and, Bool.true_and]
      congr 1
      exact decide_eq_decide.2 (by omega)
    · rw [if_neg (by omega), decide_eq_false g]
      rfl
  | d :: rest, pre, k, h, ha, hk => by
    obtain ⟨k, rfl⟩ : ∃ m, k = m + 1 := ⟨k - 1, by simp at hk; omega⟩
    have hl : s.size = pre.length + (rest.length + 1) := by rw [size_c, h]; simp
    rw [block_all_at_1_block_Name_1_47.l0, if_pos (by omega), if_pos (by omega), if_pos (by omega), bt_c h, nm1_f, Option.bind_some]
    cases hd : nm1 d with
    | true =>
      rw [if_pos rfl, show wrap64 ((pre.length : Int) + 1) = ((pre ++ [d]).length : Int) by rw [w64c (by omega) (by omega)]; simp]
      exact all_l0 s hs rest (pre ++ [d]) k (by rw [h]; simp) (by rw [List.all_append, ha]; simp [hd]) (by simp at hk; omega)
    | false =>
      rw [if_neg (by decide)]
      unfold nameL
      rw [h, List.all_append, List.all_cons, hd]
      simp
theorem name_f (s : ByteArray) (hs : s.size ≤ 1000000) (k : Nat) (hk : s.size + 1 ≤ k) : block_Name.f k s = some (nameL s.data.toList) := by
  unfold block_Name.f block_all_at_1_block_Name_1_47.f
  have := all_l0 s hs s.data.toList [] k rfl rfl (by rw [← size_c]; exact hk)
  simp only [List.length_nil] at this
  rw [show (0 : Int) = ((0 : Nat) : Int) from rfl, this]
  rfl
theorem cut_len (c : UInt8) (l : List UInt8) : (Lib.cut l [c]).1.length ≤ l.length ∧ (Lib.cut l [c]).2.1.length ≤ l.length := by
  unfold Lib.cut
  split
  · simp only [List.length_take, List.length_drop]; omega
  · simp
def namedL (l : List UInt8) : Bool := nameL (Lib.cut l [47]).1 && (!(Lib.cut l [47]).2.2 || nameL (Lib.cut l [47]).2.1)
theorem mk_size (l : List UInt8) : (⟨l.toArray⟩ : ByteArray).size = l.length := by simp [ByteArray.size]
theorem named_f (s : ByteArray) (hs : s.size ≤ 1000000) (k : Nat) (hk : s.size + 1 ≤ k) : command_Named.f k s = some (namedL s.data.toList) := by
  have hc := cut_len 47 s.data.toList
  rw [← size_c] at hc
  unfold command_Named.f strings_Cut.f
  rw [if_pos (by omega), Option.bind_some]
  simp only []
  rw [name_f _ (by rw [mk_size]; omega) k (by rw [mk_size]; omega), Option.bind_some]
  unfold namedL
  cases h1 : nameL (Lib.cut s.data.toList [47]).1 with
  | false => simp [h1]
  | true =>
    rw [if_pos rfl]
    cases h2 : (Lib.cut s.data.toList [47]).2.2 with
    | false => rw [if_neg (by simp)]; rfl
    | true =>
      rw [if_pos rfl, name_f _ (by rw [mk_size]; omega) k (by rw [mk_size]; omega)]
      rfl
/-! Steps of Parse's loop. -/
abbrev Res := Int × ByteArray × Int × Int × Int × Int × Int × ByteArray × Option Int
def badP (e : Int) : Res := (0, (⟨#[]⟩ : ByteArray), 0, 0, 0, 0, 0, (⟨#[]⟩ : ByteArray), some e)
theorem st_obj (k : Nat) (l : List ByteArray) (a : Int) (ks : List Int) (n i c : Int) (o : ByteArray) (n0 n1 n2 n3 n4 : Int) (t : ByteArray) (h0 : 0 ≤ i) (hi : i < n) (hk : i < (ks.length : Int)) (hl : i < (l.length : Int)) (k0 : rd ks i = 0) (hs : (rdOf ByteArray.empty l i).size ≤ 1000000) (hkk : (rdOf ByteArray.empty l i).size + 1 ≤ k) :
    command_Parse.l0 (k + 1) l a ks n i c o n0 n1 n2 n3 n4 t = if namedL (rdOf ByteArray.empty l i).data.toList = true then command_Parse.l0 k l a ks n (wrap64 (i + 1)) c (rdOf ByteArray.empty l i) n0 n1 n2 n3 n4 t else some (badP 11) := by
  rw [command_Parse.l0, if_pos hi, if_pos h0, if_pos hk, if_pos k0, if_pos hl, named_f _ hs k hkk, Option.bind_some]
  rfl
theorem st_text (k : Nat) (l : List ByteArray) (a : Int) (ks : List Int) (n i c : Int) (o : ByteArray) (n0 n1 n2 n3 n4 : Int) (t : ByteArray) (h0 : 0 ≤ i) (hi : i < n) (hk : i < (ks.length : Int)) (hl : i < (l.length : Int)) (k9 : rd ks i = 9) :
    command_Parse.l0 (k + 1) l a ks n i c o n0 n1 n2 n3 n4 t = command_Parse.l0 k l a ks n (wrap64 (i + 1)) c o n0 n1 n2 n3 n4 (rdOf ByteArray.empty l i) := by
  rw [command_Parse.l0, if_pos hi, if_pos h0, if_pos hk, if_neg (by rw [k9]; decide), if_pos k9, if_pos hl]
theorem st_end (k : Nat) (l : List ByteArray) (a : Int) (ks : List Int) (n i c : Int) (o : ByteArray) (n0 n1 n2 n3 n4 : Int) (t : ByteArray) (hi : ¬ i < n) :
    command_Parse.l0 (k + 1) l a ks n i c o n0 n1 n2 n3 n4 t = some (if c = 1 ∧ n0 ≥ n1 then badP 5 else (c, o, n0, n1, n2, n3, n4, t, none)) := by
  rw [command_Parse.l0, if_neg hi]
  by_cases hc : c = 1
  · rw [if_pos hc]
    by_cases h : n0 ≥ n1
    · rw [if_pos h, if_pos ⟨hc, h⟩]; rfl
    · rw [if_neg h, if_neg (fun q => h q.2)]
  · rw [if_neg hc, if_neg (fun q => hc q.1)]
theorem st_num0 (k : Nat) (l : List ByteArray) (ks : List Int) (n i c : Int) (o : ByteArray) (n0 n1 n2 n3 n4 : Int) (t : ByteArray) (r : Int × Option Int) (h0 : 0 ≤ i) (hi : i < n) (hk : i < (ks.length : Int)) (hl : i < (l.length : Int)) (k0 : ¬ rd ks i = 0) (k9 : ¬ rd ks i = 9) (hr : command_kind_read.f k (rd ks i) (rdOf ByteArray.empty l i) = some r) :
    command_Parse.l0 (k + 1) l 0 ks n i c o n0 n1 n2 n3 n4 t = if r.2.isNone = true then command_Parse.l0 k l 1 ks n (wrap64 (i + 1)) c o r.1 n1 n2 n3 n4 t else some (badP (r.2.getD 0)) := by
  rw [command_Parse.l0, if_pos hi, if_pos h0, if_pos hk, if_neg k0, if_neg k9, if_pos hl, hr, Option.bind_some]
  rw [if_pos rfl, w64c (x := (0 : Int) + 1) (by decide) (by decide)]
  rfl
theorem st_num1 (k : Nat) (l : List ByteArray) (ks : List Int) (n i c : Int) (o : ByteArray) (n0 n1 n2 n3 n4 : Int) (t : ByteArray) (r : Int × Option Int) (h0 : 0 ≤ i) (hi : i < n) (hk : i < (ks.length : Int)) (hl : i < (l.length : Int)) (k0 : ¬ rd ks i = 0) (k9 : ¬ rd ks i = 9) (hr : command_kind_read.f k (rd ks i) (rdOf ByteArray.empty l i) = some r) :
    command_Parse.l0 (k + 1) l 1 ks n i c o n0 n1 n2 n3 n4 t = if r.2.isNone = true then command_Parse.l0 k l 2 ks n (wrap64 (i + 1)) c o n0 r.1 n2 n3 n4 t else some (badP (r.2.getD 0)) := by
  rw [command_Parse.l0, if_pos hi, if_pos h0, if_pos hk, if_neg k0, if_neg k9, if_pos hl, hr, Option.bind_some]
  rw [if_neg (show ¬ (1 : Int) = 0 by decide)]; rw [if_pos rfl, w64c (x := (1 : Int) + 1) (by decide) (by decide)]
  rfl
theorem st_num2 (k : Nat) (l : List ByteArray) (ks : List Int) (n i c : Int) (o : ByteArray) (n0 n1 n2 n3 n4 : Int) (t : ByteArray) (r : Int × Option Int) (h0 : 0 ≤ i) (hi : i < n) (hk : i < (ks.length : Int)) (hl : i < (l.length : Int)) (k0 : ¬ rd ks i = 0) (k9 : ¬ rd ks i = 9) (hr : command_kind_read.f k (rd ks i) (rdOf ByteArray.empty l i) = some r) :
    command_Parse.l0 (k + 1) l 2 ks n i c o n0 n1 n2 n3 n4 t = if r.2.isNone = true then command_Parse.l0 k l 3 ks n (wrap64 (i + 1)) c o n0 n1 r.1 n3 n4 t else some (badP (r.2.getD 0)) := by
  rw [command_Parse.l0, if_pos hi, if_pos h0, if_pos hk, if_neg k0, if_neg k9, if_pos hl, hr, Option.bind_some]
  rw [if_neg (show ¬ (2 : Int) = 0 by decide)]; rw [if_neg (show ¬ (2 : Int) = 1 by decide)]; rw [if_pos rfl, w64c (x := (2 : Int) + 1) (by decide) (by decide)]
  rfl
theorem st_num3 (k : Nat) (l : List ByteArray) (ks : List Int) (n i c : Int) (o : ByteArray) (n0 n1 n2 n3 n4 : Int) (t : ByteArray) (r : Int × Option Int) (h0 : 0 ≤ i) (hi : i < n) (hk : i < (ks.length : Int)) (hl : i < (l.length : Int)) (k0 : ¬ rd ks i = 0) (k9 : ¬ rd ks i = 9) (hr : command_kind_read.f k (rd ks i) (rdOf ByteArray.empty l i) = some r) :
    command_Parse.l0 (k + 1) l 3 ks n i c o n0 n1 n2 n3 n4 t = if r.2.isNone = true then command_Parse.l0 k l 4 ks n (wrap64 (i + 1)) c o n0 n1 n2 r.1 n4 t else some (badP (r.2.getD 0)) := by
  rw [command_Parse.l0, if_pos hi, if_pos h0, if_pos hk, if_neg k0, if_neg k9, if_pos hl, hr, Option.bind_some]
  rw [if_neg (show ¬ (3 : Int) = 0 by decide)]; rw [if_neg (show ¬ (3 : Int) = 1 by decide)]; rw [if_neg (show ¬ (3 : Int) = 2 by decide)]; rw [if_pos rfl, w64c (x := (3 : Int) + 1) (by decide) (by decide)]
  rfl
theorem st_num4 (k : Nat) (l : List ByteArray) (ks : List Int) (n i c : Int) (o : ByteArray) (n0 n1 n2 n3 n4 : Int) (t : ByteArray) (r : Int × Option Int) (h0 : 0 ≤ i) (hi : i < n) (hk : i < (ks.length : Int)) (hl : i < (l.length : Int)) (k0 : ¬ rd ks i = 0) (k9 : ¬ rd ks i = 9) (hr : command_kind_read.f k (rd ks i) (rdOf ByteArray.empty l i) = some r) :
    command_Parse.l0 (k + 1) l 4 ks n i c o n0 n1 n2 n3 n4 t = if r.2.isNone = true then command_Parse.l0 k l 5 ks n (wrap64 (i + 1)) c o n0 n1 n2 n3 r.1 t else some (badP (r.2.getD 0)) := by
  rw [command_Parse.l0, if_pos hi, if_pos h0, if_pos hk, if_neg k0, if_neg k9, if_pos hl, hr, Option.bind_some]
  rw [if_neg (show ¬ (4 : Int) = 0 by decide)]; rw [if_neg (show ¬ (4 : Int) = 1 by decide)]; rw [if_neg (show ¬ (4 : Int) = 2 by decide)]; rw [if_neg (show ¬ (4 : Int) = 3 by decide)]; rw [if_pos rfl, w64c (x := (4 : Int) + 1) (by decide) (by decide)]
  rfl
/-! The words. -/
theorem code_next (a : ByteArray) (j : Nat) (hj : j < 10) (h : ¬ (0 < j ∧ wordList.getD j ByteArray.empty = a)) : codeFrom a j = codeFrom a (j + 1) := by rw [codeFrom, if_pos hj, if_neg h]
theorem code_here (a : ByteArray) (j : Nat) (hj : j < 10) (h : 0 < j ∧ wordList.getD j ByteArray.empty = a) : codeFrom a j = j := by rw [codeFrom, if_pos hj, if_pos h]
theorem words_inj : ∀ i : Nat, i < 10 → ∀ j : Nat, j < 10 → (wordList.getD i ByteArray.empty).data.toList = (wordList.getD j ByteArray.empty).data.toList → i = j := by decide +kernel
theorem code_of (i : Nat) (h0 : 0 < i) (h1 : i < 10) : ∀ (m j : Nat), j + m = i → codeFrom (wordList.getD i ByteArray.empty) j = i
  | 0, j, e => by
    obtain rfl : j = i := e
    exact code_here _ _ h1 ⟨h0, rfl⟩
  | m + 1, j, e => by
    rw [code_next _ j (by omega) (fun q => by have := words_inj j (by omega) i h1 (by rw [q.2]); omega)]
    exact code_of i h0 h1 m (j + 1) (by omega)
theorem code_bad (a : ByteArray) (h : ∀ i : Nat, 0 < i → i < 10 → wordList.getD i ByteArray.empty ≠ a) : ∀ (m j : Nat), j + m = 10 → codeFrom a j = 0
  | 0, j, e => by
    rw [codeFrom, if_neg (by omega)]
  | m + 1, j, e => by
    rw [code_next _ j (by omega) (fun q => h j q.1 (by omega) q.2)]
    exact code_bad a h m (j + 1) (by omega)
theorem code_word (i : Nat) (h0 : 0 < i) (h1 : i < 10) : command_code.f (wordList.getD i ByteArray.empty) = some (i : Int) := by
  unfold command_code.f
  rw [code_of i h0 h1 i 0 (Nat.zero_add _)]
def kindsOf (c : Int) : List Int := if c = 1 then [0, 3, 3, 1, 4, 2] else if c = 2 then [5] else if c = 3 then [0, 1] else if c = 4 then [0] else if c = 5 then [0, 6] else if c = 6 then [0, 6] else if c = 7 then [0, 3] else if c = 8 then [0, 7, 9] else if c = 9 then [0, 8, 9] else []
theorem kinds_f (k : Nat) (c : Int) : command_fields.f (k + 1) c = some (kindsOf c) := by
  unfold command_fields.f kindsOf
  by_cases h1 : c = 1
  · rw [if_pos h1, if_pos h1]
  rw [if_neg h1, if_neg h1]
  by_cases h2 : c = 2
  · rw [if_pos h2, if_pos h2]
  rw [if_neg h2, if_neg h2]
  by_cases h3 : c = 3
  · rw [if_pos h3, if_pos h3]
  rw [if_neg h3, if_neg h3]
  by_cases h4 : c = 4
  · rw [if_pos h4, if_pos h4]
  rw [if_neg h4, if_neg h4]
  by_cases h5 : c = 5
  · rw [if_pos h5, if_pos h5, command_fields.j0, if_pos (by simp [h5])]
  rw [if_neg h5, if_neg h5]
  by_cases h6 : c = 6
  · rw [if_pos h6, command_fields.j0, if_pos (by simp [h6])]
  rw [if_neg h6, command_fields.j0, if_neg (by simp [h6])]
  by_cases h7 : c = 7
  · rw [if_pos h7, if_pos h7]
  rw [if_neg h7, if_neg h7]
  by_cases h8 : c = 8
  · rw [if_pos h8, if_pos h8]
  rw [if_neg h8, if_neg h8]
  by_cases h9 : c = 9
  · rw [if_pos h9, if_pos h9]
  rw [if_neg h9, if_neg h9]
/-! The fields. -/
theorem join_drop (c : UInt8) : ∀ (n : Nat) (L : List (List UInt8)), (Lib.join (L.drop n) [c]).length ≤ (Lib.join L [c]).length
  | 0, L => Nat.le_refl _
  | n + 1, [] => by simp
  | n + 1, a :: L => by
    rw [List.drop_succ_cons]
    refine Nat.le_trans (join_drop c n L) ?_
    by_cases hL : L = []
    · subst hL; simp [Lib.join, List.intercalate]
    · rw [join_cons a L c hL]
      simp
      omega
theorem parts_join (s : ByteArray) : Lib.join ((parts s semi).map (·.data.toList)) [59] = s.data.toList := by
  rw [parts_data]
  exact join_split 59 _ _ (Nat.le_refl _)
theorem last_size (s : ByteArray) (b : Bool) (n : Nat) : (lastText (fieldRow s b) n).size ≤ s.size := by
  unfold lastText fieldRow
  rw [mk_size]
  cases b with
  | false => simp [Lib.join, List.intercalate]
  | true =>
    rw [if_pos rfl, List.map_drop]
    refine Nat.le_trans (join_drop 59 _ _) ?_
    rw [parts_join, size_c]
    exact Nat.le_refl _
theorem kinds_last (c : Int) : ((kindsOf c).getD ((kindsOf c).length - 1) 0 = 9 → (kindsOf c).length = 3) ∧ (kindsOf c).length ≤ 1000 ∧ (1 ≤ c → c ≤ 9 → 1 ≤ (kindsOf c).length) := by
  unfold kindsOf
  by_cases h1 : c = 1
  · rw [if_pos h1]; exact ⟨by decide, by decide, fun _ _ => by decide⟩
  rw [if_neg h1]
  by_cases h2 : c = 2
  · rw [if_pos h2]; exact ⟨by decide, by decide, fun _ _ => by decide⟩
  rw [if_neg h2]
  by_cases h3 : c = 3
  · rw [if_pos h3]; exact ⟨by decide, by decide, fun _ _ => by decide⟩
  rw [if_neg h3]
  by_cases h4 : c = 4
  · rw [if_pos h4]; exact ⟨by decide, by decide, fun _ _ => by decide⟩
  rw [if_neg h4]
  by_cases h5 : c = 5
  · rw [if_pos h5]; exact ⟨by decide, by decide, fun _ _ => by decide⟩
  rw [if_neg h5]
  by_cases h6 : c = 6
  · rw [if_pos h6]; exact ⟨by decide, by decide, fun _ _ => by decide⟩
  rw [if_neg h6]
  by_cases h7 : c = 7
  · rw [if_pos h7]; exact ⟨by decide, by decide, fun _ _ => by decide⟩
  rw [if_neg h7]
  by_cases h8 : c = 8
  · rw [if_pos h8]; exact ⟨by decide, by decide, fun _ _ => by decide⟩
  rw [if_neg h8]
  by_cases h9 : c = 9
  · rw [if_pos h9]; exact ⟨by decide, by decide, fun _ _ => by decide⟩
  rw [if_neg h9]
  refine ⟨by decide, by decide, fun a b => ?_⟩
  omega
theorem parts_ok (s : ByteArray) (b : Bool) (c : Int) (hs : s.size ≤ 4096) (h0 : 1 ≤ c) (h1 : c ≤ 9) : command_parts.f s b (kindsOf c) = some (partsOf s b (kindsOf c)) := by
  unfold command_parts.f
  have h := kinds_last c
  have h2 := last_size s b (kindsOf c).length
  rw [if_pos ⟨hs, h.2.2 h0 h1, h.2.1, h.1, by omega⟩]
/-- What Parse does ahead of its loop. -/
theorem parse_top (k : Nat) (s : ByteArray) (hs : s.size ≤ 4096) (c : Nat) (hc : command_code.f ⟨(Lib.cut s.data.toList [59]).1.toArray⟩ = some (c : Int)) (h9 : c ≤ 9) :
    command_Parse.f (k + 1) s = if c = 0 then some (badP 12) else match partsOf ⟨(Lib.cut s.data.toList [59]).2.1.toArray⟩ (Lib.cut s.data.toList [59]).2.2 (kindsOf c) with
      | (_, some e) => some (badP e)
      | (l, none) => command_Parse.l0 (k + 1) l 0 (kindsOf c) ((kindsOf c).length : Int) 0 c (⟨#[]⟩ : ByteArray) 0 0 0 0 0 (⟨#[]⟩ : ByteArray) := by
  have hl := cut_len 59 s.data.toList
  rw [← size_c] at hl
  unfold command_Parse.f
  rw [if_neg (by omega)]
  unfold strings_Cut.f
  rw [if_pos (by omega), Option.bind_some]
  simp only []
  rw [hc, Option.bind_some]
  by_cases h0 : c = 0
  · rw [if_pos (by omega), if_pos h0]; rfl
  · rw [if_neg (by omega), if_neg h0, kinds_f, Option.bind_some, parts_ok _ _ _ (by rw [mk_size]; omega) (by omega) (by omega), Option.bind_some]
    generalize partsOf ⟨(Lib.cut s.data.toList [59]).2.1.toArray⟩ (Lib.cut s.data.toList [59]).2.2 (kindsOf c) = p
    obtain ⟨l, e⟩ := p
    cases e with
    | none => rfl
    | some e => rfl
end Go.Proofs.YtdakfmldbddokaaGreatDoor.PClk
