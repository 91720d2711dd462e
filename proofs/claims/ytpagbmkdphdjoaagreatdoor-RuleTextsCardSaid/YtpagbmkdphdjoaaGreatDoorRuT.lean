/- Plain mathematics of texts: decimal numbers read back, parts between single bytes. -/
import Derived.Test.YtpagbmkdphdjoaaGreatDoorRuNum
import Derived.Lib.AtoiAllCases
import Derived.Lib.IndexBytes
import Derived.Lib.ItoaMem
import Derived.Test.YtpagbmkdphdjoaaGreatDoorRuAll
set_option linter.unusedVariables false
set_option linter.unusedSimpArgs false
namespace Go.Proofs.YtpagbmkdphdjoaaGreatDoor.PClk
open Go.RowKit Go.Proofs.YtpagbmkdphdjoaaGreatDoor.P Go.Proofs.YtpagbmkdphdjoaaGreatDoorW.PrintWords Go.Proofs.YtpagbmkdphdjoaaGreatDoorW.PrintLast
/-! Decimal numbers. -/
theorem dig_toNat (d : Nat) (h : d < 10) : (UInt8.ofNat (48 + d)).toNat = 48 + d := by
  rw [UInt8.toNat_ofNat']
  omega
theorem dec_digit (n : Nat) : ∀ c ∈ Lib.decDigits n, 48 ≤ c.toNat ∧ c.toNat ≤ 57 := by
  induction n using Nat.strongRecOn with
  | _ n ih =>
    intro c hc
    rw [Lib.decDigits] at hc
    by_cases h : n < 10
    · rw [dif_pos h] at hc
      obtain rfl := List.mem_singleton.1 hc
      rw [dig_toNat n h]
      omega
    · rw [dif_neg h] at hc
      rcases List.mem_append.1 hc with hc | hc
      · exact ih (n / 10) (by omega) c hc
      · obtain rfl := List.mem_singleton.1 hc
        rw [dig_toNat _ (by omega)]
        omega
theorem dec_ne (n : Nat) : Lib.decDigits n ≠ [] := by
  rw [Lib.decDigits]
  by_cases h : n < 10
  · rw [dif_pos h]; simp
  · rw [dif_neg h]; simp
theorem pu_step (a d : Nat) (ha : a * 10 + d < 10000000000000000) (hd : d < 10) (r : List UInt8) : Lib.parseUint10 a (UInt8.ofNat (48 + d) :: r) = Lib.parseUint10 (a * 10 + d) r := by
  rw [Lib.parseUint10, dig_toNat d hd, if_pos (by omega), if_neg (by omega), if_neg (by omega), show 48 + d - 48 = d by omega]
theorem pu (n : Nat) : n < 1000000000000000 → ∀ r, Lib.parseUint10 0 (Lib.decDigits n ++ r) = Lib.parseUint10 n r := by
  induction n using Nat.strongRecOn with
  | _ n ih =>
    intro hn r
    rw [Lib.decDigits]
    by_cases h : n < 10
    · rw [dif_pos h]
      show Lib.parseUint10 0 (UInt8.ofNat (48 + n) :: r) = _
      rw [pu_step 0 n (by omega) h, Nat.zero_mul, Nat.zero_add]
    · rw [dif_neg h, List.append_assoc, ih (n / 10) (by omega) (by omega)]
      show Lib.parseUint10 (n / 10) (UInt8.ofNat (48 + n % 10) :: r) = _
      rw [pu_step (n / 10) (n % 10) (by omega) (by omega), show n / 10 * 10 + n % 10 = n by omega]
theorem mag_dec (n : Nat) (h : n < 1000000000000000) : Lib.parseMag (Lib.decDigits n) = .ok n := by
  unfold Lib.parseMag
  rw [if_neg (dec_ne n)]
  have := pu n h []
  rw [List.append_nil] at this
  rw [this, Lib.parseUint10]
theorem all_dec (n : Int) (h0 : -1000000000000000 < n) (h1 : n < 1000000000000000) : Lib.atoiAll (Lib.itoa n) = .ok n := by
  by_cases h : 0 ≤ n
  · obtain ⟨u, rfl⟩ := Int.eq_ofNat_of_zero_le h
    have hm := mag_dec u (by omega)
    rw [Lib.itoa_nonneg]
    have hd := dec_digit u
    obtain ⟨c, r, hcr⟩ : ∃ c r, Lib.decDigits u = c :: r := by
      cases hx : Lib.decDigits u with
      | nil => exact absurd hx (dec_ne u)
      | cons c r => exact ⟨c, r, rfl⟩
    rw [hcr] at hm hd ⊢
    have hc := hd c (by simp)
    rw [Lib.atoiAll_plain c r (by omega) (by omega), hm]
    show (if 9223372036854775808 ≤ u then (Lib.NumEnd.range : Lib.NumEnd Int) else .ok (u : Int)) = _
    rw [if_neg (by omega)]
  · obtain ⟨u, hu, rfl⟩ : ∃ u : Nat, 1 ≤ u ∧ n = -(u : Int) := ⟨n.natAbs, by omega, by omega⟩
    have hm := mag_dec u (by omega)
    rw [Lib.itoa_neg u hu, Lib.atoiAll_minus, hm]
    show (if 9223372036854775808 < u then (Lib.NumEnd.range : Lib.NumEnd Int) else .ok (-(u : Int))) = _
    rw [if_neg (by omega)]
theorem atoiV_itoa (n : Int) (h0 : -1000000000000000 < n) (h1 : n < 1000000000000000) : atoiV (Lib.itoa n) = n := by
  unfold atoiV
  rw [all_dec n h0 h1]
theorem itoa_mem (n : Int) : ∀ c ∈ Lib.itoa n, (48 ≤ c.toNat ∧ c.toNat ≤ 57) ∨ (c = 45 ∧ n < 0) := by
  intro c hc
  by_cases h : 0 ≤ n
  · obtain ⟨u, rfl⟩ := Int.eq_ofNat_of_zero_le h
    rw [Lib.itoa_nonneg] at hc
    exact .inl (dec_digit u c hc)
  · obtain ⟨u, hu, rfl⟩ : ∃ u : Nat, 1 ≤ u ∧ n = -(u : Int) := ⟨n.natAbs, by omega, by omega⟩
    rw [Lib.itoa_neg u hu] at hc
    rcases List.mem_cons.1 hc with rfl | hc
    · exact .inr ⟨rfl, by omega⟩
    · exact .inl (dec_digit u c hc)
theorem itoa_blank (n : Int) : (32 : UInt8) ∉ Lib.itoa n := by
  intro h
  rcases itoa_mem n 32 h with ⟨h1, _⟩ | ⟨h1, _⟩
  · exact absurd h1 (by decide)
  · exact absurd h1 (by decide)
theorem itoa_dash (n : Int) (hn : 0 ≤ n) : (45 : UInt8) ∉ Lib.itoa n := by
  intro h
  rcases itoa_mem n 45 h with ⟨h1, _⟩ | ⟨_, h1⟩
  · exact absurd h1 (by decide)
  · omega
/-! Parts between single bytes. -/
theorem ix_notin (c : UInt8) : ∀ s : List UInt8, c ∉ s → Lib.index s [c] = -1 := by
  intro s h
  rw [Lib.index_one]
  induction s with
  | nil => rfl
  | cons b l ih =>
    have hb : ¬ b = c := fun e => h (by rw [e]; simp)
    have hl := ih (fun e => h (List.mem_cons_of_mem _ e))
    rw [Lib.indexByte, if_neg (by simpa using hb), hl]
    rfl
theorem ix_at (c : UInt8) (r : List UInt8) : ∀ a : List UInt8, c ∉ a → Lib.index (a ++ c :: r) [c] = (a.length : Int) := by
  intro a h
  rw [Lib.index_one]
  induction a with
  | nil => rw [List.nil_append, Lib.indexByte, if_pos (by simp)]; rfl
  | cons b l ih =>
    have hb : ¬ b = c := fun e => h (by rw [e]; simp)
    have hl := ih (fun e => h (List.mem_cons_of_mem _ e))
    rw [List.cons_append, Lib.indexByte, if_neg (by simpa using hb), hl, if_neg (by simp), List.length_cons]
    omega
theorem drop_at (c : UInt8) (a r : List UInt8) : (a ++ c :: r).drop (a.length + 1) = r := by
  rw [show a ++ c :: r = (a ++ [c]) ++ r by simp, List.drop_append_of_le_length (by simp)]
  simp
theorem split_one (c : UInt8) (s : List UInt8) (h : c ∉ s) : Lib.split s [c] = [s] := by
  unfold Lib.split
  rw [Lib.count_miss (ix_notin c s h)]
  rfl
theorem split_cons (c : UInt8) (a r : List UInt8) (h : c ∉ a) : Lib.split (a ++ c :: r) [c] = a :: Lib.split r [c] := by
  have hx := ix_at c r a h
  unfold Lib.split
  rw [Lib.count_hit (by simp) hx, show a.length + [c].length = a.length + 1 from rfl, drop_at, Nat.add_comm 1, Lib.splitK, hx, if_neg (by simp)]
  show (a ++ c :: r).take a.length :: Lib.splitK [c] 0 _ ((a ++ c :: r).drop (a.length + 1)) = _
  rw [drop_at]
  simp
theorem cut_at (c : UInt8) (a r : List UInt8) (h : c ∉ a) : Lib.cut (a ++ c :: r) [c] = (a, r, true) := by
  have hx := ix_at c r a h
  unfold Lib.cut
  rw [hx, if_pos (by omega)]
  show ((a ++ c :: r).take a.length, (a ++ c :: r).drop (a.length + 1), true) = _
  rw [drop_at]
  simp
theorem parts_data (s sep : ByteArray) : (parts s sep).map (·.data.toList) = Lib.split s.data.toList sep.data.toList := Lib.splitB_data sep 0 _ s
theorem nv_of (s sep : ByteArray) (l : List (List UInt8)) (h : Lib.split s.data.toList sep.data.toList = l) (j : Nat) : nv (parts s sep) j = (match l[j]? with | some x => atoiV x | none => 0) := by
  rw [← h, ← parts_data, List.getElem?_map]
  unfold nv
  cases (parts s sep)[j]? <;> rfl
end Go.Proofs.YtpagbmkdphdjoaaGreatDoor.PClk

/- Plain mathematics of RuleTexts: the document's digits are the decimal ones. -/
set_option linter.unusedVariables false
set_option linter.unusedSimpArgs false
namespace Go.Proofs.YtpagbmkdphdjoaaGreatDoor.PClk
open Go.RowKit Go.Proofs.YtpagbmkdphdjoaaGreatDoor.P Go.Proofs.YtpagbmkdphdjoaaGreatDoorW.PrintWords Go.Proofs.YtpagbmkdphdjoaaGreatDoorW.PrintLast Go.Proofs.YtpagbmkdphdjoaaGreatDoorW.PrintMore
theorem w64d {x : Int} (h0 : -9223372036854775808 ≤ x) (h1 : x ≤ 9223372036854775807) : wrap64 x = x := by unfold wrap64; omega
theorem ten (d : Nat) (h : d < 10) : (⟨#[48, 49, 50, 51, 52, 53, 54, 55, 56, 57]⟩ : ByteArray).extract d (d + 1) = ⟨#[UInt8.ofNat (48 + d)]⟩ := by
  have hc : d = 0 ∨ d = 1 ∨ d = 2 ∨ d = 3 ∨ d = 4 ∨ d = 5 ∨ d = 6 ∨ d = 7 ∨ d = 8 ∨ d = 9 := by omega
  rcases hc with rfl | rfl | rfl | rfl | rfl | rfl | rfl | rfl | rfl | rfl <;> decide +kernel
/-- One round: the last digit ahead. -/
theorem dig_round (n : Nat) (s : ByteArray) (hn : n < 1000000000000000) (hs : s.size ≤ 1000) (k : Nat) (hc : 0 < n ∨ s.toList = []) : r6_digits.l0 (k + 1) (n : Int) s = r6_digits.l0 k ((n / 10 : Nat) : Int) (⟨#[UInt8.ofNat (48 + n % 10)]⟩ ++ s) := by
  have t1 : Int.tmod (n : Int) 10 = ((n % 10 : Nat) : Int) := by rw [Int.tmod_eq_emod_of_nonneg (Int.natCast_nonneg n)]; omega
  have t2 : Int.tdiv (n : Int) 10 = ((n / 10 : Nat) : Int) := by rw [Int.tdiv_eq_ediv_of_nonneg (Int.natCast_nonneg n)]; omega
  have w1 : wrap64 (((n % 10 : Nat) : Int) + 1) = ((n % 10 + 1 : Nat) : Int) := by rw [w64d (by omega) (by omega)]; omega
  have w2 : wrap64 ((n / 10 : Nat) : Int) = ((n / 10 : Nat) : Int) := w64d (by omega) (by omega)
  have hx : (⟨#[48, 49, 50, 51, 52, 53, 54, 55, 56, 57]⟩ : ByteArray).extract (((n % 10 : Nat) : Int)).toNat (((n % 10 + 1 : Nat) : Int)).toNat = ⟨#[UInt8.ofNat (48 + n % 10)]⟩ := ten (n % 10) (by omega)
  have hz : (⟨#[UInt8.ofNat (48 + n % 10)]⟩ : ByteArray).size + s.size ≤ 9223372036854775807 := by
    show 1 + s.size ≤ _
    omega
  rw [r6_digits.l0]
  by_cases h : (n : Int) > 0
  · rw [if_pos h, t1, t2, w1, w2, if_pos (by omega), if_pos (by omega), if_pos (by omega), hx, if_pos hz]
  · rw [if_neg h, if_pos (hc.resolve_left (by omega)), t1, t2, w1, w2, if_pos (by omega), if_pos (by omega), if_pos (by omega), hx, if_pos hz]
theorem dig_end (s : ByteArray) (k : Nat) (hc : s.toList ≠ []) : r6_digits.l0 (k + 1) 0 s = some s := by
  rw [r6_digits.l0, if_neg (by decide), if_neg hc]
theorem one_app (c : UInt8) (s : ByteArray) : (⟨#[c]⟩ ++ s : ByteArray).data.toList = c :: s.data.toList := by simp
theorem one_ne (c : UInt8) (s : ByteArray) : (⟨#[c]⟩ ++ s : ByteArray).toList ≠ [] := by
  rw [ByteArray.toList_eq, one_app]
  simp
theorem mk_list (s : ByteArray) (l : List UInt8) (h : s.data.toList = l) : s = ⟨l.toArray⟩ := by
  cases s with
  | mk d => rw [← h]
theorem dig_all (n : Nat) : 0 < n → n < 1000000000000000 → ∀ s : ByteArray, s.size + (Lib.decDigits n).length ≤ 1000 → ∃ k, r6_digits.l0 k (n : Int) s = some ⟨(Lib.decDigits n ++ s.data.toList).toArray⟩ := by
  induction n using Nat.strongRecOn with
  | _ n ih =>
    intro h0 hn s hs
    by_cases h : n < 10
    · refine ⟨1 + 1, ?_⟩
      rw [dig_round n s hn (by omega) 1 (.inl h0), show n / 10 = 0 by omega]
      refine (dig_end _ 0 (one_ne _ _)).trans ?_
      congr 1
      refine mk_list _ _ ?_
      rw [one_app, Lib.decDigits, dif_pos h, show n % 10 = n by omega]
      rfl
    · have e : Lib.decDigits n = Lib.decDigits (n / 10) ++ [UInt8.ofNat (48 + n % 10)] := by
        conv => lhs; rw [Lib.decDigits]
        rw [dif_neg h]
      rw [e, List.length_append] at hs
      have hsz : (⟨#[UInt8.ofNat (48 + n % 10)]⟩ ++ s : ByteArray).size = 1 + s.size := by rw [ByteArray.size_append]; rfl
      obtain ⟨k, hk⟩ := ih (n / 10) (by omega) (by omega) (by omega) (⟨#[UInt8.ofNat (48 + n % 10)]⟩ ++ s) (by rw [hsz]; simp at hs; omega)
      refine ⟨k + 1, ?_⟩
      rw [dig_round n s hn (by omega) k (.inl h0), hk, one_app, e, List.append_assoc]
      rfl
theorem dec_short : ∀ (k n : Nat), n < 10 ^ (k + 1) → (Lib.decDigits n).length ≤ k + 1
  | 0, n, h => by rw [Lib.decDigits_one (by simpa using h)]; exact Nat.le_refl _
  | k + 1, n, h => by
    rw [Lib.decDigits]
    by_cases h1 : n < 10
    · rw [dif_pos h1]; simp
    · rw [dif_neg h1, List.length_append]
      have := dec_short k (n / 10) (by rw [Nat.pow_succ] at h; omega)
      simp
      omega
theorem digits_nat (n : Nat) (hn : n < 1000000000000000) : ∃ k, r6_digits.f k (n : Int) = some ⟨(Lib.decDigits n).toArray⟩ := by
  have hl := dec_short 14 n (by omega)
  have key : ∃ k, r6_digits.l0 k (n : Int) ⟨#[]⟩ = some ⟨(Lib.decDigits n).toArray⟩ := by
    by_cases h : 0 < n
    · obtain ⟨k, hk⟩ := dig_all n h hn ⟨#[]⟩ (by show 0 + _ ≤ _; omega)
      exact ⟨k, hk.trans (by simp)⟩
    · obtain rfl : n = 0 := by omega
      refine ⟨1 + 1, ?_⟩
      rw [dig_round 0 ⟨#[]⟩ hn (by decide) 1 (.inr (by decide +kernel))]
      refine (dig_end _ 0 (one_ne _ _)).trans ?_
      decide +kernel
  obtain ⟨k, hk⟩ := key
  refine ⟨k + 1, ?_⟩
  rw [r6_digits.f, if_neg (by omega)]
  exact hk
/-- The document's digits of any number that a rule holds. -/
theorem digits_ref (n : Int) (h0 : -1000000000000000 < n) (h1 : n < 1000000000000000) : ∃ k, r6_digits.f k n = some ⟨(Lib.itoa n).toArray⟩ := by
  by_cases h : 0 ≤ n
  · obtain ⟨u, rfl⟩ := Int.eq_ofNat_of_zero_le h
    rw [Lib.itoa_nonneg]
    exact digits_nat u (by omega)
  · obtain ⟨u, hu, rfl⟩ : ∃ u : Nat, 1 ≤ u ∧ n = -(u : Int) := ⟨n.natAbs, by omega, by omega⟩
    obtain ⟨k, hk⟩ := digits_nat u (by omega)
    have hl := dec_short 14 u (by omega)
    refine ⟨k + 1, ?_⟩
    rw [r6_digits.f, if_pos (by omega), show wrap64 (- -(u : Int)) = (u : Int) by rw [w64d (by omega) (by omega)]; omega, hk, Option.bind_some, if_pos (by show 1 + (Lib.decDigits u).toArray.size ≤ _; simp; omega), Lib.itoa_neg u hu]
    exact congrArg some (mk_list _ _ (by rw [one_app]))
end Go.Proofs.YtpagbmkdphdjoaaGreatDoor.PClk

/- Plain mathematics of RuleTexts: the document's parts of a text are its parts. -/
set_option linter.unusedVariables false
set_option linter.unusedSimpArgs false
namespace Go.Proofs.YtpagbmkdphdjoaaGreatDoor.PClk
open Go.RowKit Go.Proofs.YtpagbmkdphdjoaaGreatDoor.P Go.Proofs.YtpagbmkdphdjoaaGreatDoorW.PrintWords Go.Proofs.YtpagbmkdphdjoaaGreatDoorW.PrintLast Go.Proofs.YtpagbmkdphdjoaaGreatDoorW.PrintMore
theorem w64e {x : Int} (h0 : -9223372036854775808 ≤ x) (h1 : x ≤ 9223372036854775807) : wrap64 x = x := by unfold wrap64; omega
theorem len_size (s : ByteArray) : s.data.toList.length = s.size := Array.length_toList
theorem bt_nat (s : ByteArray) (i : Nat) (h : i < s.data.toList.length) : bt s (i : Int) = ((s.data.toList[i]).toNat : Int) := by
  have h2 : (i : Int).toNat < s.size := by rw [len_size] at h; exact h
  rw [← bt_at s (i : Int) h2]
  simp
  rfl
theorem ex_list (s : ByteArray) (a b : Nat) : (s.extract a b).data.toList = (s.data.toList.take b).drop a := by
  rw [Lib.extract_data, List.drop_take]
theorem cut_go (s : ByteArray) (c : UInt8) (hs : s.size ≤ 1000) : ∀ (r i f : Nat) (acc : List ByteArray), i + r = s.size → f ≤ i → acc.length ≤ i → c ∉ (s.data.toList.take i).drop f →
    ∃ k L, r6_cut.l0 k s (c.toNat : Int) acc (f : Int) (i : Int) = some (acc ++ L) ∧ L.map (·.data.toList) = Lib.split (s.data.toList.drop f) [c]
  | 0, i, f, acc, e, hf, ha, hc => by
    have hl := len_size s
    refine ⟨2, [s.extract f i], ?_, ?_⟩
    · rw [r6_cut.l0, if_pos (by omega), if_pos (by omega), if_pos (by omega), if_pos (by omega), if_pos (by omega), r6_cut.l0, w64e (by omega) (by omega), if_neg (by omega)]
      rfl
    · show [(s.extract f i).data.toList] = _
      rw [ex_list, List.take_of_length_le (by omega)]
      rw [List.take_of_length_le (by omega)] at hc
      exact (split_one c _ hc).symm
  | r + 1, i, f, acc, e, hf, ha, hc => by
    have hl := len_size s
    have hi : i < s.data.toList.length := by omega
    have hb := bt_nat s i hi
    have w1 : wrap64 ((i : Int) + 1) = ((i + 1 : Nat) : Int) := by rw [w64e (by omega) (by omega)]; omega
    have ht : s.data.toList.take (i + 1) = s.data.toList.take i ++ [s.data.toList[i]] := List.take_succ_eq_append_getElem hi
    have hd : s.data.toList.drop f = (s.data.toList.take i).drop f ++ s.data.toList[i] :: s.data.toList.drop (i + 1) := by
      rw [show s.data.toList[i] :: s.data.toList.drop (i + 1) = s.data.toList.drop i from (List.drop_eq_getElem_cons hi).symm]
      conv => lhs; rw [← List.take_append_drop i s.data.toList]
      rw [List.drop_append_of_le_length (by rw [List.length_take]; omega)]
    by_cases g : s.data.toList[i] = c
    · obtain ⟨k, L, h1, h2⟩ := cut_go s c hs r (i + 1) (i + 1) (acc ++ [s.extract f i]) (by omega) (Nat.le_refl _) (by simp; omega) (by simp)
      refine ⟨k + 1, s.extract f i :: L, ?_, ?_⟩
      · rw [r6_cut.l0, if_pos (by omega), if_neg (by omega), if_pos (by omega), if_pos (by omega), hb, g, if_pos rfl, if_pos (by omega), if_pos (by omega), if_pos (by omega), w1]
        show r6_cut.l0 k s (c.toNat : Int) (acc ++ [s.extract f i]) ((i + 1 : Nat) : Int) ((i + 1 : Nat) : Int) = _
        rw [h1, List.append_assoc]
        rfl
      · rw [List.map_cons, h2, hd, g, split_cons c _ _ hc, ex_list]
    · obtain ⟨k, L, h1, h2⟩ := cut_go s c hs r (i + 1) f acc (by omega) (by omega) (by omega) (by
        rw [ht, List.drop_append_of_le_length (by rw [List.length_take]; omega)]
        intro hm
        rcases List.mem_append.1 hm with hm | hm
        · exact hc hm
        · exact g (List.mem_singleton.1 hm).symm)
      refine ⟨k + 1, L, ?_, h2⟩
      have gn : ¬ ((s.data.toList[i]).toNat : Int) = (c.toNat : Int) := fun e => g (UInt8.toNat_inj.1 (by omega))
      rw [r6_cut.l0, if_pos (by omega), if_neg (by omega), if_pos (by omega), if_pos (by omega), hb, if_neg gn, w1, h1]
/-- The document's parts. -/
theorem cut_ref (s : ByteArray) (c : UInt8) (hs : s.size ≤ 1000) : ∃ k L, r6_cut.f k s (c.toNat : Int) = some L ∧ L.map (·.data.toList) = Lib.split s.data.toList [c] := by
  obtain ⟨k, L, h1, h2⟩ := cut_go s c hs s.size 0 0 [] (Nat.zero_add _) (Nat.le_refl _) (Nat.le_refl _) (by simp)
  exact ⟨k, L, h1, h2⟩
end Go.Proofs.YtpagbmkdphdjoaaGreatDoor.PClk

/- Plain mathematics of RuleTexts: the document's number of a piece: its loop. -/
set_option linter.unusedVariables false
set_option linter.unusedSimpArgs false
namespace Go.Proofs.YtpagbmkdphdjoaaGreatDoor.PClk
open Go.RowKit Go.Proofs.YtpagbmkdphdjoaaGreatDoor.P Go.Proofs.YtpagbmkdphdjoaaGreatDoorW.PrintWords Go.Proofs.YtpagbmkdphdjoaaGreatDoorW.PrintLast Go.Proofs.YtpagbmkdphdjoaaGreatDoorW.PrintMore
/-- Digits read from the left. -/
def rdD : Nat → List UInt8 → Option Nat
  | a, [] => some a
  | a, c :: r => if 48 ≤ c.toNat ∧ c.toNat ≤ 57 then rdD (10 * a + (c.toNat - 48)) r else none
def numR (neg : Bool) : Option Nat → Int × Bool
  | none => (0, false)
  | some v => (if neg = true then -(v : Int) else (v : Int), true)
theorem num_loop (x : ByteArray) (neg : Bool) (hx : x.size ≤ 9) : ∀ (r i a : Nat), i + r = x.size → a < 10 ^ i → ∃ k, r6_number.l0 k x neg (a : Int) (i : Int) = some (numR neg (rdD a (x.data.toList.drop i)))
  | 0, i, a, e, ha => by
    have hl := len_size x
    have hp : (10 : Nat) ^ i ≤ 10 ^ 9 := Nat.pow_le_pow_right (by decide) (by omega)
    refine ⟨1, ?_⟩
    rw [r6_number.l0, if_neg (by omega), List.drop_of_length_le (by omega)]
    cases neg with
    | true => rw [if_pos rfl, w64e (by omega) (by omega)]; rfl
    | false => rw [if_neg (by decide)]; rfl
  | r + 1, i, a, e, ha => by
    have hl := len_size x
    have hi : i < x.data.toList.length := by omega
    have hb := bt_nat x i hi
    have hp : (10 : Nat) ^ i ≤ 10 ^ 8 := Nat.pow_le_pow_right (by decide) (by omega)
    obtain ⟨c, hc⟩ : ∃ c, x.data.toList[i] = c := ⟨_, rfl⟩
    rw [hc] at hb
    rw [List.drop_eq_getElem_cons hi, hc, rdD]
    by_cases g : 48 ≤ c.toNat ∧ c.toNat ≤ 57
    · have hpow : (10 : Nat) ^ (i + 1) = 10 * 10 ^ i := by rw [Nat.pow_succ, Nat.mul_comm]
      obtain ⟨k, hk⟩ := num_loop x neg hx r (i + 1) (10 * a + (c.toNat - 48)) (by omega) (by rw [hpow]; omega)
      refine ⟨k + 1, ?_⟩
      rw [r6_number.l0, if_pos (by omega), if_pos (by omega), hb, if_neg (by omega), if_neg (by omega), if_pos g, w64e (x := 10 * (a : Int)) (by omega) (by omega), show ((c.toNat : Int) - 48) % 256 = ((c.toNat - 48 : Nat) : Int) by omega, w64e (x := 10 * (a : Int) + ((c.toNat - 48 : Nat) : Int)) (by omega) (by omega), w64e (x := (i : Int) + 1) (by omega) (by omega), show 10 * (a : Int) + ((c.toNat - 48 : Nat) : Int) = ((10 * a + (c.toNat - 48) : Nat) : Int) by omega, show (i : Int) + 1 = ((i + 1 : Nat) : Int) by omega]
      exact hk
    · refine ⟨1, ?_⟩
      rw [r6_number.l0, if_pos (by omega), if_pos (by omega), hb, if_neg g]
      by_cases g1 : (c.toNat : Int) < 48
      · rw [if_pos g1]; rfl
      · rw [if_neg g1, if_pos (by omega)]; rfl
theorem rdD_app (c : UInt8) : ∀ (l : List UInt8) (a : Nat), rdD a (l ++ [c]) = (rdD a l).bind fun v => if 48 ≤ c.toNat ∧ c.toNat ≤ 57 then some (10 * v + (c.toNat - 48)) else none
  | [], a => by simp [rdD]
  | d :: l, a => by
    rw [List.cons_append, rdD, rdD]
    by_cases g : 48 ≤ d.toNat ∧ d.toNat ≤ 57
    · rw [if_pos g, if_pos g, rdD_app c l]
    · rw [if_neg g, if_neg g]; rfl
/-- Decimal digits are read back. -/
theorem rdD_dec (n : Nat) : rdD 0 (Lib.decDigits n) = some n := by
  induction n using Nat.strongRecOn with
  | _ n ih =>
    rw [Lib.decDigits]
    by_cases h : n < 10
    · rw [dif_pos h]
      have := dig_toNat n h
      simp only [rdD, this]
      rw [if_pos (by omega)]
      congr 1
      omega
    · rw [dif_neg h, rdD_app, ih (n / 10) (by omega), Option.bind_some, dig_toNat _ (by omega), if_pos (by omega)]
      congr 1
      omega
theorem dec_more (n : Nat) (h : ¬ n < 10) : Lib.decDigits n = Lib.decDigits (n / 10) ++ [UInt8.ofNat (48 + n % 10)] := by
  conv => lhs; rw [Lib.decDigits]
  rw [dif_neg h]
/-- Digits without a needless nought are the decimal ones. -/
theorem dec_of_rdD : ∀ (m : Nat) (l : List UInt8) (v : Nat), l.length = m → l ≠ [] → (2 ≤ l.length → l.head? ≠ some 48) → rdD 0 l = some v → l = Lib.decDigits v
  | 0, l, v, hm, hne, _, _ => absurd (List.length_eq_zero_iff.1 hm) hne
  | m + 1, l, v, hm, hne, h0, hv => by
    obtain ⟨p, c, rfl⟩ : ∃ p c, l = p ++ [c] := ⟨l.dropLast, l.getLast hne, (List.dropLast_concat_getLast hne).symm⟩
    rw [rdD_app] at hv
    cases hp : rdD 0 p with
    | none => rw [hp] at hv; cases hv
    | some u =>
      rw [hp, Option.bind_some] at hv
      by_cases g : 48 ≤ c.toNat ∧ c.toNat ≤ 57
      · rw [if_pos g] at hv
        obtain rfl := Option.some.inj hv
        have ec : UInt8.ofNat (48 + (c.toNat - 48)) = c := by
          apply UInt8.toNat_inj.1
          rw [dig_toNat _ (by omega)]
          omega
        by_cases hpn : p = []
        · subst hpn
          obtain rfl := Option.some.inj hp
          rw [Lib.decDigits, dif_pos (by omega), show 10 * 0 + (c.toNat - 48) = c.toNat - 48 by omega, ec]
          rfl
        · have hlen : 1 ≤ p.length := by cases p with | nil => exact absurd rfl hpn | cons _ _ => simp
          have hhead : p.head? ≠ some 48 := by
            have h1 := h0 (by simp; omega)
            cases p with
            | nil => exact absurd rfl hpn
            | cons d l => simpa using h1
          have hpd := dec_of_rdD m p u (by simp at hm; omega) hpn (fun _ => hhead) hp
          have hu : u ≠ 0 := by
            rintro rfl
            apply hhead
            rw [hpd, Lib.decDigits, dif_pos (by decide)]
            rfl
          rw [dec_more _ (by omega), show (10 * u + (c.toNat - 48)) / 10 = u by omega, show (10 * u + (c.toNat - 48)) % 10 = c.toNat - 48 by omega, ec, ← hpd]
      · rw [if_neg g] at hv; cases hv
/-- When a piece may be a number. -/
def Good (neg : Bool) (l : List UInt8) : Prop := l ≠ [] ∧ l.length ≤ 9 ∧ (2 ≤ l.length → l.head? ≠ some 48) ∧ (neg = true → l ≠ [48])
theorem j2_bad (k : Nat) (x : ByteArray) (neg : Bool) : r6_number.j2 (k + 1) x neg true = some (0, false) := by rw [r6_number.j2, if_pos rfl]
theorem j2_good (x : ByteArray) (neg : Bool) (hx : x.size ≤ 9) : ∃ k, r6_number.j2 k x neg false = some (numR neg (rdD 0 x.data.toList)) := by
  obtain ⟨k, hk⟩ := num_loop x neg hx x.size 0 0 (Nat.zero_add _) (by decide)
  refine ⟨k + 1, ?_⟩
  rw [r6_number.j2, if_neg (by decide)]
  exact hk
theorem j1_eq (x : ByteArray) (neg : Bool) : (Good neg x.data.toList → ∃ k, r6_number.j1 k x neg = some (numR neg (rdD 0 x.data.toList))) ∧ (¬ Good neg x.data.toList → ∃ k, r6_number.j1 k x neg = some (0, false)) := by
  have hl := len_size x
  have ht : x.toList = x.data.toList := ByteArray.toList_eq x
  have hb : ∀ h : 0 < x.data.toList.length, bt x 0 = ((x.data.toList[0]).toNat : Int) := fun h => bt_nat x 0 h
  constructor
  · rintro ⟨g1, g2, g3, g4⟩
    obtain ⟨k, hk⟩ := j2_good x neg (by omega)
    refine ⟨k + 1, ?_⟩
    rw [r6_number.j1, ht, if_neg g1, if_neg (by omega)]
    have hq : neg = true → (x.data.toList == [48]) = false := fun h => by simpa using g4 h
    by_cases h1 : (x.size : Int) > 1
    · have h0 : 0 < x.data.toList.length := by omega
      have hh : ¬ bt x 0 = 48 := by
        rw [hb h0]
        intro e
        apply g3 (by omega)
        rw [List.head?_eq_getElem?, List.getElem?_eq_getElem h0]
        congr 1
        exact UInt8.toNat_inj.1 (by show _ = 48; omega)
      rw [if_pos h1, if_pos (by omega), if_neg hh]
      cases neg with
      | true => rw [if_pos rfl, hq rfl]; exact hk
      | false => rw [if_neg (by decide)]; exact hk
    · rw [if_neg h1]
      cases neg with
      | true => rw [if_pos rfl, hq rfl]; exact hk
      | false => rw [if_neg (by decide)]; exact hk
  · intro hg
    refine ⟨2, ?_⟩
    rw [r6_number.j1, ht]
    by_cases g1 : x.data.toList = []
    · rw [if_pos g1, j2_bad]
    · rw [if_neg g1]
      by_cases g2 : (x.size : Int) > 9
      · rw [if_pos g2, j2_bad]
      · rw [if_neg g2]
        have h0 : 0 < x.data.toList.length := List.length_pos_iff.2 g1
        by_cases h1 : (x.size : Int) > 1
        · rw [if_pos h1, if_pos (by omega)]
          by_cases hh : bt x 0 = 48
          · rw [if_pos hh, j2_bad]
          · exfalso
            refine hg ⟨g1, by omega, fun _ e => hh ?_, fun _ e => ?_⟩
            · rw [hb h0]
              rw [List.head?_eq_getElem?, List.getElem?_eq_getElem h0] at e
              rw [Option.some.inj e]
              rfl
            · rw [e] at hl
              simp at hl
              omega
        · rw [if_neg h1]
          cases neg with
          | true =>
            rw [if_pos rfl]
            by_cases g4 : x.data.toList = [48]
            · rw [g4, show (([48] : List UInt8) == [48]) = true from by decide, j2_bad]
            · exact absurd ⟨g1, by omega, fun h => by omega, fun _ => g4⟩ hg
          | false => exact absurd ⟨g1, by omega, fun h => by omega, fun h => by cases h⟩ hg
end Go.Proofs.YtpagbmkdphdjoaaGreatDoor.PClk

/- Plain mathematics of RuleTexts: the document's number of a piece, and of a decimal one. -/
set_option linter.unusedVariables false
set_option linter.unusedSimpArgs false
namespace Go.Proofs.YtpagbmkdphdjoaaGreatDoor.PClk
open Go.RowKit Go.Proofs.YtpagbmkdphdjoaaGreatDoor.P Go.Proofs.YtpagbmkdphdjoaaGreatDoorW.PrintWords Go.Proofs.YtpagbmkdphdjoaaGreatDoorW.PrintLast Go.Proofs.YtpagbmkdphdjoaaGreatDoorW.PrintMore
theorem num_f_ref (s : ByteArray) : ∃ neg b, ((neg = true ∧ s.data.toList = 45 :: b) ∨ (neg = false ∧ s.data.toList = b ∧ b.head? ≠ some 45)) ∧ (Good neg b → ∃ k, r6_number.f k s = some (numR neg (rdD 0 b))) ∧ (¬ Good neg b → ∃ k, r6_number.f k s = some (0, false)) := by
  have hl := len_size s
  cases hx : s.data.toList with
  | nil =>
    rw [hx] at hl
    obtain ⟨h1, h2⟩ := j1_eq s false
    rw [hx] at h1 h2
    have hz : ¬ (s.size : Int) > 0 := by simp at hl; omega
    refine ⟨false, [], .inr ⟨rfl, rfl, by simp⟩, fun g => ?_, fun g => ?_⟩
    · obtain ⟨k, hk⟩ := h1 g
      refine ⟨k + 1, ?_⟩
      rw [r6_number.f, if_neg hz, r6_number.j0, if_neg (by decide)]
      exact hk
    · obtain ⟨k, hk⟩ := h2 g
      refine ⟨k + 1, ?_⟩
      rw [r6_number.f, if_neg hz, r6_number.j0, if_neg (by decide)]
      exact hk
  | cons c r =>
    rw [hx] at hl
    have hz : (s.size : Int) > 0 := by simp at hl; omega
    have hb : bt s 0 = (c.toNat : Int) := by
      have h0 : 0 < s.data.toList.length := by rw [hx]; simp
      have := bt_nat s 0 h0
      simp only [hx, List.getElem_cons_zero] at this
      exact this
    by_cases g : c = 45
    · subst g
      have hq : (bt s 0 == 45) = true := by rw [hb]; rfl
      have he : (s.extract 1 s.size).data.toList = r := by rw [Lib.extract_to_end, hx]; rfl
      obtain ⟨h1, h2⟩ := j1_eq (s.extract 1 s.size) true
      rw [he] at h1 h2
      refine ⟨true, r, .inl ⟨rfl, rfl⟩, fun g => ?_, fun g => ?_⟩
      · obtain ⟨k, hk⟩ := h1 g
        refine ⟨k + 1, ?_⟩
        rw [r6_number.f, if_pos hz, if_pos (by omega), hq, r6_number.j0, if_pos rfl, if_pos (by omega)]
        exact hk
      · obtain ⟨k, hk⟩ := h2 g
        refine ⟨k + 1, ?_⟩
        rw [r6_number.f, if_pos hz, if_pos (by omega), hq, r6_number.j0, if_pos rfl, if_pos (by omega)]
        exact hk
    · have hq : (bt s 0 == 45) = false := by
        rw [hb]
        have : ¬ (c.toNat : Int) = 45 := fun e => g (UInt8.toNat_inj.1 (by show _ = 45; omega))
        simpa using this
      obtain ⟨h1, h2⟩ := j1_eq s false
      rw [hx] at h1 h2
      refine ⟨false, c :: r, .inr ⟨rfl, rfl, by simpa using g⟩, fun g => ?_, fun g => ?_⟩
      · obtain ⟨k, hk⟩ := h1 g
        refine ⟨k + 1, ?_⟩
        rw [r6_number.f, if_pos hz, if_pos (by omega), hq, r6_number.j0, if_neg (by decide)]
        exact hk
      · obtain ⟨k, hk⟩ := h2 g
        refine ⟨k + 1, ?_⟩
        rw [r6_number.f, if_pos hz, if_pos (by omega), hq, r6_number.j0, if_neg (by decide)]
        exact hk
theorem dec_head (n : Nat) : 2 ≤ (Lib.decDigits n).length → (Lib.decDigits n).head? ≠ some 48 := by
  induction n using Nat.strongRecOn with
  | _ n ih =>
    intro h2 he
    by_cases h : n < 10
    · rw [Lib.decDigits_one h] at h2
      simp at h2
    · rw [dec_more n h] at he
      cases hp : Lib.decDigits (n / 10) with
      | nil => exact dec_ne _ hp
      | cons d l =>
        rw [hp] at he
        have hd : d = 48 := by simpa using he
        subst hd
        by_cases hl : l = []
        · subst hl
          have h1 := rdD_dec (n / 10)
          rw [hp] at h1
          have : (0 : Nat) = n / 10 := Option.some.inj h1
          omega
        · refine ih (n / 10) (by omega) ?_ (by rw [hp]; rfl)
          rw [hp]
          cases l with
          | nil => exact absurd rfl hl
          | cons _ _ => simp
/-- What the document reads of a piece is its number, if the piece is the number's decimal text, and nothing else. -/
theorem number_ref (s : ByteArray) : ∃ k R, r6_number.f k s = some R ∧ (R.2 = true → s.data.toList = Lib.itoa R.1) := by
  obtain ⟨neg, b, hs, h1, h2⟩ := num_f_ref s
  by_cases g : Good neg b
  · obtain ⟨k, hk⟩ := h1 g
    refine ⟨k, _, hk, fun hR => ?_⟩
    obtain ⟨g1, g2, g3, g4⟩ := g
    cases hv : rdD 0 b with
    | none => rw [hv] at hR; cases hR
    | some v =>
      have hb := dec_of_rdD _ b v rfl g1 g3 hv
      rcases hs with ⟨rfl, e⟩ | ⟨rfl, e, _⟩
      · have hv0 : 1 ≤ v := by
          rcases Nat.eq_zero_or_pos v with h0 | h0
          · exact absurd (by rw [hb, h0, Lib.decDigits_one (by decide)]; rfl) (g4 rfl)
          · exact h0
        show s.data.toList = Lib.itoa (-(v : Int))
        rw [Lib.itoa_neg v hv0, e, hb]
      · show s.data.toList = Lib.itoa (v : Int)
        rw [Lib.itoa_nonneg, e, hb]
  · obtain ⟨k, hk⟩ := h2 g
    exact ⟨k, _, hk, fun hR => by cases hR⟩
theorem good_dec (u : Nat) (hu : u < 1000000000) (neg : Bool) (hn : neg = true → 1 ≤ u) : Good neg (Lib.decDigits u) := by
  refine ⟨dec_ne u, dec_short 8 u (by omega), dec_head u, fun h e => ?_⟩
  have h1 := rdD_dec u
  rw [e] at h1
  have : (0 : Nat) = u := Option.some.inj h1
  have := hn h
  omega
/-- .. and a decimal text of at most nine digits is read. -/
theorem number_itoa (s : ByteArray) (n : Int) (h0 : -1000000000 < n) (h1 : n < 1000000000) (hs : s.data.toList = Lib.itoa n) : ∃ k, r6_number.f k s = some (n, true) := by
  obtain ⟨neg, b, hb, g1, _⟩ := num_f_ref s
  by_cases h : 0 ≤ n
  · obtain ⟨u, rfl⟩ := Int.eq_ofNat_of_zero_le h
    rw [Lib.itoa_nonneg] at hs
    have hh : (Lib.decDigits u).head? ≠ some 45 := by
      intro e
      cases hd : Lib.decDigits u with
      | nil => exact dec_ne u hd
      | cons c r =>
        rw [hd] at e
        have hc := dec_digit u c (by rw [hd]; simp)
        rw [Option.some.inj e] at hc
        exact absurd hc.1 (by decide)
    rcases hb with ⟨_, e⟩ | ⟨rfl, e, _⟩
    · rw [hs] at e
      rw [e] at hh
      exact absurd rfl hh
    · obtain rfl : b = Lib.decDigits u := by rw [← hs, e]
      obtain ⟨k, hk⟩ := g1 (good_dec u (by omega) false (fun h => by cases h))
      rw [rdD_dec] at hk
      exact ⟨k, hk⟩
  · obtain ⟨u, hu, rfl⟩ : ∃ u : Nat, 1 ≤ u ∧ n = -(u : Int) := ⟨n.natAbs, by omega, by omega⟩
    rw [Lib.itoa_neg u hu] at hs
    rcases hb with ⟨rfl, e⟩ | ⟨_, e, e2⟩
    · obtain rfl : b = Lib.decDigits u := by rw [hs] at e; exact (List.cons.inj e).2.symm
      obtain ⟨k, hk⟩ := g1 (good_dec u (by omega) true (fun _ => hu))
      rw [rdD_dec] at hk
      exact ⟨k, hk⟩
    · rw [← e, hs] at e2
      exact absurd rfl e2
end Go.Proofs.YtpagbmkdphdjoaaGreatDoor.PClk

/- Plain mathematics of texts: parts joined again. -/
set_option linter.unusedVariables false
set_option linter.unusedSimpArgs false
namespace Go.Proofs.YtpagbmkdphdjoaaGreatDoor.PClk
open Go.RowKit Go.Proofs.YtpagbmkdphdjoaaGreatDoor.P Go.Proofs.YtpagbmkdphdjoaaGreatDoorW.PrintWords Go.Proofs.YtpagbmkdphdjoaaGreatDoorW.PrintLast
theorem first_at (c : UInt8) : ∀ l : List UInt8, c ∈ l → ∃ a r, l = a ++ c :: r ∧ c ∉ a
  | [], h => by cases h
  | d :: l, h => by
    by_cases g : d = c
    · exact ⟨[], l, by rw [g]; rfl, by simp⟩
    · have hl : c ∈ l := by
        rcases List.mem_cons.1 h with e | e
        · exact absurd e.symm g
        · exact e
      obtain ⟨a, r, e, hn⟩ := first_at c l hl
      refine ⟨d :: a, r, by rw [e]; rfl, fun hm => ?_⟩
      rcases List.mem_cons.1 hm with e2 | e2
      · exact g e2.symm
      · exact hn e2
theorem split_ne (c : UInt8) (l : List UInt8) : Lib.split l [c] ≠ [] := by
  by_cases h : c ∈ l
  · obtain ⟨a, r, rfl, hn⟩ := first_at c l h
    rw [split_cons c a r hn]
    simp
  · rw [split_one c l h]
    simp
theorem join_cons (a : List UInt8) (L : List (List UInt8)) (c : UInt8) (h : L ≠ []) : Lib.join (a :: L) [c] = a ++ c :: Lib.join L [c] := by
  cases L with
  | nil => exact absurd rfl h
  | cons b L => simp [Lib.join, List.intercalate]
/-- The parts, joined, are the text. -/
theorem join_split (c : UInt8) : ∀ (m : Nat) (l : List UInt8), l.length ≤ m → Lib.join (Lib.split l [c]) [c] = l
  | 0, l, h => by
    obtain rfl : l = [] := List.length_eq_zero_iff.1 (by omega)
    rw [split_one c [] (by simp)]
    simp [Lib.join, List.intercalate]
  | m + 1, l, h => by
    by_cases hc : c ∈ l
    · obtain ⟨a, r, rfl, hn⟩ := first_at c l hc
      rw [split_cons c a r hn, join_cons a _ c (split_ne c r), join_split c m r (by simp at h; omega)]
    · rw [split_one c l hc]
      simp [Lib.join, List.intercalate]
end Go.Proofs.YtpagbmkdphdjoaaGreatDoor.PClk
