/- Plain mathematics of texts: decimal numbers read back, parts between single bytes. -/
import Derived.Test.YtpagbmkdphdjoaaGreatDoorRuNum
import Derived.Lib.AtoiAllCases
import Derived.Lib.IndexBytes
import Derived.Lib.ItoaMem
set_option linter.unusedVariables false
set_option linter.unusedSimpArgs false
namespace Go.Proofs.YtpagbmkdphdjoaaGreatDoor.PClk
open Go.RowKit Go.Proofs.YtpagbmkdphdjoaaGreatDoor.P Go.Proofs.YtpagbmkdphdjoaaGreatDoorW.PrintWords Go.Proofs.YtpagbmkdphdjoaaGreatDoorW.PrintLast
/-! Decimal numbers. -/
theorem dig_toNat (d : Nat) (h : d < 10) : (UInt8.ofNat (48 + d)).toNat = 48 + d := by
  rw [UInt8.toNat_ofNat']
  omega
theorem dec_digit (n : Nat) : ∀ c ∈ Lib.decDigits n, 48 ≤ c.toNat ∧ c.toNat ≤ 57 := by
  induction n using Nat.strongRecOn with
  | _ n ih =>
    intro c hc
    rw [Lib.decDigits] at hc
    by_cases h : n < 10
    · rw [dif_pos h] at hc
      obtain rfl := List.mem_singleton.1 hc
      rw [dig_toNat n h]
      omega
    · rw [dif_neg h] at hc
      rcases List.mem_append.1 hc with hc | hc
      · exact ih (n / 10) (by omega) c hc
      · obtain rfl := List.mem_singleton.1 hc
        rw [dig_toNat _ (by omega)]
        omega
theorem dec_ne (n : Nat) : Lib.decDigits n ≠ [] := by
  rw [Lib.decDigits]
  by_cases h : n < 10
  · rw [dif_pos h]; simp
  · rw [dif_neg h]; simp
theorem pu_step (a d : Nat) (ha : a * 10 + d < 10000000000000000) (hd : d < 10) (r : List UInt8) : Lib.parseUint10 a (UInt8.ofNat (48 + d) :: r) = Lib.parseUint10 (a * 10 + d) r := by
  rw [Lib.parseUint10, dig_toNat d hd, if_pos (by omega), if_neg (by omega), if_neg (by omega), show 48 + d - 48 = d by omega]
theorem pu (n : Nat) : n < 1000000000000000 → ∀ r, Lib.parseUint10 0 (Lib.decDigits n ++ r) = Lib.parseUint10 n r := by
  induction n using Nat.strongRecOn with
  | _ n ih =>
    intro hn r
    rw [Lib.decDigits]
    by_cases h : n < 10
    · rw [dif_pos h]
      show Lib.parseUint10 0 (UInt8.ofNat (48 + n) :: r) = _
      rw [pu_step 0 n (by omega) h, Nat.zero_mul, Nat.zero_add]
    · rw [dif_neg h, List.append_assoc, ih (n / 10) (by omega) (by omega)]
      show Lib.parseUint10 (n / 10) (UInt8.ofNat (48 + n % 10) :: r) = _
      rw [pu_step (n / 10) (n % 10) (by omega) (by omega), show n / 10 * 10 + n % 10 = n by omega]
theorem mag_dec (n : Nat) (h : n < 1000000000000000) : Lib.parseMag (Lib.decDigits n) = .ok n := by
  unfold Lib.parseMag
  rw [if_neg (dec_ne n)]
  have := pu n h []
  rw [List.append_nil] at this
  rw [this, Lib.parseUint10]
theorem all_dec (n : Int) (h0 : -1000000000000000 < n) (h1 : n < 1000000000000000) : Lib.atoiAll (Lib.itoa n) = .ok n := by
  by_cases h : 0 ≤ n
  · obtain ⟨u, rfl⟩ := Int.eq_ofNat_of_zero_le h
    have hm := mag_dec u (by omega)
    rw [Lib.itoa_nonneg]
    have hd := dec_digit u
    obtain ⟨c, r, hcr⟩ : ∃ c r, Lib.decDigits u = c :: r := by
      cases hx : Lib.decDigits u with
      | nil => exact absurd hx (dec_ne u)
      | cons c r => exact ⟨c, r, rfl⟩
    rw [hcr] at hm hd ⊢
    have hc := hd c (by simp)
    rw [Lib.atoiAll_plain c r (by omega) (by omega), hm]
    show (if 9223372036854775808 ≤ u then (Lib.NumEnd.range : Lib.NumEnd Int) else .ok (u : Int)) = _
    rw [if_neg (by omega)]
  · obtain ⟨u, hu, rfl⟩ : ∃ u : Nat, 1 ≤ u ∧ n = -(u : Int) := ⟨n.natAbs, by omega, by omega⟩
    have hm := mag_dec u (by omega)
    rw [Lib.itoa_neg u hu, Lib.atoiAll_minus, hm]
    show (if 9223372036854775808 < u then (Lib.NumEnd.range : Lib.NumEnd Int) else .ok (-(u : Int))) = _
    rw [if_neg (by omega)]
theorem atoiV_itoa (n : Int) (h0 : -1000000000000000 < n) (h1 : n < 1000000000000000) : atoiV (Lib.itoa n) = n := by
  unfold atoiV
  rw [all_dec n h0 h1]
theorem itoa_mem (n : Int) : ∀ c ∈ Lib.itoa n, (48 ≤ c.toNat ∧ c.toNat ≤ 57) ∨ (c = 45 ∧ n < 0) := by
  intro c hc
  by_cases h : 0 ≤ n
  · obtain ⟨u, rfl⟩ := Int.eq_ofNat_of_zero_le h
    rw [Lib.itoa_nonneg] at hc
    exact .inl (dec_digit u c hc)
  · obtain ⟨u, hu, rfl⟩ : ∃ u : Nat, 1 ≤ u ∧ n = -(u : Int) := ⟨n.natAbs, by omega, by omega⟩
    rw [Lib.itoa_neg u hu] at hc
    rcases List.mem_cons.1 hc with rfl | hc
    · exact .inr ⟨rfl, by omega⟩
    · exact .inl (dec_digit u c hc)
theorem itoa_blank (n : Int) : (32 : UInt8) ∉ Lib.itoa n := by
  intro h
  rcases itoa_mem n 32 h with ⟨h1, _⟩ | ⟨h1, _⟩
  · exact absurd h1 (by decide)
  · exact absurd h1 (by decide)
theorem itoa_dash (n : Int) (hn : 0 ≤ n) : (45 : UInt8) ∉ Lib.itoa n := by
  intro h
  rcases itoa_mem n 45 h with ⟨h1, _⟩ | ⟨_, h1⟩
  · exact absurd h1 (by decide)
  · omega
/-! Parts between single bytes. -/
theorem ix_notin (c : UInt8) : ∀ s : List UInt8, c ∉ s → Lib.index s [c] = -1 := by
  intro s h
  rw [Lib.index_one]
  induction s with
  | nil => rfl
  | cons b l ih =>
    have hb : ¬ b = c := fun e => h (by rw [e]; simp)
    have hl := ih (fun e => h (List.mem_cons_of_mem _ e))
    rw [Lib.indexByte, if_neg (by simpa using hb), hl]
    rfl
theorem ix_at (c : UInt8) (r : List UInt8) : ∀ a : List UInt8, c ∉ a → Lib.index (a ++ c :: r) [c] = (a.length : Int) := by
  intro a h
  rw [Lib.index_one]
  induction a with
  | nil => rw [List.nil_append, Lib.indexByte, if_pos (by simp)]; rfl
  | cons b l ih =>
    have hb : ¬ b = c := fun e => h (by rw [e]; simp)
    have hl := ih (fun e => h (List.mem_cons_of_mem _ e))
    rw [List.cons_append, Lib.indexByte, if_neg (by simpa using hb), hl, if_neg (by simp), List.length_cons]
    omega
theorem drop_at (c : UInt8) (a r : List UInt8) : (a ++ c :: r).drop (a.length + 1) = r := by
  rw [show a ++ c :: r = (a ++ [c]) ++ r by simp, List.drop_append_of_le_length (by simp)]
  simp
theorem split_one (c : UInt8) (s : List UInt8) (h : c ∉ s) : Lib.split s [c] = [s] := by
  unfold Lib.split
  rw [Lib.count_miss (ix_notin c s h)]
  rfl
theorem split_cons (c : UInt8) (a r : List UInt8) (h : c ∉ a) : Lib.split (a ++ c :: r) [c] = a :: Lib.split r [c] := by
  have hx := ix_at c r a h
  unfold Lib.split
  rw [Lib.count_hit (by simp) hx, show a.length + [c].length = a.length + 1 from rfl, drop_at, Nat.add_comm 1, Lib.splitK, hx, if_neg (by simp)]
  show (a ++ c :: r).take a.length :: Lib.splitK [c] 0 _ ((a ++ c :: r).drop (a.length + 1)) = _
  rw [drop_at]
  simp
theorem cut_at (c : UInt8) (a r : List UInt8) (h : c ∉ a) : Lib.cut (a ++ c :: r) [c] = (a, r, true) := by
  have hx := ix_at c r a h
  unfold Lib.cut
  rw [hx, if_pos (by omega)]
  show ((a ++ c :: r).take a.length, (a ++ c :: r).drop (a.length + 1), true) = _
  rw [drop_at]
  simp
theorem parts_data (s sep : ByteArray) : (parts s sep).map (·.data.toList) = Lib.split s.data.toList sep.data.toList := Lib.splitB_data sep 0 _ s
theorem nv_of (s sep : ByteArray) (l : List (List UInt8)) (h : Lib.split s.data.toList sep.data.toList = l) (j : Nat) : nv (parts s sep) j = (match l[j]? with | some x => atoiV x | none => 0) := by
  rw [← h, ← parts_data, List.getElem?_map]
  unfold nv
  cases (parts s sep)[j]? <;> rfl
end Go.Proofs.YtpagbmkdphdjoaaGreatDoor.PClk
