/- Plain mathematics of layer 2: taking a number off: what leb.Take comes to. -/
import Derived.Test.YtfcnmjbmoiacaaaDoorLebD
set_option linter.unusedVariables false
namespace Go.Proofs.YtfcnmjbmoiacaaaDoor.Leb
open Go.RowKit Go.Proofs.YtfcnmjbmoiacaaaDoor.P Go.Proofs.YtfcnmjbmoiacaaaDoorW.PrintWords Go.Proofs.YtfcnmjbmoiacaaaDoorW.PrintLast Go.Proofs.YtfcnmjbmoiacaaaDoorW.PrintMore

/-- Bytes. -/
def By (l : List Int) : Prop := ∀ x ∈ l, 0 ≤ x ∧ x < 256
theorem By.head {b : Int} {r : List Int} (h : By (b :: r)) : 0 ≤ b ∧ b < 256 := h b (.head _)
theorem By.tail {b : Int} {r : List Int} (h : By (b :: r)) : By r := fun x hx => h x (.tail _ hx)
theorem By.drop {l : List Int} (h : By l) (n : Nat) : By (l.drop n) := fun x hx => h x (List.mem_of_mem_drop hx)
theorem By.take {l : List Int} (h : By l) (n : Nat) : By (l.take n) := fun x hx => h x (List.mem_of_mem_take hx)
theorem rd_drop {l r : List Int} {b : Int} {i : Nat} (h : l.drop i = b :: r) : rd l (i : Int) = b ∧ i < l.length ∧ l.drop (i + 1) = r := by
  have hlt : i < l.length := by
    rcases Nat.lt_or_ge i l.length with h' | h'
    · exact h'
    · rw [List.drop_eq_nil_of_le h'] at h; cases h
  rw [List.drop_eq_getElem_cons hlt] at h
  injection h with h1 h2
  refine ⟨?_, hlt, h2⟩
  unfold rd
  show (l[i]?).getD 0 = b
  rw [List.getElem?_eq_getElem hlt]
  exact h1
/-- Where the first byte below 128 stands; the length if none does. -/
def idx : List Int → Nat
  | [] => 0
  | b :: r => if b < 128 then 0 else idx r + 1
theorem idx_le : ∀ l : List Int, idx l ≤ l.length
  | [] => Nat.le_refl _
  | b :: r => by unfold idx; have := idx_le r; split <;> simp <;> omega
theorem idx_take : ∀ (n : Nat) (l : List Int), idx (l.take n) = min (idx l) (min n l.length)
  | 0, l => by simp [idx]
  | n + 1, [] => by simp [idx]
  | n + 1, b :: r => by
    rw [List.take_succ_cons]
    unfold idx
    have := idx_take n r
    have := idx_le r
    split
    · simp
    · simp only [List.length_cons]; omega
/-- The number that bytes stand for. -/
def val : List Int → Nat
  | [] => 0
  | b :: r => b.toNat % 128 + 128 * val r
theorem val_snoc : ∀ (l : List Int) (b : Int), val (l ++ [b]) = val l + 128 ^ l.length * (b.toNat % 128)
  | [], b => by simp [val]
  | c :: l, b => by
    rw [List.cons_append, val, val_snoc l b, val, List.length_cons, Nat.pow_succ, Nat.mul_add]
    have : 128 * (128 ^ l.length * (b.toNat % 128)) = 128 ^ l.length * 128 * (b.toNat % 128) := by rw [← Nat.mul_assoc, Nat.mul_comm 128 (128 ^ l.length)]
    omega
theorem val_lt : ∀ l : List Int, val l < 128 ^ l.length
  | [] => by simp [val]
  | c :: l => by
    have := val_lt l
    rw [val, List.length_cons, Nat.pow_succ]
    omega
theorem val_enc (v : Nat) : val (enc v) = v := by
  induction v using Nat.strongRecOn with
  | _ v ih =>
  by_cases h : v < 128
  · rw [enc_lt h, val, val]
    have : ((v : Int)).toNat = v := rfl
    omega
  · rw [enc_ge h, val, ih (v / 128) (by omega)]
    have : (((v % 128 + 128 : Nat) : Int)).toNat = v % 128 + 128 := rfl
    omega
theorem idx_enc (v : Nat) (r : List Int) : idx (enc v ++ r) + 1 = (enc v).length := by
  induction v using Nat.strongRecOn with
  | _ v ih =>
  by_cases h : v < 128
  · rw [enc_lt h, List.singleton_append, idx, if_pos (by omega)]; rfl
  · rw [enc_ge h, List.cons_append, idx, if_neg (by omega), List.length_cons]
    have := ih (v / 128) (by omega)
    omega
/-- All but the last are 128 and more, the last is less: as long as what stands for their number: then they are it. -/
theorem enc_val : ∀ (l : List Int), By l → idx l + 1 = l.length → (enc (val l)).length = l.length → enc (val l) = l
  | [], _, h, _ => by simp [idx] at h
  | b :: r, hb, hi, hl => by
    have b1 := hb.head
    rw [idx] at hi
    by_cases h : b < 128
    · rw [if_pos h] at hi
      simp at hi
      subst hi
      rw [val, val, enc_lt (by omega)]
      congr 1
      omega
    · rw [if_neg h, List.length_cons] at hi
      by_cases hv : val (b :: r) < 128
      · rw [enc_lt hv] at hl
        simp at hl
        subst hl
        simp [idx] at hi
      · rw [enc_ge hv, List.length_cons, List.length_cons] at hl
        rw [enc_ge hv]
        have e1 : val (b :: r) / 128 = val r := by rw [val]; omega
        have e2 : val (b :: r) % 128 + 128 = b.toNat := by rw [val]; omega
        rw [e1] at hl ⊢
        rw [e2, enc_val r hb.tail (by omega) (by omega)]
        congr 1
        omega
/-- The number at the front, what is behind it, the error: 0 where there is none. -/
def spec (l : List Int) : Int × List Int × Int :=
  if 10 ≤ idx l then (0, [], 3)
  else if idx l = l.length then (0, [], 4)
  else if enc (val (l.take (idx l + 1)) % 18446744073709551616) = l.take (idx l + 1) then (((val (l.take (idx l + 1)) % 18446744073709551616 : Nat) : Int), l.drop (idx l + 1), 0)
  else (0, [], 3)

/-! ### leb.Take -/
theorem or_nat (a b : Nat) (ha : a < 2 ^ 64) (hb : b < 2 ^ 64) : Go.bits .or .u64 (a : Int) (b : Int) = ((a ||| b : Nat) : Int) := by
  have ha' : a % 2 ^ IntKind.u64.bits = a := Nat.mod_eq_of_lt ha
  have hb' : b % 2 ^ IntKind.u64.bits = b := Nat.mod_eq_of_lt hb
  simp only [Go.bits, BitVec.ofInt_natCast, BitVec.toNat_or, BitVec.toNat_ofNat, ha', hb']
  have := Nat.or_lt_two_pow ha hb
  rw [IntKind.wrap_u64]
  omega
theorem shl_at (c i : Nat) (hi : i ≤ 9) (hc : c < 128) : shl .u64 (c : Int) (wrap64 (7 * (i : Int))) = ((c * 128 ^ i % 18446744073709551616 : Nat) : Int) := by
  rw [w64 (by omega) (by omega)]
  unfold shl
  have h1 : (7 * (i : Int)).toNat = 7 * i := by omega
  have h2 : min (7 * i) (IntKind.u64.bits) = 7 * i := by
    have : IntKind.u64.bits = 64 := rfl
    omega
  rw [h1, h2, p128z, IntKind.wrap_u64]
  have : ((c : Int) * ((128 ^ i : Nat) : Int)) = ((c * 128 ^ i : Nat) : Int) := by simp
  rw [this]
  omega
theorem or_step (a c i : Nat) (hi : i ≤ 9) (hc : c < 128) (ha : a < 128 ^ i) : Go.bits .or .u64 (a : Int) (shl .u64 (c : Int) (wrap64 (7 * (i : Int)))) = (((a + 128 ^ i * c) % 18446744073709551616 : Nat) : Int) := by
  have e64 : (18446744073709551616 : Nat) = 2 ^ (7 * i) * 2 ^ (64 - 7 * i) := by rw [← Nat.pow_add, show 7 * i + (64 - 7 * i) = 64 by omega]
  have hp : 0 < 2 ^ (64 - 7 * i) := Nat.two_pow_pos _
  have hlt : 128 ^ i < 2 ^ 64 := by rw [← p128]; exact Nat.pow_lt_pow_right (by decide) (by omega)
  rw [shl_at c i hi hc, or_nat a _ (by omega) (Nat.mod_lt _ (by decide))]
  congr 1
  have e1 : c * 128 ^ i % 18446744073709551616 = 2 ^ (7 * i) * (c % 2 ^ (64 - 7 * i)) := by
    rw [e64, ← p128, Nat.mul_comm c, Nat.mul_mod_mul_left]
  have ha2 : a < 2 ^ (7 * i) := by rw [p128]; exact ha
  rw [e1, Nat.or_comm, ← Nat.two_pow_add_eq_or_of_lt ha2]
  have e2 : (a + 128 ^ i * c) % 18446744073709551616 = (a + 2 ^ (7 * i) * (c % 2 ^ (64 - 7 * i))) % 18446744073709551616 := by
    rw [Nat.mul_comm (128 ^ i) c, Nat.add_mod, e1, Nat.mod_add_mod]
  rw [e2]
  have hq : c % 2 ^ (64 - 7 * i) < 2 ^ (64 - 7 * i) := Nat.mod_lt _ hp
  have : a + 2 ^ (7 * i) * (c % 2 ^ (64 - 7 * i)) < 18446744073709551616 := by
    rw [e64]
    calc a + 2 ^ (7 * i) * (c % 2 ^ (64 - 7 * i)) < 2 ^ (7 * i) + 2 ^ (7 * i) * (c % 2 ^ (64 - 7 * i)) := by omega
      _ = 2 ^ (7 * i) * (c % 2 ^ (64 - 7 * i) + 1) := by rw [Nat.mul_add, Nat.mul_one, Nat.add_comm]
      _ ≤ 2 ^ (7 * i) * 2 ^ (64 - 7 * i) := Nat.mul_le_mul_left _ hq
  rw [Nat.mod_eq_of_lt this, Nat.add_comm]
end Go.Proofs.YtfcnmjbmoiacaaaDoor.Leb
