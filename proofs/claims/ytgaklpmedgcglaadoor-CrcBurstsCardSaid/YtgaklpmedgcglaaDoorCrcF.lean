/- Plain mathematics of layer 1: what a flipped bit does to the register; CrcBursts. -/
import Derived.Test.YtgaklpmedgcglaaDoorCrcD
import Derived.Test.YtgaklpmedgcglaaDoorCrcC
set_option linter.unusedVariables false
namespace Go.Proofs.YtgaklpmedgcglaaDoor.Crc
open Go.RowKit Go.Proofs.YtgaklpmedgcglaaDoor.P Go.Proofs.YtgaklpmedgcglaaDoorW.PrintWords Go.Proofs.YtgaklpmedgcglaaDoorW.PrintLast Go.Proofs.YtgaklpmedgcglaaDoorW.PrintMore
theorem iter_xor : ∀ (n x y : Nat), iter n (x ^^^ y) = iter n x ^^^ iter n y
  | 0, _, _ => rfl
  | n + 1, x, y => by rw [iter, b1_xor, iter_xor n]; rfl
theorem iter_add : ∀ (m n x : Nat), iter (m + n) x = iter n (iter m x)
  | 0, n, x => by rw [Nat.zero_add]; rfl
  | m + 1, n, x => by rw [Nat.succ_add, iter, iter_add m n, iter]
theorem iter_pow : ∀ (n y : Nat), iter n (2 ^ n * y) = y
  | 0, y => by rw [Nat.pow_zero, Nat.one_mul]; rfl
  | n + 1, y => by
    have e : 2 ^ (n + 1) * y = 2 * (2 ^ n * y) := by rw [Nat.pow_succ, Nat.mul_comm (2 ^ n) 2, Nat.mul_assoc]
    rw [iter, e, b1_even, iter_pow n]
theorem b1_zero {x : Nat} (hx : x < 2 ^ 32) (h : b1 x = 0) : x = 0 := by
  unfold b1 at h
  by_cases ho : x % 2 = 1
  · rw [if_pos ho] at h
    have h2 : x / 2 = poly := by
      have h3 : (x / 2 ^^^ poly) ^^^ poly = 0 ^^^ poly := by rw [h]
      rw [Nat.xor_assoc, Nat.xor_self, Nat.xor_zero, Nat.zero_xor] at h3
      exact h3
    have h4 : poly = 3988292384 := rfl
    omega
  · rw [if_neg ho, Nat.xor_zero] at h
    omega
theorem iter_zero : ∀ (n x : Nat), x < 2 ^ 32 → iter n x = 0 → x = 0
  | 0, _, _, h => h
  | n + 1, x, hx, h => b1_zero hx (iter_zero n (b1 x) (b1_lt hx) h)
theorem reg_xor : ∀ (l : List Int) (x y : Nat), regN (x ^^^ y) l = regN x l ^^^ iter (8 * l.length) y
  | [], x, y => rfl
  | b :: l, x, y => by
    have e : byteN (x ^^^ y) b.toNat = byteN x b.toNat ^^^ iter 8 y := by
      rw [← iter_byte, ← iter_byte, ← iter_xor]
      congr 1
      rw [Nat.xor_assoc, Nat.xor_comm y, ← Nat.xor_assoc]
    show regN (byteN (x ^^^ y) b.toNat) l = regN (byteN x b.toNat) l ^^^ _
    rw [e, reg_xor l, List.length_cons, show 8 * (l.length + 1) = 8 + 8 * l.length by omega, iter_add]
/-- One bit flipped. -/
theorem reg_flip (l : List Int) (s p t : Nat) (hp : p < l.length) (ht : t < 8) (c : Nat) (hc : l[p] = (c : Int)) :
    regN s (l.set p ((c ^^^ 2 ^ t : Nat) : Int)) = regN s l ^^^ iter (8 * l.length - (8 * p + t)) 1 := by
  have e1 : l = l.take p ++ (l[p] :: l.drop (p + 1)) := by rw [← List.drop_eq_getElem_cons hp, List.take_append_drop]
  have e2 : l.set p ((c ^^^ 2 ^ t : Nat) : Int) = l.take p ++ (((c ^^^ 2 ^ t : Nat) : Int) :: l.drop (p + 1)) := List.set_eq_take_append_cons_drop.trans (if_pos hp)
  have hd : (l.drop (p + 1)).length = l.length - (p + 1) := List.length_drop
  rw [e2, reg_append]
  conv => rhs; lhs; rw [e1]
  rw [reg_append, hc]
  show regN (byteN (regN s (l.take p)) (c ^^^ 2 ^ t)) (l.drop (p + 1)) = regN (byteN (regN s (l.take p)) c) (l.drop (p + 1)) ^^^ _
  have e3 : byteN (regN s (l.take p)) (c ^^^ 2 ^ t) = byteN (regN s (l.take p)) c ^^^ iter (8 - t) 1 := by
    rw [← iter_byte, ← iter_byte, ← Nat.xor_assoc, iter_xor]
    congr 1
    have : 8 = t + (8 - t) := by omega
    conv => lhs; rw [this]
    rw [iter_add]
    have h1 := iter_pow t 1
    rw [Nat.mul_one] at h1
    rw [h1]
  rw [e3, reg_xor, hd, ← iter_add]
  congr 2
  omega
/-- Behind four bytes of a sum the register is the same whatever came before. -/
theorem feed (y s : Nat) : iter 8 (y ^^^ s) = byteN y (s % 256) ^^^ (s / 256) := by
  have h := low_xor (s / 256) (s % 256) 8 (Nat.mod_lt _ (by decide))
  have e : s = (2 ^ 8 * (s / 256)) ^^^ (s % 256) := by rw [← h]; omega
  conv => lhs; rw [e]
  rw [Nat.xor_comm (2 ^ 8 * (s / 256)), ← Nat.xor_assoc, iter_xor, iter_byte, iter_pow]
theorem reg_sum (y s : Nat) (hs : s < 2 ^ 32) : regN y (laidB (s : Int)) = iter 32 (y ^^^ s) := by
  have e0 : ((s : Int) % 256).toNat = s % 256 := by omega
  have e1 : ((s : Int) / 256 % 256).toNat = s / 256 % 256 := by omega
  have e2 : ((s : Int) / 65536 % 256).toNat = s / 256 / 256 % 256 := by omega
  have e3 : ((s : Int) / 16777216 % 256).toNat = s / 256 / 256 / 256 % 256 := by omega
  have e4 : s / 256 / 256 / 256 / 256 = 0 := by omega
  show byteN (byteN (byteN (byteN y ((s : Int) % 256).toNat) ((s : Int) / 256 % 256).toNat) ((s : Int) / 65536 % 256).toNat) ((s : Int) / 16777216 % 256).toNat = _
  rw [e0, e1, e2, e3, show (32 : Nat) = 8 + (8 + (8 + 8)) from rfl, iter_add, feed, iter_add, feed, iter_add, feed, feed, e4, Nat.xor_zero]
theorem residue (a : List Int) (ha : By a) : regN M (a ++ laidB (moreZ 0 a)) = iter 32 M := by
  have hM : M ^^^ 0 = M := Nat.xor_zero _
  have r := reg_lt M a ha M_lt
  rw [zero_eq, more_eq 0 a ha (by decide), hM, reg_append, reg_sum _ _ (xor_lt M_lt r), Nat.xor_comm M, ← Nat.xor_assoc, Nat.xor_self, Nat.zero_xor]
/-- Bytes whose register is another are not opened. -/
theorem open_bad (z : List Int) (hz : By z) (hl : z.length < 140737488355328) (h4 : ¬ z.length < 4) (h : regN M z ≠ iter 32 M) : crc_Open.f z = some ([], some 6) := by
  unfold crc_Open.f
  rw [if_pos hl, if_neg h4, if_neg]
  intro he
  apply h
  have := residue (z.take (z.length - 4)) (hz.take _)
  rw [← he, List.take_append_drop] at this
  exact this
end Go.Proofs.YtgaklpmedgcglaaDoor.Crc
