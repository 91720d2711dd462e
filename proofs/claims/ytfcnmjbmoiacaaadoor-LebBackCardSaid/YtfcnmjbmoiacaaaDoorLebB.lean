/- Plain mathematics of layer 2: what Put, PutInt, Take and TakeInt come to. -/
import Derived.Test.YtfcnmjbmoiacaaaDoorLebA
set_option linter.unusedVariables false
namespace Go.Proofs.YtfcnmjbmoiacaaaDoor.Leb
open Go.RowKit Go.Proofs.YtfcnmjbmoiacaaaDoor.P Go.Proofs.YtfcnmjbmoiacaaaDoorW.PrintWords Go.Proofs.YtfcnmjbmoiacaaaDoorW.PrintLast Go.Proofs.YtfcnmjbmoiacaaaDoorW.PrintMore

theorem shr_at (v i : Nat) (hi : i ≤ 9) : shr .u64 (v : Int) (wrap64 (7 * (i : Int))) = ((v / 128 ^ i : Nat) : Int) := by
  rw [w64 (by omega) (by omega)]
  unfold shr
  have h1 : (7 * (i : Int)).toNat = 7 * i := by omega
  have h2 : min (7 * i) (IntKind.u64.bits) = 7 * i := by
    have : IntKind.u64.bits = 64 := rfl
    omega
  rw [h1, h2, p128z]
  simp
theorem put_step (v n : Nat) (hn : n ≤ 10) (d : Nat) : ∀ (i : Nat) (out : List Int), i + (d + 1) = n → (enc (v / 128 ^ i)).length = d + 1 → out.length + d + 1 < 140737488355328 →
    Ev (fun k => leb_Put.l0 k (v : Int) (n : Int) out (n : Int) (i : Int)) (out ++ enc (v / 128 ^ i)) := by
  induction d with
  | zero =>
    intro i out hd hl ho
    have hs := shr_at v i (by omega)
    obtain ⟨q, hq⟩ : ∃ q, v / 128 ^ i = q := ⟨_, rfl⟩
    rw [hq] at hl hs ⊢
    have hlt : q < 128 := by
      rcases Nat.lt_or_ge q 128 with h | h
      · exact h
      · rw [enc_ge (by omega), List.length_cons] at hl
        have := enc_pos (q / 128)
        omega
    refine ⟨2, fun k hk => ?_⟩
    obtain ⟨m, rfl⟩ : ∃ m, k = m + 2 := ⟨k - 2, by omega⟩
    show leb_Put.l0 (m + 2) _ _ _ _ _ = _
    rw [leb_Put.l0, if_pos (by omega), if_pos (by rw [w64 (by omega) (by omega)]; omega), if_pos (by rw [w64 (by omega) (by omega)]; omega), if_pos (by omega), hs]
    rw [show (q : Int) % 256 = (q : Int) by omega, or128 _ (by omega), not128 _ (by omega), w64 (n := (i : Int) + 1) (by omega) (by omega)]
    rw [leb_Put.l0, if_neg (by omega), enc_lt hlt]
    rw [show (q % 128 + 128) % 128 = q by omega]
  | succ d ih =>
    intro i out hd hl ho
    have hs := shr_at v i (by omega)
    have hdiv : v / 128 ^ i / 128 = v / 128 ^ (i + 1) := by rw [Nat.pow_succ, Nat.div_div_eq_div_mul]
    obtain ⟨q, hq⟩ : ∃ q, v / 128 ^ i = q := ⟨_, rfl⟩
    rw [hq] at hl hs hdiv ⊢
    have hge : ¬ q < 128 := by
      intro h
      rw [enc_lt h] at hl
      simp at hl
    have hl2 : (enc (v / 128 ^ (i + 1))).length = d + 1 := by
      rw [enc_ge hge, List.length_cons, hdiv] at hl
      omega
    obtain ⟨K, hK⟩ := ih (i + 1) (out ++ [((q % 128 + 128 : Nat) : Int)]) (by omega) hl2 (by simp; omega)
    refine ⟨K + 1, fun k hk => ?_⟩
    obtain ⟨m, rfl⟩ : ∃ m, k = m + 1 := ⟨k - 1, by omega⟩
    show leb_Put.l0 (m + 1) _ _ _ _ _ = _
    have hb : (q : Int) % 256 = ((q % 256 : Nat) : Int) := by omega
    rw [leb_Put.l0, if_pos (by omega), if_pos (by rw [w64 (by omega) (by omega)]; omega), if_neg (by rw [w64 (by omega) (by omega)]; omega), if_pos (by omega), hs, hb, or128 _ (by omega), w64 (n := (i : Int) + 1) (by omega) (by omega)]
    rw [show q % 256 % 128 + 128 = q % 128 + 128 by omega]
    have h := hK m (by omega)
    rw [enc_ge hge, hdiv]
    simp only [List.append_assoc, List.singleton_append] at h
    exact_mod_cast h
theorem put_eq (k : Nat) (l : List Int) (v : Int) (n : Nat) (out : List Int) (e1 : leb_size.f k v = some (n : Int)) (hn : n ≤ 10) (hl : l.length + 10 < 140737488355328) (h3 : leb_Put.l0 k v (n : Int) l (n : Int) 0 = some out) : leb_Put.f k l v = some out := by
  have ew : wrap64 ((l.length : Int) + (n : Int)) = (l.length : Int) + (n : Int) := by unfold wrap64; omega
  unfold leb_Put.f
  rw [e1, Option.bind_some, ew, if_pos (by omega), if_pos (by omega), Option.bind_some, List.length_nil, List.nil_append, if_pos (by omega)]
  exact h3
theorem put_start (v : Nat) (l : List Int) (d : Nat) (hd : (enc v).length = d + 1) (h10 : d + 1 ≤ 10) (hl : l.length + 10 < 140737488355328) : ∃ K, ∀ k, K ≤ k → leb_Put.l0 k (v : Int) ((d + 1 : Nat) : Int) l ((d + 1 : Nat) : Int) 0 = some (l ++ enc v) := by
  have e : v / 128 ^ 0 = v := by rw [Nat.pow_zero, Nat.div_one]
  have h := put_step v (d + 1) h10 d 0 l (by omega) (by rw [e]; exact hd) (by omega)
  rw [e] at h
  exact h
theorem put_ev (l : List Int) (v : Nat) (hv : v < 18446744073709551616) (hl : l.length + 10 < 140737488355328) : Ev (fun k => leb_Put.f k l (v : Int)) (l ++ enc v) := by
  have h10 := enc_len10 v hv
  have hp := enc_pos v
  obtain ⟨K1, h1⟩ := size_ev v hv
  obtain ⟨d, hd⟩ : ∃ d, (enc v).length = d + 1 := ⟨(enc v).length - 1, by omega⟩
  obtain ⟨K2, h2⟩ := put_start v l d hd (by omega) hl
  exact ⟨max K1 K2, fun k hk => put_eq k l v (d + 1) (l ++ enc v) ((h1 k (Nat.le_trans (Nat.le_max_left ..) hk)).trans (by rw [hd])) (by omega) hl (h2 k (Nat.le_trans (Nat.le_max_right ..) hk))⟩

/-! ### a number with a sign -/
def zig (v : Int) : Nat := if 0 ≤ v then (2 * v).toNat else (-2 * v - 1).toNat
theorem zig_lt {v : Int} (h0 : -9223372036854775808 ≤ v) (h1 : v ≤ 9223372036854775807) : zig v < 18446744073709551616 := by
  unfold zig; split <;> omega
theorem xor_nat (a b : Nat) (ha : a < 2 ^ 64) (hb : b < 2 ^ 64) : Go.bits .xor .u64 (a : Int) (b : Int) = ((a ^^^ b : Nat) : Int) := by
  have ha' : a % 2 ^ IntKind.u64.bits = a := Nat.mod_eq_of_lt ha
  have hb' : b % 2 ^ IntKind.u64.bits = b := Nat.mod_eq_of_lt hb
  simp only [Go.bits, BitVec.ofInt_natCast, BitVec.toNat_xor, BitVec.toNat_ofNat, ha', hb']
  have := Nat.xor_lt_two_pow ha hb
  rw [IntKind.wrap_u64]
  omega
theorem xor_top (n : Nat) (h : n < 2 ^ 64) : n ^^^ (2 ^ 64 - 1) = 2 ^ 64 - 1 - n := by
  have e1 : (BitVec.ofNat 64 n ^^^ BitVec.allOnes 64).toNat = n ^^^ (2 ^ 64 - 1) := by
    rw [BitVec.toNat_xor, BitVec.toNat_ofNat, BitVec.toNat_allOnes, Nat.mod_eq_of_lt h]
  rw [← e1, BitVec.xor_allOnes, BitVec.toNat_not, BitVec.toNat_ofNat, Nat.mod_eq_of_lt h]
theorem xor_ones (n : Nat) (h : n < 18446744073709551616) : Go.bits .xor .u64 (n : Int) 18446744073709551615 = ((18446744073709551615 - n : Nat) : Int) := by
  have h1 := xor_nat n 18446744073709551615 (by omega) (by omega)
  have h2 := xor_top n (by omega)
  have h3 : (2 : Nat) ^ 64 - 1 = 18446744073709551615 := by decide
  rw [h3] at h2
  rw [h2] at h1
  exact h1
theorem xor_zero (n : Nat) (h : n < 18446744073709551616) : Go.bits .xor .u64 (n : Int) 0 = (n : Int) := by
  have h1 := xor_nat n 0 (by omega) (by omega)
  rw [Nat.xor_zero] at h1
  exact h1
theorem code_eq (v : Int) (h0 : -9223372036854775808 ≤ v) (h1 : v ≤ 9223372036854775807) : Go.bits .xor .u64 (IntKind.u64.wrap (wrap64 (v * 2))) (IntKind.u64.wrap (v / 9223372036854775808)) = (zig v : Int) := by
  by_cases h : 0 ≤ v
  · have e1 : IntKind.u64.wrap (wrap64 (v * 2)) = (((2 * v).toNat : Nat) : Int) := by rw [IntKind.wrap_u64]; unfold wrap64; omega
    have e2 : IntKind.u64.wrap (v / 9223372036854775808) = 0 := by rw [IntKind.wrap_u64]; omega
    rw [e1, e2, xor_zero _ (by omega)]
    unfold zig
    rw [if_pos h]
  · have e1 : IntKind.u64.wrap (wrap64 (v * 2)) = (((2 * v + 18446744073709551616).toNat : Nat) : Int) := by rw [IntKind.wrap_u64]; unfold wrap64; omega
    have e2 : IntKind.u64.wrap (v / 9223372036854775808) = 18446744073709551615 := by rw [IntKind.wrap_u64]; omega
    rw [e1, e2, xor_ones _ (by omega)]
    unfold zig
    rw [if_neg h]
    omega
theorem putInt_ev (l : List Int) (v : Int) (h0 : -9223372036854775808 ≤ v) (h1 : v ≤ 9223372036854775807) (hl : l.length + 10 < 140737488355328) : Ev (fun k => leb_PutInt.f k l v) (l ++ enc (zig v)) := by
  have h := put_ev l (zig v) (zig_lt h0 h1) hl
  obtain ⟨K, hK⟩ := h
  refine ⟨K, fun k hk => ?_⟩
  show leb_PutInt.f k l v = _
  unfold leb_PutInt.f
  rw [code_eq v h0 h1]
  have e : leb_Put.f k l (zig v : Int) = _ := hK k hk
  rw [e]
  rfl
theorem sure_ev : Ev (fun k => belvederelaw02_sure.f k) true := Ev.of (belvederelaw02_sure.mono) (k := 40) (by decide +kernel)
end Go.Proofs.YtfcnmjbmoiacaaaDoor.Leb
