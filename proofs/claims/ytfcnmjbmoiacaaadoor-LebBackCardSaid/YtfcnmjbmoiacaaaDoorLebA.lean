/- Plain mathematics of layer 2: what the printed functions of leb come to: numbers by sevens, sizes, taking a number off. -/
import Derived.Test.YtfcnmjbmoiacaaaDoorPx
set_option linter.unusedVariables false
namespace Go.Proofs.YtfcnmjbmoiacaaaDoor.Leb
open Go.RowKit Go.Proofs.YtfcnmjbmoiacaaaDoor.P Go.Proofs.YtfcnmjbmoiacaaaDoorW.PrintWords Go.Proofs.YtfcnmjbmoiacaaaDoorW.PrintLast Go.Proofs.YtfcnmjbmoiacaaaDoorW.PrintMore

/-! ### Ev: small words -/
theorem ev_of {α : Type} {r : α} (o : Option α) (h : o = some r) : Ev (fun _ => o) r := ⟨0, fun _ _ => h⟩
theorem ev_eq {α : Type} {g : Nat → Option α} {r r' : α} (h : Ev g r) (e : r = r') : Ev g r' := e ▸ h
theorem ev_pos {α : Type} {c : Prop} [Decidable c] {g f : Nat → Option α} {r : α} (hc : c) (h : Ev g r) : Ev (fun k => if c then g k else f k) r := by
  obtain ⟨K, h⟩ := h
  exact ⟨K, fun k hk => by show (if c then g k else f k) = _; rw [if_pos hc]; exact h k hk⟩
theorem ev_neg {α : Type} {c : Prop} [Decidable c] {g f : Nat → Option α} {r : α} (hc : ¬ c) (h : Ev f r) : Ev (fun k => if c then g k else f k) r := by
  obtain ⟨K, h⟩ := h
  exact ⟨K, fun k hk => by show (if c then g k else f k) = _; rw [if_neg hc]; exact h k hk⟩

/-! ### powers -/
theorem p128 (i : Nat) : (2 : Nat) ^ (7 * i) = 128 ^ i := by rw [Nat.pow_mul]
theorem p128z (i : Nat) : (2 : Int) ^ (7 * i) = ((128 ^ i : Nat) : Int) := by
  rw [← p128]
  simp
theorem w64 {n : Int} (h0 : -9223372036854775808 ≤ n) (h1 : n ≤ 9223372036854775807) : wrap64 n = n := by unfold wrap64; omega
theorem wu64 {n : Int} (h0 : 0 ≤ n) (h1 : n < 18446744073709551616) : IntKind.u64.wrap n = n := by rw [IntKind.wrap_u64]; omega

/-! ### bytes -/
theorem or128 (n : Nat) (h : n < 256) : Go.bits .or .u8 (n : Int) 128 = ((n % 128 + 128 : Nat) : Int) :=
  (show ∀ n : Fin 256, Go.bits .or .u8 ((n.val : Nat) : Int) 128 = ((n.val % 128 + 128 : Nat) : Int) by decide +kernel) ⟨n, h⟩
theorem not128 (n : Nat) (h : n < 256) : Go.bits .andNot .u8 (n : Int) 128 = ((n % 128 : Nat) : Int) :=
  (show ∀ n : Fin 256, Go.bits .andNot .u8 ((n.val : Nat) : Int) 128 = ((n.val % 128 : Nat) : Int) by decide +kernel) ⟨n, h⟩
theorem not1 (n : Nat) (h : n < 256) : Go.bits .andNot .u8 (n : Int) 1 = ((n / 2 * 2 : Nat) : Int) :=
  (show ∀ n : Fin 256, Go.bits .andNot .u8 ((n.val : Nat) : Int) 1 = ((n.val / 2 * 2 : Nat) : Int) by decide +kernel) ⟨n, h⟩
theorem and1 (n : Nat) (h : n < 256) : Go.bits .and .u8 (n : Int) 1 = ((n % 2 : Nat) : Int) :=
  (show ∀ n : Fin 256, Go.bits .and .u8 ((n.val : Nat) : Int) 1 = ((n.val % 2 : Nat) : Int) by decide +kernel) ⟨n, h⟩

/-! ### a number's bytes -/
def enc (v : Nat) : List Int := if h : v < 128 then [(v : Int)] else ((v % 128 + 128 : Nat) : Int) :: enc (v / 128)
termination_by v
decreasing_by omega
theorem enc_lt {v : Nat} (h : v < 128) : enc v = [(v : Int)] := by rw [enc, dif_pos h]
theorem enc_ge {v : Nat} (h : ¬ v < 128) : enc v = ((v % 128 + 128 : Nat) : Int) :: enc (v / 128) := by rw [enc, dif_neg h]
theorem enc_pos (v : Nat) : 0 < (enc v).length := by
  by_cases h : v < 128
  · rw [enc_lt h]; simp
  · rw [enc_ge h]; simp
theorem enc_length (s : Nat) : ∀ v : Nat, (s = 0 ∨ 128 ^ s ≤ v) → v < 128 ^ (s + 1) → (enc v).length = s + 1 := by
  induction s with
  | zero =>
    intro v _ h
    rw [enc_lt (by simpa using h)]
    rfl
  | succ s ih =>
    intro v h h2
    have h1 : 128 ^ (s + 1) ≤ v := by
      rcases h with h | h
      · omega
      · exact h
    have hp : 0 < 128 ^ s := Nat.pow_pos (by decide)
    have e1 : (128 : Nat) ^ (s + 1) = 128 ^ s * 128 := Nat.pow_succ ..
    have e2 : (128 : Nat) ^ (s + 1 + 1) = 128 ^ (s + 1) * 128 := Nat.pow_succ ..
    have hv : ¬ v < 128 := by omega
    rw [enc_ge hv, List.length_cons, ih (v / 128) (.inr (by omega)) (by omega)]
theorem enc_bytes (v : Nat) : ∀ x ∈ enc v, 0 ≤ x ∧ x < 256 := by
  induction v using Nat.strongRecOn with
  | _ v ih =>
  by_cases h : v < 128
  · rw [enc_lt h]
    intro x hx
    have := List.mem_singleton.1 hx
    omega
  · rw [enc_ge h]
    intro x hx
    rcases List.mem_cons.1 hx with hx | hx
    · omega
    · exact ih (v / 128) (by omega) x hx
theorem enc_len10 (v : Nat) (h : v < 18446744073709551616) : (enc v).length ≤ 10 := by
  by_cases h0 : v < 128
  · rw [enc_lt h0]; simp
  · have : ∀ s v : Nat, v < 128 ^ (s + 1) → (enc v).length ≤ s + 1 := by
      intro s
      induction s with
      | zero => intro v h; rw [enc_lt (by simpa using h)]; simp
      | succ s ih =>
        intro v h
        by_cases h1 : v < 128
        · rw [enc_lt h1]; simp
        · have e2 : (128 : Nat) ^ (s + 1 + 1) = 128 ^ (s + 1) * 128 := Nat.pow_succ ..
          rw [enc_ge h1, List.length_cons]
          have := ih (v / 128) (by omega)
          omega
    have e10 : (128 : Nat) ^ (9 + 1) = 1180591620717411303424 := by decide
    exact this 9 v (by omega)

/-! ### how many bits, how many bytes -/
def tab8 : ByteArray := ⟨#[0, 1, 2, 2, 3, 3, 3, 3, 4, 4, 4, 4, 4, 4, 4, 4, 5, 5, 5, 5, 5, 5, 5, 5, 5, 5, 5, 5, 5, 5, 5, 5, 6, 6, 6, 6, 6, 6, 6, 6, 6, 6, 6, 6, 6, 6, 6, 6, 6, 6, 6, 6, 6, 6, 6, 6, 6, 6, 6, 6, 6, 6, 6, 6, 7, 7, 7, 7, 7, 7, 7, 7, 7, 7, 7, 7, 7, 7, 7, 7, 7, 7, 7, 7, 7, 7, 7, 7, 7, 7, 7, 7, 7, 7, 7, 7, 7, 7, 7, 7, 7, 7, 7, 7, 7, 7, 7, 7, 7, 7, 7, 7, 7, 7, 7, 7, 7, 7, 7, 7, 7, 7, 7, 7, 7, 7, 7, 7, 8, 8, 8, 8, 8, 8, 8, 8, 8, 8, 8, 8, 8, 8, 8, 8, 8, 8, 8, 8, 8, 8, 8, 8, 8, 8, 8, 8, 8, 8, 8, 8, 8, 8, 8, 8, 8, 8, 8, 8, 8, 8, 8, 8, 8, 8, 8, 8, 8, 8, 8, 8, 8, 8, 8, 8, 8, 8, 8, 8, 8, 8, 8, 8, 8, 8, 8, 8, 8, 8, 8, 8, 8, 8, 8, 8, 8, 8, 8, 8, 8, 8, 8, 8, 8, 8, 8, 8, 8, 8, 8, 8, 8, 8, 8, 8, 8, 8, 8, 8, 8, 8, 8, 8, 8, 8, 8, 8, 8, 8, 8, 8, 8, 8, 8, 8, 8, 8, 8, 8, 8, 8, 8, 8, 8, 8, 8, 8]⟩
theorem tab8_at (i : Nat) (hi : i < 256) : ∃ L : Nat, bt tab8 (i : Int) = (L : Int) ∧ L ≤ 8 ∧ i < 2 ^ L ∧ (0 < L → 2 ^ (L - 1) ≤ i) := by
  have h : ∀ i : Fin 256, ∃ L : Fin 9, bt tab8 ((i.val : Nat) : Int) = ((L.val : Nat) : Int) ∧ i.val < 2 ^ L.val ∧ (0 < L.val → 2 ^ (L.val - 1) ≤ i.val) := by decide +kernel
  obtain ⟨L, h1, h2, h3⟩ := h ⟨i, hi⟩
  exact ⟨L.val, h1, by have := L.isLt; omega, h2, h3⟩
/-- How many bits: 0 of 0, else the least power above. -/
def IsLen (v L : Nat) : Prop := v < 2 ^ L ∧ (0 < L → 2 ^ (L - 1) ≤ v)
theorem isLen_shift (v L s : Nat) (h : IsLen (v / 2 ^ s) L) (hv : 2 ^ s ≤ v) : IsLen v (L + s) := by
  obtain ⟨h1, h2⟩ := h
  have hp : 0 < 2 ^ s := Nat.two_pow_pos s
  have hq : 0 < v / 2 ^ s := Nat.div_pos hv hp
  have h3 : 0 < L := by
    rcases Nat.eq_zero_or_pos L with h0 | h0
    · subst h0
      simp at h1
      omega
    · exact h0
  have h4 := h2 h3
  refine ⟨?_, fun _ => ?_⟩
  · rw [Nat.pow_add]
    exact (Nat.div_lt_iff_lt_mul hp).1 h1
  · have : L + s - 1 = (L - 1) + s := by omega
    rw [this, Nat.pow_add]
    exact (Nat.le_div_iff_mul_le hp).1 h4
theorem isLen_tab (i : Nat) (hi : i < 256) (x2 : Int) : ∃ L : Nat, wrap64 (bt tab8 (i : Int)) = (L : Int) ∧ L ≤ 8 ∧ IsLen i L := by
  obtain ⟨L, h1, h2, h3, h4⟩ := tab8_at i hi
  exact ⟨L, by rw [h1]; exact w64 (by omega) (by omega), h2, h3, h4⟩
theorem j0_eq (k : Nat) (x0 x2 : Int) : bits_Len64.j0 (k + 1) x0 x2 = if x0 ≥ 65536 then (if (x0 / 65536) ≥ 256 then (if 0 ≤ (((x0 / 65536) / 256) % 256) then (if (((x0 / 65536) / 256) % 256) < 256 then (some (wrap64 ((wrap64 ((wrap64 (x2 + 16)) + 8)) + (wrap64 (bt tab8 (((x0 / 65536) / 256) % 256)))))) else (none)) else (none)) else (if 0 ≤ ((x0 / 65536) % 256) then (if ((x0 / 65536) % 256) < 256 then (some (wrap64 ((wrap64 (x2 + 16)) + (wrap64 (bt tab8 ((x0 / 65536) % 256)))))) else (none)) else (none))) else (if x0 ≥ 256 then (if 0 ≤ ((x0 / 256) % 256) then (if ((x0 / 256) % 256) < 256 then (some (wrap64 ((wrap64 (x2 + 8)) + (wrap64 (bt tab8 ((x0 / 256) % 256)))))) else (none)) else (none)) else (if 0 ≤ ((x0) % 256) then (if ((x0) % 256) < 256 then (some (wrap64 (x2 + (wrap64 (bt tab8 ((x0) % 256)))))) else (none)) else (none))) := rfl
theorem j0_tells (k : Nat) (v : Nat) (b : Nat) (hv : v < 4294967296) (hb : b ≤ 32) : ∃ L : Nat, bits_Len64.j0 (k + 1) (v : Int) (b : Int) = some ((L + b : Nat) : Int) ∧ IsLen v L ∧ L ≤ 32 := by
  have e24 : (2 : Nat) ^ 24 = 16777216 := by decide
  have e16 : (2 : Nat) ^ 16 = 65536 := by decide
  have e8 : (2 : Nat) ^ 8 = 256 := by decide
  rw [j0_eq]
  by_cases h1 : 65536 ≤ v
  · rw [if_pos (by omega)]
    by_cases h2 : 16777216 ≤ v
    · rw [if_pos (by omega), if_pos (by omega), if_pos (by omega)]
      have hi : (((v : Int) / 65536) / 256) % 256 = ((v / 2 ^ 24 : Nat) : Int) := by
        omega
      rw [hi]
      obtain ⟨L, e, hL, hl⟩ := isLen_tab (v / 2 ^ 24) (by omega) 0
      rw [e, w64 (n := (b : Int) + 16) (by omega) (by omega), w64 (n := (b : Int) + 16 + 8) (by omega) (by omega), w64 (by omega) (by omega)]
      exact ⟨L + 24, by congr 1; omega, isLen_shift v L 24 hl (by omega), by omega⟩
    · rw [if_neg (by omega), if_pos (by omega), if_pos (by omega)]
      have hi : ((v : Int) / 65536) % 256 = ((v / 2 ^ 16 : Nat) : Int) := by
        omega
      rw [hi]
      obtain ⟨L, e, hL, hl⟩ := isLen_tab (v / 2 ^ 16) (by omega) 0
      rw [e, w64 (n := (b : Int) + 16) (by omega) (by omega), w64 (by omega) (by omega)]
      exact ⟨L + 16, by congr 1; omega, isLen_shift v L 16 hl (by omega), by omega⟩
  · rw [if_neg (by omega)]
    by_cases h2 : 256 ≤ v
    · rw [if_pos (by omega), if_pos (by omega), if_pos (by omega)]
      have hi : ((v : Int) / 256) % 256 = ((v / 2 ^ 8 : Nat) : Int) := by
        omega
      rw [hi]
      obtain ⟨L, e, hL, hl⟩ := isLen_tab (v / 2 ^ 8) (by omega) 0
      rw [e, w64 (n := (b : Int) + 8) (by omega) (by omega), w64 (by omega) (by omega)]
      exact ⟨L + 8, by congr 1; omega, isLen_shift v L 8 hl (by omega), by omega⟩
    · rw [if_neg (by omega), if_pos (by omega), if_pos (by omega)]
      have hi : (v : Int) % 256 = ((v : Nat) : Int) := by omega
      rw [hi]
      obtain ⟨L, e, hL, hl⟩ := isLen_tab v (by omega) 0
      rw [e, w64 (by omega) (by omega)]
      exact ⟨L, by congr 1; omega, hl, by omega⟩
theorem len64_tells (k : Nat) (v : Nat) (hv : v < 18446744073709551616) : ∃ L : Nat, bits_Len64.f (k + 1) (v : Int) = some (L : Int) ∧ IsLen v L ∧ L ≤ 64 := by
  unfold bits_Len64.f
  by_cases h : 4294967296 ≤ v
  · rw [if_pos (by omega)]
    have e32 : (2 : Nat) ^ 32 = 4294967296 := by decide
    have hd : (v : Int) / 4294967296 = ((v / 2 ^ 32 : Nat) : Int) := by rw [e32]; omega
    rw [hd]
    obtain ⟨L, e, hl, hL⟩ := j0_tells k (v / 2 ^ 32) 32 (by rw [e32]; omega) (Nat.le_refl _)
    exact ⟨L + 32, e, isLen_shift v L 32 hl (by omega), by omega⟩
  · rw [if_neg (by omega)]
    obtain ⟨L, e, hl, hL⟩ := j0_tells k v 0 (by omega) (by omega)
    exact ⟨L, e, hl, by omega⟩
theorem size_tells (k : Nat) (v : Nat) (hv : v < 18446744073709551616) : leb_size.f (k + 1) (v : Int) = some ((enc v).length : Int) := by
  obtain ⟨L, e, ⟨h1, h2⟩, hL⟩ := len64_tells k v hv
  unfold leb_size.f
  rw [e]
  simp only [Option.bind_some]
  rw [w64 (n := (L : Int) + 7) (by omega) (by omega), w64 (n := (L : Int) + 7 - 1) (by omega) (by omega)]
  have ht : Int.tdiv ((L : Int) + 7 - 1) 7 = (((L + 6) / 7 : Nat) : Int) := by
    rw [Int.tdiv_eq_ediv_of_nonneg (by omega)]; omega
  rw [ht, w64 (by omega) (by omega)]
  congr 1
  by_cases hv0 : v < 128
  · rw [enc_lt hv0]
    have hL7 : L ≤ 7 := by
      rcases Nat.lt_or_ge 7 L with h | h
      · have h3 := h2 (by omega)
        have h4 : 2 ^ 7 ≤ 2 ^ (L - 1) := Nat.pow_le_pow_right (by decide) (by omega)
        have : (2 : Nat) ^ 7 = 128 := by decide
        omega
      · exact h
    unfold mx
    split
    · simp; omega
    · rfl
  · have h7 : 7 < L := by
      rcases Nat.lt_or_ge 7 L with h | h
      · exact h
      · have : 2 ^ L ≤ 2 ^ 7 := Nat.pow_le_pow_right (by decide) h
        have e7 : (2 : Nat) ^ 7 = 128 := by decide
        omega
    have h4 := h2 (by omega)
    have hlen : (enc v).length = (L + 6) / 7 := by
      obtain ⟨s, hs⟩ : ∃ s, (L + 6) / 7 = s + 1 := ⟨(L + 6) / 7 - 1, by omega⟩
      rw [hs]
      refine enc_length s v (.inr ?_) ?_
      · rw [← p128]
        exact Nat.le_trans (Nat.pow_le_pow_right (by decide) (by omega)) h4
      · rw [← p128]
        exact Nat.lt_of_lt_of_le h1 (Nat.pow_le_pow_right (by decide) (by omega))
    rw [hlen]
    unfold mx
    rw [if_pos (by omega)]
theorem size_ev (v : Nat) (hv : v < 18446744073709551616) : Ev (fun k => leb_size.f k (v : Int)) ((enc v).length : Int) :=
  Ev.of (leb_size.mono _) (size_tells 0 v hv)
end Go.Proofs.YtfcnmjbmoiacaaaDoor.Leb
