/- Plain mathematics of layer 1: the sum bit by bit is the sum by the table: CrcSums. -/
import Derived.Test.YtgaklpmedgcglaaDoorCrcB
set_option linter.unusedVariables false
namespace Go.Proofs.YtgaklpmedgcglaaDoor.Crc
open Go.RowKit Go.Proofs.YtgaklpmedgcglaaDoor.P Go.Proofs.YtgaklpmedgcglaaDoorW.PrintWords Go.Proofs.YtgaklpmedgcglaaDoorW.PrintLast Go.Proofs.YtgaklpmedgcglaaDoorW.PrintMore
theorem b1_lt {x : Nat} (hx : x < 2 ^ 32) : b1 x < 2 ^ 32 := by
  unfold b1
  split
  · exact xor_lt (by omega) (by decide)
  · exact xor_lt (by omega) (by decide)
/-- A bit of the byte and the register's, one round: the register turned by the byte goes on by one bit. -/
theorem round_eq (x c : Nat) : ((if x % 2 = c % 2 then x / 2 else (x / 2) ^^^ poly) ^^^ (c / 2)) = b1 (x ^^^ c) := by
  rw [b1_xor]
  unfold b1
  have hx : x % 2 = 0 ∨ x % 2 = 1 := by omega
  have hc : c % 2 = 0 ∨ c % 2 = 1 := by omega
  rcases hx with hx | hx <;> rcases hc with hc | hc <;> simp only [hx, hc, if_true, if_false, Nat.xor_zero, Nat.zero_ne_one, Nat.one_ne_zero]
  · rw [Nat.xor_assoc, Nat.xor_comm poly, ← Nat.xor_assoc]
  · rw [xor4, Nat.xor_self, Nat.xor_zero]
def iter : Nat → Nat → Nat
  | 0, x => x
  | n + 1, x => iter n (b1 x)
theorem iter_byte (x c : Nat) : iter 8 (x ^^^ c) = byteN x c := by
  unfold byteN
  rw [step_b1, step_b1]
  rfl
theorem rounds_eq (l : List Int) (hl : l.length ≤ 8000) (i : Nat) (res : Int) : ∀ (d j x c : Nat), j + d = 8 → x < 2 ^ 32 → c < 2 ^ d →
    (∀ y : Nat, y = iter d (x ^^^ c) → ∃ k, belvedereref01_More.l0 k l (y : Int) ((i + 1 : Nat) : Int) = some res) → i < l.length → ∃ k, belvedereref01_More.l1 k l (x : Int) (i : Int) (c : Int) (j : Int) = some res := by
  intro d
  induction d with
  | zero =>
    intro j x c hj hx hc h hi
    have hc0 : c = 0 := by simpa using hc
    subst hc0
    obtain ⟨k, hk⟩ := h x (by rw [iter, Nat.xor_zero])
    have w1 : wrap64 ((i : Int) + 1) = ((i + 1 : Nat) : Int) := by unfold wrap64; omega
    have g : ¬ ((j : Int) < 8) := by omega
    exact ⟨k + 1, by rw [belvedereref01_More.l1, if_neg g, w1]; exact hk⟩
  | succ d ih =>
    intro j x c hj hx hc h hi
    have g : (j : Int) < 8 := by omega
    have w1 : wrap64 ((j : Int) + 1) = ((j + 1 : Nat) : Int) := by unfold wrap64; omega
    have hc2 : c / 2 < 2 ^ d := by rw [Nat.pow_succ] at hc; omega
    have hc256 : c < 256 := by
      have : 2 ^ (d + 1) ≤ 2 ^ 8 := Nat.pow_le_pow_right (by decide) (by omega)
      omega
    have e1 : Int.tmod (x : Int) 2 = ((x % 2 : Nat) : Int) := by rw [Int.tmod_eq_emod_of_nonneg (by omega)]; omega
    have e2 : (Int.tmod (c : Int) 2) % 4294967296 = ((c % 2 : Nat) : Int) := by rw [Int.tmod_eq_emod_of_nonneg (by omega)]; omega
    have e3 : (Int.tdiv (x : Int) 2) % 4294967296 = ((x / 2 : Nat) : Int) := by rw [Int.tdiv_eq_ediv_of_nonneg (by omega)]; omega
    have e4 : (Int.tdiv (c : Int) 2) % 256 = ((c / 2 : Nat) : Int) := by rw [Int.tdiv_eq_ediv_of_nonneg (by omega)]; omega
    have e5 : Go.bits .xor .u32 ((x / 2 : Nat) : Int) 3988292384 = (((x / 2) ^^^ poly : Nat) : Int) := xor_u32 (x / 2) poly (by omega) (by decide)
    have hr := round_eq x c
    by_cases hb : x % 2 = c % 2
    · rw [if_pos hb] at hr
      obtain ⟨k, hk⟩ := ih (j + 1) (x / 2) (c / 2) (by omega) (by omega) hc2 (fun y hy => h y (by rw [hy, hr]; rfl)) hi
      exact ⟨k + 1, by rw [belvedereref01_More.l1, if_pos g, e1, e2, if_pos (by rw [hb]), e3, e4, w1]; exact hk⟩
    · rw [if_neg hb] at hr
      have hne : ¬ (((x % 2 : Nat) : Int) = ((c % 2 : Nat) : Int)) := fun e => hb (Int.ofNat.inj e)
      obtain ⟨k, hk⟩ := ih (j + 1) ((x / 2) ^^^ poly) (c / 2) (by omega) (xor_lt (by omega) (by decide)) hc2 (fun y hy => h y (by rw [hy, hr]; rfl)) hi
      exact ⟨k + 1, by rw [belvedereref01_More.l1, if_pos g, e1, e2, if_neg hne, e3, e4, w1, e5]; exact hk⟩
theorem ref_loop (l : List Int) (hl : l.length ≤ 8000) (hb : By l) : ∀ (r : List Int) (i x : Nat), l.drop i = r → i ≤ l.length → x < 2 ^ 32 → ∃ k, belvedereref01_More.l0 k l (x : Int) (i : Int) = some ((M ^^^ regN x r : Nat) : Int) := by
  intro r
  induction r with
  | nil =>
    intro i x h hi hx
    have hlen := congrArg List.length h
    rw [List.length_drop] at hlen
    simp at hlen
    have g : ¬ ((i : Int) < (l.length : Int)) := by omega
    have e : (4294967295 - (x : Int)) % 4294967296 = ((M ^^^ x : Nat) : Int) := by
      have h1 := not_u32 x hx
      have h2 : M ^^^ x = M - x := by
        have e1 : (BitVec.ofNat 32 x ^^^ BitVec.allOnes 32).toNat = x ^^^ M := by
          rw [BitVec.toNat_xor, BitVec.toNat_ofNat, BitVec.toNat_allOnes, Nat.mod_eq_of_lt hx]; rfl
        rw [Nat.xor_comm, ← e1, BitVec.xor_allOnes, BitVec.toNat_not, BitVec.toNat_ofNat, Nat.mod_eq_of_lt hx]; rfl
      rw [h2]
      have hM : M = 4294967295 := rfl
      omega
    exact ⟨1, by rw [belvedereref01_More.l0, if_neg g, e]; rfl⟩
  | cons b r ih =>
    intro i x h hi hx
    obtain ⟨h1, h2, h3⟩ := rd_drop h
    have hbb : 0 ≤ b ∧ b < 256 := hb b (by have : b ∈ l.drop i := by rw [h]; exact .head _
                                           exact List.mem_of_mem_drop this)
    obtain ⟨q, rfl⟩ : ∃ q : Nat, b = (q : Int) := ⟨b.toNat, by omega⟩
    have g : (i : Int) < (l.length : Int) := by omega
    have g0 : (0 : Int) ≤ (i : Int) := Int.natCast_nonneg _
    obtain ⟨k, hk⟩ := rounds_eq l hl i ((M ^^^ regN x ((q : Int) :: r) : Nat) : Int) 8 0 x q (by omega) hx (by omega) (fun y hy => by
      rw [hy, iter_byte]
      exact ih (i + 1) (byteN x q) h3 (by omega) (byteN_lt hx (by omega))) h2
    exact ⟨k + 1, by rw [belvedereref01_More.l0, if_pos g, if_pos g0, h1]; exact hk⟩
theorem ref_more (s : Nat) (l : List Int) (hl : l.length ≤ 8000) (hb : By l) (hs : s < 2 ^ 32) : ∃ k, belvedereref01_More.f k (s : Int) l = some (moreZ (s : Int) l) := by
  have e : (4294967295 - (s : Int)) % 4294967296 = ((M ^^^ s : Nat) : Int) := by
    have h2 : M ^^^ s = M - s := by
      have e1 : (BitVec.ofNat 32 s ^^^ BitVec.allOnes 32).toNat = s ^^^ M := by
        rw [BitVec.toNat_xor, BitVec.toNat_ofNat, BitVec.toNat_allOnes, Nat.mod_eq_of_lt hs]; rfl
      rw [Nat.xor_comm, ← e1, BitVec.xor_allOnes, BitVec.toNat_not, BitVec.toNat_ofNat, Nat.mod_eq_of_lt hs]; rfl
    rw [h2]
    have hM : M = 4294967295 := rfl
    omega
  obtain ⟨k, hk⟩ := ref_loop l hl hb l 0 (M ^^^ s) rfl (Nat.zero_le _) (xor_lt M_lt hs)
  refine ⟨k, ?_⟩
  unfold belvedereref01_More.f
  rw [e, more_eq s l hb hs]
  exact hk
theorem ref_more_ev (s : Nat) (l : List Int) (hl : l.length ≤ 8000) (hb : By l) (hs : s < 2 ^ 32) : Ev (fun k => belvedereref01_More.f k (s : Int) l) (moreZ (s : Int) l) := by
  obtain ⟨k, hk⟩ := ref_more s l hl hb hs
  exact Ev.of (belvedereref01_More.mono _ _) hk
end Go.Proofs.YtgaklpmedgcglaaDoor.Crc
