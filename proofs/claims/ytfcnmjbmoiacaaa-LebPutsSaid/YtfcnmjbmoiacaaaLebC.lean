/- Plain mathematics of layer 2: order, signs, what the other writing of Put comes to. -/
import Derived.Test.YtfcnmjbmoiacaaaLebB
import Derived.OpenShut
import Derived.Lib.Bytes
set_option linter.unusedVariables false
namespace Go.Proofs.Ytfcnmjbmoiacaaa.Leb
open Go.RowKit Go.Proofs.Ytfcnmjbmoiacaaa.P Go.Proofs.YtfcnmjbmoiacaaaW.PrintWords Go.Proofs.YtfcnmjbmoiacaaaW.PrintLast Go.Proofs.YtfcnmjbmoiacaaaW.PrintMore

theorem enc_inj (v : Nat) : ∀ w : Nat, enc v = enc w → v = w := by
  induction v using Nat.strongRecOn with
  | _ v ih =>
  intro w h
  by_cases h1 : v < 128
  · by_cases h2 : w < 128
    · rw [enc_lt h1, enc_lt h2] at h
      injection h with h _
      omega
    · rw [enc_lt h1, enc_ge h2] at h
      injection h with h _
      omega
  · by_cases h2 : w < 128
    · rw [enc_ge h1, enc_lt h2] at h
      injection h with h _
      omega
    · rw [enc_ge h1, enc_ge h2] at h
      injection h with h h3
      have := ih (v / 128) (by omega) (w / 128) h3
      omega
theorem enc_mono (v : Nat) : ∀ w : Nat, v ≤ w → (enc v).length ≤ (enc w).length := by
  induction v using Nat.strongRecOn with
  | _ v ih =>
  intro w h
  by_cases h1 : v < 128
  · rw [enc_lt h1]
    exact enc_pos w
  · rw [enc_ge h1, enc_ge (v := w) (by omega), List.length_cons, List.length_cons]
    have := ih (v / 128) (by omega) (w / 128) (by omega)
    omega
theorem u8_inj {a b : Int} (ha : 0 ≤ a ∧ a < 256) (hb : 0 ≤ b ∧ b < 256) (h : UInt8.ofNat a.toNat = UInt8.ofNat b.toNat) : a = b := by
  have h1 := congrArg UInt8.toNat h
  rw [UInt8.toNat_ofNat', UInt8.toNat_ofNat'] at h1
  omega
theorem texts_inj : ∀ (a b : List Int), (∀ x ∈ a, 0 ≤ x ∧ x < 256) → (∀ x ∈ b, 0 ≤ x ∧ x < 256) → (a.map fun n : Int => UInt8.ofNat n.toNat) = (b.map fun n : Int => UInt8.ofNat n.toNat) → a = b
  | [], [], _, _, _ => rfl
  | [], _ :: _, _, _, h => by simp at h
  | _ :: _, [], _, _, h => by simp at h
  | x :: a, y :: b, ha, hb, h => by
    injection h with h1 h2
    rw [u8_inj (ha x (.head _)) (hb y (.head _)) h1, texts_inj a b (fun z hz => ha z (.tail _ hz)) (fun z hz => hb z (.tail _ hz)) h2]
theorem text_list (a : List Int) : (strOfNums a).toList = a.map fun n : Int => UInt8.ofNat n.toNat := Go.Lib.strOfNums_toList a
theorem same_text (v w : Nat) : (((strOfNums (enc v)).toList == (strOfNums (enc w)).toList) == ((v : Int) == (w : Int))) = true := by
  by_cases h : v = w
  · subst h
    simp
  · have h1 : ¬ ((strOfNums (enc v)).toList = (strOfNums (enc w)).toList) := fun e => h (enc_inj v w (texts_inj _ _ (enc_bytes v) (enc_bytes w) (by rw [text_list, text_list] at e; exact e)))
    have h2 : ¬ ((v : Int) = (w : Int)) := by omega
    rw [beq_eq_false_iff_ne.2 h1, beq_eq_false_iff_ne.2 h2]
    rfl

/-! ### LebOrder -/
theorem order_loop (v w : Nat) (h10 : (enc v).length ≤ 10) : ∀ (x n : Nat), x < 18446744073709551616 → n + (enc x).length = (enc v).length + 1 → Ev (fun k => belvederelaw02_LebOrder.l0 k (v : Int) (w : Int) (enc v) (enc w) (n : Int) (x : Int)) true := by
  intro x
  induction x using Nat.strongRecOn with
  | _ x ih =>
  intro n hb hn
  by_cases hx : x < 128
  · obtain ⟨K, hK⟩ := sure_ev
    refine ⟨K + 1, fun k hk => ?_⟩
    obtain ⟨m, rfl⟩ : ∃ m, k = m + 1 := ⟨k - 1, by omega⟩
    show belvederelaw02_LebOrder.l0 (m + 1) _ _ _ _ _ _ = _
    have hs : belvederelaw02_sure.f m = some true := hK m (by omega)
    have h1 : n = (enc v).length := by rw [enc_lt hx] at hn; simp at hn; omega
    have he := same_text v w
    rw [belvederelaw02_LebOrder.l0, if_neg (by omega), if_pos (by rw [h1]), hs, Option.bind_some, if_pos he]
    by_cases h : (v : Int) > (w : Int)
    · rw [if_pos h]
    · rw [if_neg h, if_pos (by have := enc_mono v w (by omega); omega)]
  · have hn' := hn
    rw [enc_ge hx, List.length_cons] at hn'
    obtain ⟨K, hK⟩ := ih (x / 128) (by omega) (n + 1) (by omega) (by omega)
    refine ⟨K + 1, fun k hk => ?_⟩
    obtain ⟨m, rfl⟩ : ∃ m, k = m + 1 := ⟨k - 1, by omega⟩
    show belvederelaw02_LebOrder.l0 (m + 1) _ _ _ _ _ _ = _
    have e1 : wrap64 ((n : Int) + 1) = ((n + 1 : Nat) : Int) := by rw [w64 (by omega) (by omega)]; rfl
    have hp := enc_pos (x / 128)
    have e2 : IntKind.u64.wrap (Int.tdiv (x : Int) 128) = ((x / 128 : Nat) : Int) := by
      rw [Int.tdiv_eq_ediv_of_nonneg (by omega), wu64 (by omega) (by omega)]
      omega
    rw [belvederelaw02_LebOrder.l0, if_pos (by omega), e1, e2]
    exact hK m (by omega)
theorem lebOrder : belvederelaw02_LebOrder.Pure := by
  intro a0 a1 h0 h1
  have b0 := bounds_u64 h0
  have b1 := bounds_u64 h1
  obtain ⟨v, rfl⟩ : ∃ v : Nat, a0 = (v : Int) := ⟨a0.toNat, by omega⟩
  obtain ⟨w, rfl⟩ : ∃ w : Nat, a1 = (w : Int) := ⟨a1.toNat, by omega⟩
  obtain ⟨K1, p1⟩ := put_ev [] v (by omega) (by simp)
  obtain ⟨K2, p2⟩ := put_ev [] w (by omega) (by simp)
  obtain ⟨K3, p3⟩ := order_loop v w (enc_len10 v (by omega)) v 1 (by omega) (by omega)
  refine ⟨K1 + K2 + K3, ?_⟩
  have q1 : leb_Put.f (K1 + K2 + K3) [] (v : Int) = some (enc v) := p1 _ (by omega)
  have q2 : leb_Put.f (K1 + K2 + K3) [] (w : Int) = some (enc w) := p2 _ (by omega)
  unfold belvederelaw02_LebOrder.f
  rw [q1, Option.bind_some, q2, Option.bind_some]
  exact p3 _ (by omega)

/-! ### LebSigns -/
theorem enc_head (n : Nat) : rd (enc n) 0 = ((if n < 128 then n else n % 128 + 128 : Nat) : Int) := by
  by_cases h : n < 128
  · rw [enc_lt h, if_pos h]; rfl
  · rw [enc_ge h, if_neg h]; rfl
theorem enc_pair_len (w : Nat) : (enc (2 * w)).length = (enc (2 * w + 1)).length := by
  by_cases h : w < 64
  · rw [enc_lt (by omega), enc_lt (by omega)]; rfl
  · rw [enc_ge (v := 2 * w) (by omega), enc_ge (v := 2 * w + 1) (by omega), List.length_cons, List.length_cons, show (2 * w + 1) / 128 = 2 * w / 128 by omega]
theorem enc_one (w : Nat) : (((enc (2 * w)).length : Int) == 1) = decide ((w : Int) < 64) := by
  by_cases h : w < 64
  · rw [enc_lt (by omega), decide_eq_true (by omega)]; rfl
  · have h1 := enc_pos (2 * w / 128)
    have h2 : ((enc (2 * w)).length : Int) ≠ 1 := by rw [enc_ge (by omega), List.length_cons]; omega
    rw [beq_eq_false_iff_ne.2 h2, decide_eq_false (by omega)]
theorem enc_top (w : Nat) : Go.bits .andNot .u8 (rd (enc (2 * w)) 0) 1 = Go.bits .andNot .u8 (rd (enc (2 * w + 1)) 0) 1 := by
  rw [enc_head, enc_head, not1 _ (by split <;> omega), not1 _ (by split <;> omega)]
  congr 1
  by_cases h : w < 64
  · rw [if_pos (by omega), if_pos (by omega)]; omega
  · rw [if_neg (by omega), if_neg (by omega)]; omega
theorem enc_even (w : Nat) : Go.bits .and .u8 (rd (enc (2 * w)) 0) 1 = 0 := by
  rw [enc_head, and1 _ (by split <;> omega)]
  have : (if 2 * w < 128 then 2 * w else 2 * w % 128 + 128) % 2 = 0 := by split <;> omega
  omega
theorem enc_odd (w : Nat) : Go.bits .and .u8 (rd (enc (2 * w + 1)) 0) 1 = 1 := by
  rw [enc_head, and1 _ (by split <;> omega)]
  have : (if 2 * w + 1 < 128 then 2 * w + 1 else (2 * w + 1) % 128 + 128) % 2 = 1 := by split <;> omega
  omega
theorem zig_pos (w : Nat) : zig (w : Int) = 2 * w := by unfold zig; rw [if_pos (by omega)]; omega
theorem zig_neg (w : Nat) : zig (-(w : Int) - 1) = 2 * w + 1 := by unfold zig; rw [if_neg (by omega)]; omega
theorem lebSigns : belvederelaw02_LebSigns.Pure := by
  intro a0 h0
  have b0 := bounds_i64 h0
  obtain ⟨w, hw⟩ : ∃ w : Nat, (w : Int) = if a0 < 0 then -(a0 + 1) else a0 := ⟨(if a0 < 0 then -(a0 + 1) else a0).toNat, by split <;> omega⟩
  have hw64 : (w : Int) ≤ 9223372036854775807 := by rw [hw]; split <;> omega
  obtain ⟨K1, p1⟩ := putInt_ev [] (w : Int) (by omega) (by omega) (by simp)
  obtain ⟨K2, p2⟩ := putInt_ev [] (-(w : Int) - 1) (by omega) (by omega) (by simp)
  obtain ⟨K3, p3⟩ := sure_ev
  refine ⟨K1 + K2 + K3, ?_⟩
  have q1 : leb_PutInt.f (K1 + K2 + K3) [] (w : Int) = some (enc (2 * w)) := by rw [← zig_pos]; exact p1 _ (by omega)
  have q2 : leb_PutInt.f (K1 + K2 + K3) [] (-(w : Int) - 1) = some (enc (2 * w + 1)) := by rw [← zig_neg]; exact p2 _ (by omega)
  have q3 : belvederelaw02_sure.f (K1 + K2 + K3) = some true := p3 _ (by omega)
  have c1 : ((enc (2 * w)).length : Int) > 0 := by have := enc_pos (2 * w); omega
  have c2 : ((enc (2 * w)).length : Int) = ((enc (2 * w + 1)).length : Int) := by rw [enc_pair_len]
  have c3 : ((((enc (2 * w)).length : Int) == 1) == decide ((w : Int) < 64)) = true := by rw [enc_one]; simp
  have c4 : (0 : Int) < ((enc (2 * w + 1)).length : Int) := by have := enc_pos (2 * w + 1); omega
  unfold belvederelaw02_LebSigns.f
  by_cases h : a0 < 0
  · rw [if_pos h] at hw
    have e1 : wrap64 (-(wrap64 (a0 + 1))) = (w : Int) := by rw [w64 (n := a0 + 1) (by omega) (by omega), w64 (by omega) (by omega)]; omega
    have e2 : wrap64 ((wrap64 (-(w : Int))) - 1) = -(w : Int) - 1 := by rw [w64 (n := -(w : Int)) (by omega) (by omega), w64 (by omega) (by omega)]
    rw [if_pos h, e1, e2, q1, Option.bind_some, q2, Option.bind_some, if_pos c1, if_pos c2, if_pos c3, if_pos c1, if_pos c4, if_pos (enc_top w), if_pos (enc_even w), if_pos (enc_odd w), q3]
    rfl
  · rw [if_neg h] at hw
    have e2 : wrap64 ((wrap64 (-(w : Int))) - 1) = -(w : Int) - 1 := by rw [w64 (n := -(w : Int)) (by omega) (by omega), w64 (by omega) (by omega)]
    rw [if_neg h, ← hw, e2, q1, Option.bind_some, q2, Option.bind_some, if_pos c1, if_pos c2, if_pos c3, if_pos c1, if_pos c4, if_pos (enc_top w), if_pos (enc_even w), if_pos (enc_odd w), q3]
    rfl
end Go.Proofs.Ytfcnmjbmoiacaaa.Leb
