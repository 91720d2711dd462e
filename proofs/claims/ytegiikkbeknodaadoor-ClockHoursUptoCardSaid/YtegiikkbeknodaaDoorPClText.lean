/- The contracts of clock.text and clock.Stamp. -/
import Derived.Test.YtegiikkbeknodaaDoorPClItoa
import Derived.Deep.RegionHeld3
import Derived.Lib.ItoaLen
namespace Go.Proofs.YtegiikkbeknodaaDoor.P
open Go.RowKit Go.Proofs.YtegiikkbeknodaaDoorW.PrintWords Go.Proofs.YtegiikkbeknodaaDoorW.PrintLast Go.Proofs.YtegiikkbeknodaaDoorW.PrintMore
attribute [local go_sem] max2_int min2_int max_two min_two max_three min_three max_four min_four
set_option linter.unusedVariables false
set_option linter.unusedSimpArgs false
def d2 (n : Nat) : ByteArray := ⟨#[UInt8.ofNat (48 + n / 10), UInt8.ofNat (48 + n % 10)]⟩
theorem d2_size (n : Nat) : (d2 n).size = 2 := rfl
theorem d2_small (n : Nat) (h : n < 10) : (⟨#[48]⟩ : ByteArray) ++ ⟨(Lib.decDigits n).toArray⟩ = d2 n := by
  rw [Lib.decDigits_one h]
  unfold d2
  have e1 : n / 10 = 0 := by omega
  have e2 : n % 10 = n := by omega
  rw [e1, e2]
  rfl
theorem d2_big (n : Nat) (h0 : ¬ n < 10) (h : n < 100) : (⟨(Lib.decDigits n).toArray⟩ : ByteArray) = d2 n := by
  rw [Lib.decDigits_two h0 h]
  rfl
theorem two_walk (a : Int) (n : Nat) (ha : a = (n : Int)) (h : n < 100) (w : World) : Calls Tryd.prog 26 #[.int .i64 a] w fun e w' => e = .returned (.string (d2 n)) ∧ w' = w := by
  subst ha
  have hI := Any.strconv_Itoa_small Tryd.laysItoaSmall n h w
  by_cases h1 : n < 10
  · have c1 : decide ((n : Int) < 10) = true := decide_eq_true (by omega)
    have c2 : decide (n < 10) = true := decide_eq_true h1
    obtain ⟨s, hs⟩ : ∃ s : ByteArray, (⟨(Lib.decDigits n).toArray⟩ : ByteArray) = s := ⟨_, rfl⟩
    have hz : s.size = 1 := by rw [← hs, Lib.decDigits_one h1]; rfl
    have hr : (⟨#[48]⟩ : ByteArray) ++ s = d2 n := by rw [← hs]; exact d2_small n h1
    rw [hs] at hI
    have HR := Aside0.mk hr
    clear hr hs h1 h
    go_enter Tryd.func26, Tryd.ntmps26
    go_wp2_with (go_at_call 25; refine hI.mono ?_; rintro e w' ⟨rfl, rfl⟩)
    go_ret
    exact ⟨by rw [← HR.out]; rfl, rfl⟩
  · have c1 : decide ((n : Int) < 10) = false := decide_eq_false (by omega)
    have c2 : decide (n < 10) = false := decide_eq_false h1
    rw [d2_big n h1 h] at hI
    clear h1 h
    go_enter Tryd.func26, Tryd.ntmps26
    go_wp2_with (go_at_call 25; refine hI.mono ?_; rintro e w' ⟨rfl, rfl⟩)
    go_ret
    exact ⟨rfl, rfl⟩
def hms (a b c : Nat) : ByteArray := (((d2 a ++ (⟨#[58]⟩ : ByteArray)) ++ d2 b) ++ (⟨#[58]⟩ : ByteArray)) ++ d2 c
def clock_text.f (a0 : Int) : Option ByteArray := if 0 ≤ a0 then (if a0 < 360000 then some (hms (a0.toNat / 3600) (a0.toNat / 60 % 60) (a0.toNat % 60)) else none) else none
theorem text_walk (a : Int) (s : Nat) (ha : a = (s : Int)) (h : s < 360000) (w : World) : Calls Tryd.prog 27 #[.int .i64 a] w fun e w' => e = .returned (.string (hms (s / 3600) (s / 60 % 60) (s % 60))) ∧ w' = w := by
  have e1 : Int.tdiv a 3600 = ((s / 3600 : Nat) : Int) := by rw [ha, Int.tdiv_eq_ediv_of_nonneg (by omega)]; omega
  have e2 : Int.tdiv a 60 = ((s / 60 : Nat) : Int) := by rw [ha, Int.tdiv_eq_ediv_of_nonneg (by omega)]; omega
  have w1 : wrap64 (Int.tdiv a 3600) = ((s / 3600 : Nat) : Int) := by rw [e1]; unfold wrap64; omega
  have w2 : wrap64 (Int.tdiv a 60) = ((s / 60 : Nat) : Int) := by rw [e2]; unfold wrap64; omega
  have e3 : Int.tmod (wrap64 (Int.tdiv a 60)) 60 = ((s / 60 % 60 : Nat) : Int) := by rw [w2, Int.tmod_eq_emod_of_nonneg (by omega)]; omega
  have e4 : Int.tmod a 60 = ((s % 60 : Nat) : Int) := by rw [ha, Int.tmod_eq_emod_of_nonneg (by omega)]; omega
  have h1 := two_walk (wrap64 (Int.tdiv a 3600)) (s / 3600) w1 (by omega) w
  have h2 := two_walk (Int.tmod (wrap64 (Int.tdiv a 60)) 60) (s / 60 % 60) e3 (by omega) w
  have h3 := two_walk (Int.tmod a 60) (s % 60) e4 (by omega) w
  obtain ⟨A, hA⟩ : ∃ x, d2 (s / 3600) = x := ⟨_, rfl⟩
  obtain ⟨B, hB⟩ : ∃ x, d2 (s / 60 % 60) = x := ⟨_, rfl⟩
  obtain ⟨C, hC⟩ : ∃ x, d2 (s % 60) = x := ⟨_, rfl⟩
  have zA : A.size = 2 := by rw [← hA]; rfl
  have zB : B.size = 2 := by rw [← hB]; rfl
  have zC : C.size = 2 := by rw [← hC]; rfl
  unfold hms
  rw [hA, hB, hC]
  rw [hA] at h1
  rw [hB] at h2
  rw [hC] at h3
  clear e1 e2 e3 e4 w1 w2 hA hB hC h ha
  go_enter Tryd.func27, Tryd.ntmps27
  go_wp2_with (first | (go_at_call 26; first | (with_reducible refine h1.mono ?_; rintro e w' ⟨rfl, rfl⟩) | (with_reducible refine h2.mono ?_; rintro e w' ⟨rfl, rfl⟩) | (with_reducible refine h3.mono ?_; rintro e w' ⟨rfl, rfl⟩)))
  go_ret
  exact ⟨rfl, rfl⟩
theorem clock_text.calls (a0 : Int) (r : ByteArray) (w : World) (h : clock_text.f a0 = some r) (hG : GL w) :
    Calls Tryd.prog 27 #[.int .i64 a0] w fun e w' => e = .returned (.string r) ∧ Below w.heap.size w w' := by
  unfold clock_text.f at h
  by_cases h0 : 0 ≤ a0
  · by_cases h1 : a0 < 360000
    · rw [if_pos h0, if_pos h1] at h
      obtain rfl := Option.some.inj h
      obtain ⟨n, rfl⟩ : ∃ n : Nat, a0 = (n : Int) := ⟨a0.toNat, by omega⟩
      rw [Int.toNat_natCast]
      exact (text_walk _ n rfl (by omega) w).mono fun e w' ⟨he, hw⟩ => ⟨he, by rw [hw]; exact Below.refl _ _⟩
    · rw [if_pos h0, if_neg h1] at h; cases h
  · rw [if_neg h0] at h; cases h
end Go.Proofs.YtegiikkbeknodaaDoor.P
