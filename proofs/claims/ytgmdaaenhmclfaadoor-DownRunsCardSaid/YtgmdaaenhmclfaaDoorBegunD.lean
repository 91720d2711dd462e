/- The contract of down.begun, in the print's form, at lists that may be: the list handed back is the call's own. -/
import Derived.Test.YtgmdaaenhmclfaaDoorDnBegun
namespace Go.Proofs.YtgmdaaenhmclfaaDoor.P
open Go.RowKit Go.Proofs.YtgmdaaenhmclfaaDoorW.PrintWords Go.Proofs.YtgmdaaenhmclfaaDoorW.PrintLast Go.Proofs.YtgmdaaenhmclfaaDoorW.PrintMore
set_option linter.unusedVariables false
def begunIf (b : Bool) (x : Int × (List (S47)) × Option Int) : Option (Int × (List (S47)) × Option Int) := if b = true then none else some x
def dBg.f (k : Nat) (a0 : Int) (l : List (S47)) : Option (Int × (List (S47)) × Option Int) :=
  if a0 = 0 then (if l.length = 0 then (dC32.f k []).bind fun b => begunIf b (1, [], none) else none)
  else if 1 ≤ a0 ∧ a0 ≤ 2147483648 ∧ l.length ≤ 4096 ∧ idsOk 0 a0 l = true then (dC32.f k l).bind fun b => begunIf b (a0, l, none) else none
theorem dBg.mono : ∀ a0_0 l0_1 k, LeO (dBg.f k a0_0 l0_1) (dBg.f (k + 1) a0_0 l0_1) := by
  intro a l k r h
  unfold dBg.f at h ⊢
  by_cases h0 : a = 0
  · rw [if_pos h0] at h ⊢
    by_cases h1 : l.length = 0
    · rw [if_pos h1] at h ⊢
      obtain ⟨b, hb, he⟩ := Option.bind_eq_some_iff.mp h
      exact Option.bind_eq_some_iff.mpr ⟨b, dC32.mono _ _ _ hb, he⟩
    · rw [if_neg h1] at h; cases h
  · rw [if_neg h0] at h ⊢
    by_cases h1 : 1 ≤ a ∧ a ≤ 2147483648 ∧ l.length ≤ 4096 ∧ idsOk 0 a l = true
    · rw [if_pos h1] at h ⊢
      obtain ⟨b, hb, he⟩ := Option.bind_eq_some_iff.mp h
      exact Option.bind_eq_some_iff.mpr ⟨b, dC32.mono _ _ _ hb, he⟩
    · rw [if_neg h1] at h; cases h
theorem dBg.calls (k : Nat) (a0_0 : Int) (A0_1 : Option Addr) (c0_1 : Nat) (l0_1 : List (S47)) (r1 : Int) (r2 : List (S47)) (r3 : Option Int) (w : World) (hr0_1 : Kd.C k47 w A0_1 l0_1.length l0_1) (hc0_1 : l0_1.length ≤ c0_1) (h : dBg.f k a0_0 l0_1 = some (r1, r2, r3)) :
    Calls Tryd.prog 17 #[.agg #[.int .i64 a0_0, .slice A0_1 l0_1.length c0_1]] w fun e w' => ∃ v1_ : Value, e = .returned (.tuple #[.agg #[.int .i64 r1, v1_], errW r3]) ∧ Kd.R k47 47 w' w.heap.size (fun _ => True) v1_ r2 ∧ Below w.heap.size w w' := by
  unfold dBg.f at h
  by_cases h0 : a0_0 = 0
  · subst h0
    rw [if_pos rfl] at h
    by_cases h1 : l0_1.length = 0
    · have e := List.eq_nil_of_length_eq_zero h1
      subst e
      rw [if_pos h1] at h
      obtain ⟨b, hb, he⟩ := Option.bind_eq_some_iff.mp h
      cases b with
      | true => cases he
      | false =>
        have he2 : some ((1 : Int), ([] : List S47), (none : Option Int)) = some (r1, r2, r3) := he
        simp only [Option.some.injEq, Prod.mk.injEq] at he2
        obtain ⟨rfl, rfl, rfl⟩ := he2
        exact begun_fresh A0_1 c0_1 w hr0_1 k hb
    · rw [if_neg h1] at h; cases h
  · rw [if_neg h0] at h
    by_cases h1 : 1 ≤ a0_0 ∧ a0_0 ≤ 2147483648 ∧ l0_1.length ≤ 4096 ∧ idsOk 0 a0_0 l0_1 = true
    · rw [if_pos h1] at h
      obtain ⟨b, hb, he⟩ := Option.bind_eq_some_iff.mp h
      cases b with
      | true => cases he
      | false =>
        have he2 : some (a0_0, l0_1, (none : Option Int)) = some (r1, r2, r3) := he
        simp only [Option.some.injEq, Prod.mk.injEq] at he2
        obtain ⟨rfl, rfl, rfl⟩ := he2
        exact begun_walk a0_0 A0_1 c0_1 l0_1 w hr0_1 hc0_1 h1.1 h1.2.1 h1.2.2.1 h1.2.2.2 k hb
    · rw [if_neg h1] at h; cases h
end Go.Proofs.YtgmdaaenhmclfaaDoor.P
