/- The contract of slices.Grow at no slice: a row of the call's own, of nothing. -/
import Derived.Test.YtgaklpmedgcglaaDoorPx0
import Derived.WalkSpells
import Derived.Test.YtgaklpmedgcglaaDoorWZeros
namespace Go.Proofs.YtgaklpmedgcglaaDoor.P
open Go.RowKit Go.Proofs.YtgaklpmedgcglaaDoorW.PrintWords Go.Proofs.YtgaklpmedgcglaaDoorW.PrintLast Go.Proofs.YtgaklpmedgcglaaDoorW.PrintMore
attribute [local go_sem] max2_int min2_int max_two min_two max_three min_three max_four min_four
set_option linter.unusedVariables false
set_option linter.unusedSimpArgs false
theorem grow_nil.calls (n : Int) (w : World) (h0 : 0 ≤ n) (h1 : n ≤ 140737488355328) :
    Calls Tryd.prog 23 #[.slice none 0 0, .int .i64 n] w fun e w' => ∃ v, e = .returned v ∧ Kd.R (Kd.int .u8) 5 w' w.heap.size (fun _ => True) v [] ∧ Below w.heap.size w w' := by
  have HB := Aside0.mk (Below.refl w.heap.size w)
  have e0 : wrap64 n = n := by unfold wrap64; omega
  have e1 : decide (n < 0) = false := decide_eq_false (by omega)
  by_cases hn : n > 0
  · have e2 : decide (wrap64 n > 0) = true := decide_eq_true (by omega)
    have HN : Aside0 (0 ≤ wrap64 n ∧ wrap64 n ≤ 140737488355328) := Aside0.mk (by rw [e0]; exact And.intro h0 h1)
    clear hn h0 h1 e0
    go_enter Tryd.func23, Tryd.ntmps23
    go_wp2_with (first | ((with_reducible refine gate_dst (N := 22) rfl ?_); at_builtin; refine Kd.S_append_zeros (Kd.int .u8) (w0 := w) w.heap.size rfl (.tmp 20) (.tmp 21) 22 3 5 (.int .u8 0) 1 rfl Tryd.underlying22 Tryd.underlying3 info5 rfl (by decide) (by decide) (.slice none 0 0) ([] : List Int) 0 (wrap64 n) (fun _ => True) rfl rfl rfl (fun _ _ => trivial) (Kd.S_nil _ _ _ _ _) HN.out.1 HB.out (Nat.le_refl _) (by have := HN.out; simp; omega) ?_; intro v1 w1 ho hb hg hat; have HO1 := Aside0.mk ho; clear HB; have HB := Aside0.mk hb; clear ho hb hg hat; obtain ⟨A1, c1, rfl⟩ := Kd.S_slice HO1.out))
    go_ret
    exact ⟨_, rfl, Kd.S_R (by have := Kd.S_take HO1.out (m := 0) (Nat.zero_le _); simpa using this), HB.out⟩
  · have e2 : decide (wrap64 n > 0) = false := decide_eq_false (by omega)
    clear hn h0 h1 e0
    go_enter Tryd.func23, Tryd.ntmps23
    go_wp2
    go_ret
    exact ⟨_, rfl, Kd.R_nil _ _ _ _ _, HB.out⟩
end Go.Proofs.YtgaklpmedgcglaaDoor.P
