/- The contract of command.parts: a command's fields, or what is wrong (the cases without a text as the last field; the last case is not walked yet). -/
import Derived.Test.YtdakfmldbddokaaGreatDoorVaShelf
import Derived.Test.YtdakfmldbddokaaGreatDoorCmCut
import Derived.Test.YtdakfmldbddokaaGreatDoorOpens
import Derived.ArgAppend
import Derived.Deep.RegionLawGrows
import Derived.Lib.SmallJoins
set_option linter.unusedVariables false
set_option linter.unusedSimpArgs false
namespace Go.Proofs.YtdakfmldbddokaaGreatDoor.P
open Go Go.RowKit Go.Proofs.YtdakfmldbddokaaGreatDoorW.PrintWords Go.Proofs.YtdakfmldbddokaaGreatDoorW.PrintLast Go.Proofs.YtdakfmldbddokaaGreatDoorW.PrintMore
def semi : ByteArray := ⟨#[59]⟩
def fieldRow (rest : ByteArray) (has : Bool) : List ByteArray := if has = true then parts rest semi else []
def lastText (l : List ByteArray) (n : Nat) : ByteArray := ⟨(Lib.join ((l.drop (n - 1)).map (·.data.toList)) [59]).toArray⟩
def partsOf (rest : ByteArray) (has : Bool) (kinds : List Int) : List ByteArray × Option Int :=
  if (fieldRow rest has).length < kinds.length then ([], some 13)
  else if kinds.getD (kinds.length - 1) 0 = 9 then
    (if Lib.contains (lastText (fieldRow rest has) kinds.length).data.toList [10] = true then ([], some 3) else ((fieldRow rest has).take (kinds.length - 1) ++ [lastText (fieldRow rest has) kinds.length], none))
  else if kinds.length < (fieldRow rest has).length then ([], some 3) else (fieldRow rest has, none)
def command_parts.f (a0 : ByteArray) (a1 : Bool) (l2 : List Int) : Option (List ByteArray × Option Int) := if a0.size ≤ 4096 ∧ 1 ≤ l2.length ∧ l2.length ≤ 1000 ∧ (l2.getD (l2.length - 1) 0 = 9 → l2.length = 3) ∧ (lastText (fieldRow a0 a1) l2.length).size ≤ 4096 then some (partsOf a0 a1 l2) else none
set_option maxRecDepth 100000 in
set_option maxHeartbeats 4000000 in
theorem parts_none (a0 : ByteArray) (A2 : Option Addr) (c2 : Nat) (n : Nat) (w : World) (hn : 1 ≤ n) (hn2 : n ≤ 1000) :
    Calls Tryz.prog 22 #[.string a0, .bool false, .slice A2 n c2] w fun e w' => e = .returned (.tuple #[.slice none 0 0, errW (some 13)]) ∧ Below w.heap.size w w' := by
  have h0 : decide ((0 : Int) < (n : Int)) = true := decide_eq_true (by omega)
  have h0' : (0 : Int) < (n : Int) := by omega
  go_enter Tryz.func22, Tryz.ntmps22
  go_wp2
  first | go_ret2 | go_ret
  exact ⟨rfl, Below.refl _ _⟩
set_option maxRecDepth 100000 in
set_option maxHeartbeats 4000000 in
theorem parts_few (a0 : ByteArray) (A2 : Option Addr) (c2 : Nat) (n m : Nat) (w : World) (hS : Calls Tryz.prog 38 #[.string a0, .string semi] w fun e w' => e = .returned (.slice (some ⟨w.heap.size, 0, none⟩) m m) ∧ Below w.heap.size w w') (hm : m < n) :
    Calls Tryz.prog 22 #[.string a0, .bool true, .slice A2 n c2] w fun e w' => e = .returned (.tuple #[.slice none 0 0, errW (some 13)]) ∧ Below w.heap.size w w' := by
  have h0 : decide ((m : Int) < (n : Int)) = true := decide_eq_true (by omega)
  have h0' : (m : Int) < (n : Int) := by omega
  go_enter Tryz.func22, Tryz.ntmps22
  go_wp2_with (first | (go_at_call 38; refine hS.mono ?_; rintro e w1 ⟨rfl, hb⟩))
  first | go_ret2 | go_ret
  exact ⟨rfl, hb⟩
set_option maxRecDepth 100000 in
set_option maxHeartbeats 4000000 in
theorem parts_plain (a0 : ByteArray) (g o c2 : Nat) (x : Int) (n m : Nat) (w w1 : World) (hS : Calls Tryz.prog 38 #[.string a0, .string semi] w fun e w' => e = .returned (.slice (some ⟨w.heap.size, 0, none⟩) m m) ∧ w' = w1) (hcx : w1.cell? ⟨g, o + (n - 1), none⟩ = some (.int .i64 x)) (hn : 1 ≤ n) (hn2 : n ≤ 1000) (hm : ¬ m < n) (hx : x ≠ 9) (hmm : m ≤ 100000) :
    Calls Tryz.prog 22 #[.string a0, .bool true, .slice (some ⟨g, o, none⟩) n c2] w fun e w' => ((n < m ∧ e = .returned (.tuple #[.slice none 0 0, errW (some 3)])) ∨ (¬ n < m ∧ e = .returned (.tuple #[.slice (some ⟨w.heap.size, 0, none⟩) m m, errW none]))) ∧ w' = w1 := by
  have h0' : ¬ (m : Int) < (n : Int) := by omega
  have h0 : decide ((m : Int) < (n : Int)) = false := decide_eq_false h0'
  have hxb : (x == 9) = false := beq_eq_false_iff_ne.2 hx
  by_cases h1 : n < m
  · have h1' : (n : Int) < (m : Int) := by omega
    have h1b : decide ((n : Int) < (m : Int)) = true := decide_eq_true h1'
    go_enter Tryz.func22, Tryz.ntmps22
    go_wp2_with (first | (go_at_call 38; refine hS.mono ?_; rintro e w1' ⟨rfl, rfl⟩))
    first | go_ret2 | go_ret
    exact ⟨.inl ⟨h1, rfl⟩, rfl⟩
  · have h1' : ¬ (n : Int) < (m : Int) := by omega
    have h1b : decide ((n : Int) < (m : Int)) = false := decide_eq_false h1'
    go_enter Tryz.func22, Tryz.ntmps22
    go_wp2_with (first | (go_at_call 38; refine hS.mono ?_; rintro e w1' ⟨rfl, rfl⟩))
    first | go_ret2 | go_ret
    exact ⟨.inr ⟨h1, rfl⟩, rfl⟩
theorem cut3 (b p m : Nat) (h : p ≤ m) (W : World) : (Instr.slice 47 (.slice (some ⟨b, 0, none⟩) m m) none (some (.int .i64 (p : Int))) (some (.int .i64 (p : Int)))).run Tryz.prog W = .ok (.slice (some ⟨b, 0, none⟩) p p) W := by
  have h1 : (p : Int) ≤ (m : Int) := by omega
  simp [run_slice_hm, run_underlying Tryz.underlying47, h1, go_sem]
theorem cut2 (b p m : Nat) (h : p < m) (W : World) : (Instr.slice 47 (.slice (some ⟨b, 0, none⟩) m m) (some (.int .i64 (p : Int))) none none).run Tryz.prog W = .ok (.slice (some ⟨b, p, none⟩) (m - p) (m - p)) W := by
  have h1 : (p : Int) ≤ (m : Int) := by omega
  have h2 : ¬ m = p := by omega
  simp [run_slice_l, run_underlying Tryz.underlying47, h1, h2, go_sem]
end Go.Proofs.YtdakfmldbddokaaGreatDoor.P

/- command.parts where the last field is a text (then there are three kinds). -/
set_option linter.unusedVariables false
set_option linter.unusedSimpArgs false
namespace Go.Proofs.YtdakfmldbddokaaGreatDoor.P
open Go Go.RowKit Go.Proofs.YtdakfmldbddokaaGreatDoorW.PrintWords Go.Proofs.YtdakfmldbddokaaGreatDoorW.PrintLast Go.Proofs.YtdakfmldbddokaaGreatDoorW.PrintMore
theorem cm_own_drewN {w : World} {base : Nat} {e : TypeId} {size n : Nat} {v : Value} {xs : List Value} (h : w.ownsRow base e size v n xs) (k : Nat) : (w.drewN k).ownsRow base e size v n xs := by
  induction k with
  | zero => exact h
  | succ k ih => exact ih
theorem cm_own_drew {w : World} {base : Nat} {e : TypeId} {size n : Nat} {v : Value} {xs : List Value} (h : w.ownsRow base e size v n xs) : w.drew.ownsRow base e size v n xs := h
theorem cm_own_at3 {w : World} {base : Nat} {e : TypeId} {g cap : Nat} {x y z : Value} (h : w.ownsRow base e 1 (.slice (some ⟨g, 0, none⟩) 3 cap) 3 [x, y, z]) : w.cell? ⟨g, 2, none⟩ = some z := by
  rcases h.2 with ⟨_, h0⟩ | ⟨g', cap', cur, hv, hb, hh, hn, hc, hs, ht⟩
  · omega
  · simp only [Value.slice.injEq, Option.some.injEq, Addr.mk.injEq] at hv
    obtain ⟨⟨rfl, -⟩, -, rfl⟩ := hv
    have h2 : cur.toList[2]? = some z := by
      have := congrArg (·[2]?) ht
      simpa [List.getElem?_take] using this
    simp only [World.cell?, hh]
    simpa using h2
theorem cm_gl_ {w1 w2 w3 : World} {o : Obj} (hG : GL w1) (hb : Below w1.drew.heap.size w1.drew w2) (hg : (w2.alloc o).grownBy w3 none) : GL w3 := by
  have h1 : Below w1.heap.size w1 w2 := Below.trans (b := w1.drew) ⟨rfl, rfl, rfl, Nat.le_refl _, fun _ _ => rfl⟩ hb
  exact hG.below ((h1.alloc h1.size o).grown hg (Nat.le_trans h1.size (by simp)) (by intro k hk; cases hk))
theorem cm_below_ {w w1 w2 w3 : World} {o : Obj} (hB : Below w.heap.size w w1) (hsz : w.heap.size ≤ w1.heap.size) (hb : Below w1.drew.heap.size w1.drew w2) (hg : (w2.alloc o).grownBy w3 none) (n : Nat) : Below w.heap.size w (w3.drewN n) := by
  have h1 : Below w1.heap.size w1 w2 := Below.trans (b := w1.drew) ⟨rfl, rfl, rfl, Nat.le_refl _, fun _ _ => rfl⟩ hb
  have h2 : Below w1.heap.size w1 w3 := (h1.alloc h1.size o).grown hg (Nat.le_trans h1.size (by simp)) (by intro k hk; cases hk)
  exact pw_below_drewN (hB.trans (h2.mono hsz)) _
theorem cm_holds_ {w w1 w2 : World} {x0 x1 : ByteArray} {o : Obj} (h0 : w1.cell? ⟨w.heap.size, 0, none⟩ = some (.string x0)) (h1 : w1.cell? ⟨w.heap.size, 1, none⟩ = some (.string x1)) (hB : Below w.heap.size w w1) (hb : Below w1.drew.heap.size w1.drew w2) :
    ∀ b, some (⟨w.heap.size, 0, none⟩ : Addr) = some b → ∀ j u, ([.string x0, .string x1] : List Value)[j]? = some u → (w2.alloc o).cell? (b.add j) = some u := by
  intro b hb' j u hj
  obtain rfl := Option.some.inj hb'
  have hlt : w.heap.size < w1.heap.size := World.block_lt_of_cell? _ _ h0
  have hbb : Below w1.heap.size w1 (w2.alloc o) := Below.trans (b := w1.drew) ⟨rfl, rfl, rfl, Nat.le_refl _, fun _ _ => rfl⟩ (hb.alloc hb.size o)
  match j, hj with
  | 0, hj =>
    obtain rfl := Option.some.inj hj
    exact (hbb.cell (p := ⟨w.heap.size, 0, none⟩) hlt).trans h0
  | 1, hj =>
    obtain rfl := Option.some.inj hj
    exact (hbb.cell (p := ⟨w.heap.size, 1, none⟩) hlt).trans h1
theorem cm_news_ (w2 : World) (T : ByteArray) : ∀ j u, ([.string T] : List Value)[j]? = some u → (w2.alloc (.cells #[.string T] 9)).cell? ((⟨w2.heap.size, 0, none⟩ : Addr).add j) = some u := by
  intro j u hj
  match j, hj with
  | 0, hj =>
    obtain rfl := Option.some.inj hj
    rw [show (⟨w2.heap.size, 0, none⟩ : Addr).add 0 = ⟨w2.heap.size, 0, none⟩ from rfl]
    simp only [World.cell?, heap_alloc_new]
    rfl
set_option maxRecDepth 100000 in
set_option maxHeartbeats 4000000 in
theorem parts_text (a0 : ByteArray) (g o c2 : Nat) (m : Nat) (w w1 : World) (hS : Calls Tryz.prog 38 #[.string a0, .string semi] w fun e w' => e = .returned (.slice (some ⟨w.heap.size, 0, none⟩) m m) ∧ w' = w1) (hB : Below w.heap.size w w1) (hsz : w.heap.size ≤ w1.heap.size) (hcx : w1.cell? ⟨g, o + 2, none⟩ = some (.int .i64 9)) (hm : 2 < m) (hmm : m ≤ 100000) (x0 x1 T : ByteArray) (hx0 : w1.cell? ⟨w.heap.size, 0, none⟩ = some (.string x0)) (hx1 : w1.cell? ⟨w.heap.size, 1, none⟩ = some (.string x1)) (hG1 : GL w1)
    (hJ : ∀ W, Below w1.heap.size w1 W → Calls Tryz.prog 19 #[.slice (some ⟨w.heap.size, 2, none⟩) (m - 2) (m - 2), .string semi] W fun e w' => e = .returned (.string T) ∧ Below W.heap.size W w') (b : Bool) (hC : ∀ W, GL W → Calls Tryz.prog 32 #[.string T, .string ⟨#[10]⟩] W fun e w' => e = .returned (.bool b) ∧ Drawn0 W w') :
    Calls Tryz.prog 22 #[.string a0, .bool true, .slice (some ⟨g, o, none⟩) 3 c2] w fun e w' => ((b = true ∧ e = .returned (.tuple #[.slice none 0 0, errW (some 3)])) ∨ (b = false ∧ ∃ v, e = .returned (.tuple #[v, errW none]) ∧ w'.ownsRow w.heap.size 9 1 v 3 [.string x0, .string x1, .string T])) ∧ Below w.heap.size w w' := by
  have h0' : ¬ (m : Int) < 3 := by omega
  have h0 : decide ((m : Int) < 3) = false := decide_eq_false h0'
  have hpm : (2 : Int) ≤ (m : Int) := by omega
  have hne : ¬ m = 2 := by omega
  have hne1 : ¬ m ≤ 2 := by omega
  have hne2 : ¬ m - 2 = 0 := by omega
  have hw2 : IntKind.i64.wrap 2 = 2 := by decide
  obtain ⟨i0, hi, hzz⟩ := Option.map_eq_some_iff.1 info9
  simp only [Prod.mk.injEq] at hzz
  obtain ⟨hz0, hz1, hz2⟩ := hzz
  have A1 := Aside0.mk hi
  have A2 := Aside0.mk hz0
  have A3 := Aside0.mk hz1
  have A4 := Aside0.mk hz2
  have A5 := Aside0.mk hx0
  have A6 := Aside0.mk hx1
  have A7 := Aside0.mk hB
  have A8 := Aside0.mk hsz
  have A9 := Aside0.mk hG1
  clear hi hz0 hz1 hz2 hx0 hx1 hB hsz hG1
  go_enter Tryz.func22, Tryz.ntmps22
  go_upto_region 8 with (first | (go_at_call 38; refine hS.mono ?_; rintro e w1' ⟨rfl, rfl⟩))
  go_region_law (first
    | (refine goes_ (f := 19) Tryz.func19 (by kernel_rfl) rfl #[.slice (some ⟨w.heap.size, 2, none⟩) (m - 2) (m - 2), .string semi] (by rfl) rfl rfl (by simp [Act.eval, Act.put, semi]) ?_
       refine (hJ (World.drew _) ⟨rfl, rfl, rfl, Nat.le_refl _, fun _ _ => rfl⟩).mono ?_
       rintro e w2 ⟨rfl, hb2⟩
       have A10 := Aside0.mk hb2
       clear hb2
       refine ⟨_, rfl, ?_⟩)
    | (skip; refine step_append_grows rfl (.tmp 33) (.tmp 39) 47 rfl 9 i0 _ 1 16 Tryz.underlying47 A1.out A2.out A3.out A4.out rfl (by decide) (some ⟨w.heap.size, 0, none⟩) 2 2 [.string x0, .string x1] (by simp [Act.eval, Act.put]) (fun h => by cases h) rfl (cm_holds_ A5.out A6.out A7.out A10.out) ⟨w2.heap.size, 0, none⟩ 1 1 [.string T] (by simp [Act.eval, Act.put]) rfl (cm_news_ _ _) (by simp [Value.oneCell']) (by decide) (by decide) (by decide) ?_
       intro v' w' hown hgrow
       obtain ⟨g3, cap3, rfl⟩ := Joins.ownsRow_form hown (by decide)
       have A11 := Aside0.mk hown
       have A12 := Aside0.mk hgrow
       have hc3 := cm_own_at3 hown
       clear hown hgrow)
    | fail)
  cases b with
  | true =>
    go_wp2_with (first | (go_at_call 32; refine (hC _ (cm_gl_ A9.out A10.out A12.out)).mono ?_; rintro e w3 ⟨rfl, n3, rfl⟩))
    first | go_ret2 | go_ret
    exact ⟨rfl, cm_below_ A7.out A8.out A10.out A12.out n3⟩
  | false =>
    go_wp2_with (first | (go_at_call 32; refine (hC _ (cm_gl_ A9.out A10.out A12.out)).mono ?_; rintro e w3 ⟨rfl, n3, rfl⟩))
    first | go_ret2 | go_ret
    exact ⟨⟨_, rfl, own_weaken (cm_own_drewN A11.out _) (Nat.le_trans (Nat.le_trans A8.out A10.out.size) (by simp))⟩, cm_below_ A7.out A8.out A10.out A12.out n3⟩
end Go.Proofs.YtdakfmldbddokaaGreatDoor.P

/- The contract of command.parts, in the print's form. -/
set_option linter.unusedVariables false
set_option linter.unusedSimpArgs false
namespace Go.Proofs.YtdakfmldbddokaaGreatDoor.P
open Go Go.RowKit Go.Proofs.YtdakfmldbddokaaGreatDoorW.PrintWords Go.Proofs.YtdakfmldbddokaaGreatDoorW.PrintLast Go.Proofs.YtdakfmldbddokaaGreatDoorW.PrintMore
/-- Where the whole numbers of a row lie. -/
theorem cm_row_at_int {w : World} {A0 : Option Addr} {l0 : List Int} (hr0 : (Kd.int .i64).C w A0 l0.length l0) (hne : 0 < l0.length) :
    ∃ bk o, A0 = some ⟨bk, o, none⟩ ∧ bk < w.heap.size ∧ ∀ (j : Nat), j < l0.length → w.cell? ⟨bk, o + j, none⟩ = some (.int .i64 (l0.getD j 0)) := by
  obtain ⟨_, _, hh⟩ := Kd.reads_of_C (d := (0 : Int)) hr0
  obtain ⟨ad, rfl, hc⟩ := hh hne
  obtain ⟨bk, o, sp⟩ := ad
  have h0 := hc 0 hne
  have hsp : sp = none := by
    cases sp with
    | none => rfl
    | some q =>
      unfold World.cell? at h0
      split at h0
      · simp [Addr.add] at h0
      · cases h0
  subst hsp
  have hcell : ∀ (j : Nat), j < l0.length → w.cell? ⟨bk, o + j, none⟩ = some (.int .i64 (l0.getD j 0)) := fun j hj => by
    have h4 := hc j hj
    by_cases hj0 : j = 0
    · subst hj0; simpa [Addr.add] using h4
    · simpa [Addr.add, hj0] using h4
  refine ⟨bk, o, rfl, ?_, hcell⟩
  have h5 := hcell 0 hne
  unfold World.cell? at h5
  split at h5
  · rename_i hb; exact (Array.getElem?_eq_some_iff.1 hb).1
  · cases h5
theorem cm_R_of_alloc (w : World) (L : List ByteArray) (hL : L.length ≤ 100000) (hp : 0 < L.length) : Kd.R Kd.string 9 (w.alloc (.cells (L.map Value.string).toArray 9)) w.heap.size (fun _ => True) (.slice (some ⟨w.heap.size, 0, none⟩) L.length L.length) L := by
  refine Kd.R_of_own (enc := Value.string) ⟨by simp [encs], .inr ⟨w.heap.size, L.length, _, rfl, Nat.le_refl _, heap_alloc_new w _, Nat.le_refl _, by unfold maxLen; omega, by simp, ?_⟩⟩ (fun _ _ => trivial)
  simp only [encs]
  exact List.take_of_length_le (by simp)
theorem cm_parts_len (s : ByteArray) (hs : s.size ≤ 4096) : (parts s semi).length ≤ 4097 := by
  have h1 : (parts s semi).length = Lib.countB s semi + 1 := Lib.splitB_all semi (by decide) 0 _ s rfl
  have h2 := Lib.countB_le semi (by decide) s.size s (Nat.le_refl _)
  omega
theorem cm_three (L : List ByteArray) (h : 2 < L.length) : L.take 2 = [L.getD 0 ByteArray.empty, L.getD 1 ByteArray.empty] := by
  match L, h with
  | a :: b :: c :: r, _ => rfl
set_option maxRecDepth 100000 in
set_option maxHeartbeats 4000000 in
theorem command_parts.calls (a0 : ByteArray) (a1 : Bool) (A2 : Option Addr) (c2 : Nat) (l2 : List Int) (r1 : List ByteArray) (r2 : Option Int) (w : World) (hr2 : (Kd.int .i64).C w A2 l2.length l2) (hc2 : l2.length ≤ c2) (h : command_parts.f a0 a1 l2 = some (r1, r2)) (hG : GL w) :
    Calls Tryz.prog 22 #[.string a0, .bool a1, .slice A2 l2.length c2] w fun e w' => ∃ v0_, e = .returned (.tuple #[v0_, errW r2]) ∧ Kd.R Kd.string 9 w' w.heap.size (fun _ => True) v0_ r1 ∧ Below w.heap.size w w' := by
  unfold command_parts.f at h
  split at h
  case isFalse => cases h
  case isTrue hd =>
    obtain ⟨d1, d2, d3, d4, d5⟩ := hd
    have h := Option.some.inj h
    unfold partsOf at h
    cases a1 with
    | false =>
      rw [if_pos (by simp [fieldRow]; omega)] at h
      obtain ⟨rfl, rfl⟩ := Prod.mk.inj h
      refine (parts_none a0 A2 c2 l2.length w d2 d3).mono ?_
      rintro e w' ⟨rfl, hb⟩
      exact ⟨_, rfl, Kd.R_nil _ _ _ _ _, hb⟩
    | true =>
      have hf : fieldRow a0 true = parts a0 semi := rfl
      rw [hf] at h d5
      have hm := cm_parts_len a0 d1
      have hs := split_walk a0 semi (by omega) (by decide) w hG
      have hbel : Below w.heap.size w (w.alloc (.cells ((parts a0 semi).map Value.string).toArray 9)) := (Below.refl _ _).alloc (Nat.le_refl _) _
      by_cases g1 : (parts a0 semi).length < l2.length
      · rw [if_pos g1] at h
        obtain ⟨rfl, rfl⟩ := Prod.mk.inj h
        refine (parts_few a0 A2 c2 l2.length _ w (hs.mono (by rintro e w' ⟨rfl, rfl⟩; exact ⟨rfl, hbel⟩)) g1).mono ?_
        rintro e w' ⟨rfl, hb⟩
        exact ⟨_, rfl, Kd.R_nil _ _ _ _ _, hb⟩
      · rw [if_neg g1] at h
        obtain ⟨g, o, rfl, hlt, hcell⟩ := cm_row_at_int hr2 (by omega)
        have hlast := (hbel.cell (p := ⟨g, o + (l2.length - 1), none⟩) hlt).trans (hcell (l2.length - 1) (by omega))
        have hR := cm_R_of_alloc w (parts a0 semi) (by omega) (by omega)
        by_cases g2 : l2.getD (l2.length - 1) 0 = 9
        · rw [if_pos g2] at h
          have g3 := d4 g2
          rw [g2, g3] at hlast
          have hC := (Kd.R_reads' hR).2.2
          have hc0 : ∀ j, j < (parts a0 semi).length → (w.alloc (.cells ((parts a0 semi).map Value.string).toArray 9)).cell? ⟨w.heap.size, j, none⟩ = some (.string ((parts a0 semi).getD j ByteArray.empty)) := fun j hj => by
            obtain ⟨_, _, hh⟩ := Kd.reads_of_C (d := ByteArray.empty) hC
            obtain ⟨ad, e1, hc⟩ := hh (by omega)
            obtain rfl := Option.some.inj e1
            have h4 := hc j hj
            by_cases hj0 : j = 0
            · subst hj0; simpa [Addr.add] using h4
            · simpa [Addr.add, hj0] using h4
          rw [g3] at h g1 d5
          have hT : strings_Join.f ((parts a0 semi).drop 2) semi = some (lastText (parts a0 semi) 3) := by
            unfold strings_Join.f
            rw [if_pos]
            · rfl
            · refine ⟨by simp; omega, ?_⟩
              have : (lastText (parts a0 semi) 3).size = (Lib.join (((parts a0 semi).drop 2).map (·.data.toList)) semi.data.toList).length := by
                simp [lastText, ByteArray.size, semi]
              omega
          have hCt : strings_Contains.f (lastText (parts a0 semi) 3) ⟨#[10]⟩ = some (Lib.contains (lastText (parts a0 semi) 3).data.toList [10]) := by
            unfold strings_Contains.f
            rw [if_pos (by omega)]
          have hdl : ((parts a0 semi).drop 2).length = (parts a0 semi).length - 2 := by simp
          rw [g3]
          refine (parts_text a0 g o c2 (parts a0 semi).length w _ hs hbel hbel.size hlast (by omega) (by omega) _ _ (lastText (parts a0 semi) 3) (hc0 0 (by omega)) (hc0 1 (by omega)) (hG.below hbel) (fun W hW => ?_) _ (fun W hW => strings_Contains.calls _ _ _ W hCt hW)).mono ?_
          · have hCd := Kd.C_drop (m := 2) (c := (parts a0 semi).length) (Kd.C_below hC hW) (by omega) (Nat.le_refl _)
            rw [if_neg (by omega)] at hCd
            have := strings_Join.calls _ ((parts a0 semi).length - 2) _ _ _ W hCd (by omega) hT
            rw [hdl] at this
            exact this
          · rintro e w' ⟨h1 | h1, hb⟩
            · obtain ⟨hb1, rfl⟩ := h1
              rw [if_pos hb1] at h
              obtain ⟨rfl, rfl⟩ := Prod.mk.inj h
              exact ⟨_, rfl, Kd.R_nil _ _ _ _ _, hb⟩
            · obtain ⟨hb1, v, rfl, hown⟩ := h1
              rw [if_neg (by rw [hb1]; simp)] at h
              obtain ⟨rfl, rfl⟩ := Prod.mk.inj h
              refine ⟨_, rfl, ?_, hb⟩
              rw [cm_three _ (by omega)]
              exact Kd.R_of_own (enc := Value.string) hown (fun _ _ => trivial)
        · rw [if_neg g2] at h
          refine (parts_plain a0 g o c2 _ l2.length (parts a0 semi).length w _ hs hlast d2 d3 g1 g2 (by omega)).mono ?_
          rintro e w' ⟨h1, rfl⟩
          rcases h1 with ⟨h1, rfl⟩ | ⟨h1, rfl⟩
          · rw [if_pos h1] at h
            obtain ⟨rfl, rfl⟩ := Prod.mk.inj h
            exact ⟨_, rfl, Kd.R_nil _ _ _ _ _, hbel⟩
          · rw [if_neg h1] at h
            obtain ⟨rfl, rfl⟩ := Prod.mk.inj h
            exact ⟨_, rfl, hR, hbel⟩
end Go.Proofs.YtdakfmldbddokaaGreatDoor.P
