/- Plain mathematics of layer 10: parts as a text. -/
import Derived.Test.YtahjnjlkpbjfnaaGreatDoorVaListA
import Derived.Test.YtahjnjlkpbjfnaaGreatDoorPx12
import Derived.Lib.Join
set_option linter.unusedVariables false
set_option linter.unusedSimpArgs false
namespace Go.Proofs.YtahjnjlkpbjfnaaGreatDoor.PVal
open Go Go.RowKit Go.Proofs.YtahjnjlkpbjfnaaGreatDoor.P Go.Proofs.YtahjnjlkpbjfnaaGreatDoorW.PrintWords Go.Proofs.YtahjnjlkpbjfnaaGreatDoorW.PrintLast Go.Proofs.YtahjnjlkpbjfnaaGreatDoorW.PrintMore
open Classical
theorem contains_iff (l : List UInt8) : Lib.contains l [44] = true ↔ 44 ∈ l := by
  unfold Lib.contains
  rw [decide_eq_true_eq, Lib.index_one]
  constructor
  · intro h
    refine byContradiction fun hn => ?_
    rw [ix_notin 44 l hn] at h
    omega
  · intro h
    obtain ⟨a, r, rfl, hn⟩ := first_at 44 l h
    rw [ix_at 44 r a hn]
    omega
/-- A text that is no part of a list. -/
def oddT (x : ByteArray) : Prop := x.toList = ([] : List UInt8) ∨ 44 ∈ x.data.toList ∨ (trimT x).toList ≠ x.toList
theorem odd_f (x : ByteArray) (hx : x.size ≤ 1000) : value_Joined_1.f x = some (decide (oddT x)) := by
  unfold value_Joined_1.f
  have hc : strings_Contains.f x ⟨#[44]⟩ = some (Lib.contains x.data.toList [44]) := by
    unfold strings_Contains.f
    rw [if_pos (by omega)]
  have ht : strings_Trim.f x ⟨#[32, 9]⟩ = some (trimT x) := by
    unfold strings_Trim.f
    rw [if_pos ⟨by omega, by decide, by decide⟩]
    rfl
  by_cases h0 : x.toList = ([] : List UInt8)
  · rw [if_pos h0, decide_eq_true (show oddT x from .inl h0)]
  · rw [if_neg h0, hc, Option.bind_some]
    by_cases h1 : 44 ∈ x.data.toList
    · rw [if_pos ((contains_iff _).2 h1), decide_eq_true (show oddT x from .inr (.inl h1))]
    · rw [if_neg (fun e => h1 ((contains_iff _).1 e)), ht, Option.bind_some]
      by_cases h2 : (trimT x).toList = x.toList
      · rw [decide_eq_false (show ¬ oddT x by rintro (e | e | e); exact h0 e; exact h1 e; exact e h2), bne_eq_false_iff_eq.mpr h2]
      · rw [decide_eq_true (show oddT x from .inr (.inr h2)), bne_iff_ne.mpr h2]
theorem idx_l0 (l : List ByteArray) (hz : l.length ≤ 1000) (hx : ∀ x ∈ l, x.size ≤ 1000) : ∀ (rest pre : List ByteArray) (k : Nat), l = pre ++ rest →
    ∃ v, slices_IndexFunc_string_string__at_1_value_Joined_1_71.l0 (k + rest.length + 1) l (l.length : Int) (pre.length : Int) = some v ∧ (v ≥ 0 ↔ ∃ x ∈ rest, oddT x) := by
  intro rest
  induction rest with
  | nil =>
    intro pre k h
    have hl : l.length = pre.length := by rw [h]; simp
    refine ⟨-1, ?_, by simp⟩
    rw [List.length_nil, Nat.add_zero, slices_IndexFunc_string_string__at_1_value_Joined_1_71.l0, if_neg (by omega)]
  | cons x r ih =>
    intro pre k h
    have hl : l.length = pre.length + (r.length + 1) := by rw [h]; simp
    have hw : wrap64 ((pre.length : Int) + 1) = ((pre ++ [x]).length : Int) := by rw [w64 (by omega) (by omega), List.length_append]; simp
    obtain ⟨v, hv, hi⟩ := ih (pre ++ [x]) k (by rw [h]; simp)
    rw [List.length_cons, show k + (r.length + 1) + 1 = (k + r.length + 1) + 1 by omega, slices_IndexFunc_string_string__at_1_value_Joined_1_71.l0, if_pos (by omega), if_pos (Int.natCast_nonneg _), if_pos (by omega), rd_at l pre x r h, odd_f x (hx x (by rw [h]; simp)), Option.bind_some]
    by_cases ho : oddT x
    · rw [decide_eq_true ho, if_pos rfl]
      exact ⟨_, rfl, ⟨fun _ => ⟨x, List.mem_cons_self .., ho⟩, fun _ => Int.natCast_nonneg _⟩⟩
    · rw [decide_eq_false ho, if_neg (by decide), hw]
      refine ⟨v, hv, hi.trans ⟨fun ⟨y, hy, hoy⟩ => ⟨y, List.mem_cons_of_mem _ hy, hoy⟩, fun ⟨y, hy, hoy⟩ => ?_⟩⟩
      rcases List.mem_cons.1 hy with rfl | q
      · exact absurd hoy ho
      · exact ⟨y, q, hoy⟩
theorem join_cons (a : List UInt8) (L : List (List UInt8)) (c : UInt8) (h : L ≠ []) : Lib.join (a :: L) [c] = a ++ c :: Lib.join L [c] := by
  cases L with
  | nil => exact absurd rfl h
  | cons b L => simp [Lib.join, List.intercalate]
theorem join_snoc (x : List UInt8) (c : UInt8) : ∀ L : List (List UInt8), L ≠ [] → Lib.join (L ++ [x]) [c] = Lib.join L [c] ++ c :: x
  | [], h => absurd rfl h
  | [a], _ => by simp [Lib.join, List.intercalate]
  | a :: b :: L, _ => by
    rw [List.cons_append, join_cons a _ c (by simp), join_snoc x c (b :: L) (by simp), join_cons a (b :: L) c (by simp), List.append_assoc]
    rfl
theorem join_len (c : UInt8) : ∀ L : List (List UInt8), (∀ x ∈ L, x.length ≤ 200) → (Lib.join L [c]).length ≤ 201 * L.length
  | [], _ => by simp [Lib.join, List.intercalate]
  | [a], h => by
    have := h a (by simp)
    have e : Lib.join [a] [c] = a := by simp [Lib.join, List.intercalate]
    rw [e]; simp; omega
  | a :: b :: L, h => by
    have h1 := h a (by simp)
    have h2 := join_len c (b :: L) (fun x hx => h x (List.mem_cons_of_mem _ hx))
    rw [join_cons a (b :: L) c (by simp), List.length_append, List.length_cons]
    simp only [List.length_cons] at h2 ⊢
    omega
/-- Parts, joined. -/
def jn (l : List ByteArray) : ByteArray := ⟨(Lib.join (l.map (·.data.toList)) [44]).toArray⟩
theorem jn_size (l : List ByteArray) (hx : ∀ x ∈ l, x.size ≤ 200) : (jn l).size ≤ 201 * l.length := by
  have h := join_len 44 (l.map (·.data.toList)) (fun y hy => by
    obtain ⟨x, hm, rfl⟩ := List.mem_map.1 hy
    rw [← size_l]; exact hx x hm)
  rw [List.length_map] at h
  exact h
/-- What both answer of parts. -/
noncomputable def joinOf (l : List ByteArray) : ByteArray × Option Int := if l = [] then (⟨#[]⟩, some 13) else if (∃ x ∈ l, oddT x) then (⟨#[]⟩, some 3) else if l.Nodup then (jn l, none) else (⟨#[]⟩, some 7)
theorem val_joined (l : List ByteArray) (hz : l.length ≤ 100) (hx : ∀ x ∈ l, x.size ≤ 200) (k : Nat) : value_Joined.f (k + 200) l = some (joinOf l) := by
  unfold value_Joined.f joinOf
  by_cases h0 : l = []
  · rw [if_pos (by rw [h0]; rfl), if_pos h0]
  · have hp : 0 < l.length := List.length_pos_iff.mpr h0
    obtain ⟨v, hv, hi⟩ := idx_l0 l (by omega) (fun x hm => by have := hx x hm; omega) l [] (k + 199 - l.length) (by simp)
    rw [show k + 199 - l.length + l.length + 1 = k + 200 by omega] at hv
    have hc : slices_ContainsFunc_string_string__at_1_value_Joined_1_42.f (k + 200) l = some (decide (v ≥ 0)) := by
      unfold slices_ContainsFunc_string_string__at_1_value_Joined_1_42.f slices_IndexFunc_string_string__at_1_value_Joined_1_71.f
      refine (congrArg (fun o => Option.bind o _) (show slices_IndexFunc_string_string__at_1_value_Joined_1_71.l0 (k + 200) l (l.length : Int) 0 = some v from hv)).trans rfl
    have hr : value_repeated.f l = some (dupS l) := by unfold value_repeated.f; rw [if_pos (by omega)]
    have hj : strings_Join.f l ⟨#[44]⟩ = some (jn l) := by
      unfold strings_Join.f
      have := jn_size l hx
      rw [if_pos ⟨by omega, by show (jn l).size ≤ _; omega⟩]
      rfl
    rw [if_neg (by omega), if_neg h0, hc, Option.bind_some]
    by_cases ho : ∃ x ∈ l, oddT x
    · rw [if_pos (decide_eq_true (hi.2 ho)), if_pos ho]
    · rw [if_neg (by rw [decide_eq_false (fun e => ho (hi.1 e))]; decide), if_neg ho, hr, Option.bind_some]
      by_cases hn : l.Nodup
      · rw [if_neg (fun e => (dup_iff l).1 e hn), if_pos hn, if_neg (by omega), hj]; rfl
      · rw [if_pos ((dup_iff l).2 hn), if_neg hn]
theorem texts_l0 (l : List ByteArray) (hz : l.length ≤ 10000) : ∀ (rest pre : List ByteArray) (k : Nat), l = pre ++ rest → belvederelaw10_texts.l0 (k + rest.length + 1) l l (pre.length : Int) = some true := by
  intro rest
  induction rest with
  | nil =>
    intro pre k h
    have hl : l.length = pre.length := by rw [h]; simp
    rw [List.length_nil, Nat.add_zero, belvederelaw10_texts.l0, if_neg (by omega)]
  | cons x r ih =>
    intro pre k h
    have hl : l.length = pre.length + (r.length + 1) := by rw [h]; simp
    have hw : wrap64 ((pre.length : Int) + 1) = ((pre ++ [x]).length : Int) := by rw [w64 (by omega) (by omega), List.length_append]; simp
    rw [List.length_cons, show k + (r.length + 1) + 1 = (k + r.length + 1) + 1 by omega, belvederelaw10_texts.l0, if_pos (by omega), if_pos (Int.natCast_nonneg _), if_pos (by omega), if_pos rfl, hw]
    exact ih (pre ++ [x]) k (by rw [h]; simp)
theorem texts_same (l : List ByteArray) (hz : l.length ≤ 1000) (k : Nat) : belvederelaw10_texts.f (k + 2000) l l = some true := by
  have h := texts_l0 l (by omega) l [] (k + 1999 - l.length) (by simp)
  rw [show k + 1999 - l.length + l.length + 1 = k + 2000 by omega] at h
  unfold belvederelaw10_texts.f
  rw [if_pos rfl]
  exact h
theorem listOf_len (s : ByteArray) : (listOf s).1.length ≤ s.size + 1 := by
  have h : (partsT s).length ≤ s.size + 1 := by unfold partsT; rw [List.length_map]; exact parts_len 44 s
  unfold listOf
  repeat' split
  all_goals first | exact h | exact Nat.zero_le _
end Go.Proofs.YtahjnjlkpbjfnaaGreatDoor.PVal
