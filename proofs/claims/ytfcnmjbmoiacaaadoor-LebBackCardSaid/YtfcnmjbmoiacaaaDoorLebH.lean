/- Plain mathematics of layer 2: what the other writing of Take comes to. -/
import Derived.Test.YtfcnmjbmoiacaaaDoorLebG
set_option linter.unusedVariables false
namespace Go.Proofs.YtfcnmjbmoiacaaaDoor.Leb
open Go.RowKit Go.Proofs.YtfcnmjbmoiacaaaDoor.P Go.Proofs.YtfcnmjbmoiacaaaDoorW.PrintWords Go.Proofs.YtfcnmjbmoiacaaaDoorW.PrintLast Go.Proofs.YtfcnmjbmoiacaaaDoorW.PrintMore
theorem rd_at (l : List Int) (i : Nat) (h : i < l.length) : rd l (i : Int) = l[i] := by
  show (l[i]?).getD 0 = _
  rw [List.getElem?_eq_getElem h]; rfl
theorem s64 (i : Nat) (h : i < 4000001) : wrap64 ((i : Int) + 1) = ((i + 1 : Nat) : Int) := by rw [w64 (by omega) (by omega)]; rfl
/-- The comparison, byte by byte. -/
theorem same_step (l : List Int) (n v : Nat) (E : List Int) (hn : n < l.length) (h9 : n ≤ 9) (hE : E.length = n + 1) : ∀ (d j : Nat), j + d = n + 1 →
    Ev (fun k => belvedereref02_Take.l2 k l (n : Int) (v : Int) E (j : Int)) (if E.drop j = (l.take (n + 1)).drop j then ((v : Int), l.drop (n + 1), 0) else (0, [], 3)) := by
  have hL : (l.take (n + 1)).length = n + 1 := by rw [List.length_take]; exact Nat.min_eq_left hn
  intro d
  induction d with
  | zero =>
    intro j hj
    obtain rfl : j = n + 1 := by omega
    refine ⟨1, fun k hk => ?_⟩
    obtain ⟨m, rfl⟩ : ∃ m, k = m + 1 := ⟨k - 1, by omega⟩
    show belvedereref02_Take.l2 (m + 1) _ _ _ _ _ = _
    have c1 : ¬ (((n + 1 : Nat) : Int) ≤ (n : Int)) := by omega
    have c2 : (0 : Int) ≤ ((n + 1 : Nat) : Int) := Int.natCast_nonneg _
    have c3 : ((n + 1 : Nat) : Int) ≤ (l.length : Int) := Int.ofNat_le.2 hn
    have e2 : (((n + 1 : Nat) : Int)).toNat = n + 1 := rfl
    rw [belvedereref02_Take.l2, if_neg c1, s64 n (by omega), if_pos c2, if_pos c3, e2, List.drop_eq_nil_of_le (Nat.le_of_eq hE), List.drop_eq_nil_of_le (Nat.le_of_eq hL), if_pos rfl]
  | succ d ih =>
    intro j hj
    obtain ⟨K, hK⟩ := ih (j + 1) (by omega)
    refine ⟨K + 1, fun k hk => ?_⟩
    obtain ⟨m, rfl⟩ : ∃ m, k = m + 1 := ⟨k - 1, by omega⟩
    show belvedereref02_Take.l2 (m + 1) _ _ _ _ _ = _
    have c1 : (j : Int) ≤ (n : Int) := by omega
    have c2 : (0 : Int) ≤ (j : Int) := Int.natCast_nonneg _
    have c3 : (j : Int) < (E.length : Int) := by omega
    have c4 : (j : Int) < (l.length : Int) := by omega
    have jE : j < E.length := by omega
    have jl : j < l.length := by omega
    have jL : j < (l.take (n + 1)).length := by omega
    have hget : (l.take (n + 1))[j] = l[j] := List.getElem_take ..
    rw [belvedereref02_Take.l2, if_pos c1, if_pos c2, if_pos c3, if_pos c4, rd_at E j jE, rd_at l j jl, List.drop_eq_getElem_cons jE, List.drop_eq_getElem_cons jL, hget]
    by_cases h : E[j] = l[j]
    · rw [if_pos h, s64 j (by omega), h]
      have h2 : belvedereref02_Take.l2 m l (n : Int) (v : Int) E ((j + 1 : Nat) : Int) = _ := hK m (by omega)
      rw [h2]
      by_cases h3 : E.drop (j + 1) = (l.take (n + 1)).drop (j + 1)
      · rw [if_pos h3, if_pos (by rw [h3])]
      · rw [if_neg h3, if_neg (fun e => h3 (List.cons.inj e).2)]
    · rw [if_neg h, if_neg (fun e => h (List.cons.inj e).1)]
theorem back_end (l : List Int) (n v m : Nat) (hn : n < l.length) (h9 : n ≤ 9) (E : List Int) (r : Int × List Int × Int)
    (g1 : belvedereref02_Number.f m (v : Int) = some E) (g2 : E.length = n + 1 → belvedereref02_Take.l2 m l (n : Int) (v : Int) E 0 = some r) (hr : ¬ E.length = n + 1 → r = (0, [], 3)) (i : Int) (hi : ¬ i ≥ 0) :
    belvedereref02_Take.l1 (m + 1) l (n : Int) (v : Int) i = some r := by
  rw [belvedereref02_Take.l1, if_neg hi, g1, Option.bind_some, s64 n (by omega)]
  by_cases h : E.length = n + 1
  · rw [if_pos (by rw [h])]
    exact g2 h
  · rw [if_neg (show ¬ ((E.length : Int) = ((n + 1 : Nat) : Int)) from fun e => h (Int.ofNat.inj e)), hr h]
theorem back_ev (l : List Int) (n v : Nat) (hn : n < l.length) (h9 : n ≤ 9) (hv : v < 18446744073709551616) :
    Ev (fun k => belvedereref02_Take.l1 k l (n : Int) (v : Int) (-1)) (if enc v = l.take (n + 1) then ((v : Int), l.drop (n + 1), 0) else (0, [], 3)) := by
  have hL : (l.take (n + 1)).length = n + 1 := by rw [List.length_take]; exact Nat.min_eq_left hn
  obtain ⟨K1, h1⟩ := num_ev v hv
  by_cases h : (enc v).length = n + 1
  · obtain ⟨K2, h2⟩ := same_step l n v (enc v) hn h9 h (n + 1) 0 (by omega)
    rw [List.drop_zero, List.drop_zero] at h2
    exact ⟨K1 + K2 + 1, fun k hk => by
      obtain ⟨m, rfl⟩ : ∃ m, k = m + 1 := ⟨k - 1, by omega⟩
      exact back_end l n v m hn h9 (enc v) _ (h1 m (by omega)) (fun _ => h2 m (by omega)) (fun h' => absurd h h') (-1) (by decide)⟩
  · rw [if_neg (fun e => h (by rw [e, hL]))]
    exact ⟨K1 + 1, fun k hk => by
      obtain ⟨m, rfl⟩ : ∃ m, k = m + 1 := ⟨k - 1, by omega⟩
      exact back_end l n v m hn h9 (enc v) _ (h1 m (by omega)) (fun h' => absurd h' h) (fun _ => rfl) (-1) (by decide)⟩
theorem horner (a q : Nat) (b : Int) (hb : b = (q : Int)) (hq : q < 256) : IntKind.u64.wrap ((IntKind.u64.wrap (128 * ((a % 18446744073709551616 : Nat) : Int))) + (IntKind.u64.wrap (Int.tmod b 128))) = (((q % 128 + 128 * a) % 18446744073709551616 : Nat) : Int) := by
  subst hb
  rw [Int.tmod_eq_emod_of_nonneg (by omega), IntKind.wrap_u64, IntKind.wrap_u64, IntKind.wrap_u64]
  omega
theorem back_step (l : List Int) (hb : By l) (n : Nat) (hn : n < l.length) (h9 : n ≤ 9) : ∀ (i : Nat), i ≤ n + 1 →
    Ev (fun k => belvedereref02_Take.l1 k l (n : Int) ((val ((l.take (n + 1)).drop i) % 18446744073709551616 : Nat) : Int) ((i : Int) - 1)) (if enc (val (l.take (n + 1)) % 18446744073709551616) = l.take (n + 1) then (((val (l.take (n + 1)) % 18446744073709551616 : Nat) : Int), l.drop (n + 1), 0) else (0, [], 3)) := by
  have hL : (l.take (n + 1)).length = n + 1 := by rw [List.length_take]; exact Nat.min_eq_left hn
  intro i
  induction i with
  | zero =>
    intro _
    have h := back_ev l n (val (l.take (n + 1)) % 18446744073709551616) hn h9 (Nat.mod_lt _ (by decide))
    rw [List.drop_zero]
    exact h
  | succ i ih =>
    intro hi
    obtain ⟨K, hK⟩ := ih (by omega)
    refine ⟨K + 1, fun k hk => ?_⟩
    obtain ⟨m, rfl⟩ : ∃ m, k = m + 1 := ⟨k - 1, by omega⟩
    have jL : i < (l.take (n + 1)).length := by omega
    have jl : i < l.length := by omega
    have hget : (l.take (n + 1))[i] = l[i] := List.getElem_take ..
    have e0 : ((i + 1 : Nat) : Int) - 1 = (i : Int) := by omega
    have hbb := hb l[i] (List.getElem_mem jl)
    obtain ⟨q, hq⟩ : ∃ q : Nat, l[i] = (q : Int) := ⟨l[i].toNat, by omega⟩
    have e1 : val ((l.take (n + 1)).drop i) = q % 128 + 128 * val ((l.take (n + 1)).drop (i + 1)) := by
      rw [List.drop_eq_getElem_cons jL, val, hget, hq]; rfl
    have e2 := horner (val ((l.take (n + 1)).drop (i + 1))) q l[i] hq (by omega)
    rw [← e1] at e2
    have c1 : (i : Int) ≥ 0 := Int.natCast_nonneg _
    have c2 : (0 : Int) ≤ (i : Int) := Int.natCast_nonneg _
    have c3 : (i : Int) < (l.length : Int) := by omega
    have c4 : wrap64 ((i : Int) - 1) = (i : Int) - 1 := w64 (by omega) (by omega)
    show belvedereref02_Take.l1 (m + 1) _ _ _ _ = _
    rw [e0, belvedereref02_Take.l1, if_pos c1, if_pos c2, if_pos c3, rd_at l i jl, e2, c4]
    exact hK m (by omega)
theorem back_start (l : List Int) (hb : By l) (n : Nat) (hn : n < l.length) (h9 : n ≤ 9) :
    ∃ K, ∀ k, K ≤ k → belvedereref02_Take.l1 k l (n : Int) 0 (n : Int) = some (if enc (val (l.take (n + 1)) % 18446744073709551616) = l.take (n + 1) then (((val (l.take (n + 1)) % 18446744073709551616 : Nat) : Int), l.drop (n + 1), 0) else (0, [], 3)) := by
  have hL : (l.take (n + 1)).length = n + 1 := by rw [List.length_take]; exact Nat.min_eq_left hn
  have h := back_step l hb n hn h9 (n + 1) (Nat.le_refl _)
  have e0 : ((val ((l.take (n + 1)).drop (n + 1)) % 18446744073709551616 : Nat) : Int) = 0 := by rw [List.drop_eq_nil_of_le (Nat.le_of_eq hL), val, Nat.zero_mod]; rfl
  have e1 : ((n + 1 : Nat) : Int) - 1 = (n : Int) := by omega
  rw [e0, e1] at h
  exact h
theorem stop_ev (l : List Int) (hb : By l) : Ev (fun k => belvedereref02_Take.j1 k l ((min (idx l) 10 : Nat) : Int)) (spec l) := by
  obtain ⟨n, hn⟩ : ∃ n, idx l = n := ⟨_, rfl⟩
  have hle := idx_le l
  unfold spec
  rw [hn] at hle ⊢
  by_cases h10 : 10 ≤ n
  · rw [if_pos h10, Nat.min_eq_right h10]
    refine ⟨1, fun k hk => ?_⟩
    obtain ⟨m, rfl⟩ : ∃ m, k = m + 1 := ⟨k - 1, by omega⟩
    show belvedereref02_Take.j1 (m + 1) _ _ = _
    rw [belvedereref02_Take.j1, if_pos (show ((10 : Nat) : Int) = 10 from rfl)]
  · rw [if_neg h10, Nat.min_eq_left (by omega)]
    by_cases hlen : n = l.length
    · rw [if_pos hlen]
      refine ⟨1, fun k hk => ?_⟩
      obtain ⟨m, rfl⟩ : ∃ m, k = m + 1 := ⟨k - 1, by omega⟩
      show belvedereref02_Take.j1 (m + 1) _ _ = _
      rw [belvedereref02_Take.j1, if_neg (by omega), if_pos (by omega)]
    · rw [if_neg hlen]
      obtain ⟨K, hK⟩ := back_start l hb n (by omega) (by omega)
      refine ⟨K + 1, fun k hk => ?_⟩
      obtain ⟨m, rfl⟩ : ∃ m, k = m + 1 := ⟨k - 1, by omega⟩
      show belvedereref02_Take.j1 (m + 1) _ _ = _
      rw [belvedereref02_Take.j1, if_neg (by omega), if_neg (by omega)]
      exact hK m (by omega)
theorem go_step (l : List Int) (hl : l.length ≤ 4000000) (out : Int × List Int × Int) : ∀ (r : List Int) (i : Nat), l.drop i = r → i ≤ l.length → i ≤ 10 →
    Ev (fun k => belvedereref02_Take.j1 k l ((min (i + idx r) 10 : Nat) : Int)) out → Ev (fun k => belvedereref02_Take.l0 k l (i : Int)) out := by
  intro r
  induction r with
  | nil =>
    intro i h hi h10 ⟨K, hK⟩
    have hlen := congrArg List.length h
    rw [List.length_drop] at hlen
    simp at hlen
    rw [idx, Nat.add_zero, Nat.min_eq_left h10] at hK
    refine ⟨K + 1, fun k hk => ?_⟩
    obtain ⟨m, rfl⟩ : ∃ m, k = m + 1 := ⟨k - 1, by omega⟩
    show belvedereref02_Take.l0 (m + 1) _ _ = _
    rw [belvedereref02_Take.l0, if_neg (by omega)]
    exact hK m (by omega)
  | cons b r ih =>
    intro i h hi h10 ⟨K, hK⟩
    obtain ⟨h1, h2, h3⟩ := rd_drop h
    by_cases h9 : i = 10
    · subst h9
      rw [Nat.min_eq_right (by omega)] at hK
      refine ⟨K + 1, fun k hk => ?_⟩
      obtain ⟨m, rfl⟩ : ∃ m, k = m + 1 := ⟨k - 1, by omega⟩
      show belvedereref02_Take.l0 (m + 1) _ _ = _
      rw [belvedereref02_Take.l0, if_pos (by omega), if_neg (by decide)]
      exact hK m (by omega)
    · by_cases hb : b < 128
      · rw [idx, if_pos hb, Nat.add_zero, Nat.min_eq_left h10] at hK
        refine ⟨K + 1, fun k hk => ?_⟩
        obtain ⟨m, rfl⟩ : ∃ m, k = m + 1 := ⟨k - 1, by omega⟩
        show belvedereref02_Take.l0 (m + 1) _ _ = _
        rw [belvedereref02_Take.l0, if_pos (by omega), if_pos (by omega), if_pos (by omega), h1, if_neg (by omega)]
        exact hK m (by omega)
      · rw [idx, if_neg hb, show i + (idx r + 1) = i + 1 + idx r by omega] at hK
        obtain ⟨K2, hK2⟩ := ih (i + 1) h3 (by omega) (by omega) ⟨K, hK⟩
        refine ⟨K2 + 1, fun k hk => ?_⟩
        obtain ⟨m, rfl⟩ : ∃ m, k = m + 1 := ⟨k - 1, by omega⟩
        show belvedereref02_Take.l0 (m + 1) _ _ = _
        rw [belvedereref02_Take.l0, if_pos (by omega), if_pos (by omega), if_pos (by omega), h1, if_pos (by omega), s64 i (by omega)]
        exact hK2 m (by omega)
theorem refTake_ev (l : List Int) (hb : By l) (hl : l.length ≤ 4000000) : Ev (fun k => belvedereref02_Take.f k l) (spec l) := by
  have h := go_step l hl (spec l) l 0 rfl (Nat.zero_le _) (Nat.zero_le _)
  rw [Nat.zero_add] at h
  exact h (stop_ev l hb)
end Go.Proofs.YtfcnmjbmoiacaaaDoor.Leb
