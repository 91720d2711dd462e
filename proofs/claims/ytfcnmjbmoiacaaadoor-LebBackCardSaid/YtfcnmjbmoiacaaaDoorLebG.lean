/- Plain mathematics of layer 2: what leb.Take comes to. -/
import Derived.Test.YtfcnmjbmoiacaaaDoorLebF
set_option linter.unusedVariables false
namespace Go.Proofs.YtfcnmjbmoiacaaaDoor.Leb
open Go.RowKit Go.Proofs.YtfcnmjbmoiacaaaDoor.P Go.Proofs.YtfcnmjbmoiacaaaDoorW.PrintWords Go.Proofs.YtfcnmjbmoiacaaaDoorW.PrintLast Go.Proofs.YtfcnmjbmoiacaaaDoorW.PrintMore
/-- The first byte below 128, as the loop finds it. -/
theorem find_step (l : List Int) (hl : l.length ≤ 4000000) : ∀ (r : List Int) (i : Nat), l.drop i = r → i ≤ l.length →
    Ev (fun k => slices_IndexFunc_byte_byte__at_1_leb_Take_1.l0 k l (l.length : Int) (i : Int)) (if idx r < r.length then ((i + idx r : Nat) : Int) else -1) := by
  intro r
  induction r with
  | nil =>
    intro i h hi
    have hlen := congrArg List.length h
    rw [List.length_drop] at hlen
    simp at hlen
    refine ⟨1, fun k hk => ?_⟩
    obtain ⟨m, rfl⟩ : ∃ m, k = m + 1 := ⟨k - 1, by omega⟩
    show slices_IndexFunc_byte_byte__at_1_leb_Take_1.l0 (m + 1) _ _ _ = _
    rw [slices_IndexFunc_byte_byte__at_1_leb_Take_1.l0, if_neg (by omega)]
    rfl
  | cons b r ih =>
    intro i h hi
    obtain ⟨h1, h2, h3⟩ := rd_drop h
    obtain ⟨K, hK⟩ := ih (i + 1) h3 (by omega)
    refine ⟨K + 1, fun k hk => ?_⟩
    obtain ⟨m, rfl⟩ : ∃ m, k = m + 1 := ⟨k - 1, by omega⟩
    show slices_IndexFunc_byte_byte__at_1_leb_Take_1.l0 (m + 1) _ _ _ = _
    rw [slices_IndexFunc_byte_byte__at_1_leb_Take_1.l0, if_pos (by omega), if_pos (by omega), if_pos (by omega), h1]
    unfold leb_Take_1.f
    rw [Option.bind_some, idx, List.length_cons]
    by_cases hb : b < 128
    · rw [if_pos (by simpa using hb), if_pos hb, if_pos (by omega)]
      rfl
    · rw [if_neg (by simpa using hb), if_neg hb, w64 (by omega) (by omega)]
      have h4 : slices_IndexFunc_byte_byte__at_1_leb_Take_1.l0 m l (l.length : Int) ((i + 1 : Nat) : Int) = _ := hK m (by omega)
      have e : ((i : Int) + 1) = ((i + 1 : Nat) : Int) := rfl
      rw [e, h4]
      by_cases hr : idx r < r.length
      · rw [if_pos hr, if_pos (by omega)]; congr 2; omega
      · rw [if_neg hr, if_neg (by omega)]
theorem find_ev (l : List Int) (hl : l.length ≤ 4000000) : Ev (fun k => slices_IndexFunc_byte_byte__at_1_leb_Take_1.f k l) (if idx l < l.length then (idx l : Int) else -1) := by
  have h := find_step l hl l 0 rfl (by omega)
  rw [Nat.zero_add] at h
  exact h

/-- What the loop adds up, and what comes behind it. -/
def ends (l : List Int) (n : Nat) (v : Nat) : Int × List Int × Option Int :=
  if (enc v).length = n + 1 then (if n = 9 ∧ rd l (n : Int) > 1 then (0, [], some 3) else ((v : Int), l.drop (n + 1), none)) else (0, [], some 3)
theorem ends_at (l : List Int) (n : Nat) (hn : n < l.length) (h9 : n ≤ 9) (hl : l.length ≤ 4000000) (v : Nat) (hv : v < 18446744073709551616) (x33 : List Int) (x34 x35 : Int) (hx : ¬ x35 < x34) (m : Nat) (hs : leb_size.f m (v : Int) = some ((enc v).length : Int)) :
    leb_Take.l0 (m + 1) l (n : Int) (v : Int) x33 x34 x35 = some (ends l n v) := by
  have e1 : wrap64 ((n : Int) + 1) = ((n + 1 : Nat) : Int) := by rw [w64 (by omega) (by omega)]; rfl
  have e2 : (((n + 1 : Nat) : Int)).toNat = n + 1 := rfl
  have e3 : slices_Clone_byte_byte.f (l.drop (n + 1)) = some (l.drop (n + 1)) := by unfold slices_Clone_byte_byte.f; rw [if_pos (by rw [List.length_drop]; omega)]
  rw [leb_Take.l0, if_neg hx, hs, Option.bind_some, e1, e2, e3]
  unfold ends
  by_cases h1 : (enc v).length = n + 1
  · rw [if_pos (by omega), if_pos h1]
    by_cases h2 : n = 9
    · rw [if_pos (by omega), if_pos (by omega), if_pos (by omega)]
      by_cases h3 : rd l (n : Int) > 1
      · rw [if_pos h3, if_pos ⟨h2, h3⟩]
      · rw [if_neg h3, if_neg (show ¬ (n = 9 ∧ rd l (n : Int) > 1) from fun h => h3 h.2), if_pos (by omega), if_pos (by omega)]
        rfl
    · rw [if_neg (by omega), if_neg (show ¬ (n = 9 ∧ rd l (n : Int) > 1) from fun h => h2 h.1), if_pos (by omega), if_pos (by omega)]
      rfl
  · rw [if_neg (by omega), if_neg h1]
theorem sum_step (l : List Int) (hb : By l) (n : Nat) (hn : n < l.length) (h9 : n ≤ 9) (hl : l.length ≤ 4000000) : ∀ (d i : Nat), i + d = n + 1 →
    Ev (fun k => leb_Take.l0 k l (n : Int) ((val (l.take i) % 18446744073709551616 : Nat) : Int) (l.take (n + 1)) ((n + 1 : Nat) : Int) (i : Int)) (ends l n (val (l.take (n + 1)) % 18446744073709551616)) := by
  intro d
  induction d with
  | zero =>
    intro i hi
    obtain rfl : i = n + 1 := by omega
    obtain ⟨K, hK⟩ := size_ev (val (l.take (n + 1)) % 18446744073709551616) (Nat.mod_lt _ (by decide))
    refine ⟨K + 1, fun k hk => ?_⟩
    obtain ⟨m, rfl⟩ : ∃ m, k = m + 1 := ⟨k - 1, by omega⟩
    exact ends_at l n hn h9 hl _ (Nat.mod_lt _ (by decide)) _ _ _ (by omega) m (hK m (by omega))
  | succ d ih =>
    intro i hi
    obtain ⟨K, hK⟩ := ih (i + 1) (by omega)
    refine ⟨K + 1, fun k hk => ?_⟩
    obtain ⟨m, rfl⟩ : ∃ m, k = m + 1 := ⟨k - 1, by omega⟩
    have hil : i < l.length := by omega
    have hlt : i < (l.take (n + 1)).length := by rw [List.length_take]; omega
    have hget : (l.take (n + 1))[i] = l[i] := List.getElem_take ..
    obtain ⟨b, hbx⟩ : ∃ b, l[i] = b := ⟨_, rfl⟩
    have hbb := hb b (hbx ▸ List.getElem_mem hil)
    have e1 : rd (l.take (n + 1)) (i : Int) = b := by
      show ((l.take (n + 1))[i]?).getD 0 = b
      rw [List.getElem?_eq_getElem hlt, hget]
      exact hbx
    have e2 : l.take (i + 1) = l.take i ++ [b] := by rw [List.take_succ_eq_append_getElem hil, hbx]
    have e3 : val (l.take (i + 1)) = val (l.take i) + 128 ^ i * (b.toNat % 128) := by
      rw [e2, val_snoc, List.length_take, Nat.min_eq_left (by omega)]
    have hv : val (l.take i) < 128 ^ i := by
      have := val_lt (l.take i)
      rw [List.length_take, Nat.min_eq_left (by omega)] at this
      exact this
    have hlt64 : 128 ^ i < 2 ^ 64 := by rw [← p128]; exact Nat.pow_lt_pow_right (by decide) (by omega)
    have e4 : val (l.take i) % 18446744073709551616 = val (l.take i) := Nat.mod_eq_of_lt (by omega)
    obtain ⟨q, hq⟩ : ∃ q : Nat, b = (q : Int) := ⟨b.toNat, by omega⟩
    have e5 : IntKind.u64.wrap (Go.bits .andNot .u8 b 128) = ((q % 128 : Nat) : Int) := by rw [hq, not128 q (by omega), wu64 (by omega) (by omega)]
    have e6 := or_step (val (l.take i)) (q % 128) i (by omega) (by omega) hv
    have e7 : b.toNat % 128 = q % 128 := by rw [hq]; rfl
    rw [e7] at e3
    show leb_Take.l0 (m + 1) _ _ _ _ _ _ = _
    rw [leb_Take.l0, if_pos (by omega), if_pos (by omega), if_pos (by omega), if_pos (by rw [w64 (by omega) (by omega)]; omega), e1, e5, e4, e6, ← e3, w64 (by omega) (by omega)]
    exact hK m (by omega)
theorem sum_start (l : List Int) (hb : By l) (n : Nat) (hn : n < l.length) (h9 : n ≤ 9) (hl : l.length ≤ 4000000) :
    ∃ K, ∀ k, K ≤ k → leb_Take.l0 k l (n : Int) 0 (l.take (n + 1)) ((n + 1 : Nat) : Int) 0 = some (ends l n (val (l.take (n + 1)) % 18446744073709551616)) := by
  have h := sum_step l hb n hn h9 hl (n + 1) 0 (by omega)
  have e0 : ((val (l.take 0) % 18446744073709551616 : Nat) : Int) = 0 := by rw [List.take_zero, val, Nat.zero_mod]; rfl
  rw [e0] at h
  exact h
/-- An error's number as the interface has it: none for 0. -/
def errOf (e : Int) : Option Int := if e = 0 then none else some e
theorem ends_spec (l : List Int) (hb : By l) (n : Nat) (hi : idx l = n) (hn : n < l.length) (h9 : n ≤ 9) :
    ends l n (val (l.take (n + 1)) % 18446744073709551616) = ((spec l).1, (spec l).2.1, errOf (spec l).2.2) := by
  have hit : idx (l.take (n + 1)) = n := by rw [idx_take, hi]; omega
  have hlt : (l.take (n + 1)).length = n + 1 := by rw [List.length_take]; omega
  have hbt := hb.take (n + 1)
  have hlast : (l.take (n + 1)) = l.take n ++ [l[n]] := List.take_succ_eq_append_getElem hn
  have hrd : rd l (n : Int) = l[n] := by
    show (l[n]?).getD 0 = _
    rw [List.getElem?_eq_getElem hn]; rfl
  have hval : val (l.take (n + 1)) = val (l.take n) + 128 ^ n * (l[n].toNat % 128) := by
    rw [hlast, val_snoc, List.length_take, Nat.min_eq_left (by omega)]
  have hv0 : val (l.take n) < 128 ^ n := by
    have := val_lt (l.take n)
    rw [List.length_take, Nat.min_eq_left (by omega)] at this
    exact this
  have hlow : l[n] < 128 := by
    have : ∀ (r : List Int) (j : Nat) (hj : j < r.length), idx r = j → r[j] < 128 := by
      intro r
      induction r with
      | nil => intro j hj; simp at hj
      | cons c r ih =>
        intro j hj h
        rw [idx] at h
        by_cases hc : c < 128
        · rw [if_pos hc] at h
          subst h
          exact hc
        · rw [if_neg hc] at h
          subst h
          exact ih (idx r) (by simpa using hj) rfl
    exact this l n hn hi
  have hb0 := hb l[n] (List.getElem_mem hn)
  have e9 : (128 : Nat) ^ 9 = 9223372036854775808 := by decide
  have hs : spec l = if enc (val (l.take (n + 1)) % 18446744073709551616) = l.take (n + 1) then (((val (l.take (n + 1)) % 18446744073709551616 : Nat) : Int), l.drop (n + 1), 0) else (0, [], 3) := by
    unfold spec
    rw [hi, if_neg (by omega), if_neg (by omega)]
  rw [hs]
  unfold ends
  by_cases hbig : n = 9 ∧ rd l (n : Int) > 1
  · have hne : ¬ (enc (val (l.take (n + 1)) % 18446744073709551616) = l.take (n + 1)) := by
      intro h
      have h1 := congrArg val h
      rw [val_enc] at h1
      have h2 : val (l.take (n + 1)) < 18446744073709551616 := by rw [← h1]; exact Nat.mod_lt _ (by decide)
      obtain ⟨h3, h4⟩ := hbig
      subst h3
      rw [hrd] at h4
      rw [hval, e9] at h2
      omega
    rw [if_neg hne, if_pos hbig]
    split <;> rfl
  · rw [if_neg hbig]
    have hsmall : val (l.take (n + 1)) < 18446744073709551616 := by
      by_cases h : n = 9
      · subst h
        have h4 : ¬ rd l ((9 : Nat) : Int) > 1 := fun h => hbig ⟨rfl, h⟩
        rw [hrd] at h4
        rw [hval, e9] at *
        omega
      · have h1 := val_lt (l.take (n + 1))
        rw [hlt] at h1
        have h2 : 128 ^ (n + 1) ≤ 128 ^ 9 := Nat.pow_le_pow_right (by decide) (by omega)
        omega
    rw [Nat.mod_eq_of_lt hsmall]
    by_cases h : (enc (val (l.take (n + 1)))).length = n + 1
    · rw [if_pos h, if_pos (enc_val _ hbt (by rw [hit, hlt]) (by rw [hlt, h]))]
      rfl
    · rw [if_neg h, if_neg (fun e => h (by rw [e, hlt]))]
      rfl
theorem mn_at (a : Nat) : mn (a : Int) 10 = ((min a 10 : Nat) : Int) := by unfold mn; split <;> omega
theorem take_found (l : List Int) (n m : Nat) (hn : n < l.length) (h9 : n ≤ 9) (hl : l.length ≤ 4000000) (r : Int × List Int × Option Int)
    (g1 : slices_IndexFunc_byte_byte__at_1_leb_Take_1.f (m + 1) (l.take (min l.length 10)) = some (n : Int))
    (g2 : leb_Take.l0 m l (n : Int) 0 (l.take (n + 1)) ((n + 1 : Nat) : Int) 0 = some r) : leb_Take.f (m + 1) l = some r := by
  have e1 : wrap64 ((n : Int) + 1) = ((n + 1 : Nat) : Int) := by rw [w64 (by omega) (by omega)]; rfl
  have e2 : (((n + 1 : Nat) : Int)).toNat = n + 1 := rfl
  have e3 : (l.take (n + 1)).length = n + 1 := by rw [List.length_take]; exact Nat.min_eq_left hn
  have e4 : (((min l.length 10 : Nat) : Int)).toNat = min l.length 10 := rfl
  have c1 : (0 : Int) ≤ ((min l.length 10 : Nat) : Int) := Int.natCast_nonneg _
  have c2 : ((min l.length 10 : Nat) : Int) ≤ (l.length : Int) := Int.ofNat_le.2 (Nat.min_le_left ..)
  have c3 : ¬ ((n : Int) < 0) := by omega
  have c4 : (0 : Int) ≤ ((n + 1 : Nat) : Int) := Int.natCast_nonneg _
  have c5 : ((n + 1 : Nat) : Int) ≤ (l.length : Int) := Int.ofNat_le.2 hn
  unfold leb_Take.f
  rw [mn_at, if_pos c1, if_pos c2, e4, g1, Option.bind_some, if_neg c3, leb_Take.j0, if_neg Bool.false_ne_true, if_neg c3, e1, if_pos c4, if_pos c5, e2, Option.bind_some, e3]
  exact g2
theorem take_none (l : List Int) (m : Nat) (g1 : slices_IndexFunc_byte_byte__at_1_leb_Take_1.f (m + 1) (l.take (min l.length 10)) = some (-1)) :
    leb_Take.f (m + 1) l = some (0, [], some (if l.length < 10 then 4 else 3)) := by
  have e4 : (((min l.length 10 : Nat) : Int)).toNat = min l.length 10 := rfl
  have c1 : (0 : Int) ≤ ((min l.length 10 : Nat) : Int) := Int.natCast_nonneg _
  have c2 : ((min l.length 10 : Nat) : Int) ≤ (l.length : Int) := Int.ofNat_le.2 (Nat.min_le_left ..)
  have c3 : (-1 : Int) < 0 := by decide
  unfold leb_Take.f
  rw [mn_at, if_pos c1, if_pos c2, e4, g1, Option.bind_some, if_pos c3, leb_Take.j0]
  by_cases h : l.length < 10
  · have d : decide ((l.length : Int) < 10) = true := decide_eq_true (by omega)
    rw [d, if_pos rfl, if_pos h]
  · have d : decide ((l.length : Int) < 10) = false := decide_eq_false (by omega)
    rw [d, if_neg Bool.false_ne_true, if_pos c3, if_neg h]
theorem take_ev (l : List Int) (hb : By l) (hl : l.length ≤ 4000000) : Ev (fun k => leb_Take.f k l) ((spec l).1, (spec l).2.1, errOf (spec l).2.2) := by
  have hc : (l.take (min l.length 10)).length = min l.length 10 := by rw [List.length_take]; exact Nat.min_eq_left (Nat.min_le_left ..)
  obtain ⟨K1, h1⟩ := find_ev (l.take (min l.length 10)) (by rw [hc]; exact Nat.le_trans (Nat.min_le_left ..) hl)
  have hit := idx_take (min l.length 10) l
  have hile := idx_le l
  rw [hc] at h1
  obtain ⟨n, hn⟩ : ∃ n, idx l = n := ⟨_, rfl⟩
  rw [hn] at hit hile
  by_cases hf : n < min l.length 10
  · have hi2 : idx (l.take (min l.length 10)) = n := by omega
    obtain ⟨K2, h2⟩ := sum_start l hb n (by omega) (by omega) hl
    rw [ends_spec l hb n hn (by omega) (by omega)] at h2
    rw [hi2, if_pos hf] at h1
    exact ⟨K1 + K2 + 1, fun k hk => by
      obtain ⟨m, rfl⟩ : ∃ m, k = m + 1 := ⟨k - 1, by omega⟩
      exact take_found l n m (by omega) (by omega) hl _ (h1 (m + 1) (by omega)) (h2 m (by omega))⟩
  · have hi2 : ¬ idx (l.take (min l.length 10)) < min l.length 10 := by omega
    rw [if_neg hi2] at h1
    have hs : ((spec l).1, (spec l).2.1, errOf (spec l).2.2) = ((0, [], some (if l.length < 10 then 4 else 3)) : Int × List Int × Option Int) := by
      unfold spec
      rw [hn]
      by_cases h : l.length < 10
      · rw [if_neg (by omega), if_pos (by omega), if_pos h]; rfl
      · rw [if_pos (by omega), if_neg h]; rfl
    rw [hs]
    exact ⟨K1 + 1, fun k hk => by
      obtain ⟨m, rfl⟩ : ∃ m, k = m + 1 := ⟨k - 1, by omega⟩
      exact take_none l m (h1 (m + 1) (by omega))⟩
end Go.Proofs.YtfcnmjbmoiacaaaDoor.Leb
