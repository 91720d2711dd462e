/- Plain mathematics of RuleBack: when a rule may be, by the program. -/
import Derived.Test.YtpagbmkdphdjoaaGreatDoorRuV
import Derived.Test.YtpagbmkdphdjoaaGreatDoorRuT
import Derived.Test.YtpagbmkdphdjoaaGreatDoorRuAll
set_option linter.unusedVariables false
set_option linter.unusedSimpArgs false
namespace Go.Proofs.YtpagbmkdphdjoaaGreatDoor.PClk
open Go.RowKit Go.Proofs.YtpagbmkdphdjoaaGreatDoor.P Go.Proofs.YtpagbmkdphdjoaaGreatDoorW.PrintWords Go.Proofs.YtpagbmkdphdjoaaGreatDoorW.PrintLast Go.Proofs.YtpagbmkdphdjoaaGreatDoorW.PrintMore
theorem date_own (y m d : Int) : (∃ D q j i d', At D q j i d' ∧ y = Yr q j ∧ m = ((i + 1 : Nat) : Int) ∧ d = ((d' + 1 : Nat) : Int) ∧ -274877906944 ≤ y ∧ y ≤ 274877906944) ∨ (∀ k, civil_Days.f (k + 3) y m d = some (0, some 1)) := by
  by_cases hv : -274877906944 ≤ y ∧ y ≤ 274877906944 ∧ 1 ≤ m ∧ m ≤ 12
  · obtain ⟨v1, v2, v3, v4⟩ := hv
    obtain ⟨i, hi⟩ : ∃ i : Nat, (i : Int) = m - 1 := ⟨(m - 1).toNat, by omega⟩
    obtain ⟨j, hj⟩ : ∃ j : Nat, (j : Int) = (y - 1970) % 400 := ⟨((y - 1970) % 400).toNat, by omega⟩
    obtain ⟨q, hq⟩ : ∃ q, q = (y - 1970) / 400 := ⟨_, rfl⟩
    have em : m = ((i + 1 : Nat) : Int) := by omega
    have ey : y = Yr q j := by unfold Yr; omega
    have hi12 : i < 12 := by omega
    have hj4 : j < 400 := by omega
    have q0 : -700000000 ≤ q := by omega
    have q1 : q ≤ 700000000 := by omega
    have hlen := fun k => length_yr q j i hi12 (by rw [← ey]; exact v1) (by rw [← ey]; exact v2) k
    by_cases hd : 1 ≤ d ∧ d ≤ ((len (leapN (1970 + j)) i : Nat) : Int)
    · obtain ⟨d', hd'⟩ : ∃ d' : Nat, (d' : Int) = d - 1 := ⟨(d - 1).toNat, by omega⟩
      exact .inl ⟨146097 * q + ((st j + offs (leapN (1970 + j)) i + d' : Nat) : Int), q, j, i, d', ⟨rfl, hj4, hi12, by omega, q0, q1⟩, ey, em, by omega, v1, v2⟩
    · refine .inr fun k => ?_
      unfold civil_Days.f
      rw [ey, em, hlen k, Option.bind_some, if_pos (show (none : Option Int).isNone = true from rfl)]
      by_cases h1 : d < 1
      · rw [if_pos h1, civil_Days.j0, if_pos rfl]
      · rw [if_neg h1, civil_Days.j0, if_pos (decide_eq_true (show d > ((len (leapN (1970 + j)) i : Nat) : Int) by omega))]
  · refine .inr fun k => ?_
    have hL : civil_Length.f (k + 3) y m = some (0, some 1) := by
      unfold civil_Length.f
      by_cases h1 : m < 1
      · rw [if_pos h1, civil_Length.j0, if_pos rfl]
      · rw [if_neg h1]
        by_cases h2 : m > 12
        · rw [if_pos h2, civil_Length.j0, if_pos rfl]
        · rw [if_neg h2]
          by_cases h3 : y < -274877906944
          · rw [if_pos h3, civil_Length.j0, if_pos rfl]
          · rw [if_neg h3, civil_Length.j0, if_pos (decide_eq_true (by omega))]
    unfold civil_Days.f
    rw [hL, Option.bind_some, if_neg (by decide), civil_Days.j0, if_pos rfl]
/-- Of two dates, the first from the year 0 on: the second, if not earlier, too. -/
theorem year_up {D E q q' : Int} {j i d j' i' d' : Nat} (h : At D q j i d) (h' : At E q' j' i' d') (hy : 0 ≤ Yr q j) (hle : D ≤ E) : 0 ≤ Yr q' j' := by
  refine Decidable.byContradiction fun hn => ?_
  have e1 := h.eq
  have e2 := h'.eq
  have l1 := h.lt
  have l2 := h'.lt
  have j1 := h.hj
  have j2 := h'.hj
  have k2 := in_year (leapN (1970 + j')) i' d' h'.hi h'.hd
  have s2 := st_next j' h'.hj
  have sm : j' + 1 ≤ j → st (j' + 1) ≤ st j := fun g => by
    have := st_mono (j - (j' + 1)) (j' + 1) (by omega)
    rwa [show j' + 1 + (j - (j' + 1)) = j by omega] at this
  unfold Yr at hy hn
  obtain ⟨a, ha⟩ : ∃ a, st j = a := ⟨_, rfl⟩
  obtain ⟨a', ha'⟩ : ∃ a', st j' = a' := ⟨_, rfl⟩
  obtain ⟨c', hc'⟩ : ∃ c', st (j' + 1) = c' := ⟨_, rfl⟩
  obtain ⟨o, ho⟩ : ∃ o, offs (leapN (1970 + j)) i = o := ⟨_, rfl⟩
  obtain ⟨o', ho'⟩ : ∃ o', offs (leapN (1970 + j')) i' = o' := ⟨_, rfl⟩
  obtain ⟨b', hb'⟩ : ∃ b', (bif leapN (1970 + j') then 366 else 365) = b' := ⟨_, rfl⟩
  rw [ha, ho] at e1 l1
  rw [ha', ho'] at e2 l2
  rw [ho', hb'] at k2
  rw [ha', hc', hb'] at s2
  rw [ha, hc'] at sm
  by_cases g : j' + 1 ≤ j
  · have := sm g
    omega
  · omega
def OkT (K m n w y1 m1 d1 y2 m2 d2 : Int) : Prop :=
  (K = 0 ∧ 0 ≤ w ∧ w < 7 ∧ m = 0 ∧ n = 0 ∧ y1 = 0 ∧ m1 = 0 ∧ d1 = 0 ∧ y2 = 0 ∧ m2 = 0 ∧ d2 = 0) ∨ (K = 1 ∧ 0 ≤ m ∧ m ≤ 12 ∧ n ≠ 0 ∧ -31 ≤ n ∧ n ≤ 31 ∧ w = 0 ∧ y1 = 0 ∧ m1 = 0 ∧ d1 = 0 ∧ y2 = 0 ∧ m2 = 0 ∧ d2 = 0) ∨ (K = 2 ∧ 0 ≤ m ∧ m ≤ 12 ∧ n ≠ 0 ∧ -5 ≤ n ∧ n ≤ 5 ∧ 0 ≤ w ∧ w < 7 ∧ y1 = 0 ∧ m1 = 0 ∧ d1 = 0 ∧ y2 = 0 ∧ m2 = 0 ∧ d2 = 0) ∨ (K = 3 ∧ m = 0 ∧ n = 0 ∧ w = 0 ∧ (0 ≤ y1 ∧ y1 ≤ 274877906944) ∧ (0 ≤ m1 ∧ m1 ≤ 12) ∧ (0 ≤ d1 ∧ d1 ≤ 31) ∧ (0 ≤ y2 ∧ y2 ≤ 274877906944) ∧ (0 ≤ m2 ∧ m2 ≤ 12) ∧ (0 ≤ d2 ∧ d2 ≤ 31))
theorem chk_all (K m n w y1 m1 d1 y2 m2 d2 : Int) : (OkT K m n w y1 m1 d1 y2 m2 d2 ∧ ∀ k, rule_Check.f (k + 3) K m n w y1 m1 d1 y2 m2 d2 = some none) ∨ ∀ k, rule_Check.f (k + 3) K m n w y1 m1 d1 y2 m2 d2 = some (some 1) := by
  by_cases h0 : K = 0
  · subst h0
    by_cases hp : 0 ≤ w ∧ w < 7 ∧ m = 0 ∧ n = 0 ∧ y1 = 0 ∧ m1 = 0 ∧ d1 = 0 ∧ y2 = 0 ∧ m2 = 0 ∧ d2 = 0
    · exact .inl ⟨.inl ⟨rfl, hp⟩, fun k => by rw [chk_0 (k + 2), if_pos hp]⟩
    · exact .inr fun k => by rw [chk_0 (k + 2), if_neg hp]
  by_cases h1 : K = 1
  · subst h1
    by_cases hp : 0 ≤ m ∧ m ≤ 12 ∧ n ≠ 0 ∧ -31 ≤ n ∧ n ≤ 31 ∧ w = 0 ∧ y1 = 0 ∧ m1 = 0 ∧ d1 = 0 ∧ y2 = 0 ∧ m2 = 0 ∧ d2 = 0
    · exact .inl ⟨.inr (.inl ⟨rfl, hp⟩), fun k => by rw [chk_1 (k + 2), if_pos hp]⟩
    · exact .inr fun k => by rw [chk_1 (k + 2), if_neg hp]
  by_cases h2 : K = 2
  · subst h2
    by_cases hp : 0 ≤ m ∧ m ≤ 12 ∧ n ≠ 0 ∧ -5 ≤ n ∧ n ≤ 5 ∧ 0 ≤ w ∧ w < 7 ∧ y1 = 0 ∧ m1 = 0 ∧ d1 = 0 ∧ y2 = 0 ∧ m2 = 0 ∧ d2 = 0
    · exact .inl ⟨.inr (.inr (.inl ⟨rfl, hp⟩)), fun k => by rw [chk_2 (k + 2), if_pos hp]⟩
    · exact .inr fun k => by rw [chk_2 (k + 2), if_neg hp]
  by_cases h3 : K = 3
  · subst h3
    have bad : (∀ k, ∃ t, rule_ordered.f (k + 3) y1 m1 d1 y2 m2 d2 = some t ∧ ¬ (t = true ∧ m = 0 ∧ n = 0 ∧ w = 0)) → ∀ k, rule_Check.f (k + 3) 3 m n w y1 m1 d1 y2 m2 d2 = some (some 1) := fun hb k => by
      obtain ⟨t, ht, hn⟩ := hb k
      rw [chk_3 (k + 2) m n w y1 m1 d1 y2 m2 d2 t ht, if_neg hn]
    rcases date_own y1 m1 d1 with ⟨D, q, j, i, d, ha, e1, e2, e3, b0, b1⟩ | hda
    · have o1 : ∀ k, civil_Days.f (k + 3) y1 m1 d1 = some (D, none) := fun k => by rw [e2, e3]; rw [e1] at b0 b1 ⊢; exact days_at ha b0 b1 k
      rcases date_own y2 m2 d2 with ⟨E, q', j', i', d', hb, e4, e5, e6, b2, b3⟩ | hdb
      · have o2 : ∀ k, civil_Days.f (k + 3) y2 m2 d2 = some (E, none) := fun k => by rw [e5, e6]; rw [e4] at b2 b3 ⊢; exact days_at hb b2 b3 k
        have ho : ∀ k, rule_ordered.f (k + 3) y1 m1 d1 y2 m2 d2 = some (decide (0 ≤ y1 ∧ y2 ≤ 9999 ∧ D ≤ E)) := by
          intro k
          unfold rule_ordered.f
          rw [o1, Option.bind_some, o2, Option.bind_some, if_pos (show (none : Option Int).isNone = true from rfl), if_pos (show (none : Option Int).isNone = true from rfl)]
          by_cases g1 : y1 ≥ 0
          · rw [if_pos g1]
            by_cases g2 : y2 ≤ 9999
            · rw [if_pos g2]
              congr 1
              rw [decide_eq_decide]
              exact ⟨fun e => ⟨g1, g2, e⟩, fun e => e.2.2⟩
            · rw [if_neg g2, decide_eq_false (fun e => g2 e.2.1)]
          · rw [if_neg g1, decide_eq_false (fun e => g1 e.1)]
        by_cases hp : (0 ≤ y1 ∧ y2 ≤ 9999 ∧ D ≤ E) ∧ m = 0 ∧ n = 0 ∧ w = 0
        · obtain ⟨hp, rfl, rfl, rfl⟩ := hp
          have hy2 : 0 ≤ y2 := by rw [e4]; exact year_up ha hb (by rw [← e1]; exact hp.1) hp.2.2
          have la := (len_le (leapN (1970 + j)) i ha.hi).1
          have lb := (len_le (leapN (1970 + j')) i' hb.hi).1
          have da := ha.hd
          have db := hb.hd
          have ia := ha.hi
          have ib := hb.hi
          refine .inl ⟨.inr (.inr (.inr ⟨rfl, rfl, rfl, rfl, ⟨hp.1, b1⟩, by omega, by omega, ⟨hy2, b3⟩, by omega, by omega⟩)), fun k => ?_⟩
          rw [chk_3 (k + 2) 0 0 0 y1 m1 d1 y2 m2 d2 _ (ho k), if_pos ⟨decide_eq_true hp, rfl, rfl, rfl⟩]
        · exact .inr (bad fun k => ⟨_, ho k, fun e => hp ⟨of_decide_eq_true e.1, e.2⟩⟩)
      · refine .inr (bad fun k => ⟨false, ?_, fun e => by cases e.1⟩)
        unfold rule_ordered.f
        rw [o1 k, Option.bind_some, hdb k, Option.bind_some, if_pos (show (none : Option Int).isNone = true from rfl), if_neg (by decide)]
    · refine .inr (bad fun k => ⟨false, ?_, fun e => by cases e.1⟩)
      obtain ⟨x, hx⟩ : ∃ x, civil_Days.f (k + 3) y2 m2 d2 = some x := by
        rcases date_own y2 m2 d2 with ⟨E, q', j', i', d', hb, e4, e5, e6, b2, b3⟩ | hdb
        · rw [e5, e6]; rw [e4] at b2 b3 ⊢; exact ⟨_, days_at hb b2 b3 k⟩
        · exact ⟨_, hdb k⟩
      unfold rule_ordered.f
      rw [hda k, Option.bind_some, hx, Option.bind_some, if_neg (by decide)]
  exact .inr fun k => chk_x (k + 2) K m n w y1 m1 d1 y2 m2 d2 h0 h1 h2 h3
end Go.Proofs.YtpagbmkdphdjoaaGreatDoor.PClk

/- Plain mathematics of layer 6's texts: a rule's text scanned is the rule. -/
set_option linter.unusedVariables false
set_option linter.unusedSimpArgs false
namespace Go.Proofs.YtpagbmkdphdjoaaGreatDoor.PClk
open Go.RowKit Go.Proofs.YtpagbmkdphdjoaaGreatDoor.P Go.Proofs.YtpagbmkdphdjoaaGreatDoorW.PrintWords Go.Proofs.YtpagbmkdphdjoaaGreatDoorW.PrintLast Go.Proofs.YtpagbmkdphdjoaaGreatDoorW.PrintMore
def bs (l : List UInt8) : ByteArray := ⟨l.toArray⟩
theorem bs_list (l : List UInt8) : (bs l).data.toList = l := rfl
theorem bs_size (l : List UInt8) : (bs l).size = l.length := by simp [bs, ByteArray.size]
theorem bs_of (b : ByteArray) (l : List UInt8) (h : b.data.toList = l) : b = bs l := by
  cases b with
  | mk d => simp only [bs, ByteArray.mk.injEq]; rw [← h]
theorem app_list (a b : ByteArray) : (a ++ b).data.toList = a.data.toList ++ b.data.toList := by simp
/-! How long. -/
theorem dec_len : ∀ (k n : Nat), n < 10 ^ (k + 1) → (Lib.decDigits n).length ≤ k + 1
  | 0, n, h => by rw [Lib.decDigits_one (by simpa using h)]; exact Nat.le_refl _
  | k + 1, n, h => by
    rw [Lib.decDigits]
    by_cases h1 : n < 10
    · rw [dif_pos h1]; simp
    · rw [dif_neg h1, List.length_append]
      have := dec_len k (n / 10) (by rw [Nat.pow_succ] at h; omega)
      simp
      omega
theorem itoa_len (n : Int) (h0 : -1000000000000000 < n) (h1 : n < 1000000000000000) : (Lib.itoa n).length ≤ 16 := by
  by_cases h : 0 ≤ n
  · obtain ⟨u, rfl⟩ := Int.eq_ofNat_of_zero_le h
    rw [Lib.itoa_nonneg]
    have := dec_len 14 u (by omega)
    omega
  · obtain ⟨u, hu, rfl⟩ : ∃ u : Nat, 1 ≤ u ∧ n = -(u : Int) := ⟨n.natAbs, by omega, by omega⟩
    rw [Lib.itoa_neg u hu]
    have := dec_len 14 u (by omega)
    simp
    omega
def Sm (n : Int) : Prop := -1000000000000000 < n ∧ n < 1000000000000000
theorem itoa_f (n : Int) (h : Sm n) : strconv_Itoa_47.f n = some (bs (Lib.itoa n)) := by
  obtain ⟨h0, h1⟩ := h
  unfold strconv_Itoa_47.f
  rw [if_pos (by omega), if_pos (by omega)]
  rfl
theorem rd_at (xs : List Int) (i : Nat) (h : i < xs.length) : rd xs (i : Int) = xs[i] := by simp [rd, h]
theorem digits_go (sep : ByteArray) (xs : List Int) (hb : ∀ x ∈ xs, Sm x) (hl : xs.length ≤ 10) (R : ByteArray) (hJ : strings_Join.f (xs.map fun x => bs (Lib.itoa x)) sep = some R) :
    ∀ (r i : Nat), i + r = xs.length → rule_digits.l0 (r + 1) sep ((xs.take i).map fun x => bs (Lib.itoa x)) xs (xs.length : Int) (i : Int) = some R
  | 0, i, e => by
    rw [rule_digits.l0, if_neg (by omega), List.take_of_length_le (by omega), hJ]
    rfl
  | r + 1, i, e => by
    have ih := digits_go sep xs hb hl R hJ r (i + 1) (by omega)
    have hi : i < xs.length := by omega
    rw [rule_digits.l0, if_pos (by omega), if_pos (by omega), if_pos (by omega), rd_at xs i hi, itoa_f _ (hb _ (List.getElem_mem hi)), Option.bind_some, if_pos (by simp; omega)]
    rw [List.take_succ_eq_append_getElem hi, List.map_append] at ih
    rw [show wrap64 ((i : Int) + 1) = ((i + 1 : Nat) : Int) by rw [w64 (by omega) (by omega)]; omega]
    exact ih
theorem digits_up (sep : ByteArray) (xs : List Int) {k j : Nat} {R : ByteArray} (h : rule_digits.f k sep xs = some R) (hkj : k ≤ j) : rule_digits.f j sep xs = some R := by
  induction hkj with
  | refl => exact h
  | step _ ih => exact rule_digits.mono _ _ _ _ ih
theorem digits_f (c : UInt8) (xs : List Int) (hb : ∀ x ∈ xs, Sm x) (hl : xs.length ≤ 3) (hJ : (Lib.join (xs.map Lib.itoa) [c]).length ≤ 1000) (k : Nat) : rule_digits.f (k + 4) ⟨#[c]⟩ xs = some (bs (Lib.join (xs.map Lib.itoa) [c])) := by
  have e : (xs.map fun x => bs (Lib.itoa x)).map (·.data.toList) = xs.map Lib.itoa := by
    rw [List.map_map]
    rfl
  have hj : strings_Join.f (xs.map fun x => bs (Lib.itoa x)) ⟨#[c]⟩ = some (bs (Lib.join (xs.map Lib.itoa) [c])) := by
    unfold strings_Join.f
    rw [e, if_pos ⟨by simp; omega, by show (Lib.join (xs.map Lib.itoa) [c]).length ≤ _; omega⟩]
    rfl
  have h0 := digits_go ⟨#[c]⟩ xs hb (by omega) _ hj xs.length 0 (Nat.zero_add _)
  exact digits_up ⟨#[c]⟩ xs (k := xs.length + 1) h0 (by omega)
theorem join1 (a sep : List UInt8) : Lib.join [a] sep = a := by simp [Lib.join, List.intercalate]
theorem join2 (a b sep : List UInt8) : Lib.join [a, b] sep = a ++ (sep ++ b) := by simp [Lib.join, List.intercalate]
theorem join3 (a b c sep : List UInt8) : Lib.join [a, b, c] sep = a ++ (sep ++ (b ++ (sep ++ c))) := by simp [Lib.join, List.intercalate]
/-! Cut, and its numbers. -/
theorem cut_f (w r : List UInt8) (T : ByteArray) (hT : T.data.toList = w ++ 32 :: r) (hw : (32 : UInt8) ∉ w) (hl : w.length + r.length < 4000000000) : strings_Cut.f T ⟨#[32]⟩ = some (bs w, bs r, true) := by
  have hs : T.size = w.length + r.length + 1 := by
    rw [bs_of T _ hT, bs_size, List.length_append, List.length_cons]
    omega
  unfold strings_Cut.f
  rw [if_pos (by omega), hT, show (⟨#[32]⟩ : ByteArray).data.toList = [32] from rfl, cut_at 32 w r hw]
  rfl
theorem num_f (l : List UInt8) (c : UInt8) (hl : l.length < 4000000000) (ps : List (List UInt8)) (hp : Lib.split l [c] = ps) :
    rule_numbers.f (bs l) ⟨#[c]⟩ = some ((match ps[0]? with | some x => atoiV x | none => 0), (match ps[1]? with | some x => atoiV x | none => 0), (match ps[2]? with | some x => atoiV x | none => 0)) := by
  have h := nv_of (bs l) ⟨#[c]⟩ ps hp
  unfold rule_numbers.f
  rw [if_pos ⟨by rw [bs_size]; omega, Nat.le_refl 1⟩, h 0, h 1, h 2]
  rfl
theorem av (n : Int) (h : Sm n) : atoiV (Lib.itoa n) = n := atoiV_itoa n h.1 h.2
theorem il (n : Int) (h : Sm n) : (Lib.itoa n).length ≤ 16 := itoa_len n h.1 h.2
theorem num_1 (a : Int) (ha : Sm a) : rule_numbers.f (bs (Lib.itoa a)) ⟨#[32]⟩ = some (a, 0, 0) := by
  have := il a ha
  rw [num_f _ 32 (by omega) _ (split_one 32 _ (itoa_blank a))]
  show some (atoiV (Lib.itoa a), 0, 0) = _
  rw [av a ha]
theorem num_2 (a b : Int) (ha : Sm a) (hb : Sm b) : rule_numbers.f (bs (Lib.itoa a ++ ([32] ++ Lib.itoa b))) ⟨#[32]⟩ = some (a, b, 0) := by
  have h1 := il a ha
  have h2 := il b hb
  have hs : Lib.split (Lib.itoa a ++ ([32] ++ Lib.itoa b)) [32] = [Lib.itoa a, Lib.itoa b] := by
    rw [show ([32] : List UInt8) ++ Lib.itoa b = 32 :: Lib.itoa b from rfl, split_cons 32 _ _ (itoa_blank a), split_one 32 _ (itoa_blank b)]
  rw [num_f _ 32 (by simp; omega) _ hs]
  show some (atoiV (Lib.itoa a), atoiV (Lib.itoa b), 0) = _
  rw [av a ha, av b hb]
theorem num_3 (s : UInt8) (a b c : Int) (ha : Sm a) (hb : Sm b) (hc : Sm c) (na : s ∉ Lib.itoa a) (nb : s ∉ Lib.itoa b) (nc : s ∉ Lib.itoa c) : rule_numbers.f (bs (Lib.itoa a ++ ([s] ++ (Lib.itoa b ++ ([s] ++ Lib.itoa c))))) ⟨#[s]⟩ = some (a, b, c) := by
  have h1 := il a ha
  have h2 := il b hb
  have h3 := il c hc
  have hs : Lib.split (Lib.itoa a ++ ([s] ++ (Lib.itoa b ++ ([s] ++ Lib.itoa c)))) [s] = [Lib.itoa a, Lib.itoa b, Lib.itoa c] := by
    rw [show ([s] : List UInt8) ++ (Lib.itoa b ++ ([s] ++ Lib.itoa c)) = s :: (Lib.itoa b ++ s :: Lib.itoa c) from rfl, split_cons s _ _ na, split_cons s _ _ nb, split_one s _ nc]
  rw [num_f _ s (by simp; omega) _ hs]
  show some (atoiV (Lib.itoa a), atoiV (Lib.itoa b), atoiV (Lib.itoa c)) = _
  rw [av a ha, av b hb, av c hc]
theorem num_any (l : List UInt8) (c : UInt8) (hl : l.length < 4000000000) : ∃ v, rule_numbers.f (bs l) ⟨#[c]⟩ = some v := ⟨_, num_f l c hl _ rfl⟩
def W0 : List UInt8 := [119, 101, 101, 107, 100, 97, 121]
def W1 : List UInt8 := [100, 97, 121]
def W2 : List UInt8 := [110, 116, 104]
def W3 : List UInt8 := [100, 97, 116, 101, 115]
theorem q00 : (bs W0).toList = ([119, 101, 101, 107, 100, 97, 121] : List UInt8) := by decide +kernel
theorem q10 : ¬ (bs W1).toList = ([119, 101, 101, 107, 100, 97, 121] : List UInt8) := by decide +kernel
theorem q11 : (bs W1).toList = ([100, 97, 121] : List UInt8) := by decide +kernel
theorem q12 : ¬ (bs W1).toList = ([110, 116, 104] : List UInt8) := by decide +kernel
theorem q20 : ¬ (bs W2).toList = ([119, 101, 101, 107, 100, 97, 121] : List UInt8) := by decide +kernel
theorem q21 : ¬ (bs W2).toList = ([100, 97, 121] : List UInt8) := by decide +kernel
theorem q22 : (bs W2).toList = ([110, 116, 104] : List UInt8) := by decide +kernel
theorem q30 : ¬ (bs W3).toList = ([119, 101, 101, 107, 100, 97, 121] : List UInt8) := by decide +kernel
theorem q31 : ¬ (bs W3).toList = ([100, 97, 121] : List UInt8) := by decide +kernel
theorem q32 : ¬ (bs W3).toList = ([110, 116, 104] : List UInt8) := by decide +kernel
def dateL (y m d : Int) : List UInt8 := Lib.itoa y ++ ([45] ++ (Lib.itoa m ++ ([45] ++ Lib.itoa d)))
/-! Scanned. -/
theorem scan_0 (w : Int) (hw : Sm w) (T : ByteArray) (hT : T.data.toList = W0 ++ 32 :: Lib.itoa w) : rule_scanned.f T = some (0, 0, 0, w, 0, 0, 0, 0, 0, 0) := by
  have h1 := il w hw
  unfold rule_scanned.f
  rw [cut_f W0 _ T hT (by decide) (by show 7 + _ < _; omega), Option.bind_some]
  show (rule_numbers.f (bs (Lib.itoa w)) ⟨#[32]⟩).bind _ = _
  rw [num_1 w hw, Option.bind_some, if_pos q00]
theorem scan_1 (m n : Int) (hm : Sm m) (hn : Sm n) (T : ByteArray) (hT : T.data.toList = W1 ++ 32 :: (Lib.itoa m ++ ([32] ++ Lib.itoa n))) : rule_scanned.f T = some (1, m, n, 0, 0, 0, 0, 0, 0, 0) := by
  have h1 := il m hm
  have h2 := il n hn
  unfold rule_scanned.f
  rw [cut_f W1 _ T hT (by decide) (by show 3 + _ < _; simp; omega), Option.bind_some]
  show (rule_numbers.f (bs (Lib.itoa m ++ ([32] ++ Lib.itoa n))) ⟨#[32]⟩).bind _ = _
  rw [num_2 m n hm hn, Option.bind_some, if_neg q10, if_pos q11]
theorem scan_2 (m n w : Int) (hm : Sm m) (hn : Sm n) (hw : Sm w) (T : ByteArray) (hT : T.data.toList = W2 ++ 32 :: (Lib.itoa m ++ ([32] ++ (Lib.itoa n ++ ([32] ++ Lib.itoa w))))) : rule_scanned.f T = some (2, m, n, w, 0, 0, 0, 0, 0, 0) := by
  have h1 := il m hm
  have h2 := il n hn
  have h3 := il w hw
  unfold rule_scanned.f
  rw [cut_f W2 _ T hT (by decide) (by show 3 + _ < _; simp; omega), Option.bind_some]
  show (rule_numbers.f (bs (Lib.itoa m ++ ([32] ++ (Lib.itoa n ++ ([32] ++ Lib.itoa w))))) ⟨#[32]⟩).bind _ = _
  rw [num_3 32 m n w hm hn hw (itoa_blank m) (itoa_blank n) (itoa_blank w), Option.bind_some, if_neg q20, if_neg q21, if_pos q22]
theorem date_blank (y m d : Int) : (32 : UInt8) ∉ dateL y m d := by
  unfold dateL
  have h1 := itoa_blank y
  have h2 := itoa_blank m
  have h3 := itoa_blank d
  simp only [List.mem_append, List.mem_singleton, not_or]
  exact ⟨h1, by decide, h2, by decide, h3⟩
theorem date_len (y m d : Int) (hy : Sm y) (hm : Sm m) (hd : Sm d) : (dateL y m d).length ≤ 50 := by
  have h1 := il y hy
  have h2 := il m hm
  have h3 := il d hd
  unfold dateL
  simp
  omega
theorem scan_3 (y1 m1 d1 y2 m2 d2 : Int) (h1 : Sm y1 ∧ 0 ≤ y1) (h2 : Sm m1 ∧ 0 ≤ m1) (h3 : Sm d1 ∧ 0 ≤ d1) (h4 : Sm y2 ∧ 0 ≤ y2) (h5 : Sm m2 ∧ 0 ≤ m2) (h6 : Sm d2 ∧ 0 ≤ d2) (T : ByteArray) (hT : T.data.toList = W3 ++ 32 :: (dateL y1 m1 d1 ++ 32 :: dateL y2 m2 d2)) :
    rule_scanned.f T = some (3, 0, 0, 0, y1, m1, d1, y2, m2, d2) := by
  have l1 := date_len y1 m1 d1 h1.1 h2.1 h3.1
  have l2 := date_len y2 m2 d2 h4.1 h5.1 h6.1
  obtain ⟨v, hv⟩ := num_any (dateL y1 m1 d1 ++ 32 :: dateL y2 m2 d2) 32 (by simp; omega)
  have c2 := cut_f (dateL y1 m1 d1) (dateL y2 m2 d2) (bs (dateL y1 m1 d1 ++ 32 :: dateL y2 m2 d2)) rfl (date_blank y1 m1 d1) (by omega)
  have n1 : rule_numbers.f (bs (dateL y1 m1 d1)) ⟨#[45]⟩ = some (y1, m1, d1) := num_3 45 y1 m1 d1 h1.1 h2.1 h3.1 (itoa_dash y1 h1.2) (itoa_dash m1 h2.2) (itoa_dash d1 h3.2)
  have n2 : rule_numbers.f (bs (dateL y2 m2 d2)) ⟨#[45]⟩ = some (y2, m2, d2) := num_3 45 y2 m2 d2 h4.1 h5.1 h6.1 (itoa_dash y2 h4.2) (itoa_dash m2 h5.2) (itoa_dash d2 h6.2)
  unfold rule_scanned.f
  rw [cut_f W3 _ T hT (by decide) (by show 5 + _ < _; simp; omega), Option.bind_some]
  show (rule_numbers.f (bs (dateL y1 m1 d1 ++ 32 :: dateL y2 m2 d2)) ⟨#[32]⟩).bind _ = _
  rw [hv, Option.bind_some, if_neg q30, if_neg q31, if_neg q32]
  show (strings_Cut.f (bs (dateL y1 m1 d1 ++ 32 :: dateL y2 m2 d2)) ⟨#[32]⟩).bind _ = _
  rw [c2, Option.bind_some]
  show (rule_numbers.f (bs (dateL y1 m1 d1)) ⟨#[45]⟩).bind _ = _
  rw [n1, Option.bind_some]
  show (rule_numbers.f (bs (dateL y2 m2 d2)) ⟨#[45]⟩).bind _ = _
  rw [n2]
  rfl
/-! A rule's text. -/
theorem size_app (a : ByteArray) (l : List UInt8) : (a ++ bs l).size = a.size + l.length := by rw [ByteArray.size_append, bs_size]
theorem text_0 (k : Nat) (m n w y1 m1 d1 y2 m2 d2 : Int) (hw : Sm w) (hc : rule_Check.f (k + 4) 0 m n w y1 m1 d1 y2 m2 d2 = some none) : ∃ T, rule_Text.f (k + 4) 0 m n w y1 m1 d1 y2 m2 d2 = some (T, none) ∧ T = bs (W0 ++ 32 :: Lib.itoa w) := by
  have h1 := il w hw
  unfold rule_Text.f
  rw [hc, Option.bind_some, if_pos (show (none : Option Int).isNone = true from rfl), if_pos rfl, digits_f 32 [w] (by simpa using hw) (by simp) (by rw [show [w].map Lib.itoa = [Lib.itoa w] from rfl, join1]; omega), Option.bind_some, show [w].map Lib.itoa = [Lib.itoa w] from rfl, join1, if_pos (by rw [bs_size]; omega)]
  exact ⟨_, rfl, bs_of _ _ (by rw [app_list]; rfl)⟩
theorem text_1 (k : Nat) (m n w y1 m1 d1 y2 m2 d2 : Int) (hm : Sm m) (hn : Sm n) (hc : rule_Check.f (k + 4) 1 m n w y1 m1 d1 y2 m2 d2 = some none) : ∃ T, rule_Text.f (k + 4) 1 m n w y1 m1 d1 y2 m2 d2 = some (T, none) ∧ T = bs (W1 ++ 32 :: (Lib.itoa m ++ ([32] ++ Lib.itoa n))) := by
  have h1 := il m hm
  have h2 := il n hn
  have hl : (Lib.itoa m ++ ([32] ++ Lib.itoa n)).length ≤ 100 := by simp; omega
  unfold rule_Text.f
  rw [hc, Option.bind_some, if_pos (show (none : Option Int).isNone = true from rfl), if_neg (by decide), if_pos rfl, digits_f 32 [m, n] (by simpa using ⟨hm, hn⟩) (by simp) (by rw [show [m, n].map Lib.itoa = [Lib.itoa m, Lib.itoa n] from rfl, join2]; omega), Option.bind_some, show [m, n].map Lib.itoa = [Lib.itoa m, Lib.itoa n] from rfl, join2, if_pos (by rw [bs_size]; omega)]
  exact ⟨_, rfl, bs_of _ _ (by rw [app_list]; rfl)⟩
theorem text_2 (k : Nat) (m n w y1 m1 d1 y2 m2 d2 : Int) (hm : Sm m) (hn : Sm n) (hw : Sm w) (hc : rule_Check.f (k + 4) 2 m n w y1 m1 d1 y2 m2 d2 = some none) : ∃ T, rule_Text.f (k + 4) 2 m n w y1 m1 d1 y2 m2 d2 = some (T, none) ∧ T = bs (W2 ++ 32 :: (Lib.itoa m ++ ([32] ++ (Lib.itoa n ++ ([32] ++ Lib.itoa w))))) := by
  have h1 := il m hm
  have h2 := il n hn
  have h3 := il w hw
  have hl : (Lib.itoa m ++ ([32] ++ (Lib.itoa n ++ ([32] ++ Lib.itoa w)))).length ≤ 100 := by simp; omega
  unfold rule_Text.f
  rw [hc, Option.bind_some, if_pos (show (none : Option Int).isNone = true from rfl), if_neg (by decide), if_neg (by decide), if_pos rfl, digits_f 32 [m, n, w] (by simpa using ⟨hm, hn, hw⟩) (by simp) (by rw [show [m, n, w].map Lib.itoa = [Lib.itoa m, Lib.itoa n, Lib.itoa w] from rfl, join3]; omega), Option.bind_some, show [m, n, w].map Lib.itoa = [Lib.itoa m, Lib.itoa n, Lib.itoa w] from rfl, join3, if_pos (by rw [bs_size]; omega)]
  exact ⟨_, rfl, bs_of _ _ (by rw [app_list]; rfl)⟩
theorem date_f (k : Nat) (y m d : Int) (hy : Sm y) (hm : Sm m) (hd : Sm d) : rule_date.f (k + 4) y m d = some (bs (dateL y m d)) := by
  have hl := date_len y m d hy hm hd
  unfold dateL at hl
  unfold rule_date.f
  rw [digits_f 45 [y, m, d] (by simpa using ⟨hy, hm, hd⟩) (by simp) (by rw [show [y, m, d].map Lib.itoa = [Lib.itoa y, Lib.itoa m, Lib.itoa d] from rfl, join3]; omega), Option.bind_some, show [y, m, d].map Lib.itoa = [Lib.itoa y, Lib.itoa m, Lib.itoa d] from rfl, join3]
  rfl
theorem text_3 (k : Nat) (m n w y1 m1 d1 y2 m2 d2 : Int) (h1 : Sm y1) (h2 : Sm m1) (h3 : Sm d1) (h4 : Sm y2) (h5 : Sm m2) (h6 : Sm d2) (hc : rule_Check.f (k + 4) 3 m n w y1 m1 d1 y2 m2 d2 = some none) : ∃ T, rule_Text.f (k + 4) 3 m n w y1 m1 d1 y2 m2 d2 = some (T, none) ∧ T = bs (W3 ++ 32 :: (dateL y1 m1 d1 ++ 32 :: dateL y2 m2 d2)) := by
  have l1 := date_len y1 m1 d1 h1 h2 h3
  have l2 := date_len y2 m2 d2 h4 h5 h6
  unfold rule_Text.f
  rw [hc, Option.bind_some, if_pos (show (none : Option Int).isNone = true from rfl), if_neg (by decide), if_neg (by decide), if_neg (by decide), date_f k y1 m1 d1 h1 h2 h3, Option.bind_some, if_pos (by rw [bs_size]; omega), if_pos (by rw [size_app]; show 6 + _ + 1 ≤ _; omega), date_f k y2 m2 d2 h4 h5 h6, Option.bind_some, if_pos (by rw [ByteArray.size_append, size_app, bs_size]; show 6 + _ + 1 + _ ≤ _; omega)]
  exact ⟨_, rfl, bs_of _ _ (by rw [app_list, app_list, app_list, bs_list, bs_list]; simp [W3])⟩
end Go.Proofs.YtpagbmkdphdjoaaGreatDoor.PClk

/- Plain mathematics of RuleBack: a rule's text read back, and a text that is a rule's. -/
set_option linter.unusedVariables false
set_option linter.unusedSimpArgs false
namespace Go.Proofs.YtpagbmkdphdjoaaGreatDoor.PClk
open Go.RowKit Go.Proofs.YtpagbmkdphdjoaaGreatDoor.P Go.Proofs.YtpagbmkdphdjoaaGreatDoorW.PrintWords Go.Proofs.YtpagbmkdphdjoaaGreatDoorW.PrintLast Go.Proofs.YtpagbmkdphdjoaaGreatDoorW.PrintMore
theorem text_scan (K m n w y1 m1 d1 y2 m2 d2 : Int) (hOk : OkT K m n w y1 m1 d1 y2 m2 d2) (hc : ∀ k, rule_Check.f (k + 3) K m n w y1 m1 d1 y2 m2 d2 = some none) : ∃ T, (∀ k, rule_Text.f (k + 4) K m n w y1 m1 d1 y2 m2 d2 = some (T, none)) ∧ rule_scanned.f T = some (K, m, n, w, y1, m1, d1, y2, m2, d2) := by
  rcases hOk with ⟨rfl, g1, g2, rfl, rfl, rfl, rfl, rfl, rfl, rfl, rfl⟩ | ⟨rfl, g1, g2, g3, g4, g5, rfl, rfl, rfl, rfl, rfl, rfl, rfl⟩ | ⟨rfl, g1, g2, g3, g4, g5, g6, g7, rfl, rfl, rfl, rfl, rfl, rfl⟩ | ⟨rfl, rfl, rfl, rfl, ⟨a1, a2⟩, ⟨b1, b2⟩, ⟨c1, c2⟩, ⟨e1, e2⟩, ⟨f1, f2⟩, ⟨i1, i2⟩⟩
  · have hw : Sm w := ⟨by omega, by omega⟩
    refine ⟨_, fun k => ?_, scan_0 w hw _ (bs_list _)⟩
    obtain ⟨T, h, rfl⟩ := text_0 k 0 0 w 0 0 0 0 0 0 hw (hc (k + 1))
    exact h
  · have hm : Sm m := ⟨by omega, by omega⟩
    have hn : Sm n := ⟨by omega, by omega⟩
    refine ⟨_, fun k => ?_, scan_1 m n hm hn _ (bs_list _)⟩
    obtain ⟨T, h, rfl⟩ := text_1 k m n 0 0 0 0 0 0 0 hm hn (hc (k + 1))
    exact h
  · have hm : Sm m := ⟨by omega, by omega⟩
    have hn : Sm n := ⟨by omega, by omega⟩
    have hw : Sm w := ⟨by omega, by omega⟩
    refine ⟨_, fun k => ?_, scan_2 m n w hm hn hw _ (bs_list _)⟩
    obtain ⟨T, h, rfl⟩ := text_2 k m n w 0 0 0 0 0 0 hm hn hw (hc (k + 1))
    exact h
  · have h1 : Sm y1 := ⟨by omega, by omega⟩
    have h2 : Sm m1 := ⟨by omega, by omega⟩
    have h3 : Sm d1 := ⟨by omega, by omega⟩
    have h4 : Sm y2 := ⟨by omega, by omega⟩
    have h5 : Sm m2 := ⟨by omega, by omega⟩
    have h6 : Sm d2 := ⟨by omega, by omega⟩
    refine ⟨_, fun k => ?_, scan_3 y1 m1 d1 y2 m2 d2 ⟨h1, a1⟩ ⟨h2, b1⟩ ⟨h3, c1⟩ ⟨h4, e1⟩ ⟨h5, f1⟩ ⟨h6, i1⟩ _ (bs_list _)⟩
    obtain ⟨T, h, rfl⟩ := text_3 k 0 0 0 y1 m1 d1 y2 m2 d2 h1 h2 h3 h4 h5 h6 (hc (k + 1))
    exact h
theorem text_bad (k : Nat) (K m n w y1 m1 d1 y2 m2 d2 : Int) (hc : rule_Check.f k K m n w y1 m1 d1 y2 m2 d2 = some (some 1)) : rule_Text.f k K m n w y1 m1 d1 y2 m2 d2 = some (⟨#[]⟩, some 1) := by
  unfold rule_Text.f
  rw [hc, Option.bind_some, if_neg (by decide)]
  rfl
theorem parse_of (k : Nat) (T T' : ByteArray) (K m n w y1 m1 d1 y2 m2 d2 : Int) (hs : rule_scanned.f T = some (K, m, n, w, y1, m1, d1, y2, m2, d2)) (ht : rule_Text.f k K m n w y1 m1 d1 y2 m2 d2 = some (T', none)) : rule_Parse.f k T = if T'.toList = T.toList then some (K, m, n, w, y1, m1, d1, y2, m2, d2, none) else some (0, 0, 0, 0, 0, 0, 0, 0, 0, 0, some 3) := by
  unfold rule_Parse.f
  rw [hs, Option.bind_some, ht, Option.bind_some, if_pos (show (none : Option Int).isNone = true from rfl)]
theorem parse_bad (k : Nat) (T T' : ByteArray) (K m n w y1 m1 d1 y2 m2 d2 : Int) (hs : rule_scanned.f T = some (K, m, n, w, y1, m1, d1, y2, m2, d2)) (ht : rule_Text.f k K m n w y1 m1 d1 y2 m2 d2 = some (T', some 1)) : rule_Parse.f k T = some (0, 0, 0, 0, 0, 0, 0, 0, 0, 0, some 3) := by
  unfold rule_Parse.f
  rw [hs, Option.bind_some, ht, Option.bind_some, if_neg (show ¬ (some (1 : Int)).isNone = true by decide)]
theorem cut_any (s : ByteArray) (hs : s.size ≤ 300) : ∃ a b f, strings_Cut.f s ⟨#[32]⟩ = some (bs a, bs b, f) ∧ a.length ≤ 300 ∧ b.length ≤ 300 := by
  have hl : s.data.toList.length ≤ 300 := by
    have : s.data.toList.length = s.size := Array.length_toList
    omega
  refine ⟨(Lib.cut s.data.toList [32]).1, (Lib.cut s.data.toList [32]).2.1, (Lib.cut s.data.toList [32]).2.2, ?_, ?_, ?_⟩
  · unfold strings_Cut.f
    rw [if_pos (by omega)]
    rfl
  · unfold Lib.cut
    split
    · rw [List.length_take]; omega
    · exact hl
  · unfold Lib.cut
    split
    · rw [List.length_drop]; omega
    · simp
theorem scan_total (s : ByteArray) (hs : s.size ≤ 300) : ∃ K m n w y1 m1 d1 y2 m2 d2, rule_scanned.f s = some (K, m, n, w, y1, m1, d1, y2, m2, d2) := by
  obtain ⟨a, b, f, hc, ha, hb⟩ := cut_any s hs
  obtain ⟨⟨v0, v1, v2⟩, hv⟩ := num_any b 32 (by omega)
  obtain ⟨a', b', f', hc', ha', hb'⟩ := cut_any (bs b) (by rw [bs_size]; exact hb)
  obtain ⟨⟨x0, x1, x2⟩, hx⟩ := num_any a' 45 (by omega)
  obtain ⟨⟨u0, u1, u2⟩, hu⟩ := num_any b' 45 (by omega)
  unfold rule_scanned.f
  rw [hc, Option.bind_some]
  show ∃ K m n w y1 m1 d1 y2 m2 d2, ((rule_numbers.f (bs b) ⟨#[32]⟩).bind _ : Option _) = _
  rw [hv]
  simp only [Option.bind_some]
  by_cases c0 : (bs a).toList = ([119, 101, 101, 107, 100, 97, 121] : List UInt8)
  · exact ⟨0, 0, 0, v0, 0, 0, 0, 0, 0, 0, by rw [if_pos c0]⟩
  · by_cases c1 : (bs a).toList = ([100, 97, 121] : List UInt8)
    · exact ⟨1, v0, v1, 0, 0, 0, 0, 0, 0, 0, by rw [if_neg c0, if_pos c1]⟩
    · by_cases c2 : (bs a).toList = ([110, 116, 104] : List UInt8)
      · exact ⟨2, v0, v1, v2, 0, 0, 0, 0, 0, 0, by rw [if_neg c0, if_neg c1, if_pos c2]⟩
      · refine ⟨3, 0, 0, 0, x0, x1, x2, u0, u1, u2, ?_⟩
        rw [if_neg c0, if_neg c1, if_neg c2, hc']
        simp only [Option.bind_some]
        rw [hx]
        simp only [Option.bind_some]
        rw [hu]
        rfl
/-- What is read of any short text. -/
theorem back_s (s : ByteArray) (hs : s.size ≤ 300) : (∃ K m n w y1 m1 d1 y2 m2 d2, ∀ k, rule_Parse.f (k + 4) s = some (K, m, n, w, y1, m1, d1, y2, m2, d2, none) ∧ ∃ U, rule_Text.f (k + 4) K m n w y1 m1 d1 y2 m2 d2 = some (U, none) ∧ U.toList = s.toList) ∨ (∀ k, rule_Parse.f (k + 4) s = some (0, 0, 0, 0, 0, 0, 0, 0, 0, 0, some 3)) := by
  obtain ⟨K, m, n, w, y1, m1, d1, y2, m2, d2, hsc⟩ := scan_total s hs
  rcases chk_all K m n w y1 m1 d1 y2 m2 d2 with ⟨hOk, hc⟩ | hc
  · obtain ⟨T, ht, _⟩ := text_scan K m n w y1 m1 d1 y2 m2 d2 hOk hc
    by_cases he : T.toList = s.toList
    · refine .inl ⟨K, m, n, w, y1, m1, d1, y2, m2, d2, fun k => ⟨?_, T, ht k, he⟩⟩
      rw [parse_of (k + 4) s T K m n w y1 m1 d1 y2 m2 d2 hsc (ht k), if_pos he]
    · refine .inr fun k => ?_
      rw [parse_of (k + 4) s T K m n w y1 m1 d1 y2 m2 d2 hsc (ht k), if_neg he]
  · exact .inr fun k => parse_bad (k + 4) s _ K m n w y1 m1 d1 y2 m2 d2 hsc (text_bad (k + 4) K m n w y1 m1 d1 y2 m2 d2 (hc (k + 1)))
theorem chk_sure (k : Nat) : rule_Check.f (k + 1) 2 5 (-1) 1 0 0 0 0 0 0 = some none := by rw [chk_2 k, if_pos (by decide)]
/-! The sure one. -/
theorem scan_sure : rule_scanned.f ⟨#[110, 116, 104, 32, 53, 32, 45, 49, 32, 49]⟩ = some (2, 5, -1, 1, 0, 0, 0, 0, 0, 0) := by
  have t1 : strings_Cut.f ⟨#[110, 116, 104, 32, 53, 32, 45, 49, 32, 49]⟩ ⟨#[32]⟩ = some (⟨#[110, 116, 104]⟩, ⟨#[53, 32, 45, 49, 32, 49]⟩, true) := by decide +kernel
  have t2 : rule_numbers.f ⟨#[53, 32, 45, 49, 32, 49]⟩ ⟨#[32]⟩ = some (5, -1, 1) := by decide +kernel
  unfold rule_scanned.f
  rw [t1, Option.bind_some]
  simp only [t2, Option.bind_some]
  rw [if_neg (by decide +kernel), if_neg (by decide +kernel), if_pos (by decide +kernel)]
theorem dig1 (n : Nat) (h : n < 10) : Lib.decDigits n = [UInt8.ofNat (48 + n)] := by rw [Lib.decDigits, dif_pos h]
theorem itoa_5 : strconv_Itoa_47.f 5 = some ⟨#[53]⟩ := by
  unfold strconv_Itoa_47.f
  rw [if_pos (by decide), if_pos (by decide), show (5 : Int) = ((5 : Nat) : Int) from rfl, Lib.itoa_nonneg, dig1 5 (by decide)]
  rfl
theorem itoa_1 : strconv_Itoa_47.f 1 = some ⟨#[49]⟩ := by
  unfold strconv_Itoa_47.f
  rw [if_pos (by decide), if_pos (by decide), show (1 : Int) = ((1 : Nat) : Int) from rfl, Lib.itoa_nonneg, dig1 1 (by decide)]
  rfl
theorem itoa_m1 : strconv_Itoa_47.f (-1) = some ⟨#[45, 49]⟩ := by
  unfold strconv_Itoa_47.f
  rw [if_pos (by decide), if_pos (by decide)]
  unfold Lib.itoa
  rw [if_pos (by decide), show (-1 : Int).natAbs = 1 from rfl, dig1 1 (by decide)]
  rfl
theorem digits_sure (k : Nat) : rule_digits.f (k + 4) ⟨#[32]⟩ [5, -1, 1] = some ⟨#[53, 32, 45, 49, 32, 49]⟩ := by
  have j : strings_Join.f [⟨#[53]⟩, ⟨#[45, 49]⟩, ⟨#[49]⟩] ⟨#[32]⟩ = some ⟨#[53, 32, 45, 49, 32, 49]⟩ := by decide +kernel
  have e0 : rd [5, -1, 1] 0 = 5 := rfl
  have e1 : rd [5, -1, 1] 1 = -1 := rfl
  have e2 : rd [5, -1, 1] 2 = 1 := rfl
  have w0 : wrap64 ((0 : Int) + 1) = 1 := by unfold wrap64; decide
  have w1 : wrap64 ((1 : Int) + 1) = 2 := by unfold wrap64; decide
  have w2 : wrap64 ((2 : Int) + 1) = 3 := by unfold wrap64; decide
  unfold rule_digits.f
  show rule_digits.l0 (k + 4) ⟨#[32]⟩ [] [5, -1, 1] 3 0 = _
  rw [rule_digits.l0, if_pos (by decide), if_pos (by decide), if_pos (by decide), e0, itoa_5, Option.bind_some, if_pos (by decide), w0]
  rw [rule_digits.l0, if_pos (by decide), if_pos (by decide), if_pos (by decide), e1, itoa_m1, Option.bind_some, if_pos (by decide), w1]
  rw [rule_digits.l0, if_pos (by decide), if_pos (by decide), if_pos (by decide), e2, itoa_1, Option.bind_some, if_pos (by decide), w2]
  rw [rule_digits.l0, if_neg (by decide)]
  show (strings_Join.f [⟨#[53]⟩, ⟨#[45, 49]⟩, ⟨#[49]⟩] ⟨#[32]⟩).bind _ = _
  rw [j]; rfl
theorem parse_sure (k : Nat) : rule_Parse.f (k + 4) ⟨#[110, 116, 104, 32, 53, 32, 45, 49, 32, 49]⟩ = some (2, 5, -1, 1, 0, 0, 0, 0, 0, 0, none) := by
  unfold rule_Parse.f rule_Text.f
  rw [scan_sure, Option.bind_some, chk_sure (k + 3), Option.bind_some, if_pos (show (none : Option Int).isNone = true from rfl), if_neg (by decide), if_neg (by decide), if_pos rfl, digits_sure k, Option.bind_some, if_pos (by decide), Option.bind_some, if_pos (show (none : Option Int).isNone = true from rfl), if_pos (by decide +kernel)]
theorem sure_ok {k : Nat} (hk : 20 ≤ k) : w6_sure.f k = some true := by
  obtain ⟨m, rfl⟩ : ∃ m, k = m + 5 := ⟨k - 5, by omega⟩
  unfold w6_sure.f
  have hm : rule_Match.f (m + 5) 2 5 (-1) 1 0 0 0 0 0 0 20603 = some (false, none) := by
    have ho : civil_Of.f 20603 = some (2026, 5, 30, none) := by decide +kernel
    have hl : civil_Length.f (m + 5) 2026 5 = some (31, none) := by
      have := length_yr 0 56 4 (by decide) (by decide) (by decide) (m + 2)
      exact this
    unfold rule_Match.f
    rw [ho, Option.bind_some, if_pos (show (none : Option Int).isNone = true from rfl), chk_sure (m + 4), Option.bind_some, if_pos (show (none : Option Int).isNone = true from rfl)]
    show ((civil_Length.f (m + 5) 2026 5).bind _) = _
    rw [hl, Option.bind_some, if_pos (show (none : Option Int).isNone = true from rfl), if_neg (by decide), rule_Match.j0, if_neg (by decide), if_neg (by decide), if_pos rfl, if_pos (by decide), weekday_eq 20603 (by decide) (by decide), Option.bind_some]
    rw [if_neg (show ¬ wd 20603 = 1 by decide)]
  rw [show m + 5 = (m + 1) + 4 by omega, parse_sure, Option.bind_some, show m + 1 + 4 = m + 5 by omega]
  show (rule_Match.f (m + 5) 2 5 (-1) 1 0 0 0 0 0 0 20603).bind _ = _
  rw [hm]
  rfl
end Go.Proofs.YtpagbmkdphdjoaaGreatDoor.PClk
