/- Plain mathematics of layer 6's texts: a rule's text scanned is the rule. -/
import Derived.Test.YtpagbmkdphdjoaaGreatDoorRuT
import Derived.Test.YtpagbmkdphdjoaaGreatDoorRuC
import Derived.Test.YtpagbmkdphdjoaaGreatDoorPx15
set_option linter.unusedVariables false
set_option linter.unusedSimpArgs false
namespace Go.Proofs.YtpagbmkdphdjoaaGreatDoor.PClk
open Go.RowKit Go.Proofs.YtpagbmkdphdjoaaGreatDoor.P Go.Proofs.YtpagbmkdphdjoaaGreatDoorW.PrintWords Go.Proofs.YtpagbmkdphdjoaaGreatDoorW.PrintLast Go.Proofs.YtpagbmkdphdjoaaGreatDoorW.PrintMore
def bs (l : List UInt8) : ByteArray := ⟨l.toArray⟩
theorem bs_list (l : List UInt8) : (bs l).data.toList = l := rfl
theorem bs_size (l : List UInt8) : (bs l).size = l.length := by simp [bs, ByteArray.size]
theorem bs_of (b : ByteArray) (l : List UInt8) (h : b.data.toList = l) : b = bs l := by
  cases b with
  | mk d => simp only [bs, ByteArray.mk.injEq]; rw [← h]
theorem app_list (a b : ByteArray) : (a ++ b).data.toList = a.data.toList ++ b.data.toList := by simp
/-! How long. -/
theorem dec_len : ∀ (k n : Nat), n < 10 ^ (k + 1) → (Lib.decDigits n).length ≤ k + 1
  | 0, n, h => by rw [Lib.decDigits_one (by simpa using h)]; exact Nat.le_refl _
  | k + 1, n, h => by
    rw [Lib.decDigits]
    by_cases h1 : n < 10
    · rw [dif_pos h1]; simp
    · rw [dif_neg h1, List.length_append]
      have := dec_len k (n / 10) (by rw [Nat.pow_succ] at h; omega)
      simp
      omega
theorem itoa_len (n : Int) (h0 : -1000000000000000 < n) (h1 : n < 1000000000000000) : (Lib.itoa n).length ≤ 16 := by
  by_cases h : 0 ≤ n
  · obtain ⟨u, rfl⟩ := Int.eq_ofNat_of_zero_le h
    rw [Lib.itoa_nonneg]
    have := dec_len 14 u (by omega)
    omega
  · obtain ⟨u, hu, rfl⟩ : ∃ u : Nat, 1 ≤ u ∧ n = -(u : Int) := ⟨n.natAbs, by omega, by omega⟩
    rw [Lib.itoa_neg u hu]
    have := dec_len 14 u (by omega)
    simp
    omega
def Sm (n : Int) : Prop := -1000000000000000 < n ∧ n < 1000000000000000
theorem itoa_f (n : Int) (h : Sm n) : strconv_Itoa_47.f n = some (bs (Lib.itoa n)) := by
  obtain ⟨h0, h1⟩ := h
  unfold strconv_Itoa_47.f
  rw [if_pos (by omega), if_pos (by omega)]
  rfl
theorem rd_at (xs : List Int) (i : Nat) (h : i < xs.length) : rd xs (i : Int) = xs[i] := by simp [rd, h]
theorem digits_go (sep : ByteArray) (xs : List Int) (hb : ∀ x ∈ xs, Sm x) (hl : xs.length ≤ 10) (R : ByteArray) (hJ : strings_Join.f (xs.map fun x => bs (Lib.itoa x)) sep = some R) :
    ∀ (r i : Nat), i + r = xs.length → rule_digits.l0 (r + 1) sep ((xs.take i).map fun x => bs (Lib.itoa x)) xs (xs.length : Int) (i : Int) = some R
  | 0, i, e => by
    rw [rule_digits.l0, if_neg (by omega), List.take_of_length_le (by omega), hJ]
    rfl
  | r + 1, i, e => by
    have ih := digits_go sep xs hb hl R hJ r (i + 1) (by omega)
    have hi : i < xs.length := by omega
    rw [rule_digits.l0, if_pos (by omega), if_pos (by omega), if_pos (by omega), rd_at xs i hi, itoa_f _ (hb _ (List.getElem_mem hi)), Option.bind_some, if_pos (by simp; omega)]
    rw [List.take_succ_eq_append_getElem hi, List.map_append] at ih
    rw [show wrap64 ((i : Int) + 1) = ((i + 1 : Nat) : Int) by rw [w64 (by omega) (by omega)]; omega]
    exact ih
theorem digits_up (sep : ByteArray) (xs : List Int) {k j : Nat} {R : ByteArray} (h : rule_digits.f k sep xs = some R) (hkj : k ≤ j) : rule_digits.f j sep xs = some R := by
  induction hkj with
  | refl => exact h
  | step _ ih => exact rule_digits.mono _ _ _ _ ih
theorem digits_f (c : UInt8) (xs : List Int) (hb : ∀ x ∈ xs, Sm x) (hl : xs.length ≤ 3) (hJ : (Lib.join (xs.map Lib.itoa) [c]).length ≤ 1000) (k : Nat) : rule_digits.f (k + 4) ⟨#[c]⟩ xs = some (bs (Lib.join (xs.map Lib.itoa) [c])) := by
  have e : (xs.map fun x => bs (Lib.itoa x)).map (·.data.toList) = xs.map Lib.itoa := by
    rw [List.map_map]
    rfl
  have hj : strings_Join.f (xs.map fun x => bs (Lib.itoa x)) ⟨#[c]⟩ = some (bs (Lib.join (xs.map Lib.itoa) [c])) := by
    unfold strings_Join.f
    rw [e, if_pos ⟨by simp; omega, by show (Lib.join (xs.map Lib.itoa) [c]).length ≤ _; omega⟩]
    rfl
  have h0 := digits_go ⟨#[c]⟩ xs hb (by omega) _ hj xs.length 0 (Nat.zero_add _)
  exact digits_up ⟨#[c]⟩ xs (k := xs.length + 1) h0 (by omega)
theorem join1 (a sep : List UInt8) : Lib.join [a] sep = a := by simp [Lib.join, List.intercalate]
theorem join2 (a b sep : List UInt8) : Lib.join [a, b] sep = a ++ (sep ++ b) := by simp [Lib.join, List.intercalate]
theorem join3 (a b c sep : List UInt8) : Lib.join [a, b, c] sep = a ++ (sep ++ (b ++ (sep ++ c))) := by simp [Lib.join, List.intercalate]
/-! Cut, and its numbers. -/
theorem cut_f (w r : List UInt8) (T : ByteArray) (hT : T.data.toList = w ++ 32 :: r) (hw : (32 : UInt8) ∉ w) (hl : w.length + r.length < 4000000000) : strings_Cut.f T ⟨#[32]⟩ = some (bs w, bs r, true) := by
  have hs : T.size = w.length + r.length + 1 := by
    rw [bs_of T _ hT, bs_size, List.length_append, List.length_cons]
    omega
  unfold strings_Cut.f
  rw [if_pos (by omega), hT, show (⟨#[32]⟩ : ByteArray).data.toList = [32] from rfl, cut_at 32 w r hw]
  rfl
theorem num_f (l : List UInt8) (c : UInt8) (hl : l.length < 4000000000) (ps : List (List UInt8)) (hp : Lib.split l [c] = ps) :
    rule_numbers.f (bs l) ⟨#[c]⟩ = some ((match ps[0]? with | some x => atoiV x | none => 0), (match ps[1]? with | some x => atoiV x | none => 0), (match ps[2]? with | some x => atoiV x | none => 0)) := by
  have h := nv_of (bs l) ⟨#[c]⟩ ps hp
  unfold rule_numbers.f
  rw [if_pos ⟨by rw [bs_size]; omega, Nat.le_refl 1⟩, h 0, h 1, h 2]
  rfl
theorem av (n : Int) (h : Sm n) : atoiV (Lib.itoa n) = n := atoiV_itoa n h.1 h.2
theorem il (n : Int) (h : Sm n) : (Lib.itoa n).length ≤ 16 := itoa_len n h.1 h.2
theorem num_1 (a : Int) (ha : Sm a) : rule_numbers.f (bs (Lib.itoa a)) ⟨#[32]⟩ = some (a, 0, 0) := by
  have := il a ha
  rw [num_f _ 32 (by omega) _ (split_one 32 _ (itoa_blank a))]
  show some (atoiV (Lib.itoa a), 0, 0) = _
  rw [av a ha]
theorem num_2 (a b : Int) (ha : Sm a) (hb : Sm b) : rule_numbers.f (bs (Lib.itoa a ++ ([32] ++ Lib.itoa b))) ⟨#[32]⟩ = some (a, b, 0) := by
  have h1 := il a ha
  have h2 := il b hb
  have hs : Lib.split (Lib.itoa a ++ ([32] ++ Lib.itoa b)) [32] = [Lib.itoa a, Lib.itoa b] := by
    rw [show ([32] : List UInt8) ++ Lib.itoa b = 32 :: Lib.itoa b from rfl, split_cons 32 _ _ (itoa_blank a), split_one 32 _ (itoa_blank b)]
  rw [num_f _ 32 (by simp; omega) _ hs]
  show some (atoiV (Lib.itoa a), atoiV (Lib.itoa b), 0) = _
  rw [av a ha, av b hb]
theorem num_3 (s : UInt8) (a b c : Int) (ha : Sm a) (hb : Sm b) (hc : Sm c) (na : s ∉ Lib.itoa a) (nb : s ∉ Lib.itoa b) (nc : s ∉ Lib.itoa c) : rule_numbers.f (bs (Lib.itoa a ++ ([s] ++ (Lib.itoa b ++ ([s] ++ Lib.itoa c))))) ⟨#[s]⟩ = some (a, b, c) := by
  have h1 := il a ha
  have h2 := il b hb
  have h3 := il c hc
  have hs : Lib.split (Lib.itoa a ++ ([s] ++ (Lib.itoa b ++ ([s] ++ Lib.itoa c)))) [s] = [Lib.itoa a, Lib.itoa b, Lib.itoa c] := by
    rw [show ([s] : List UInt8) ++ (Lib.itoa b ++ ([s] ++ Lib.itoa c)) = s :: (Lib.itoa b ++ s :: Lib.itoa c) from rfl, split_cons s _ _ na, split_cons s _ _ nb, split_one s _ nc]
  rw [num_f _ s (by simp; omega) _ hs]
  show some (atoiV (Lib.itoa a), atoiV (Lib.itoa b), atoiV (Lib.itoa c)) = _
  rw [av a ha, av b hb, av c hc]
theorem num_any (l : List UInt8) (c : UInt8) (hl : l.length < 4000000000) : ∃ v, rule_numbers.f (bs l) ⟨#[c]⟩ = some v := ⟨_, num_f l c hl _ rfl⟩
def W0 : List UInt8 := [119, 101, 101, 107, 100, 97, 121]
def W1 : List UInt8 := [100, 97, 121]
def W2 : List UInt8 := [110, 116, 104]
def W3 : List UInt8 := [100, 97, 116, 101, 115]
theorem q00 : (bs W0).toList = ([119, 101, 101, 107, 100, 97, 121] : List UInt8) := by decide +kernel
theorem q01 : ¬ (bs W0).toList = ([100, 97, 121] : List UInt8) := by decide +kernel
theorem q02 : ¬ (bs W0).toList = ([110, 116, 104] : List UInt8) := by decide +kernel
theorem q10 : ¬ (bs W1).toList = ([119, 101, 101, 107, 100, 97, 121] : List UInt8) := by decide +kernel
theorem q11 : (bs W1).toList = ([100, 97, 121] : List UInt8) := by decide +kernel
theorem q12 : ¬ (bs W1).toList = ([110, 116, 104] : List UInt8) := by decide +kernel
theorem q20 : ¬ (bs W2).toList = ([119, 101, 101, 107, 100, 97, 121] : List UInt8) := by decide +kernel
theorem q21 : ¬ (bs W2).toList = ([100, 97, 121] : List UInt8) := by decide +kernel
theorem q22 : (bs W2).toList = ([110, 116, 104] : List UInt8) := by decide +kernel
theorem q30 : ¬ (bs W3).toList = ([119, 101, 101, 107, 100, 97, 121] : List UInt8) := by decide +kernel
theorem q31 : ¬ (bs W3).toList = ([100, 97, 121] : List UInt8) := by decide +kernel
theorem q32 : ¬ (bs W3).toList = ([110, 116, 104] : List UInt8) := by decide +kernel
def dateL (y m d : Int) : List UInt8 := Lib.itoa y ++ ([45] ++ (Lib.itoa m ++ ([45] ++ Lib.itoa d)))
/-! Scanned. -/
theorem scan_0 (w : Int) (hw : Sm w) (T : ByteArray) (hT : T.data.toList = W0 ++ 32 :: Lib.itoa w) : rule_scanned.f T = some (0, 0, 0, w, 0, 0, 0, 0, 0, 0) := by
  have h1 := il w hw
  unfold rule_scanned.f
  rw [cut_f W0 _ T hT (by decide) (by show 7 + _ < _; omega), Option.bind_some]
  show (rule_numbers.f (bs (Lib.itoa w)) ⟨#[32]⟩).bind _ = _
  rw [num_1 w hw, Option.bind_some, if_pos q00]
theorem scan_1 (m n : Int) (hm : Sm m) (hn : Sm n) (T : ByteArray) (hT : T.data.toList = W1 ++ 32 :: (Lib.itoa m ++ ([32] ++ Lib.itoa n))) : rule_scanned.f T = some (1, m, n, 0, 0, 0, 0, 0, 0, 0) := by
  have h1 := il m hm
  have h2 := il n hn
  unfold rule_scanned.f
  rw [cut_f W1 _ T hT (by decide) (by show 3 + _ < _; simp; omega), Option.bind_some]
  show (rule_numbers.f (bs (Lib.itoa m ++ ([32] ++ Lib.itoa n))) ⟨#[32]⟩).bind _ = _
  rw [num_2 m n hm hn, Option.bind_some, if_neg q10, if_pos q11]
theorem scan_2 (m n w : Int) (hm : Sm m) (hn : Sm n) (hw : Sm w) (T : ByteArray) (hT : T.data.toList = W2 ++ 32 :: (Lib.itoa m ++ ([32] ++ (Lib.itoa n ++ ([32] ++ Lib.itoa w))))) : rule_scanned.f T = some (2, m, n, w, 0, 0, 0, 0, 0, 0) := by
  have h1 := il m hm
  have h2 := il n hn
  have h3 := il w hw
  unfold rule_scanned.f
  rw [cut_f W2 _ T hT (by decide) (by show 3 + _ < _; simp; omega), Option.bind_some]
  show (rule_numbers.f (bs (Lib.itoa m ++ ([32] ++ (Lib.itoa n ++ ([32] ++ Lib.itoa w))))) ⟨#[32]⟩).bind _ = _
  rw [num_3 32 m n w hm hn hw (itoa_blank m) (itoa_blank n) (itoa_blank w), Option.bind_some, if_neg q20, if_neg q21, if_pos q22]
theorem date_blank (y m d : Int) : (32 : UInt8) ∉ dateL y m d := by
  unfold dateL
  have h1 := itoa_blank y
  have h2 := itoa_blank m
  have h3 := itoa_blank d
  simp only [List.mem_append, List.mem_singleton, not_or]
  exact ⟨h1, by decide, h2, by decide, h3⟩
theorem date_len (y m d : Int) (hy : Sm y) (hm : Sm m) (hd : Sm d) : (dateL y m d).length ≤ 50 := by
  have h1 := il y hy
  have h2 := il m hm
  have h3 := il d hd
  unfold dateL
  simp
  omega
theorem scan_3 (y1 m1 d1 y2 m2 d2 : Int) (h1 : Sm y1 ∧ 0 ≤ y1) (h2 : Sm m1 ∧ 0 ≤ m1) (h3 : Sm d1 ∧ 0 ≤ d1) (h4 : Sm y2 ∧ 0 ≤ y2) (h5 : Sm m2 ∧ 0 ≤ m2) (h6 : Sm d2 ∧ 0 ≤ d2) (T : ByteArray) (hT : T.data.toList = W3 ++ 32 :: (dateL y1 m1 d1 ++ 32 :: dateL y2 m2 d2)) :
    rule_scanned.f T = some (3, 0, 0, 0, y1, m1, d1, y2, m2, d2) := by
  have l1 := date_len y1 m1 d1 h1.1 h2.1 h3.1
  have l2 := date_len y2 m2 d2 h4.1 h5.1 h6.1
  obtain ⟨v, hv⟩ := num_any (dateL y1 m1 d1 ++ 32 :: dateL y2 m2 d2) 32 (by simp; omega)
  have c2 := cut_f (dateL y1 m1 d1) (dateL y2 m2 d2) (bs (dateL y1 m1 d1 ++ 32 :: dateL y2 m2 d2)) rfl (date_blank y1 m1 d1) (by omega)
  have n1 : rule_numbers.f (bs (dateL y1 m1 d1)) ⟨#[45]⟩ = some (y1, m1, d1) := num_3 45 y1 m1 d1 h1.1 h2.1 h3.1 (itoa_dash y1 h1.2) (itoa_dash m1 h2.2) (itoa_dash d1 h3.2)
  have n2 : rule_numbers.f (bs (dateL y2 m2 d2)) ⟨#[45]⟩ = some (y2, m2, d2) := num_3 45 y2 m2 d2 h4.1 h5.1 h6.1 (itoa_dash y2 h4.2) (itoa_dash m2 h5.2) (itoa_dash d2 h6.2)
  unfold rule_scanned.f
  rw [cut_f W3 _ T hT (by decide) (by show 5 + _ < _; simp; omega), Option.bind_some]
  show (rule_numbers.f (bs (dateL y1 m1 d1 ++ 32 :: dateL y2 m2 d2)) ⟨#[32]⟩).bind _ = _
  rw [hv, Option.bind_some, if_neg q30, if_neg q31, if_neg q32]
  show (strings_Cut.f (bs (dateL y1 m1 d1 ++ 32 :: dateL y2 m2 d2)) ⟨#[32]⟩).bind _ = _
  rw [c2, Option.bind_some]
  show (rule_numbers.f (bs (dateL y1 m1 d1)) ⟨#[45]⟩).bind _ = _
  rw [n1, Option.bind_some]
  show (rule_numbers.f (bs (dateL y2 m2 d2)) ⟨#[45]⟩).bind _ = _
  rw [n2]
  rfl
/-! A rule's text. -/
theorem size_app (a : ByteArray) (l : List UInt8) : (a ++ bs l).size = a.size + l.length := by rw [ByteArray.size_append, bs_size]
theorem text_0 (k : Nat) (m n w y1 m1 d1 y2 m2 d2 : Int) (hw : Sm w) (hc : rule_Check.f (k + 4) 0 m n w y1 m1 d1 y2 m2 d2 = some none) : ∃ T, rule_Text.f (k + 4) 0 m n w y1 m1 d1 y2 m2 d2 = some (T, none) ∧ T = bs (W0 ++ 32 :: Lib.itoa w) := by
  have h1 := il w hw
  unfold rule_Text.f
  rw [hc, Option.bind_some, if_pos (show (none : Option Int).isNone = true from rfl), if_pos rfl, digits_f 32 [w] (by simpa using hw) (by simp) (by rw [show [w].map Lib.itoa = [Lib.itoa w] from rfl, join1]; omega), Option.bind_some, show [w].map Lib.itoa = [Lib.itoa w] from rfl, join1, if_pos (by rw [bs_size]; omega)]
  exact ⟨_, rfl, bs_of _ _ (by rw [app_list]; rfl)⟩
theorem text_1 (k : Nat) (m n w y1 m1 d1 y2 m2 d2 : Int) (hm : Sm m) (hn : Sm n) (hc : rule_Check.f (k + 4) 1 m n w y1 m1 d1 y2 m2 d2 = some none) : ∃ T, rule_Text.f (k + 4) 1 m n w y1 m1 d1 y2 m2 d2 = some (T, none) ∧ T = bs (W1 ++ 32 :: (Lib.itoa m ++ ([32] ++ Lib.itoa n))) := by
  have h1 := il m hm
  have h2 := il n hn
  have hl : (Lib.itoa m ++ ([32] ++ Lib.itoa n)).length ≤ 100 := by simp; omega
  unfold rule_Text.f
  rw [hc, Option.bind_some, if_pos (show (none : Option Int).isNone = true from rfl), if_neg (by decide), if_pos rfl, digits_f 32 [m, n] (by simpa using ⟨hm, hn⟩) (by simp) (by rw [show [m, n].map Lib.itoa = [Lib.itoa m, Lib.itoa n] from rfl, join2]; omega), Option.bind_some, show [m, n].map Lib.itoa = [Lib.itoa m, Lib.itoa n] from rfl, join2, if_pos (by rw [bs_size]; omega)]
  exact ⟨_, rfl, bs_of _ _ (by rw [app_list]; rfl)⟩
theorem text_2 (k : Nat) (m n w y1 m1 d1 y2 m2 d2 : Int) (hm : Sm m) (hn : Sm n) (hw : Sm w) (hc : rule_Check.f (k + 4) 2 m n w y1 m1 d1 y2 m2 d2 = some none) : ∃ T, rule_Text.f (k + 4) 2 m n w y1 m1 d1 y2 m2 d2 = some (T, none) ∧ T = bs (W2 ++ 32 :: (Lib.itoa m ++ ([32] ++ (Lib.itoa n ++ ([32] ++ Lib.itoa w))))) := by
  have h1 := il m hm
  have h2 := il n hn
  have h3 := il w hw
  have hl : (Lib.itoa m ++ ([32] ++ (Lib.itoa n ++ ([32] ++ Lib.itoa w)))).length ≤ 100 := by simp; omega
  unfold rule_Text.f
  rw [hc, Option.bind_some, if_pos (show (none : Option Int).isNone = true from rfl), if_neg (by decide), if_neg (by decide), if_pos rfl, digits_f 32 [m, n, w] (by simpa using ⟨hm, hn, hw⟩) (by simp) (by rw [show [m, n, w].map Lib.itoa = [Lib.itoa m, Lib.itoa n, Lib.itoa w] from rfl, join3]; omega), Option.bind_some, show [m, n, w].map Lib.itoa = [Lib.itoa m, Lib.itoa n, Lib.itoa w] from rfl, join3, if_pos (by rw [bs_size]; omega)]
  exact ⟨_, rfl, bs_of _ _ (by rw [app_list]; rfl)⟩
theorem date_f (k : Nat) (y m d : Int) (hy : Sm y) (hm : Sm m) (hd : Sm d) : rule_date.f (k + 4) y m d = some (bs (dateL y m d)) := by
  have hl := date_len y m d hy hm hd
  unfold dateL at hl
  unfold rule_date.f
  rw [digits_f 45 [y, m, d] (by simpa using ⟨hy, hm, hd⟩) (by simp) (by rw [show [y, m, d].map Lib.itoa = [Lib.itoa y, Lib.itoa m, Lib.itoa d] from rfl, join3]; omega), Option.bind_some, show [y, m, d].map Lib.itoa = [Lib.itoa y, Lib.itoa m, Lib.itoa d] from rfl, join3]
  rfl
theorem text_3 (k : Nat) (m n w y1 m1 d1 y2 m2 d2 : Int) (h1 : Sm y1) (h2 : Sm m1) (h3 : Sm d1) (h4 : Sm y2) (h5 : Sm m2) (h6 : Sm d2) (hc : rule_Check.f (k + 4) 3 m n w y1 m1 d1 y2 m2 d2 = some none) : ∃ T, rule_Text.f (k + 4) 3 m n w y1 m1 d1 y2 m2 d2 = some (T, none) ∧ T = bs (W3 ++ 32 :: (dateL y1 m1 d1 ++ 32 :: dateL y2 m2 d2)) := by
  have l1 := date_len y1 m1 d1 h1 h2 h3
  have l2 := date_len y2 m2 d2 h4 h5 h6
  unfold rule_Text.f
  rw [hc, Option.bind_some, if_pos (show (none : Option Int).isNone = true from rfl), if_neg (by decide), if_neg (by decide), if_neg (by decide), date_f k y1 m1 d1 h1 h2 h3, Option.bind_some, if_pos (by rw [bs_size]; omega), if_pos (by rw [size_app]; show 6 + _ + 1 ≤ _; omega), date_f k y2 m2 d2 h4 h5 h6, Option.bind_some, if_pos (by rw [ByteArray.size_append, size_app, bs_size]; show 6 + _ + 1 + _ ≤ _; omega)]
  exact ⟨_, rfl, bs_of _ _ (by rw [app_list, app_list, app_list, bs_list, bs_list]; simp [W3])⟩
end Go.Proofs.YtpagbmkdphdjoaaGreatDoor.PClk
