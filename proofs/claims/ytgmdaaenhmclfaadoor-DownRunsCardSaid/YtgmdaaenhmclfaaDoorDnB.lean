/- General mathematics of layer 18: what the functions answer at lists that may be. -/
import Derived.Test.YtgmdaaenhmclfaaDoorPx14
import Derived.Test.YtgmdaaenhmclfaaDoorDnPass
set_option linter.unusedVariables false
namespace Go.Proofs.YtgmdaaenhmclfaaDoor.Dn
open Go.RowKit Go.Proofs.YtgmdaaenhmclfaaDoor.P Go.Proofs.YtgmdaaenhmclfaaDoorW.PrintWords Go.Proofs.YtgmdaaenhmclfaaDoorW.PrintLast
theorem up {α : Type} {f : Nat → Option α} (h : ∀ k, LeO (f k) (f (k + 1))) {k j : Nat} {r : α} (hr : f k = some r) (hkj : k ≤ j) : f j = some r := by
  induction hkj with
  | refl => exact hr
  | step _ ih => exact h _ _ ih
theorem w64 {n : Int} (h0 : -9223372036854775808 ≤ n) (h1 : n ≤ 9223372036854775807) : wrap64 n = n := by unfold wrap64; omega
theorem u64w {n : Int} (h0 : 0 ≤ n) (h1 : n ≤ 9223372036854775807) : IntKind.u64.wrap n = n := by unfold IntKind.wrap; simp [IntKind.bits, IntKind.signed]; omega
/-- A downtime that may be. -/
structure OkD (d : S47) : Prop where
  id : 1 ≤ d.f0
  ob : 0 ≤ d.f1
  fr : 0 ≤ d.f2
  up : d.f3 ≤ 4611686018427387904
  lt : d.f2 < d.f3
  kd : (d.f4 = true ∧ d.f6 = 0 ∧ d.f5 = 0 ∧ d.f7 = -1) ∨ (d.f4 = false ∧ 0 ≤ d.f6 ∧ d.f6 < d.f0 ∧ 1 ≤ d.f5 ∧ d.f5 ≤ 34560000 ∧ (d.f7 = -1 ∨ (0 ≤ d.f7 ∧ d.f7 ≤ 4611686018427387904)))
theorem timely_t {t : Int} (h : 0 ≤ t ∧ t ≤ 4611686018427387904) : down_timely.f t = some true := by
  unfold down_timely.f; rw [if_pos h.1, decide_eq_true h.2]
theorem timely_f {t : Int} (h : ¬ (0 ≤ t ∧ t ≤ 4611686018427387904)) : down_timely.f t = some false := by
  unfold down_timely.f
  by_cases h0 : t ≥ 0
  · rw [if_pos h0, decide_eq_false (fun h1 => h ⟨h0, h1⟩)]
  · rw [if_neg h0]
theorem j0_true (k : Nat) (a b c d : Int) (e : Bool) (f g s : Int) : down_odd.j0 (k + 1) true a b c d e f g s = some true := by rw [down_odd.j0, if_pos rfl]
theorem odd_no {d : S47} (h : OkD d) (k : Nat) : down_odd.f (k + 1) d.f0 d.f1 d.f2 d.f3 d.f4 d.f5 d.f6 d.f7 = some false := by
  obtain ⟨h1, h2, h3, h4, h5, h6⟩ := h
  unfold down_odd.f
  rw [if_neg (by omega), if_neg (by omega), timely_t ⟨h3, by omega⟩, Option.bind_some, if_pos rfl, timely_t ⟨by omega, h4⟩, Option.bind_some, if_pos rfl, decide_eq_false (show ¬ d.f2 ≥ d.f3 by omega), down_odd.j0, if_neg (by decide)]
  rcases h6 with ⟨a, b, c, e⟩ | ⟨a, b, c, e, f, g⟩
  · rw [if_pos a, if_pos b, if_pos c, e]; rfl
  · rw [if_neg (by rw [a]; decide), if_neg (by omega), if_neg (by omega), if_neg (by omega), if_neg (by omega)]
    rcases g with g | g
    · rw [if_pos g]
    · rw [if_neg (by omega), timely_t g]; rfl
theorem odd_yes {d : S47} (h : ¬ OkD d) (k : Nat) : down_odd.f (k + 1) d.f0 d.f1 d.f2 d.f3 d.f4 d.f5 d.f6 d.f7 = some true := by
  unfold down_odd.f
  by_cases h1 : d.f0 < 1
  · rw [if_pos h1, j0_true]
  rw [if_neg h1]
  by_cases h2 : d.f1 < 0
  · rw [if_pos h2, j0_true]
  rw [if_neg h2]
  by_cases h3 : 0 ≤ d.f2 ∧ d.f2 ≤ 4611686018427387904
  rotate_left 1
  · rw [timely_f h3, Option.bind_some, if_neg (by decide), j0_true]
  rw [timely_t h3, Option.bind_some, if_pos rfl]
  by_cases h4 : 0 ≤ d.f3 ∧ d.f3 ≤ 4611686018427387904
  rotate_left 1
  · rw [timely_f h4, Option.bind_some, if_neg (by decide), j0_true]
  rw [timely_t h4, Option.bind_some, if_pos rfl]
  by_cases h5 : d.f2 ≥ d.f3
  · rw [decide_eq_true h5, j0_true]
  rw [decide_eq_false h5, down_odd.j0, if_neg (by decide)]
  by_cases h6 : d.f4 = true
  · rw [if_pos h6]
    by_cases h7 : d.f6 = 0
    · rw [if_pos h7]
      by_cases h8 : d.f5 = 0
      · rw [if_pos h8]
        have h9 : d.f7 ≠ -1 := fun e => h ⟨by omega, by omega, h3.1, h4.2, by omega, .inl ⟨h6, h7, h8, e⟩⟩
        simp [h9]
      · rw [if_neg h8]
    · rw [if_neg h7]
  · rw [if_neg h6]
    by_cases h7 : d.f6 < 0
    · rw [if_pos h7]
    rw [if_neg h7]
    by_cases h8 : d.f6 ≥ d.f0
    · rw [if_pos h8]
    rw [if_neg h8]
    by_cases h9 : d.f5 < 1
    · rw [if_pos h9]
    rw [if_neg h9]
    by_cases h10 : d.f5 > 34560000
    · rw [if_pos h10]
    rw [if_neg h10]
    have h6' : d.f4 = false := by cases hh : d.f4 with | true => exact absurd hh h6 | false => rfl
    by_cases h11 : d.f7 = -1
    · exact absurd ⟨by omega, by omega, h3.1, h4.2, by omega, .inr ⟨h6', by omega, by omega, by omega, by omega, .inl h11⟩⟩ h
    rw [if_neg h11]
    by_cases h12 : 0 ≤ d.f7 ∧ d.f7 ≤ 4611686018427387904
    · exact absurd ⟨by omega, by omega, h3.1, h4.2, by omega, .inr ⟨h6', by omega, by omega, by omega, by omega, .inr h12⟩⟩ h
    · rw [timely_f h12]; rfl
/-! Lists. -/
theorem ids_iff (nx : Int) : ∀ (l : List S47) (last : Int), idsOk last nx l = true ↔ (l.map (·.f0)).Pairwise (· < ·) ∧ ∀ d ∈ l, last < d.f0 ∧ d.f0 < nx := by
  intro l
  induction l with
  | nil => intro last; simp [idsOk]
  | cons d r ih =>
    intro last
    rw [idsOk, Bool.and_eq_true, Bool.and_eq_true, ih, decide_eq_true_eq, decide_eq_true_eq, List.map_cons, List.pairwise_cons]
    constructor
    · rintro ⟨h1, h2, h3, h4⟩
      refine ⟨⟨fun x hx => ?_, h3⟩, fun e he => ?_⟩
      · obtain ⟨e, he, rfl⟩ := List.mem_map.mp hx
        exact (h4 e he).1
      · rcases List.mem_cons.mp he with rfl | he
        · exact ⟨h1, h2⟩
        · exact ⟨by have := (h4 e he).1; omega, (h4 e he).2⟩
    · rintro ⟨⟨h1, h2⟩, h3⟩
      exact ⟨(h3 d (.head _)).1, (h3 d (.head _)).2, h2, fun e he => ⟨h1 _ (List.mem_map_of_mem he), (h3 e (.tail _ he)).2⟩⟩
/-- A list that may be. -/
structure OkL (nx : Int) (l : List S47) : Prop where
  n1 : 1 ≤ nx
  n2 : nx ≤ 2147483648
  len : l.length ≤ 4096
  pw : (l.map (·.f0)).Pairwise (· < ·)
  bd : ∀ d ∈ l, 0 < d.f0 ∧ d.f0 < nx
  ok : ∀ d ∈ l, OkD d
theorem rdT {l : List S47} {i : Nat} (h : i < l.length) : rd_T47 l (i : Int) = l[i] := by simp [rd_T47, h]
theorem odd_loop {l : List S47} (h : ∀ d ∈ l, OkD d) (hl : l.length ≤ 4096) (k : Nat) : ∀ r i : Nat, i + r = l.length → dI41.l0 (k + r + 2) l (l.length : Int) (i : Int) = some (-1) := by
  intro r
  induction r with
  | zero =>
    intro i hi
    rw [dI41.l0, if_neg (by omega)]
  | succ r ih =>
    intro i hi
    have hlt : i < l.length := by omega
    rw [show k + (r + 1) + 2 = (k + r + 2) + 1 by omega, dI41.l0, if_pos (by omega), if_pos (by omega), if_pos (by omega), rdT hlt]
    rw [show down_odd.f (k + r + 2) l[i].f0 l[i].f1 l[i].f2 l[i].f3 l[i].f4 l[i].f5 l[i].f6 l[i].f7 = some false from odd_no (h _ (List.getElem_mem hlt)) (k + r + 1)]
    rw [Option.bind_some, if_neg (by decide), show wrap64 ((i : Int) + 1) = ((i + 1 : Nat) : Int) by rw [w64 (by omega) (by omega)]; omega]
    exact ih (i + 1) (by omega)
theorem begun_ok {nx : Int} {l : List S47} (h : OkL nx l) {k : Nat} (hk : l.length + 2 ≤ k) : dBg.f k nx l = some (nx, l, none) := by
  have h1 := h.n1
  unfold dBg.f
  rw [if_neg (by omega), if_pos ⟨h1, h.n2, h.len, (ids_iff nx l 0).mpr ⟨h.pw, fun d hd => ⟨(h.bd d hd).1, (h.bd d hd).2⟩⟩⟩]
  have e := odd_loop h.ok h.len (k - l.length - 2) l.length 0 (by omega)
  rw [show k - l.length - 2 + l.length + 2 = k by omega] at e
  unfold dC32.f dI41.f
  rw [show ((0 : Int)) = ((0 : Nat) : Int) from rfl, e]
  rfl
/-- A list as it is reckoned with: the empty one begins at 1. -/
def Beg (nx nx' : Int) (l : List S47) : Prop := (nx = 0 ∧ l = [] ∧ nx' = 1) ∨ (nx' = nx ∧ OkL nx l)
theorem okL_nil {nx : Int} (h1 : 1 ≤ nx) (h2 : nx ≤ 2147483648) : OkL nx [] := ⟨h1, h2, Nat.zero_le _, by simp, fun d hd => (by cases hd), fun d hd => (by cases hd)⟩
theorem Beg.ok {nx nx' : Int} {l : List S47} (h : Beg nx nx' l) : OkL nx' l := by
  rcases h with ⟨_, rfl, rfl⟩ | ⟨rfl, h⟩
  · exact okL_nil (by decide) (by decide)
  · exact h
theorem Beg.of {nx : Int} {l : List S47} (h : OkL nx l) : Beg nx nx l := .inr ⟨rfl, h⟩
theorem Beg.zero : Beg 0 1 [] := .inl ⟨rfl, rfl, rfl⟩
theorem begun_beg {nx nx' : Int} {l : List S47} (h : Beg nx nx' l) {k : Nat} (hk : l.length + 3 ≤ k) : dBg.f k nx l = some (nx', l, none) := by
  rcases h with ⟨rfl, rfl, rfl⟩ | ⟨rfl, h⟩
  · have e : dBg.f 3 0 [] = some (1, [], none) := by kernel_rfl
    exact up (fun k => dBg.mono _ _ k) e (by simpa using hk)
  · exact begun_ok h (by omega)
/-! The place of an ID. -/
theorem half {a b : Nat} (ha : a ≤ 4096) (hb : b ≤ 4096) : wrap64 ((IntKind.u64.wrap (wrap64 ((a : Int) + (b : Int)))) / 2) = (((a + b) / 2 : Nat) : Int) := by
  rw [w64 (n := (a : Int) + b) (by omega) (by omega), u64w (by omega) (by omega), w64 (by omega) (by omega)]
  omega
theorem pw_lt {l : List S47} (h : (l.map (·.f0)).Pairwise (· < ·)) {i j : Nat} (hi : i < j) (hj : j < l.length) : (l[i]'(by omega)).f0 < l[j].f0 := by
  have := List.pairwise_iff_getElem.mp h i j (by simp; omega) (by simpa using hj) hi
  simpa using this
theorem find_loop {nx : Int} {l : List S47} (h : OkL nx l) {x : Int} (hx : 0 ≤ x) (hx1 : x ≤ 2147483648) (k : Nat) : ∀ r a b : Nat, a ≤ b → b ≤ l.length → b - a ≤ r →
    (∀ j (hj : j < l.length), j < a → l[j].f0 < x) → (∀ j (hj : j < l.length), b ≤ j → x ≤ l[j].f0) →
    ∃ (p : Nat) (is : Bool), dF34.l0 (k + r + 1) l x (l.length : Int) (a : Int) (b : Int) = some ((p : Int), is) ∧ p ≤ l.length ∧ (is = true ↔ ∃ hp : p < l.length, l[p].f0 = x) ∧ (∀ j (hj : j < l.length), j < p → l[j].f0 < x) ∧ (∀ j (hj : j < l.length), p ≤ j → x ≤ l[j].f0) := by
  have hlen := h.len
  have idb : ∀ (i : Nat) (hi : i < l.length), 0 < l[i].f0 ∧ l[i].f0 ≤ 2147483648 := fun i hi => by
    have h1 := h.bd _ (List.getElem_mem hi)
    have h2 := h.n2
    omega
  have fin : ∀ (m p : Nat), p ≤ l.length → (∀ j (hj : j < l.length), j < p → l[j].f0 < x) → (∀ j (hj : j < l.length), p ≤ j → x ≤ l[j].f0) → ∃ (p' : Nat) (is : Bool), dF34.l0 (m + 1) l x (l.length : Int) (p : Int) (p : Int) = some ((p' : Int), is) ∧ p' ≤ l.length ∧ (is = true ↔ ∃ hp : p' < l.length, l[p'].f0 = x) ∧ (∀ j (hj : j < l.length), j < p' → l[j].f0 < x) ∧ (∀ j (hj : j < l.length), p' ≤ j → x ≤ l[j].f0) := by
    intro m p hp hlo hhi
    by_cases hpl : p < l.length
    · have hb := idb p hpl
      refine ⟨p, decide (l[p].f0 = x), ?_, hp, ?_, hlo, hhi⟩
      · rw [dF34.l0, if_neg (by omega), if_pos (by omega), if_pos (by omega), if_pos (by omega), rdT hpl]
        show some ((p : Int), (wrap64 (l[p].f0 - x) == 0)) = _
        rw [w64 (by omega) (by omega)]
        congr 2
        by_cases e : l[p].f0 = x
        · rw [e]; simp
        · have : ¬ (l[p].f0 - x = 0) := by omega
          simp [e, this]
      · rw [decide_eq_true_eq]
        exact ⟨fun e => ⟨hpl, e⟩, fun ⟨_, e⟩ => e⟩
    · refine ⟨p, false, ?_, hp, ?_, hlo, hhi⟩
      · rw [dF34.l0, if_neg (by omega), if_neg (by omega)]
      · exact ⟨fun e => absurd e (by decide), fun ⟨e, _⟩ => absurd e hpl⟩
  intro r
  induction r with
  | zero =>
    intro a b hab hb hr hlo hhi
    obtain rfl : a = b := by omega
    exact fin (k + 0) a hb hlo hhi
  | succ r ih =>
    intro a b hab hb hr hlo hhi
    by_cases hlt : a < b
    · have hm : (a + b) / 2 < l.length := by omega
      have hbm := idb _ hm
      rw [show k + (r + 1) + 1 = (k + r + 1) + 1 by omega, dF34.l0, if_pos (by omega), half (by omega) (by omega), if_pos (by omega), if_pos (by omega), rdT hm]
      show ∃ (p : Nat) (is : Bool), (if wrap64 (l[(a + b) / 2].f0 - x) < 0 then _ else _) = _ ∧ _
      rw [w64 (by omega) (by omega)]
      by_cases hc : l[(a + b) / 2].f0 - x < 0
      · rw [if_pos hc, show wrap64 ((((a + b) / 2 : Nat) : Int) + 1) = (((a + b) / 2 + 1 : Nat) : Int) by rw [w64 (by omega) (by omega)]; omega]
        refine ih _ _ (by omega) hb (by omega) (fun j hj hj2 => ?_) hhi
        by_cases hjm : j < (a + b) / 2
        · have := pw_lt h.pw hjm hm
          omega
        · obtain rfl : j = (a + b) / 2 := by omega
          omega
      · rw [if_neg hc]
        refine ih _ _ (by omega) (by omega) (by omega) hlo (fun j hj hj2 => ?_)
        by_cases hjm : (a + b) / 2 < j
        · have := pw_lt h.pw hjm hj
          omega
        · obtain rfl : j = (a + b) / 2 := by omega
          omega
    · obtain rfl : a = b := by omega
      exact fin (k + (r + 1)) a hb hlo hhi
theorem find_full {nx : Int} {l : List S47} (h : OkL nx l) {x : Int} (hx : 0 ≤ x) (hx1 : x ≤ 2147483648) {k : Nat} (hk : l.length + 1 ≤ k) :
    ∃ (p : Nat) (is : Bool), dLF.f k nx l x = some ((p : Int), is) ∧ p ≤ l.length ∧ (is = true ↔ ∃ hp : p < l.length, l[p].f0 = x) ∧ (∀ j (hj : j < l.length), j < p → l[j].f0 < x) ∧ (∀ j (hj : j < l.length), p ≤ j → x ≤ l[j].f0) := by
  obtain ⟨p, is, h1, h2, h3, h4, h5⟩ := find_loop h hx hx1 (k - l.length - 1) l.length 0 l.length (Nat.zero_le _) (Nat.le_refl _) (by omega) (fun j hj h => absurd h (Nat.not_lt_zero _)) (fun j hj h => by omega)
  rw [show k - l.length - 1 + l.length + 1 = k by omega] at h1
  refine ⟨p, is, ?_, h2, h3, h4, h5⟩
  unfold dLF.f dF34.f
  rw [show (0 : Int) = ((0 : Nat) : Int) from rfl, h1]
  rfl
theorem find_ok {nx : Int} {l : List S47} (h : OkL nx l) {x : Int} (hx : 0 ≤ x) (hx1 : x ≤ 2147483648) {k : Nat} (hk : l.length + 1 ≤ k) :
    ∃ (p : Nat) (is : Bool), dLF.f k nx l x = some ((p : Int), is) ∧ p ≤ l.length ∧ (is = true ↔ ∃ hp : p < l.length, l[p].f0 = x) ∧ (∀ j (hj : j < l.length), j < p → l[j].f0 < x) := by
  obtain ⟨p, is, h1, h2, h3, h4, _⟩ := find_full h hx hx1 hk
  exact ⟨p, is, h1, h2, h3, h4⟩
/-! Depth. -/
def inD (o t : Int) (d : S47) : Bool := (spanZ d).2.2 && (decide (d.f1 = o) && (decide ((spanZ d).1 ≤ t) && decide (t < (spanZ d).2.1)))
def count (o t : Int) (l : List S47) : Nat := (l.filter (inD o t)).length
theorem count_cons (o t : Int) (d : S47) (l : List S47) : count o t (d :: l) = (if inD o t d = true then 1 else 0) + count o t l := by
  unfold count
  rw [List.filter_cons]
  split <;> simp <;> omega
theorem depth_loop {l : List S47} (hl : l.length ≤ 4096) (k : Nat) (o t : Int) : ∀ (r i c : Nat), i + r = l.length → c ≤ i → dDp.l0 (k + r + 1) o t (c : Int) l (l.length : Int) (i : Int) = some (((c + count o t (l.drop i) : Nat)) : Int) := by
  intro r
  induction r with
  | zero =>
    intro i c h hc
    rw [dDp.l0, if_neg (by omega), List.drop_of_length_le (by omega)]
    rfl
  | succ r ih =>
    intro i c h hc
    have hlt : i < l.length := by omega
    have e1 : wrap64 ((i : Int) + 1) = ((i + 1 : Nat) : Int) := by rw [w64 (by omega) (by omega)]; omega
    have e2 : wrap64 ((c : Int) + 1) = ((c + 1 : Nat) : Int) := by rw [w64 (by omega) (by omega)]; omega
    have i1 := ih (i + 1) c (by omega) (by omega)
    have i2 := ih (i + 1) (c + 1) (by omega) (by omega)
    rw [show k + (r + 1) + 1 = (k + r + 1) + 1 by omega, dDp.l0, if_pos (by omega), if_pos (by omega), if_pos (by omega), rdT hlt, span_eq, Option.bind_some, e1, e2, i1, i2, List.drop_eq_getElem_cons hlt, count_cons]
    unfold inD
    by_cases h1 : (spanZ l[i]).2.2 = true
    · by_cases h2 : l[i].f1 = o
      · by_cases h3 : (spanZ l[i]).1 ≤ t
        · by_cases h4 : t < (spanZ l[i]).2.1
          · simp only [h1, h2, h3, h4, if_true, decide_true, Bool.and_self]
            congr 1
            omega
          · simp [h1, h2, h3, h4]
        · simp [h1, h2, h3]
      · simp [h1, h2]
    · simp [h1]
theorem depth_beg {nx nx' : Int} {l : List S47} (h : Beg nx nx' l) {k : Nat} (hk : l.length + 3 ≤ k) (o t : Int) : dDp.f k nx l o t = some (count o t l : Int) := by
  unfold dDp.f
  rw [begun_beg h hk]
  have e := depth_loop h.ok.len (k - l.length - 1) o t l.length 0 0 (by omega) (Nat.le_refl _)
  rw [show k - l.length - 1 + l.length + 1 = k by omega, Nat.zero_add, List.drop_zero] at e
  exact e
/-! Add. -/
theorem okL_add {nx : Int} {l : List S47} (h : OkL nx l) (hn : nx < 2147483648) (hl : l.length < 4096) {d : S47} (hd : OkD d) (he : d.f0 = nx) : OkL (nx + 1) (l ++ [d]) := by
  refine ⟨by have := h.n1; omega, by omega, by simp; omega, ?_, fun e hm => ?_, fun e hm => ?_⟩
  · rw [List.map_append, List.pairwise_append]
    refine ⟨h.pw, by simp, fun a ha b hb => ?_⟩
    obtain ⟨e, hm, rfl⟩ := List.mem_map.mp ha
    obtain rfl : b = d.f0 := by simpa using hb
    have := (h.bd e hm).2
    omega
  · rcases List.mem_append.mp hm with hm | hm
    · have := h.bd e hm; omega
    · obtain rfl : e = d := by simpa using hm
      have := h.n1
      omega
  · rcases List.mem_append.mp hm with hm | hm
    · exact h.ok e hm
    · obtain rfl : e = d := by simpa using hm
      exact hd
theorem add_plain {nx nx' : Int} {l : List S47} (h : Beg nx nx' l) (hn : nx' < 2147483648) (hl : l.length < 4096) (d : S47) (hd : OkD ⟨nx', d.f1, d.f2, d.f3, d.f4, d.f5, d.f6, -1⟩) (h6 : d.f6 = 0) {k : Nat} (hk : l.length + 4 ≤ k) :
    down_Add.f k nx l d.f0 d.f1 d.f2 d.f3 d.f4 d.f5 d.f6 d.f7 = some (nx' + 1, l ++ [⟨nx', d.f1, d.f2, d.f3, d.f4, d.f5, d.f6, -1⟩], nx', none) := by
  have ho := h.ok
  obtain ⟨m, rfl⟩ : ∃ m, k = m + 1 := ⟨k - 1, by omega⟩
  unfold down_Add.f
  rw [begun_beg h (by omega), Option.bind_some, if_pos (show (none : Option Int).isNone = true from rfl)]
  have e1 := odd_no hd m
  simp only at e1
  rw [e1, Option.bind_some, if_neg (by decide)]
  obtain ⟨p, is, h1, _, _, _⟩ := find_ok ho (x := d.f6) (by omega) (by omega) (k := m + 1) (by omega)
  have := ho.n1
  simp only [h1, Option.bind_some]
  rw [if_neg (by omega), down_Add.j0, if_neg (by decide), if_neg (by omega), if_neg (by omega), if_pos (by omega), w64 (by omega) (by omega)]
/-! Starts. -/
/-- What a start may do to a downtime. -/
def St (t : Int) (d d' : S47) : Prop := d' = d ∨ (d.f4 = false ∧ d.f7 = -1 ∧ d' = startAt t d)
theorem st_ok {t : Int} (ht : 0 ≤ t ∧ t ≤ 4611686018427387904) {d d' : S47} (h : OkD d) (hs : St t d d') : OkD d' := by
  rcases hs with rfl | ⟨h4, h7, rfl⟩
  · exact h
  · refine ⟨h.id, h.ob, h.fr, h.up, h.lt, ?_⟩
    rcases h.kd with ⟨a, _⟩ | ⟨a, b, c, e, f, g⟩
    · rw [h4] at a; cases a
    · exact .inr ⟨a, b, c, e, f, .inr ht⟩
theorem st_id {t : Int} {d d' : S47} (hs : St t d d') : d'.f0 = d.f0 := by
  rcases hs with rfl | ⟨_, _, rfl⟩ <;> rfl
/-- Downtime by downtime. -/
def Sts (t : Int) : List S47 → List S47 → Prop
  | [], [] => True
  | d :: r, d' :: r' => St t d d' ∧ Sts t r r'
  | _, _ => False
theorem sts_refl (t : Int) : ∀ l : List S47, Sts t l l
  | [] => trivial
  | d :: r => ⟨.inl rfl, sts_refl t r⟩
theorem sts_len {t : Int} : ∀ {l l' : List S47}, Sts t l l' → l'.length = l.length
  | [], [], _ => rfl
  | d :: r, d' :: r', h => by simp [sts_len h.2]
theorem sts_ids {t : Int} : ∀ {l l' : List S47}, Sts t l l' → l'.map (·.f0) = l.map (·.f0)
  | [], [], _ => rfl
  | d :: r, d' :: r', h => by simp [sts_ids h.2, st_id h.1]
theorem sts_mem {t : Int} : ∀ {l l' : List S47}, Sts t l l' → ∀ d' ∈ l', ∃ d ∈ l, St t d d'
  | [], [], _, d', hd => by cases hd
  | d :: r, e :: r', h, d', hd => by
    rcases List.mem_cons.mp hd with rfl | hd
    · exact ⟨d, .head _, h.1⟩
    · obtain ⟨x, hx, hs⟩ := sts_mem h.2 d' hd
      exact ⟨x, .tail _ hx, hs⟩
theorem sts_trans {t : Int} (ht : 0 ≤ t) : ∀ {a b c : List S47}, Sts t a b → Sts t b c → Sts t a c
  | [], [], [], _, _ => trivial
  | x :: a, y :: b, z :: c, h1, h2 => by
    refine ⟨?_, sts_trans ht h1.2 h2.2⟩
    rcases h1.1 with e | ⟨h4, h7, e⟩
    · rw [← e]; exact h2.1
    · rcases h2.1 with e2 | ⟨g4, g7, _⟩
      · rw [e2]; exact .inr ⟨h4, h7, e⟩
      · rw [e] at g7
        have g7' : t = -1 := g7
        omega
theorem okL_sts {nx t : Int} (ht : 0 ≤ t ∧ t ≤ 4611686018427387904) {l l' : List S47} (h : OkL nx l) (hs : Sts t l l') : OkL nx l' := by
  refine ⟨h.n1, h.n2, by rw [sts_len hs]; exact h.len, by rw [sts_ids hs]; exact h.pw, fun d' hd => ?_, fun d' hd => ?_⟩
  · obtain ⟨d, hm, hd⟩ := sts_mem hs d' hd
    rw [st_id hd]; exact h.bd d hm
  · obtain ⟨d, hm, hd⟩ := sts_mem hs d' hd
    exact st_ok ht (h.ok d hm) hd
theorem okL_sub {nx : Int} {l l' : List S47} (h : OkL nx l) (hs : l'.Sublist l) : OkL nx l' :=
  ⟨h.n1, h.n2, Nat.le_trans hs.length_le h.len, h.pw.sublist (hs.map _), fun d hd => h.bd d (hs.subset hd), fun d hd => h.ok d (hs.subset hd)⟩
theorem chain_sts (t : Int) : ∀ (l : List S47) (f : Int → Int), (∀ d ∈ l, OkD d) → Sts t l (chainZ t l f)
  | [], _, _ => trivial
  | d :: r, f, h => by
    have hr := fun g => chain_sts t r g (fun x hx => h x (.tail _ hx))
    unfold chainZ
    by_cases h6 : d.f6 = 0
    · rw [if_pos h6]; exact ⟨.inl rfl, hr _⟩
    rw [if_neg h6]
    by_cases h7 : d.f7 = -1
    rotate_left 1
    · rw [if_neg h7]; exact ⟨.inl rfl, hr _⟩
    rw [if_pos h7]
    by_cases hf : f d.f6 = 0
    · rw [if_pos hf]; exact ⟨.inl rfl, hr _⟩
    rw [if_neg hf]
    refine ⟨.inr ⟨?_, h7, rfl⟩, hr _⟩
    rcases (h d (.head _)).kd with ⟨_, e, _⟩ | ⟨a, _⟩
    · exact absurd e h6
    · exact a
theorem prob_sts (o t : Int) : ∀ l : List S47, Sts t l (probL o t l)
  | [] => trivial
  | d :: r => by
    unfold probL
    by_cases hh : hit o t d
    · rw [if_pos hh]; exact ⟨.inr ⟨hh.1, hh.2.2.2.1, rfl⟩, prob_sts o t r⟩
    · rw [if_neg hh]; exact ⟨.inl rfl, prob_sts o t r⟩
theorem probZ_sts (o : Int) {t : Int} (ht : 0 ≤ t ∧ t ≤ 4611686018427387904) {l : List S47} (h : ∀ d ∈ l, OkD d) : Sts t l (probZ o t l) :=
  sts_trans ht.1 (prob_sts o t l) (chain_sts t _ _ (fun d' hd => by
    obtain ⟨d, hm, hs⟩ := sts_mem (prob_sts o t l) d' hd
    exact st_ok ht (h d hm) hs))
theorem wf_small {n : Int} (h0 : 0 ≤ n) (h1 : n ≤ 2147483648) : (Lit.int .i64 n).wf = true := by
  simp only [Lit.wf, IntKind.min, IntKind.max, IntKind.signed, IntKind.bits, Bool.and_eq_true, decide_eq_true_eq, if_true]
  omega
theorem wfAll_ok {nx : Int} {l : List S47} (h : OkL nx l) : wfAll l = true := by
  unfold wfAll
  rw [List.all_eq_true]
  intro d hd
  have h1 := h.bd d hd
  have h2 := h.n2
  rw [Bool.and_eq_true]
  refine ⟨wf_small (by omega) (by omega), ?_⟩
  rcases (h.ok d hd).kd with ⟨_, e, _⟩ | ⟨_, e, f, _⟩
  · rw [e]; exact wf_small (by decide) (by decide)
  · exact wf_small e (by omega)
theorem problem_beg {nx nx' : Int} {l : List S47} (h : Beg nx nx' l) (o : Int) {t : Int} (ht : 0 ≤ t ∧ t ≤ 4611686018427387904) {k : Nat} (hk : l.length + 3 ≤ k) : dPb.f k nx l o t = some (nx', probZ o t l) := by
  unfold dPb.f
  rw [begun_beg h hk, Option.bind_some]
  unfold probIf
  rw [if_pos ⟨rfl, ht.1, ht.2, h.ok.len, wfAll_ok h.ok⟩]
theorem pass_beg {nx nx' : Int} {l : List S47} (h : Beg nx nx' l) {t : Int} (ht : 0 ≤ t ∧ t ≤ 4611686018427387904) {k : Nat} (hk : l.length + 3 ≤ k) : down_Pass.f k nx l t = some (nx', passZ t l) := by
  unfold down_Pass.f
  rw [begun_beg h hk, Option.bind_some]
  unfold passIf
  rw [if_pos ⟨rfl, ht.1, ht.2, h.ok.len, wfAll_ok h.ok⟩]
/-! Passing. -/
theorem passL_sub (t : Int) : ∀ (l : List S47) (f : Int → Int), (passL t l f).Sublist l
  | [], _ => List.Sublist.slnil
  | d :: r, f => by
    unfold passL
    split
    · exact (passL_sub t r f).cons _
    · exact (passL_sub t r _).cons_cons _
theorem sure_ok {k : Nat} (hk : 10 ≤ k) : w18_sure.f k = some true := by
  have h : w18_sure.f 10 = some true := by decide +kernel
  exact up w18_sure.mono h hk
end Go.Proofs.YtgmdaaenhmclfaaDoor.Dn
