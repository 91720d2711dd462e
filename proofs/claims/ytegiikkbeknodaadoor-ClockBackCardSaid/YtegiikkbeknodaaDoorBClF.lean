/- Plain mathematics of ClockBack. -/
import Derived.Test.YtegiikkbeknodaaDoorBClA
import Derived.Test.YtegiikkbeknodaaDoorBx8
set_option linter.unusedVariables false
set_option linter.unusedSimpArgs false
namespace Go.Proofs.YtegiikkbeknodaaDoor.BClk
open Go.RowKit Go.Proofs.YtegiikkbeknodaaDoor.B Go.Proofs.YtegiikkbeknodaaDoorW.PrintWords Go.Proofs.YtegiikkbeknodaaDoorW.PrintLast Go.Proofs.YtegiikkbeknodaaDoorW.PrintMore
theorem u86401 (a : Int) : ∃ n : Nat, n ≤ 86400 ∧ wrap64 (Int.tmod (IntKind.u64.wrap a) 86401) = (n : Int) := by
  have h0 : 0 ≤ IntKind.u64.wrap a := by unfold IntKind.wrap; simp [IntKind.bits, IntKind.signed]; omega
  rw [Int.tmod_eq_emod_of_nonneg h0]
  refine ⟨(IntKind.u64.wrap a % 86401).toNat, by omega, ?_⟩
  rw [w64 (by omega) (by omega)]
  omega
theorem zero_tail (c : Nat) (h : c < 60) : ([58, UInt8.ofNat (48 + c / 10), UInt8.ofNat (48 + c % 10)] == ([58, 48, 48] : List UInt8)) = decide (c = 0) := by
  have hc : ∀ i : Fin 60, ([58, UInt8.ofNat (48 + i.val / 10), UInt8.ofNat (48 + i.val % 10)] == ([58, 48, 48] : List UInt8)) = decide (i.val = 0) := by decide +kernel
  exact hc ⟨c, h⟩
theorem suffix_eq (a b c : Nat) (h : c < 60) : stringslite_HasSuffix.f (hms a b c) ⟨#[58, 48, 48]⟩ = some (decide (c = 0)) := by
  have z8 : (hms a b c).size = 8 := rfl
  have z3 : (⟨#[58, 48, 48]⟩ : ByteArray).size = 3 := rfl
  have w5 : wrap64 (((8 : Nat) : Int) - ((3 : Nat) : Int)) = 5 := by unfold wrap64; decide
  unfold stringslite_HasSuffix.f
  rw [z8, z3, w5, if_pos (by decide), if_pos (by decide), if_pos (by decide), show (5 : Int).toNat = 5 from rfl, ByteArray.toList_eq, ByteArray.toList_eq]
  show some ([58, UInt8.ofNat (48 + c / 10), UInt8.ofNat (48 + c % 10)] == ([58, 48, 48] : List UInt8)) = _
  rw [zero_tail c h]
theorem cut_eq (a b c : Nat) (h : c < 60) : strings_CutSuffix.f (hms a b c) ⟨#[58, 48, 48]⟩ = some (if c = 0 then (hm a b, true) else (hms a b c, false)) := by
  have z8 : (hms a b c).size = 8 := rfl
  have z3 : (⟨#[58, 48, 48]⟩ : ByteArray).size = 3 := rfl
  have w5 : wrap64 (((8 : Nat) : Int) - ((3 : Nat) : Int)) = 5 := by unfold wrap64; decide
  unfold strings_CutSuffix.f stringslite_CutSuffix.f
  rw [suffix_eq a b c h, Option.bind_some, z8, z3, w5]
  by_cases hc : c = 0
  · rw [if_pos (by simpa using hc), if_pos (by decide), if_pos (by decide), Option.bind_some, if_pos hc, show (5 : Int).toNat = 5 from rfl]
    rfl
  · rw [if_neg (by simpa using hc), Option.bind_some, if_neg hc]
/-- What Hours tells of a second. -/
def ht (s : Nat) : ByteArray := if s % 60 = 0 then hm (s / 3600) (s / 60 % 60) else hms (s / 3600) (s / 60 % 60) (s % 60)
theorem hours_eq (s : Nat) (h : s ≤ 86400) : clock_Hours.f 1 (s : Int) = some (ht s, none) := by
  have e : clock_text.f (s : Int) = some (hms (s / 3600) (s / 60 % 60) (s % 60)) := by
    unfold clock_text.f
    rw [if_pos (by omega), if_pos (by omega), Int.toNat_natCast]
  unfold clock_Hours.f
  rw [if_neg (by omega), show decide ((s : Int) > 86400) = false from decide_eq_false (by omega), clock_Hours.j0, if_neg (by decide), e, Option.bind_some, cut_eq _ _ _ (by omega), Option.bind_some, Option.bind_some]
  unfold ht
  by_cases hc : s % 60 = 0
  · rw [if_pos hc, if_pos hc, if_pos rfl]
  · rw [if_neg hc, if_neg hc, if_neg (show ¬ (false = true) by decide)]
theorem pv_hms (a b c : Nat) (ha : a < 100) (hb : b < 100) (hc : c < 100) : pv (hms a b c) = 3600 * a + 60 * b + c := by
  have e0 : dv (hms a b c) 0 = a / 10 := dig_val (a / 10) (by omega)
  have e1 : dv (hms a b c) 1 = a % 10 := dig_val (a % 10) (by omega)
  have e3 : dv (hms a b c) 3 = b / 10 := dig_val (b / 10) (by omega)
  have e4 : dv (hms a b c) 4 = b % 10 := dig_val (b % 10) (by omega)
  have e6 : dv (hms a b c) 6 = c / 10 := dig_val (c / 10) (by omega)
  have e7 : dv (hms a b c) 7 = c % 10 := dig_val (c % 10) (by omega)
  have z8 : (hms a b c).size = 8 := rfl
  unfold pv
  rw [e0, e1, e3, e4, e6, e7, z8, if_pos rfl]
  omega
theorem pv_hm (a b : Nat) (ha : a < 100) (hb : b < 100) : pv (hm a b) = 3600 * a + 60 * b := by
  have e0 : dv (hm a b) 0 = a / 10 := dig_val (a / 10) (by omega)
  have e1 : dv (hm a b) 1 = a % 10 := dig_val (a % 10) (by omega)
  have e3 : dv (hm a b) 3 = b / 10 := dig_val (b / 10) (by omega)
  have e4 : dv (hm a b) 4 = b % 10 := dig_val (b % 10) (by omega)
  have z5 : (hm a b).size = 5 := rfl
  unfold pv
  rw [e0, e1, e3, e4, z5, if_neg (by decide)]
  omega
theorem parse_eq (s : Nat) (h : s ≤ 86400) : clock_Parse.f (ht s) = some ((s : Int), none) := by
  by_cases hc : s % 60 = 0
  · have e : ht s = hm (s / 3600) (s / 60 % 60) := by unfold ht; rw [if_pos hc]
    have p : pv (ht s) = s := by rw [e, pv_hm _ _ (by omega) (by omega)]; omega
    unfold clock_Parse.f
    rw [p, if_pos ⟨h, .inr ⟨hc, e⟩⟩]
  · have e : ht s = hms (s / 3600) (s / 60 % 60) (s % 60) := by unfold ht; rw [if_neg hc]
    have p : pv (ht s) = s := by rw [e, pv_hms _ _ _ (by omega) (by omega) (by omega)]; omega
    unfold clock_Parse.f
    rw [p, if_pos ⟨h, .inl e⟩]
theorem of_in (n : Int) (h0 : -70368744177664 ≤ n) (h1 : n ≤ 70368744177664) : ∃ y m d, civil_Of.f n = some (y, m, d, none) := by
  unfold civil_Of.f
  rw [if_neg (by omega), if_neg (by omega)]
  split
  · exact ⟨_, _, _, rfl⟩
  · exact ⟨_, _, _, rfl⟩
theorem join_back (t o : Int) (h0 : 0 ≤ t) (h1 : t ≤ 4611686018427387904) (h2 : -50400 ≤ o) (h3 : o ≤ 50400) : clock_Join.f 1 ((t + o) / 86400) ((t + o) % 86400) o = some (t, none) := by
  obtain ⟨y, m, d, e⟩ := of_in ((t + o) / 86400) (by omega) (by omega)
  have w1 : wrap64 ((t + o) / 86400 * 86400) = (t + o) / 86400 * 86400 := w64 (by omega) (by omega)
  have w2 : wrap64 ((t + o) / 86400 * 86400 + (t + o) % 86400) = t + o := by rw [w64 (by omega) (by omega)]; omega
  have w3 : wrap64 (t + o - o) = t := by rw [w64 (by omega) (by omega)]; omega
  unfold clock_Join.f
  simp only [e, Option.bind_some, Option.isNone_none, if_true]
  rw [if_neg (by omega), if_neg (by omega), away_in o h2 h3, Option.bind_some, clock_Join.j0, if_neg (by decide), w1, w2, w3, if_neg (by omega), if_neg (by omega)]
theorem add_up (a k : Nat) (ha : a < 2305843009213693952) (hk : k < 2305843009213693952) : clock_Add.f (a : Int) (k : Int) = some ((a : Int) + (k : Int)) := by
  rcases clamp_cases (a : Int) with ⟨h, hx⟩ | ⟨h, h', hx⟩ | ⟨h, hx⟩
  · omega
  · rw [own_add (a : Int) (k : Int) (a : Int) hx h h' (by omega) (by omega), if_neg (by omega), if_neg (by omega)]
  · omega
theorem add_down (a k : Nat) (ha : a < 2305843009213693952) (hk : k < 2305843009213693952) : clock_Add.f ((a : Int) + (k : Int)) (-(k : Int)) = some (a : Int) := by
  rcases clamp_cases ((a : Int) + (k : Int)) with ⟨h, hx⟩ | ⟨h, h', hx⟩ | ⟨h, hx⟩
  · omega
  · rw [own_add _ (-(k : Int)) ((a : Int) + (k : Int)) hx h h' (by omega) (by omega), if_neg (by omega), if_neg (by omega)]
    congr 1
    omega
  · omega
theorem rest_ev (t by_ : Int) (n a k : Nat) (hn : n ≤ 86400) (ha : a < 2305843009213693952) (hk : k < 2305843009213693952) (en : wrap64 (Int.tmod (IntKind.u64.wrap by_) 86401) = (n : Int)) (ea : wrap64 (Int.tmod (IntKind.u64.wrap t) 2305843009213693952) = (a : Int)) (ek : wrap64 (Int.tmod (IntKind.u64.wrap by_) 2305843009213693952) = (k : Int)) :
    wrap64 (-(k : Int)) = -(k : Int) ∧ clock_Add.f (a : Int) 0 = some (a : Int) := by
  refine ⟨w64 (by omega) (by omega), ?_⟩
  have h := add_up a 0 ha (by decide)
  rw [show ((0 : Nat) : Int) = 0 from rfl, Int.add_zero] at h
  exact h
theorem clockBack (t o by_ : Int) : ∃ k, belvederelaw05_ClockBack.f k t o by_ = some true := by
  obtain ⟨n, hn, en⟩ := u86401 by_
  obtain ⟨a, ha, ea⟩ := u61 t
  obtain ⟨k, hk, ek⟩ := u61 by_
  obtain ⟨wk, a0⟩ := rest_ev t by_ n a k hn ha hk en ea ek
  have e1 := add_up a k ha hk
  have e2 := add_down a k ha hk
  have eh : Ev (fun k => clock_Hours.f k (n : Int)) (ht n, none) := Ev.of (clock_Hours.mono _) (hours_eq n hn)
  have ep := parse_eq n hn
  refine (Ev.rounds (g := fun k => belvederelaw05_ClockBack.f k t o by_) ?_)
  unfold belvederelaw05_ClockBack.f
  rw [en, ea, ek, wk]
  by_cases h : 0 ≤ t ∧ t ≤ 4611686018427387904 ∧ -50400 ≤ o ∧ o ≤ 50400
  · obtain ⟨h0, h1, h2, h3⟩ := h
    have g1 : ¬ ((t + o) % 86400 < 0) := by omega
    have g2 : ¬ ((t + o) % 86400 > 86399) := by omega
    simp only [split_in t o h0 h1 h2 h3, Option.bind_some, Option.isNone_none, if_true]
    refine Ev.bind (Ev.of (clock_Join.mono _ _ _) (join_back t o h0 h1 h2 h3)) ?_
    simp only [Option.isNone_none, if_true, if_neg g1, if_neg g2]
    refine Ev.bind eh ?_
    simp only [ep, Option.bind_some, Option.isNone_none, if_true, e1, e2, a0]
    exact Ev.bind sure_ev (Ev.now true)
  · have s1 : ∃ e, clock_Split.f t o = some (0, 0, some e) := by
      refine ⟨1, ?_⟩
      unfold clock_Split.f clock_away.f
      by_cases a : t < 0
      · rw [if_pos a]
      · rw [if_neg a]
        by_cases b : t > 4611686018427387904
        · rw [if_pos b]
        · rw [if_neg b]
          by_cases c : o < -50400
          · rw [if_pos c]; rfl
          · rw [if_neg c, show decide (o > 50400) = true from decide_eq_true (by omega)]; rfl
    obtain ⟨e, s1⟩ := s1
    simp only [s1, Option.bind_some, Option.isNone_some, Bool.false_eq_true, if_false]
    refine Ev.bind eh ?_
    simp only [ep, Option.bind_some, Option.isNone_none, if_true, e1, e2, a0]
    exact Ev.bind sure_ev (Ev.now true)
end Go.Proofs.YtegiikkbeknodaaDoor.BClk
