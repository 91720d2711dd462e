/- The contract of clock.Parse at every text that is shorter than strings.Split's bound. -/
import Derived.Test.YtegiikkbeknodaaDoorPClParseG
import Derived.Test.YtegiikkbeknodaaDoorPClItoa
import Derived.Test.YtegiikkbeknodaaDoorRuShelf
import Derived.Lib.SplitLaws
import Derived.Lib.AtoiAllCases
set_option linter.unusedVariables false
set_option linter.unusedSimpArgs false
namespace Go.Proofs.YtegiikkbeknodaaDoor.P
open Go.RowKit Go.Proofs.YtegiikkbeknodaaDoorW.PrintWords Go.Proofs.YtegiikkbeknodaaDoorW.PrintLast Go.Proofs.YtegiikkbeknodaaDoorW.PrintMore
attribute [local go_sem] max2_int min2_int max_two min_two max_three min_three max_four min_four
def parts (s sep : ByteArray) : List ByteArray := Lib.splitB sep 0 (Lib.countB s sep) s
theorem split_walk (s sep : ByteArray) (hs : s.size < 4294967281) (h1 : 1 ≤ sep.size) (w : World) (hG : GL w) : Calls Tryd.prog 33 #[.string s, .string sep] w fun e w' => e = .returned (.slice (some ⟨w.heap.size, 0, none⟩) (parts s sep).length (parts s sep).length) ∧ w' = w.alloc (.cells ((parts s sep).map Value.string).toArray 9) := by
  obtain ⟨m, hm⟩ := hG.lim
  have hl : (parts s sep).length = Lib.countB s sep + 1 := Lib.splitB_all sep h1 0 _ s rfl
  rw [hl]
  exact Tryd.strings_Split s sep m w hs hm h1
theorem part_size : ∀ (k : Nat) (s sep : ByteArray), ∀ p ∈ Lib.splitB sep 0 k s, p.size ≤ s.size := by
  intro k
  induction k with
  | zero => intro s sep p hp; rw [List.mem_singleton.mp hp]; exact Nat.le_refl _
  | succ k ih =>
    intro s sep p hp
    unfold Lib.splitB at hp
    split at hp
    · rw [List.mem_singleton.mp hp]; exact Nat.le_refl _
    · rcases List.mem_cons.mp hp with rfl | hp
      · simp [ByteArray.size_extract]; omega
      · have h := ih _ sep p hp
        have h2 : (s.extract ((Lib.indexB s sep).toNat + sep.size) s.size).size ≤ s.size := by simp [ByteArray.size_extract]
        omega
set_option maxHeartbeats 4000000 in
/-- What two says of any number. -/
def twoB (n : Int) : ByteArray := if n < 10 then (⟨#[48]⟩ : ByteArray) ++ ⟨(Lib.itoa n).toArray⟩ else ⟨(Lib.itoa n).toArray⟩
theorem itoa_room (n : Int) (h0 : -9223372036854775808 ≤ n) (h1 : n ≤ 9223372036854775807) : (⟨(Lib.itoa n).toArray⟩ : ByteArray).size ≤ 100 := by
  have dl : ∀ (k m : Nat), m < 10 ^ (k + 1) → (Lib.decDigits m).length ≤ k + 1 := by
    intro k
    induction k with
    | zero => intro m hm; rw [Lib.decDigits_one (by omega)]; simp
    | succ k ih =>
      intro m hm
      rw [Lib.decDigits]
      split
      · simp
      · rw [List.length_append]
        have := ih (m / 10) (by rw [Nat.pow_succ] at hm; omega)
        simp only [List.length_cons, List.length_nil]
        omega
  have e : (⟨(Lib.itoa n).toArray⟩ : ByteArray).size = (Lib.itoa n).length := by simp [ByteArray.size]
  rw [e]
  unfold Lib.itoa
  split
  · have := dl 19 n.natAbs (by omega)
    simp only [List.length_cons]
    omega
  · have := dl 19 n.toNat (by omega)
    omega
theorem two_any (n : Int) (h0 : -9223372036854775808 ≤ n) (h1 : n ≤ 9223372036854775807) (w : World) (hG : GL w) : Calls Tryd.prog 26 #[.int .i64 n] w fun e w' => e = .returned (.string (twoB n)) ∧ Below w.heap.size w w' := by
  have hI := strconv_Itoa_25.calls n ⟨(Lib.itoa n).toArray⟩ w (by unfold strconv_Itoa_25.f; rw [if_pos h0, if_pos h1]) hG
  have hr := itoa_room n h0 h1
  unfold twoB
  obtain ⟨s, hs⟩ : ∃ s : ByteArray, (⟨(Lib.itoa n).toArray⟩ : ByteArray) = s := ⟨_, rfl⟩
  rw [hs] at hI hr ⊢
  clear hs h0 h1 hG
  by_cases hn : n < 10
  · have c1 : decide (n < 10) = true := decide_eq_true hn
    have c2 : (1 + s.size ≤ 9223372036854775807) := by omega
    have c3 : (9223372036854775807 < 1 + s.size) = False := eq_false (by omega)
    rw [if_pos hn]
    clear hn hr
    go_enter Tryd.func26, Tryd.ntmps26
    go_wp2_with (go_at_call 25; refine hI.mono ?_; rintro e w' ⟨rfl, hb⟩)
    go_ret
    exact ⟨rfl, by repeat (first | exact hb | apply pw_below_drewN | apply below_drew1 | apply below_alloc)⟩
  · have c1 : decide (n < 10) = false := decide_eq_false hn
    rw [if_neg hn]
    clear hn hr
    go_enter Tryd.func26, Tryd.ntmps26
    go_wp2_with (go_at_call 25; refine hI.mono ?_; rintro e w' ⟨rfl, hb⟩)
    go_ret
    exact ⟨rfl, by repeat (first | exact hb | apply pw_below_drewN | apply below_drew1 | apply below_alloc)⟩
/-- Atoi, where it is a number; where it is none. -/
theorem atoi_ok (s : ByteArray) (hs : s.size ≤ 281474976710656) (v : Int) (h : Lib.atoiAll s.data.toList = .ok v) (w : World) : Calls Tryd.prog 34 #[.string s] w fun e w' => e = .returned (.tuple #[.int .i64 v, .nilIface]) ∧ Below w.heap.size w w' := by
  refine (Tryd.strconv_Atoi_ok s (by omega) v h w).mono ?_
  rintro e w' ⟨rfl, hw⟩
  refine ⟨rfl, ?_⟩
  rcases hw with rfl | ⟨t, rfl⟩
  · exact Below.refl _ _
  · exact Lib.bytesWorld_below _ _ _
theorem atoi_bad (s : ByteArray) (hs : s.size ≤ 281474976710656) (h : ∀ v, Lib.atoiAll s.data.toList ≠ .ok v) : ∃ (v : Int) (te : TypeId), ∀ w : World, GL w → Calls Tryd.prog 34 #[.string s] w fun e w' => ∃ pe, e = .returned (.tuple #[.int .i64 v, .iface te pe]) ∧ Below w.heap.size w w' := by
  rcases hh : Lib.atoiAll s.data.toList with v | _ | _
  · exact absurd hh (h v)
  · apply Exists.intro; apply Exists.intro; intro w hG
    obtain ⟨te, pe, hv⟩ := hG.syn
    refine (Tryd.strconv_Atoi_syntax s hs hh _ w hv (.inr ⟨te, pe, rfl⟩)).mono ?_
    rintro e w' ⟨N, rfl, _, _, hb⟩
    exact ⟨_, rfl, hb⟩
  · apply Exists.intro; apply Exists.intro; intro w hG
    obtain ⟨te, pe, hv⟩ := hG.rng
    refine (Tryd.strconv_Atoi_range s hs hh _ w hv (.inr ⟨te, pe, rfl⟩)).mono ?_
    rintro e w' ⟨N, rfl, _, _, hb⟩
    exact ⟨_, rfl, hb⟩
/-- A part's number: none, if Atoi says an error, or two another text. -/
def pvl (A : ByteArray) : Option Int := match Lib.atoiAll A.data.toList with
  | .ok n => if (twoB n).toList = A.toList then some n else none
  | _ => none
def fin2 (a b : Int) : Int × Option Int := if b ≥ 60 then (0, some 3) else if wrap64 (wrap64 (wrap64 (a * 3600) + wrap64 (b * 60))) > 86400 then (0, some 3) else if a > 24 then (0, some 3) else (wrap64 (wrap64 (wrap64 (a * 3600) + wrap64 (b * 60))), none)
def fin3 (a b c : Int) : Int × Option Int := if b ≥ 60 then (0, some 3) else if c ≥ 60 then (0, some 3) else if wrap64 (wrap64 (wrap64 (a * 3600) + wrap64 (b * 60)) + c) > 86400 then (0, some 3) else if a > 24 then (0, some 3) else (wrap64 (wrap64 (wrap64 (a * 3600) + wrap64 (b * 60)) + c), none)
def parseL : List ByteArray → Int × Option Int
  | [A, B] => match pvl A with
    | none => (0, some 3)
    | some a => match pvl B with
      | none => (0, some 3)
      | some b => fin2 a b
  | [A, B, C] => match pvl A with
    | none => (0, some 3)
    | some a => match pvl B with
      | none => (0, some 3)
      | some b => match pvl C with
        | none => (0, some 3)
        | some c => fin3 a b c
  | _ => (0, some 3)
theorem parseL_2 (A B : ByteArray) : parseL [A, B] = (match pvl A with | none => (0, some 3) | some a => match pvl B with | none => (0, some 3) | some b => fin2 a b) := rfl
theorem parseL_3 (A B C : ByteArray) : parseL [A, B, C] = (match pvl A with | none => (0, some 3) | some a => match pvl B with | none => (0, some 3) | some b => match pvl C with | none => (0, some 3) | some c => fin3 a b c) := rfl
def clock_Parse.f (a0 : ByteArray) : Option (Int × Option Int) := if a0.size < 4294967281 then some (parseL (parts a0 ⟨#[58]⟩)) else none
theorem pvl_cases (A : ByteArray) : (∃ a, pvl A = some a ∧ Lib.atoiAll A.data.toList = .ok a ∧ twoB a = A) ∨ (pvl A = none ∧ ∀ v, Lib.atoiAll A.data.toList ≠ .ok v) ∨ (pvl A = none ∧ ∃ v, Lib.atoiAll A.data.toList = .ok v ∧ (twoB v).toList ≠ A.toList) := by
  unfold pvl
  rcases h : Lib.atoiAll A.data.toList with v | _ | _
  · by_cases e : (twoB v).toList = A.toList
    · refine .inl ⟨v, by simp only [if_pos e], rfl, ?_⟩
      rw [ByteArray.toList_eq, ByteArray.toList_eq] at e
      exact ByteArray.ext (Array.ext' e)
    · exact .inr (.inr ⟨by simp only [if_neg e], v, rfl, e⟩)
  · exact .inr (.inl ⟨rfl, fun v e => by cases e⟩)
  · exact .inr (.inl ⟨rfl, fun v e => by cases e⟩)
theorem parse_2 (X A B : ByteArray) (w : World) (hG : GL w) (HSp : Aside0 (Calls Tryd.prog 33 #[.string X, .string ⟨#[58]⟩] w fun e w' => e = .returned (.slice (some ⟨w.heap.size, 0, none⟩) 2 2) ∧ w' = w.alloc (.cells #[.string A, .string B] 9))) (hsA : A.size ≤ 281474976710656) (hsB : B.size ≤ 281474976710656) :
    Calls Tryd.prog 20 #[.string X] w fun e w' => e = .returned (.tuple #[.int .i64 (parseL [A, B]).1, errW (parseL [A, B]).2]) ∧ Below w.heap.size w w' := by
  rcases pvl_cases A with ⟨a, haa, h1a, h2a⟩ | ⟨haa, h1a⟩ | ⟨haa, v, h1a, h2a⟩
  · rcases pvl_cases B with ⟨b, hab, h1b, h2b⟩ | ⟨hab, h1b⟩ | ⟨hab, v, h1b, h2b⟩
    · by_cases q0 : b ≥ 60
      · rw [show parseL [A, B] = (0, some 3) by rw [parseL_2, haa, hab]; show fin2 a b = _; unfold fin2; simp only [if_pos q0]]
        exact pg2_fin0 X A B a b 0 w HSp ⟨fun W hb => atoi_ok A hsA a h1a W⟩ ⟨fun W hb => by have z := two_any a (Lib.atoiAll_bounds h1a).1 (Lib.atoiAll_bounds h1a).2 W (hG.below hb); rw [h2a] at z; exact z⟩ ⟨fun W hb => atoi_ok B hsB b h1b W⟩ ⟨fun W hb => by have z := two_any b (Lib.atoiAll_bounds h1b).1 (Lib.atoiAll_bounds h1b).2 W (hG.below hb); rw [h2b] at z; exact z⟩  (decide_eq_true q0)
      by_cases q2 : wrap64 (wrap64 (wrap64 (a * 3600) + wrap64 (b * 60))) > 86400
      · rw [show parseL [A, B] = (0, some 3) by rw [parseL_2, haa, hab]; show fin2 a b = _; unfold fin2; simp only [if_neg q0, if_pos q2]]
        exact pg2_fin2 X A B a b 0 w HSp ⟨fun W hb => atoi_ok A hsA a h1a W⟩ ⟨fun W hb => by have z := two_any a (Lib.atoiAll_bounds h1a).1 (Lib.atoiAll_bounds h1a).2 W (hG.below hb); rw [h2a] at z; exact z⟩ ⟨fun W hb => atoi_ok B hsB b h1b W⟩ ⟨fun W hb => by have z := two_any b (Lib.atoiAll_bounds h1b).1 (Lib.atoiAll_bounds h1b).2 W (hG.below hb); rw [h2b] at z; exact z⟩ (decide_eq_false q0) (decide_eq_true q2)
      by_cases q3 : a > 24
      · rw [show parseL [A, B] = (0, some 3) by rw [parseL_2, haa, hab]; show fin2 a b = _; unfold fin2; simp only [if_neg q0, if_neg q2, if_pos q3]]
        exact pg2_fin3 X A B a b 0 w HSp ⟨fun W hb => atoi_ok A hsA a h1a W⟩ ⟨fun W hb => by have z := two_any a (Lib.atoiAll_bounds h1a).1 (Lib.atoiAll_bounds h1a).2 W (hG.below hb); rw [h2a] at z; exact z⟩ ⟨fun W hb => atoi_ok B hsB b h1b W⟩ ⟨fun W hb => by have z := two_any b (Lib.atoiAll_bounds h1b).1 (Lib.atoiAll_bounds h1b).2 W (hG.below hb); rw [h2b] at z; exact z⟩ (decide_eq_false q0) (decide_eq_false q2) (decide_eq_true q3)
      rw [show parseL [A, B] = (wrap64 (wrap64 (wrap64 (a * 3600) + wrap64 (b * 60))), none) by rw [parseL_2, haa, hab]; show fin2 a b = _; unfold fin2; simp only [if_neg q0, if_neg q2, if_neg q3]]
      exact pg2_good X A B a b 0 w HSp ⟨fun W hb => atoi_ok A hsA a h1a W⟩ ⟨fun W hb => by have z := two_any a (Lib.atoiAll_bounds h1a).1 (Lib.atoiAll_bounds h1a).2 W (hG.below hb); rw [h2a] at z; exact z⟩ ⟨fun W hb => atoi_ok B hsB b h1b W⟩ ⟨fun W hb => by have z := two_any b (Lib.atoiAll_bounds h1b).1 (Lib.atoiAll_bounds h1b).2 W (hG.below hb); rw [h2b] at z; exact z⟩ (decide_eq_false q0) (decide_eq_false q2) (decide_eq_false q3)
    · rw [show parseL [A, B] = (0, some 3) by unfold parseL; simp only [haa, hab]]
      obtain ⟨v, te, hb⟩ := atoi_bad B hsB h1b
      exact pg2_err1 X A B a 0 w HSp ⟨fun W hb => atoi_ok A hsA a h1a W⟩ ⟨fun W hb => by have z := two_any a (Lib.atoiAll_bounds h1a).1 (Lib.atoiAll_bounds h1a).2 W (hG.below hb); rw [h2a] at z; exact z⟩ v te ⟨fun W hb2 => hb W (hG.below hb2)⟩
    · rw [show parseL [A, B] = (0, some 3) by unfold parseL; simp only [haa, hab]]
      exact pg2_two1 X A B a 0 w HSp ⟨fun W hb => atoi_ok A hsA a h1a W⟩ ⟨fun W hb => by have z := two_any a (Lib.atoiAll_bounds h1a).1 (Lib.atoiAll_bounds h1a).2 W (hG.below hb); rw [h2a] at z; exact z⟩ v (twoB v) ⟨fun W hb => atoi_ok B hsB v h1b W⟩ ⟨fun W hb => two_any v (Lib.atoiAll_bounds h1b).1 (Lib.atoiAll_bounds h1b).2 W (hG.below hb)⟩ (beq_eq_false_iff_ne.mpr h2b) (bne_iff_ne.mpr h2b)
  · rw [show parseL [A, B] = (0, some 3) by unfold parseL; simp only [haa]]
    obtain ⟨v, te, hb⟩ := atoi_bad A hsA h1a
    exact pg2_err0 X A B  0 w HSp  v te ⟨fun W hb2 => hb W (hG.below hb2)⟩
  · rw [show parseL [A, B] = (0, some 3) by unfold parseL; simp only [haa]]
    exact pg2_two0 X A B  0 w HSp  v (twoB v) ⟨fun W hb => atoi_ok A hsA v h1a W⟩ ⟨fun W hb => two_any v (Lib.atoiAll_bounds h1a).1 (Lib.atoiAll_bounds h1a).2 W (hG.below hb)⟩ (beq_eq_false_iff_ne.mpr h2a) (bne_iff_ne.mpr h2a)
theorem parse_3 (X A B C : ByteArray) (w : World) (hG : GL w) (HSp : Aside0 (Calls Tryd.prog 33 #[.string X, .string ⟨#[58]⟩] w fun e w' => e = .returned (.slice (some ⟨w.heap.size, 0, none⟩) 3 3) ∧ w' = w.alloc (.cells #[.string A, .string B, .string C] 9))) (hsA : A.size ≤ 281474976710656) (hsB : B.size ≤ 281474976710656) (hsC : C.size ≤ 281474976710656) :
    Calls Tryd.prog 20 #[.string X] w fun e w' => e = .returned (.tuple #[.int .i64 (parseL [A, B, C]).1, errW (parseL [A, B, C]).2]) ∧ Below w.heap.size w w' := by
  rcases pvl_cases A with ⟨a, haa, h1a, h2a⟩ | ⟨haa, h1a⟩ | ⟨haa, v, h1a, h2a⟩
  · rcases pvl_cases B with ⟨b, hab, h1b, h2b⟩ | ⟨hab, h1b⟩ | ⟨hab, v, h1b, h2b⟩
    · rcases pvl_cases C with ⟨c, hac, h1c, h2c⟩ | ⟨hac, h1c⟩ | ⟨hac, v, h1c, h2c⟩
      · by_cases q0 : b ≥ 60
        · rw [show parseL [A, B, C] = (0, some 3) by rw [parseL_3, haa, hab, hac]; show fin3 a b c = _; unfold fin3; simp only [if_pos q0]]
          exact pg3_fin0 X A B C a b c 0 w HSp ⟨fun W hb => atoi_ok A hsA a h1a W⟩ ⟨fun W hb => by have z := two_any a (Lib.atoiAll_bounds h1a).1 (Lib.atoiAll_bounds h1a).2 W (hG.below hb); rw [h2a] at z; exact z⟩ ⟨fun W hb => atoi_ok B hsB b h1b W⟩ ⟨fun W hb => by have z := two_any b (Lib.atoiAll_bounds h1b).1 (Lib.atoiAll_bounds h1b).2 W (hG.below hb); rw [h2b] at z; exact z⟩ ⟨fun W hb => atoi_ok C hsC c h1c W⟩ ⟨fun W hb => by have z := two_any c (Lib.atoiAll_bounds h1c).1 (Lib.atoiAll_bounds h1c).2 W (hG.below hb); rw [h2c] at z; exact z⟩  (decide_eq_true q0)
        by_cases q1 : c ≥ 60
        · rw [show parseL [A, B, C] = (0, some 3) by rw [parseL_3, haa, hab, hac]; show fin3 a b c = _; unfold fin3; simp only [if_neg q0, if_pos q1]]
          exact pg3_fin1 X A B C a b c 0 w HSp ⟨fun W hb => atoi_ok A hsA a h1a W⟩ ⟨fun W hb => by have z := two_any a (Lib.atoiAll_bounds h1a).1 (Lib.atoiAll_bounds h1a).2 W (hG.below hb); rw [h2a] at z; exact z⟩ ⟨fun W hb => atoi_ok B hsB b h1b W⟩ ⟨fun W hb => by have z := two_any b (Lib.atoiAll_bounds h1b).1 (Lib.atoiAll_bounds h1b).2 W (hG.below hb); rw [h2b] at z; exact z⟩ ⟨fun W hb => atoi_ok C hsC c h1c W⟩ ⟨fun W hb => by have z := two_any c (Lib.atoiAll_bounds h1c).1 (Lib.atoiAll_bounds h1c).2 W (hG.below hb); rw [h2c] at z; exact z⟩ (decide_eq_false q0) (decide_eq_true q1)
        by_cases q2 : wrap64 (wrap64 (wrap64 (a * 3600) + wrap64 (b * 60)) + c) > 86400
        · rw [show parseL [A, B, C] = (0, some 3) by rw [parseL_3, haa, hab, hac]; show fin3 a b c = _; unfold fin3; simp only [if_neg q0, if_neg q1, if_pos q2]]
          exact pg3_fin2 X A B C a b c 0 w HSp ⟨fun W hb => atoi_ok A hsA a h1a W⟩ ⟨fun W hb => by have z := two_any a (Lib.atoiAll_bounds h1a).1 (Lib.atoiAll_bounds h1a).2 W (hG.below hb); rw [h2a] at z; exact z⟩ ⟨fun W hb => atoi_ok B hsB b h1b W⟩ ⟨fun W hb => by have z := two_any b (Lib.atoiAll_bounds h1b).1 (Lib.atoiAll_bounds h1b).2 W (hG.below hb); rw [h2b] at z; exact z⟩ ⟨fun W hb => atoi_ok C hsC c h1c W⟩ ⟨fun W hb => by have z := two_any c (Lib.atoiAll_bounds h1c).1 (Lib.atoiAll_bounds h1c).2 W (hG.below hb); rw [h2c] at z; exact z⟩ (decide_eq_false q0) (decide_eq_false q1) (decide_eq_true q2)
        by_cases q3 : a > 24
        · rw [show parseL [A, B, C] = (0, some 3) by rw [parseL_3, haa, hab, hac]; show fin3 a b c = _; unfold fin3; simp only [if_neg q0, if_neg q1, if_neg q2, if_pos q3]]
          exact pg3_fin3 X A B C a b c 0 w HSp ⟨fun W hb => atoi_ok A hsA a h1a W⟩ ⟨fun W hb => by have z := two_any a (Lib.atoiAll_bounds h1a).1 (Lib.atoiAll_bounds h1a).2 W (hG.below hb); rw [h2a] at z; exact z⟩ ⟨fun W hb => atoi_ok B hsB b h1b W⟩ ⟨fun W hb => by have z := two_any b (Lib.atoiAll_bounds h1b).1 (Lib.atoiAll_bounds h1b).2 W (hG.below hb); rw [h2b] at z; exact z⟩ ⟨fun W hb => atoi_ok C hsC c h1c W⟩ ⟨fun W hb => by have z := two_any c (Lib.atoiAll_bounds h1c).1 (Lib.atoiAll_bounds h1c).2 W (hG.below hb); rw [h2c] at z; exact z⟩ (decide_eq_false q0) (decide_eq_false q1) (decide_eq_false q2) (decide_eq_true q3)
        rw [show parseL [A, B, C] = (wrap64 (wrap64 (wrap64 (a * 3600) + wrap64 (b * 60)) + c), none) by rw [parseL_3, haa, hab, hac]; show fin3 a b c = _; unfold fin3; simp only [if_neg q0, if_neg q1, if_neg q2, if_neg q3]]
        exact pg3_good X A B C a b c 0 w HSp ⟨fun W hb => atoi_ok A hsA a h1a W⟩ ⟨fun W hb => by have z := two_any a (Lib.atoiAll_bounds h1a).1 (Lib.atoiAll_bounds h1a).2 W (hG.below hb); rw [h2a] at z; exact z⟩ ⟨fun W hb => atoi_ok B hsB b h1b W⟩ ⟨fun W hb => by have z := two_any b (Lib.atoiAll_bounds h1b).1 (Lib.atoiAll_bounds h1b).2 W (hG.below hb); rw [h2b] at z; exact z⟩ ⟨fun W hb => atoi_ok C hsC c h1c W⟩ ⟨fun W hb => by have z := two_any c (Lib.atoiAll_bounds h1c).1 (Lib.atoiAll_bounds h1c).2 W (hG.below hb); rw [h2c] at z; exact z⟩ (decide_eq_false q0) (decide_eq_false q1) (decide_eq_false q2) (decide_eq_false q3)
      · rw [show parseL [A, B, C] = (0, some 3) by unfold parseL; simp only [haa, hab, hac]]
        obtain ⟨v, te, hb⟩ := atoi_bad C hsC h1c
        exact pg3_err2 X A B C a b 0 w HSp ⟨fun W hb => atoi_ok A hsA a h1a W⟩ ⟨fun W hb => by have z := two_any a (Lib.atoiAll_bounds h1a).1 (Lib.atoiAll_bounds h1a).2 W (hG.below hb); rw [h2a] at z; exact z⟩ ⟨fun W hb => atoi_ok B hsB b h1b W⟩ ⟨fun W hb => by have z := two_any b (Lib.atoiAll_bounds h1b).1 (Lib.atoiAll_bounds h1b).2 W (hG.below hb); rw [h2b] at z; exact z⟩ v te ⟨fun W hb2 => hb W (hG.below hb2)⟩
      · rw [show parseL [A, B, C] = (0, some 3) by unfold parseL; simp only [haa, hab, hac]]
        exact pg3_two2 X A B C a b 0 w HSp ⟨fun W hb => atoi_ok A hsA a h1a W⟩ ⟨fun W hb => by have z := two_any a (Lib.atoiAll_bounds h1a).1 (Lib.atoiAll_bounds h1a).2 W (hG.below hb); rw [h2a] at z; exact z⟩ ⟨fun W hb => atoi_ok B hsB b h1b W⟩ ⟨fun W hb => by have z := two_any b (Lib.atoiAll_bounds h1b).1 (Lib.atoiAll_bounds h1b).2 W (hG.below hb); rw [h2b] at z; exact z⟩ v (twoB v) ⟨fun W hb => atoi_ok C hsC v h1c W⟩ ⟨fun W hb => two_any v (Lib.atoiAll_bounds h1c).1 (Lib.atoiAll_bounds h1c).2 W (hG.below hb)⟩ (beq_eq_false_iff_ne.mpr h2c) (bne_iff_ne.mpr h2c)
    · rw [show parseL [A, B, C] = (0, some 3) by unfold parseL; simp only [haa, hab]]
      obtain ⟨v, te, hb⟩ := atoi_bad B hsB h1b
      exact pg3_err1 X A B C a 0 w HSp ⟨fun W hb => atoi_ok A hsA a h1a W⟩ ⟨fun W hb => by have z := two_any a (Lib.atoiAll_bounds h1a).1 (Lib.atoiAll_bounds h1a).2 W (hG.below hb); rw [h2a] at z; exact z⟩ v te ⟨fun W hb2 => hb W (hG.below hb2)⟩
    · rw [show parseL [A, B, C] = (0, some 3) by unfold parseL; simp only [haa, hab]]
      exact pg3_two1 X A B C a 0 w HSp ⟨fun W hb => atoi_ok A hsA a h1a W⟩ ⟨fun W hb => by have z := two_any a (Lib.atoiAll_bounds h1a).1 (Lib.atoiAll_bounds h1a).2 W (hG.below hb); rw [h2a] at z; exact z⟩ v (twoB v) ⟨fun W hb => atoi_ok B hsB v h1b W⟩ ⟨fun W hb => two_any v (Lib.atoiAll_bounds h1b).1 (Lib.atoiAll_bounds h1b).2 W (hG.below hb)⟩ (beq_eq_false_iff_ne.mpr h2b) (bne_iff_ne.mpr h2b)
  · rw [show parseL [A, B, C] = (0, some 3) by unfold parseL; simp only [haa]]
    obtain ⟨v, te, hb⟩ := atoi_bad A hsA h1a
    exact pg3_err0 X A B C  0 w HSp  v te ⟨fun W hb2 => hb W (hG.below hb2)⟩
  · rw [show parseL [A, B, C] = (0, some 3) by unfold parseL; simp only [haa]]
    exact pg3_two0 X A B C  0 w HSp  v (twoB v) ⟨fun W hb => atoi_ok A hsA v h1a W⟩ ⟨fun W hb => two_any v (Lib.atoiAll_bounds h1a).1 (Lib.atoiAll_bounds h1a).2 W (hG.below hb)⟩ (beq_eq_false_iff_ne.mpr h2a) (bne_iff_ne.mpr h2a)
theorem clock_Parse.calls (a0 : ByteArray) (r1 : Int) (r2 : Option Int) (w : World) (h : clock_Parse.f a0 = some (r1, r2)) (hG : GL w) :
    Calls Tryd.prog 20 #[.string a0] w fun e w' => e = .returned (.tuple #[.int .i64 r1, errW r2]) ∧ Below w.heap.size w w' := by
  unfold clock_Parse.f at h
  by_cases hs : a0.size < 4294967281
  · rw [if_pos hs] at h
    have hsp := split_walk a0 ⟨#[58]⟩ hs (by decide) w hG
    have hz := part_size (Lib.countB a0 ⟨#[58]⟩) a0 ⟨#[58]⟩
    have hz : ∀ p ∈ parts a0 ⟨#[58]⟩, p.size ≤ 281474976710656 := fun p hp => by have := hz p hp; omega
    have hln : (parts a0 ⟨#[58]⟩).length ≤ 140737488355328 := by have := Lib.splitB_length_le ⟨#[58]⟩ 0 (Lib.countB a0 ⟨#[58]⟩) a0; have := Lib.countB_le ⟨#[58]⟩ (by decide) a0.size a0 (Nat.le_refl _); unfold parts; omega
    have e := Option.some.inj h
    have e1 : r1 = (parseL (parts a0 ⟨#[58]⟩)).1 := by rw [e]
    have e2 : r2 = (parseL (parts a0 ⟨#[58]⟩)).2 := by rw [e]
    rw [e1, e2]
    clear e e1 e2 h
    generalize parts a0 ⟨#[58]⟩ = L at hsp hz hln ⊢
    match L, hsp, hz, hln with
    | [A, B], hsp, hz, _ => exact parse_2 a0 A B w hG ⟨hsp⟩ (hz A (by simp)) (hz B (by simp))
    | [A, B, C], hsp, hz, _ => exact parse_3 a0 A B C w hG ⟨hsp⟩ (hz A (by simp)) (hz B (by simp)) (hz C (by simp))
    | [], hsp, _, hln => exact pg_many a0 [] w (.inl (by simp)) hln ⟨hsp⟩
    | [A], hsp, _, hln => exact pg_many a0 [A] w (.inl (by simp)) hln ⟨hsp⟩
    | A :: B :: C :: D :: R, hsp, _, hln => exact pg_many a0 (A :: B :: C :: D :: R) w (.inr (by simp)) hln ⟨hsp⟩
  · rw [if_neg hs] at h; cases h
end Go.Proofs.YtegiikkbeknodaaDoor.P
