/- RuleTexts' mathematics: the document's texts of rules are the program's, and what it reads of a text is what the program reads. -/
import Derived.Test.YtpagbmkdphdjoaaGreatDoorRuC2
import Derived.Test.YtpagbmkdphdjoaaGreatDoorRuT
import Derived.Test.YtpagbmkdphdjoaaGreatDoorPx24
set_option linter.unusedVariables false
set_option linter.unusedSimpArgs false
namespace Go.Proofs.YtpagbmkdphdjoaaGreatDoor.PClk
open Go.RowKit Go.Proofs.YtpagbmkdphdjoaaGreatDoor.P Go.Proofs.YtpagbmkdphdjoaaGreatDoorW.PrintWords Go.Proofs.YtpagbmkdphdjoaaGreatDoorW.PrintLast Go.Proofs.YtpagbmkdphdjoaaGreatDoorW.PrintMore
/-- From some number of rounds on. -/
def Ev {α : Type} (f : Nat → Option α) (r : α) : Prop := ∃ K, ∀ k, K ≤ k → f k = some r
theorem Ev.bind {α β : Type} {f : Nat → Option α} {g : Nat → α → Option β} {a : α} {b : β} (h1 : Ev f a) (h2 : Ev (fun k => g k a) b) : Ev (fun k => (f k).bind (g k)) b := by
  obtain ⟨K1, h1⟩ := h1
  obtain ⟨K2, h2⟩ := h2
  refine ⟨K1 + K2, fun k hk => ?_⟩
  show (f k).bind (g k) = _
  rw [h1 k (by omega), Option.bind_some]
  exact h2 k (by omega)
theorem Ev.const {α : Type} (a : α) : Ev (fun _ => some a) a := ⟨0, fun _ _ => rfl⟩
theorem Ev.of {α : Type} {f : Nat → Option α} {r : α} (hm : ∀ k, LeO (f k) (f (k + 1))) {K : Nat} (h : f K = some r) : Ev f r := ⟨K, fun k hk => up hm h hk⟩
theorem Ev.succ {α : Type} {f g : Nat → Option α} {r : α} (e : ∀ k, f (k + 1) = g k) (h : Ev g r) : Ev f r := by
  obtain ⟨K, h⟩ := h
  refine ⟨K + 1, fun k hk => ?_⟩
  obtain ⟨m, rfl⟩ : ∃ m, k = m + 1 := ⟨k - 1, by omega⟩
  rw [e]; exact h m (by omega)
theorem Ev.congr {α : Type} {f g : Nat → Option α} {r : α} (e : ∀ k, f k = g k) (h : Ev g r) : Ev f r := by
  obtain ⟨K, h⟩ := h
  exact ⟨K, fun k hk => by rw [e]; exact h k hk⟩
/-- A rule's text, by its kind. -/
def textL (K m n w y1 m1 d1 y2 m2 d2 : Int) : List UInt8 :=
  if K = 0 then W0 ++ 32 :: Lib.itoa w else if K = 1 then W1 ++ 32 :: (Lib.itoa m ++ ([32] ++ Lib.itoa n)) else if K = 2 then W2 ++ 32 :: (Lib.itoa m ++ ([32] ++ (Lib.itoa n ++ ([32] ++ Lib.itoa w)))) else W3 ++ 32 :: (dateL y1 m1 d1 ++ 32 :: dateL y2 m2 d2)
/-- The program's text of a rule, and what the program scans of it. -/
theorem own_text (K m n w y1 m1 d1 y2 m2 d2 : Int) (hOk : OkT K m n w y1 m1 d1 y2 m2 d2) (hc : ∀ k, rule_Check.f (k + 3) K m n w y1 m1 d1 y2 m2 d2 = some none) : (∀ k, rule_Text.f (k + 4) K m n w y1 m1 d1 y2 m2 d2 = some (bs (textL K m n w y1 m1 d1 y2 m2 d2), none)) ∧ rule_scanned.f (bs (textL K m n w y1 m1 d1 y2 m2 d2)) = some (K, m, n, w, y1, m1, d1, y2, m2, d2) := by
  rcases hOk with ⟨rfl, g1, g2, rfl, rfl, rfl, rfl, rfl, rfl, rfl, rfl⟩ | ⟨rfl, g1, g2, g3, g4, g5, rfl, rfl, rfl, rfl, rfl, rfl, rfl⟩ | ⟨rfl, g1, g2, g3, g4, g5, g6, g7, rfl, rfl, rfl, rfl, rfl, rfl⟩ | ⟨rfl, rfl, rfl, rfl, ⟨a1, a2⟩, ⟨b1, b2⟩, ⟨c1, c2⟩, ⟨e1, e2⟩, ⟨f1, f2⟩, ⟨i1, i2⟩⟩
  · have hw : Sm w := ⟨by omega, by omega⟩
    refine ⟨fun k => ?_, scan_0 w hw _ (bs_list _)⟩
    obtain ⟨T, h, rfl⟩ := text_0 k 0 0 w 0 0 0 0 0 0 hw (hc (k + 1))
    exact h
  · have hm : Sm m := ⟨by omega, by omega⟩
    have hn : Sm n := ⟨by omega, by omega⟩
    refine ⟨fun k => ?_, scan_1 m n hm hn _ (bs_list _)⟩
    obtain ⟨T, h, rfl⟩ := text_1 k m n 0 0 0 0 0 0 0 hm hn (hc (k + 1))
    exact h
  · have hm : Sm m := ⟨by omega, by omega⟩
    have hn : Sm n := ⟨by omega, by omega⟩
    have hw : Sm w := ⟨by omega, by omega⟩
    refine ⟨fun k => ?_, scan_2 m n w hm hn hw _ (bs_list _)⟩
    obtain ⟨T, h, rfl⟩ := text_2 k m n w 0 0 0 0 0 0 hm hn hw (hc (k + 1))
    exact h
  · have h1 : Sm y1 := ⟨by omega, by omega⟩
    have h2 : Sm m1 := ⟨by omega, by omega⟩
    have h3 : Sm d1 := ⟨by omega, by omega⟩
    have h4 : Sm y2 := ⟨by omega, by omega⟩
    have h5 : Sm m2 := ⟨by omega, by omega⟩
    have h6 : Sm d2 := ⟨by omega, by omega⟩
    refine ⟨fun k => ?_, scan_3 y1 m1 d1 y2 m2 d2 ⟨h1, a1⟩ ⟨h2, b1⟩ ⟨h3, c1⟩ ⟨h4, e1⟩ ⟨h5, f1⟩ ⟨h6, i1⟩ _ (bs_list _)⟩
    obtain ⟨T, h, rfl⟩ := text_3 k 0 0 0 y1 m1 d1 y2 m2 d2 h1 h2 h3 h4 h5 h6 (hc (k + 1))
    exact h
/-! The document's text. -/
theorem dig_ev (n : Int) (h : Sm n) : Ev (fun k => r6_digits.f k n) (bs (Lib.itoa n)) := by
  obtain ⟨k, e⟩ := digits_ref n h.1 h.2
  exact Ev.of (fun k => r6_digits.mono _ k) e
theorem ap (a b : List UInt8) : bs a ++ bs b = bs (a ++ b) := bs_of _ _ (by rw [app_list, bs_list, bs_list])
theorem sz (l : List UInt8) : (bs l).size = l.length := bs_size l
theorem rdate (y m d : Int) (hy : Sm y) (hm : Sm m) (hd : Sm d) : Ev (fun k => r6_date.f k y m d) (bs (dateL y m d)) := by
  obtain ⟨K1, h1⟩ := dig_ev y hy
  obtain ⟨K2, h2⟩ := dig_ev m hm
  obtain ⟨K3, h3⟩ := dig_ev d hd
  have l1 := il y hy
  have l2 := il m hm
  have l3 := il d hd
  refine ⟨K1 + K2 + K3, fun k hk => ?_⟩
  have f1 : r6_digits.f k y = _ := h1 k (by omega)
  have f2 : r6_digits.f k m = _ := h2 k (by omega)
  have f3 : r6_digits.f k d = _ := h3 k (by omega)
  show r6_date.f k y m d = _
  unfold r6_date.f
  have e1 : bs (Lib.itoa y) ++ (⟨#[45]⟩ : ByteArray) = bs (Lib.itoa y ++ [45]) := ap _ [45]
  have e2 : bs (Lib.itoa y ++ [45]) ++ bs (Lib.itoa m) = bs ((Lib.itoa y ++ [45]) ++ Lib.itoa m) := ap _ _
  have e3 : bs ((Lib.itoa y ++ [45]) ++ Lib.itoa m) ++ (⟨#[45]⟩ : ByteArray) = bs (((Lib.itoa y ++ [45]) ++ Lib.itoa m) ++ [45]) := ap _ [45]
  rw [f1, Option.bind_some, if_pos (by rw [sz]; omega), f2, Option.bind_some, e1, if_pos (by rw [sz, sz]; simp only [List.length_append, List.length_cons, List.length_nil]; omega), e2, if_pos (by rw [sz]; simp only [List.length_append, List.length_cons, List.length_nil]; omega), f3, Option.bind_some, e3, if_pos (by rw [sz, sz]; simp only [List.length_append, List.length_cons, List.length_nil]; omega), ap]
  congr 2
  simp [dateL]
theorem rtext (K m n w y1 m1 d1 y2 m2 d2 : Int) (hOk : OkT K m n w y1 m1 d1 y2 m2 d2) : Ev (fun k => r6_Text.f k K m n w y1 m1 d1 y2 m2 d2) (bs (textL K m n w y1 m1 d1 y2 m2 d2)) := by
  rcases hOk with ⟨rfl, g1, g2, rfl, rfl, rfl, rfl, rfl, rfl, rfl, rfl⟩ | ⟨rfl, g1, g2, g3, g4, g5, rfl, rfl, rfl, rfl, rfl, rfl, rfl⟩ | ⟨rfl, g1, g2, g3, g4, g5, g6, g7, rfl, rfl, rfl, rfl, rfl, rfl⟩ | ⟨rfl, rfl, rfl, rfl, ⟨a1, a2⟩, ⟨b1, b2⟩, ⟨c1, c2⟩, ⟨e1, e2⟩, ⟨f1, f2⟩, ⟨i1, i2⟩⟩
  · have hw : Sm w := ⟨by omega, by omega⟩
    obtain ⟨K1, h1⟩ := dig_ev w hw
    have l1 := il w hw
    refine ⟨K1, fun k hk => ?_⟩
    have q1 : r6_digits.f k w = _ := h1 k hk
    have e1 : (⟨#[119, 101, 101, 107, 100, 97, 121, 32]⟩ : ByteArray) ++ bs (Lib.itoa w) = bs (W0 ++ 32 :: Lib.itoa w) := ap [119, 101, 101, 107, 100, 97, 121, 32] _
    show r6_Text.f k 0 0 0 w 0 0 0 0 0 0 = _
    unfold r6_Text.f
    rw [if_pos rfl, q1, Option.bind_some, if_pos (by rw [sz]; omega), e1]
    rfl
  · have hm : Sm m := ⟨by omega, by omega⟩
    have hn : Sm n := ⟨by omega, by omega⟩
    obtain ⟨K1, h1⟩ := dig_ev m hm
    obtain ⟨K2, h2⟩ := dig_ev n hn
    have l1 := il m hm
    have l2 := il n hn
    refine ⟨K1 + K2, fun k hk => ?_⟩
    have q1 : r6_digits.f k m = _ := h1 k (by omega)
    have q2 : r6_digits.f k n = _ := h2 k (by omega)
    have e1 : (⟨#[100, 97, 121, 32]⟩ : ByteArray) ++ bs (Lib.itoa m) = bs ([100, 97, 121, 32] ++ Lib.itoa m) := ap [100, 97, 121, 32] _
    have e2 : bs ([100, 97, 121, 32] ++ Lib.itoa m) ++ (⟨#[32]⟩ : ByteArray) = bs (([100, 97, 121, 32] ++ Lib.itoa m) ++ [32]) := ap _ [32]
    show r6_Text.f k 1 m n 0 0 0 0 0 0 0 = _
    unfold r6_Text.f
    rw [if_neg (by decide), if_pos rfl, q1, Option.bind_some, if_pos (by rw [sz]; omega), e1, if_pos (by rw [sz]; simp only [List.length_append, List.length_cons, List.length_nil]; omega), q2, Option.bind_some, e2, if_pos (by rw [sz, sz]; simp only [List.length_append, List.length_cons, List.length_nil]; omega), ap]
    congr 2
    simp [textL, W1]
  · have hm : Sm m := ⟨by omega, by omega⟩
    have hn : Sm n := ⟨by omega, by omega⟩
    have hw : Sm w := ⟨by omega, by omega⟩
    obtain ⟨K1, h1⟩ := dig_ev m hm
    obtain ⟨K2, h2⟩ := dig_ev n hn
    obtain ⟨K3, h3⟩ := dig_ev w hw
    have l1 := il m hm
    have l2 := il n hn
    have l3 := il w hw
    refine ⟨K1 + K2 + K3, fun k hk => ?_⟩
    have q1 : r6_digits.f k m = _ := h1 k (by omega)
    have q2 : r6_digits.f k n = _ := h2 k (by omega)
    have q3 : r6_digits.f k w = _ := h3 k (by omega)
    have e1 : (⟨#[110, 116, 104, 32]⟩ : ByteArray) ++ bs (Lib.itoa m) = bs ([110, 116, 104, 32] ++ Lib.itoa m) := ap [110, 116, 104, 32] _
    have e2 : bs ([110, 116, 104, 32] ++ Lib.itoa m) ++ (⟨#[32]⟩ : ByteArray) = bs (([110, 116, 104, 32] ++ Lib.itoa m) ++ [32]) := ap _ [32]
    have e3 : bs (([110, 116, 104, 32] ++ Lib.itoa m) ++ [32]) ++ bs (Lib.itoa n) = bs ((([110, 116, 104, 32] ++ Lib.itoa m) ++ [32]) ++ Lib.itoa n) := ap _ _
    have e4 : bs ((([110, 116, 104, 32] ++ Lib.itoa m) ++ [32]) ++ Lib.itoa n) ++ (⟨#[32]⟩ : ByteArray) = bs (((([110, 116, 104, 32] ++ Lib.itoa m) ++ [32]) ++ Lib.itoa n) ++ [32]) := ap _ [32]
    show r6_Text.f k 2 m n w 0 0 0 0 0 0 = _
    unfold r6_Text.f
    rw [if_neg (by decide), if_neg (by decide), if_pos rfl, q1, Option.bind_some, if_pos (by rw [sz]; omega), e1, if_pos (by rw [sz]; simp only [List.length_append, List.length_cons, List.length_nil]; omega), q2, Option.bind_some, e2, if_pos (by rw [sz, sz]; simp only [List.length_append, List.length_cons, List.length_nil]; omega), e3, if_pos (by rw [sz]; simp only [List.length_append, List.length_cons, List.length_nil]; omega), q3, Option.bind_some, e4, if_pos (by rw [sz, sz]; simp only [List.length_append, List.length_cons, List.length_nil]; omega), ap]
    congr 2
    simp [textL, W2]
  · have h1 : Sm y1 := ⟨by omega, by omega⟩
    have h2 : Sm m1 := ⟨by omega, by omega⟩
    have h3 : Sm d1 := ⟨by omega, by omega⟩
    have h4 : Sm y2 := ⟨by omega, by omega⟩
    have h5 : Sm m2 := ⟨by omega, by omega⟩
    have h6 : Sm d2 := ⟨by omega, by omega⟩
    obtain ⟨K1, p1⟩ := rdate y1 m1 d1 h1 h2 h3
    obtain ⟨K2, p2⟩ := rdate y2 m2 d2 h4 h5 h6
    have l1 := date_len y1 m1 d1 h1 h2 h3
    have l2 := date_len y2 m2 d2 h4 h5 h6
    refine ⟨K1 + K2, fun k hk => ?_⟩
    have q1 : r6_date.f k y1 m1 d1 = _ := p1 k (by omega)
    have q2 : r6_date.f k y2 m2 d2 = _ := p2 k (by omega)
    have e1 : (⟨#[100, 97, 116, 101, 115, 32]⟩ : ByteArray) ++ bs (dateL y1 m1 d1) = bs ([100, 97, 116, 101, 115, 32] ++ dateL y1 m1 d1) := ap [100, 97, 116, 101, 115, 32] _
    have e2 : bs ([100, 97, 116, 101, 115, 32] ++ dateL y1 m1 d1) ++ (⟨#[32]⟩ : ByteArray) = bs (([100, 97, 116, 101, 115, 32] ++ dateL y1 m1 d1) ++ [32]) := ap _ [32]
    show r6_Text.f k 3 0 0 0 y1 m1 d1 y2 m2 d2 = _
    unfold r6_Text.f
    rw [if_neg (by decide), if_neg (by decide), if_neg (by decide), q1, Option.bind_some, if_pos (by rw [sz]; omega), e1, if_pos (by rw [sz]; simp only [List.length_append, List.length_cons, List.length_nil]; omega), q2, Option.bind_some, e2, if_pos (by rw [sz, sz]; simp only [List.length_append, List.length_cons, List.length_nil]; omega), ap]
    congr 2
    simp [textL, W3]
/-! The document's reading: dates. -/
theorem cut_ev (s : ByteArray) (c : UInt8) (hs : s.size ≤ 1000) : ∃ L, Ev (fun k => r6_cut.f k s (c.toNat : Int)) L ∧ L.map (·.data.toList) = Lib.split s.data.toList [c] := by
  obtain ⟨k, L, e, h⟩ := cut_ref s c hs
  exact ⟨L, Ev.of (fun k => r6_cut.mono _ _ k) e, h⟩
theorem num_ev (s : ByteArray) : ∃ R : Int × Bool, Ev (fun k => r6_number.f k s) R ∧ (R.2 = true → s.data.toList = Lib.itoa R.1) := by
  obtain ⟨k, R, e, h⟩ := number_ref s
  exact ⟨R, Ev.of (fun k => r6_number.mono _ k) e, h⟩
theorem num_at (n : Int) (h0 : -1000000000 < n) (h1 : n < 1000000000) : Ev (fun k => r6_number.f k (bs (Lib.itoa n))) (n, true) := by
  obtain ⟨k, e⟩ := number_itoa (bs (Lib.itoa n)) n h0 h1 (bs_list _)
  exact Ev.of (fun k => r6_number.mono _ k) e
theorem rd0 (a : ByteArray) (r : List ByteArray) : rdOf ByteArray.empty (a :: r) 0 = a := rfl
theorem rd1 (a b : ByteArray) (r : List ByteArray) : rdOf ByteArray.empty (a :: b :: r) 1 = b := rfl
theorem rd2 (a b c : ByteArray) (r : List ByteArray) : rdOf ByteArray.empty (a :: b :: c :: r) 2 = c := rfl
/-- Three numbers of a date's parts. -/
theorem dates3 {p a b c : ByteArray} {A B C : Int × Bool} (hL : Ev (fun k => r6_cut.f k p 45) [a, b, c]) (ha : Ev (fun k => r6_number.f k a) A) (hb : Ev (fun k => r6_number.f k b) B) (hc : Ev (fun k => r6_number.f k c) C) :
    Ev (fun k => r6_dates.f k p) (A.1, B.1, C.1, A.2 && (B.2 && C.2)) := by
  obtain ⟨K0, h0⟩ := hL
  obtain ⟨K1, h1⟩ := ha
  obtain ⟨K2, h2⟩ := hb
  obtain ⟨K3, h3⟩ := hc
  refine ⟨K0 + K1 + K2 + K3, fun k hk => ?_⟩
  have q0 : r6_cut.f k p 45 = _ := h0 k (by omega)
  have q1 : r6_number.f k a = _ := h1 k (by omega)
  have q2 : r6_number.f k b = _ := h2 k (by omega)
  have q3 : r6_number.f k c = _ := h3 k (by omega)
  show r6_dates.f k p = _
  unfold r6_dates.f
  rw [q0, Option.bind_some, if_pos (show (([a, b, c] : List ByteArray).length : Int) = 3 from rfl), if_pos (show (0 : Int) < (([a, b, c] : List ByteArray).length : Int) by simp), rd0, q1, Option.bind_some, if_pos (show (1 : Int) < (([a, b, c] : List ByteArray).length : Int) by simp), rd1, q2, Option.bind_some, if_pos (show (2 : Int) < (([a, b, c] : List ByteArray).length : Int) by simp), rd2, q3, Option.bind_some]
  cases A.2 <;> cases B.2 <;> simp
theorem three {α β : Type} {f : α → β} {L : List α} {x y z : β} (h : L.map f = [x, y, z]) : ∃ a b c, L = [a, b, c] ∧ f a = x ∧ f b = y ∧ f c = z := by
  match L, h with
  | [a, b, c], h => simp at h; exact ⟨a, b, c, rfl, h.1, h.2.1, h.2.2⟩
theorem dates_any (p : ByteArray) (hp : p.size ≤ 1000) : ∃ y m d b, Ev (fun k => r6_dates.f k p) (y, m, d, b) ∧ (b = true → p.data.toList = dateL y m d) := by
  obtain ⟨L, hL, hm⟩ := cut_ev p 45 hp
  by_cases h3 : L.length = 3
  · match L, h3 with
    | [a, b, c], _ =>
      obtain ⟨A, hA, sA⟩ := num_ev a
      obtain ⟨B, hB, sB⟩ := num_ev b
      obtain ⟨C, hC, sC⟩ := num_ev c
      refine ⟨_, _, _, _, dates3 hL hA hB hC, fun ht => ?_⟩
      rw [Bool.and_eq_true, Bool.and_eq_true] at ht
      have e := join_split 45 p.data.toList.length p.data.toList (Nat.le_refl _)
      rw [← hm] at e
      simp only [List.map_cons, List.map_nil] at e
      rw [sA ht.1, sB ht.2.1, sC ht.2.2, join3] at e
      exact e.symm
  · refine ⟨0, 0, 0, false, ?_, fun h => by cases h⟩
    obtain ⟨K0, h0⟩ := hL
    refine ⟨K0, fun k hk => ?_⟩
    have q0 : r6_cut.f k p 45 = _ := h0 k hk
    show r6_dates.f k p = _
    unfold r6_dates.f
    rw [q0, Option.bind_some, if_neg (by omega)]
theorem dates_at (y m d : Int) (hy : 0 ≤ y ∧ y < 1000000000) (hm : 0 ≤ m ∧ m < 1000000000) (hd : 0 ≤ d ∧ d < 1000000000) : Ev (fun k => r6_dates.f k (bs (dateL y m d))) (y, m, d, true) := by
  have hl := date_len y m d ⟨by omega, by omega⟩ ⟨by omega, by omega⟩ ⟨by omega, by omega⟩
  obtain ⟨L, hL, he⟩ := cut_ev (bs (dateL y m d)) 45 (by rw [sz]; omega)
  rw [bs_list] at he
  have hs : Lib.split (dateL y m d) [45] = [Lib.itoa y, Lib.itoa m, Lib.itoa d] := by
    show Lib.split (Lib.itoa y ++ 45 :: (Lib.itoa m ++ 45 :: Lib.itoa d)) [45] = _
    rw [split_cons 45 _ _ (itoa_dash y hy.1), split_cons 45 _ _ (itoa_dash m hm.1), split_one 45 _ (itoa_dash d hd.1)]
  rw [hs] at he
  obtain ⟨a, b, c, rfl, ea, eb, ec⟩ := three he
  obtain rfl := bs_of a _ ea
  obtain rfl := bs_of b _ eb
  obtain rfl := bs_of c _ ec
  exact dates3 hL (num_at y (by omega) (by omega)) (num_at m (by omega) (by omega)) (num_at d (by omega) (by omega))
end Go.Proofs.YtpagbmkdphdjoaaGreatDoor.PClk

/- RuleTexts' mathematics: what the document reads of a text, kind by kind; the law. -/
set_option linter.unusedVariables false
set_option linter.unusedSimpArgs false
namespace Go.Proofs.YtpagbmkdphdjoaaGreatDoor.PClk
open Go.RowKit Go.Proofs.YtpagbmkdphdjoaaGreatDoor.P Go.Proofs.YtpagbmkdphdjoaaGreatDoorW.PrintWords Go.Proofs.YtpagbmkdphdjoaaGreatDoorW.PrintLast Go.Proofs.YtpagbmkdphdjoaaGreatDoorW.PrintMore
abbrev P11 := Int × Int × Int × Int × Int × Int × Int × Int × Int × Int × Bool
def Zr : P11 := (0, 0, 0, 0, 0, 0, 0, 0, 0, 0, false)
abbrev wants : List Int := [2, 3, 4, 3]
abbrev words : List ByteArray := [(⟨#[119, 101, 101, 107, 100, 97, 121]⟩ : ByteArray), (⟨#[100, 97, 121]⟩ : ByteArray), (⟨#[110, 116, 104]⟩ : ByteArray), (⟨#[100, 97, 116, 101, 115]⟩ : ByteArray)]
theorem skip (L : List ByteArray) (x7 : Int) (h0 : 0 ≤ x7) (h4 : x7 < 4) (hL : (0 : Int) < (L.length : Int)) (hn : ¬ ((rdOf ByteArray.empty L 0).toList = (rdOf ByteArray.empty words x7).toList ∧ (L.length : Int) = rd wants x7)) {r : P11} (h : Ev (fun k => r6_Parse.l0 k L wants words (wrap64 (x7 + 1))) r) : Ev (fun k => r6_Parse.l0 k L wants words x7) r := by
  obtain ⟨K, h⟩ := h
  refine ⟨K + 2, fun k hk => ?_⟩
  obtain ⟨m, rfl⟩ : ∃ m, k = m + 1 + 1 := ⟨k - 2, by omega⟩
  have j1t : r6_Parse.j1 (m + 1) L wants words x7 true = some r := by
    rw [r6_Parse.j1, if_pos rfl]
    exact h m (by omega)
  show r6_Parse.l0 (m + 1 + 1) L wants words x7 = _
  rw [r6_Parse.l0, if_pos h4, if_pos hL, if_pos h0, if_pos (show x7 < (words.length : Int) from h4)]
  by_cases hw : (rdOf ByteArray.empty L 0).toList = (rdOf ByteArray.empty words x7).toList
  · rw [if_pos hw, if_pos (show x7 < (wants.length : Int) from h4), show ((L.length : Int) != rd wants x7) = true from bne_iff_ne.mpr (fun e => hn ⟨hw, e⟩)]
    exact j1t
  · rw [if_neg hw]
    exact j1t
theorem hit (L : List ByteArray) (x7 : Int) (h0 : 0 ≤ x7) (h4 : x7 < 4) (h3 : x7 ≠ 3) (hL : (0 : Int) < (L.length : Int)) (hw : (rdOf ByteArray.empty L 0).toList = (rdOf ByteArray.empty words x7).toList) (hl : (L.length : Int) = rd wants x7) {r : P11} (h : Ev (fun k => r6_Parse.l1 k L x7 1 x7 0 0 0 0 0 0 0 0 0 0 0 0) r) : Ev (fun k => r6_Parse.l0 k L wants words x7) r := by
  obtain ⟨K, h⟩ := h
  refine ⟨K + 2, fun k hk => ?_⟩
  obtain ⟨m, rfl⟩ : ∃ m, k = m + 1 + 1 := ⟨k - 2, by omega⟩
  show r6_Parse.l0 (m + 1 + 1) L wants words x7 = _
  rw [r6_Parse.l0, if_pos h4, if_pos hL, if_pos h0, if_pos (show x7 < (words.length : Int) from h4), if_pos hw, if_pos (show x7 < (wants.length : Int) from h4), show ((L.length : Int) != rd wants x7) = false from by rw [hl]; simp, r6_Parse.j1, if_neg (by decide), if_neg h3]
  exact h m (by omega)
/-- What is answered of a rule that is read. -/
def mo (b : Bool) (K m n w y1 m1 d1 y2 m2 d2 : Int) : P11 := if b = true then (K, m, n, w, y1, m1, d1, y2, m2, d2, true) else Zr
theorem may_ev (K m n w y1 m1 d1 y2 m2 d2 : Int) : ∃ b, Ev (fun k => r6_May.f k K m n w y1 m1 d1 y2 m2 d2) b ∧ ((b = true ∧ ∀ k, rule_Check.f (k + 3) K m n w y1 m1 d1 y2 m2 d2 = some none) ∨ (b = false ∧ ∀ k, rule_Check.f (k + 3) K m n w y1 m1 d1 y2 m2 d2 = some (some 1))) := by
  rcases may_all K m n w y1 m1 d1 y2 m2 d2 with ⟨_, hc, k, hk⟩ | ⟨hc, k, hk⟩
  · exact ⟨true, Ev.of (fun k => r6_May.mono _ _ _ _ _ _ _ _ _ _ k) hk, .inl ⟨rfl, hc⟩⟩
  · exact ⟨false, Ev.of (fun k => r6_May.mono _ _ _ _ _ _ _ _ _ _ k) hk, .inr ⟨rfl, hc⟩⟩
theorem j4_ev {K m n w y1 m1 d1 y2 m2 d2 : Int} {b : Bool} (h : Ev (fun k => r6_May.f k K m n w y1 m1 d1 y2 m2 d2) b) : Ev (fun k => r6_Parse.j4 k K m n w y1 m1 d1 y2 m2 d2) (mo b K m n w y1 m1 d1 y2 m2 d2) := by
  refine Ev.succ (g := fun k => (r6_May.f k K m n w y1 m1 d1 y2 m2 d2).bind fun t318 => (if t318 = true then (some (K, m, n, w, y1, m1, d1, y2, m2, d2, true)) else (some (0, 0, 0, 0, 0, 0, 0, 0, 0, 0, false)))) (fun k => by rw [r6_Parse.j4]) (Ev.bind h ?_)
  refine ⟨0, fun k _ => ?_⟩
  unfold mo
  cases b <;> rfl
theorem n1 {L : List ByteArray} {x7 c0 c1 c2 c3 c4 c5 c6 c7 c8 c9 v0 v1 v2 : Int} {A : Int × Bool} (hl : (1 : Int) < (L.length : Int)) (hA : Ev (fun k => r6_number.f k (rdOf ByteArray.empty L 1)) A) {r : P11}
    (hr : A.2 = true → Ev (fun k => r6_Parse.l1 k L x7 2 c0 c1 c2 c3 c4 c5 c6 c7 c8 c9 A.1 v1 v2) r) (hz : A.2 = false → r = Zr) : Ev (fun k => r6_Parse.l1 k L x7 1 c0 c1 c2 c3 c4 c5 c6 c7 c8 c9 v0 v1 v2) r := by
  obtain ⟨K1, h1⟩ := hA
  obtain ⟨K2, h2⟩ : Ev (fun k => if A.2 = true then r6_Parse.l1 k L x7 2 c0 c1 c2 c3 c4 c5 c6 c7 c8 c9 A.1 v1 v2 else some Zr) r := by
    cases hb : A.2 with
    | true => exact hr hb
    | false => exact ⟨0, fun k _ => by rw [hz hb]; rfl⟩
  refine ⟨K1 + K2 + 1, fun k hk => ?_⟩
  obtain ⟨m, rfl⟩ : ∃ m, k = m + 1 := ⟨k - 1, by omega⟩
  have q : r6_number.f m (rdOf ByteArray.empty L 1) = _ := h1 m (by omega)
  have q2 := h2 m (by omega)
  show r6_Parse.l1 (m + 1) L x7 1 c0 c1 c2 c3 c4 c5 c6 c7 c8 c9 v0 v1 v2 = _
  rw [r6_Parse.l1, if_pos hl, if_pos (by decide), q, Option.bind_some, if_pos (show wrap64 (1 - 1) = (0 : Int) by unfold wrap64; decide), show wrap64 (1 + 1) = (2 : Int) by unfold wrap64; decide]
  exact q2
theorem n2 {L : List ByteArray} {x7 c0 c1 c2 c3 c4 c5 c6 c7 c8 c9 v0 v1 v2 : Int} {A : Int × Bool} (hl : (2 : Int) < (L.length : Int)) (hA : Ev (fun k => r6_number.f k (rdOf ByteArray.empty L 2)) A) {r : P11}
    (hr : A.2 = true → Ev (fun k => r6_Parse.l1 k L x7 3 c0 c1 c2 c3 c4 c5 c6 c7 c8 c9 v0 A.1 v2) r) (hz : A.2 = false → r = Zr) : Ev (fun k => r6_Parse.l1 k L x7 2 c0 c1 c2 c3 c4 c5 c6 c7 c8 c9 v0 v1 v2) r := by
  obtain ⟨K1, h1⟩ := hA
  obtain ⟨K2, h2⟩ : Ev (fun k => if A.2 = true then r6_Parse.l1 k L x7 3 c0 c1 c2 c3 c4 c5 c6 c7 c8 c9 v0 A.1 v2 else some Zr) r := by
    cases hb : A.2 with
    | true => exact hr hb
    | false => exact ⟨0, fun k _ => by rw [hz hb]; rfl⟩
  refine ⟨K1 + K2 + 1, fun k hk => ?_⟩
  obtain ⟨m, rfl⟩ : ∃ m, k = m + 1 := ⟨k - 1, by omega⟩
  have q : r6_number.f m (rdOf ByteArray.empty L 2) = _ := h1 m (by omega)
  have q2 := h2 m (by omega)
  show r6_Parse.l1 (m + 1) L x7 2 c0 c1 c2 c3 c4 c5 c6 c7 c8 c9 v0 v1 v2 = _
  rw [r6_Parse.l1, if_pos hl, if_pos (by decide), q, Option.bind_some, if_neg (show ¬ wrap64 (2 - 1) = (0 : Int) by unfold wrap64; decide), if_pos (show wrap64 (2 - 1) = (1 : Int) by unfold wrap64; decide), show wrap64 (2 + 1) = (3 : Int) by unfold wrap64; decide]
  exact q2
theorem n3 {L : List ByteArray} {x7 c0 c1 c2 c3 c4 c5 c6 c7 c8 c9 v0 v1 v2 : Int} {A : Int × Bool} (hl : (3 : Int) < (L.length : Int)) (hA : Ev (fun k => r6_number.f k (rdOf ByteArray.empty L 3)) A) {r : P11}
    (hr : A.2 = true → Ev (fun k => r6_Parse.l1 k L x7 4 c0 c1 c2 c3 c4 c5 c6 c7 c8 c9 v0 v1 A.1) r) (hz : A.2 = false → r = Zr) : Ev (fun k => r6_Parse.l1 k L x7 3 c0 c1 c2 c3 c4 c5 c6 c7 c8 c9 v0 v1 v2) r := by
  obtain ⟨K1, h1⟩ := hA
  obtain ⟨K2, h2⟩ : Ev (fun k => if A.2 = true then r6_Parse.l1 k L x7 4 c0 c1 c2 c3 c4 c5 c6 c7 c8 c9 v0 v1 A.1 else some Zr) r := by
    cases hb : A.2 with
    | true => exact hr hb
    | false => exact ⟨0, fun k _ => by rw [hz hb]; rfl⟩
  refine ⟨K1 + K2 + 1, fun k hk => ?_⟩
  obtain ⟨m, rfl⟩ : ∃ m, k = m + 1 := ⟨k - 1, by omega⟩
  have q : r6_number.f m (rdOf ByteArray.empty L 3) = _ := h1 m (by omega)
  have q2 := h2 m (by omega)
  show r6_Parse.l1 (m + 1) L x7 3 c0 c1 c2 c3 c4 c5 c6 c7 c8 c9 v0 v1 v2 = _
  rw [r6_Parse.l1, if_pos hl, if_pos (by decide), q, Option.bind_some, if_neg (show ¬ wrap64 (3 - 1) = (0 : Int) by unfold wrap64; decide), if_neg (show ¬ wrap64 (3 - 1) = (1 : Int) by unfold wrap64; decide), if_pos (show wrap64 (3 - 1) = (2 : Int) by unfold wrap64; decide), show wrap64 (3 + 1) = (4 : Int) by unfold wrap64; decide]
  exact q2
/-- Kinds 0 to 2: what is answered, by the numbers that are read and by May. -/
theorem kind0 (p0 p1 : ByteArray) {A : Int × Bool} {b : Bool} (hA : Ev (fun k => r6_number.f k p1) A) (hb : Ev (fun k => r6_May.f k 0 0 0 A.1 0 0 0 0 0 0) b) :
    Ev (fun k => r6_Parse.l1 k [p0, p1] 0 1 0 0 0 0 0 0 0 0 0 0 0 0 0) (if A.2 = true then mo b 0 0 0 A.1 0 0 0 0 0 0 else Zr) := by
  refine n1 (L := [p0, p1]) (by simp) hA (fun e => ?_) (fun e => by rw [e]; rfl)
  rw [if_pos e]
  refine Ev.succ (fun k => ?_) (j4_ev hb)
  rw [r6_Parse.l1, if_neg (by simp), if_pos rfl]
theorem kind1 (p0 p1 p2 : ByteArray) {A B : Int × Bool} {b : Bool} (hA : Ev (fun k => r6_number.f k p1) A) (hB : Ev (fun k => r6_number.f k p2) B) (hb : Ev (fun k => r6_May.f k 1 A.1 B.1 0 0 0 0 0 0 0) b) :
    Ev (fun k => r6_Parse.l1 k [p0, p1, p2] 1 1 1 0 0 0 0 0 0 0 0 0 0 0 0) (if A.2 = true ∧ B.2 = true then mo b 1 A.1 B.1 0 0 0 0 0 0 0 else Zr) := by
  refine n1 (L := [p0, p1, p2]) (by simp) hA (fun e => ?_) (fun e => by rw [if_neg (fun h => by rw [e] at h; cases h.1)])
  refine n2 (L := [p0, p1, p2]) (by simp) hB (fun e2 => ?_) (fun e2 => by rw [if_neg (fun h => by rw [e2] at h; cases h.2)])
  rw [if_pos ⟨e, e2⟩]
  refine Ev.succ (fun k => ?_) (j4_ev hb)
  rw [r6_Parse.l1, if_neg (by simp), if_neg (by decide), if_pos rfl]
theorem kind2 (p0 p1 p2 p3 : ByteArray) {A B C : Int × Bool} {b : Bool} (hA : Ev (fun k => r6_number.f k p1) A) (hB : Ev (fun k => r6_number.f k p2) B) (hC : Ev (fun k => r6_number.f k p3) C) (hb : Ev (fun k => r6_May.f k 2 A.1 B.1 C.1 0 0 0 0 0 0) b) :
    Ev (fun k => r6_Parse.l1 k [p0, p1, p2, p3] 2 1 2 0 0 0 0 0 0 0 0 0 0 0 0) (if A.2 = true ∧ B.2 = true ∧ C.2 = true then mo b 2 A.1 B.1 C.1 0 0 0 0 0 0 else Zr) := by
  refine n1 (L := [p0, p1, p2, p3]) (by simp) hA (fun e => ?_) (fun e => by rw [if_neg (fun h => by rw [e] at h; cases h.1)])
  refine n2 (L := [p0, p1, p2, p3]) (by simp) hB (fun e2 => ?_) (fun e2 => by rw [if_neg (fun h => by rw [e2] at h; cases h.2.1)])
  refine n3 (L := [p0, p1, p2, p3]) (by simp) hC (fun e3 => ?_) (fun e3 => by rw [if_neg (fun h => by rw [e3] at h; cases h.2.2)])
  rw [if_pos ⟨e, e2, e3⟩]
  refine Ev.succ (fun k => ?_) (j4_ev hb)
  rw [r6_Parse.l1, if_neg (by simp), if_neg (by decide), if_neg (by decide), if_pos rfl]
theorem kind3 (p0 p1 p2 : ByteArray) (hw : p0.toList = (rdOf ByteArray.empty words 3).toList) {y1 m1 d1 y2 m2 d2 : Int} {a c b : Bool} (hA : Ev (fun k => r6_dates.f k p1) (y1, m1, d1, a)) (hB : Ev (fun k => r6_dates.f k p2) (y2, m2, d2, c)) (hb : Ev (fun k => r6_May.f k 3 0 0 0 y1 m1 d1 y2 m2 d2) b) :
    Ev (fun k => r6_Parse.l0 k [p0, p1, p2] wants words 3) (if a = true ∧ c = true then mo b 3 0 0 0 y1 m1 d1 y2 m2 d2 else Zr) := by
  obtain ⟨K1, h1⟩ := hA
  obtain ⟨K2, h2⟩ := hB
  obtain ⟨K3, h3⟩ := hb
  refine ⟨K1 + K2 + K3 + 3, fun k hk => ?_⟩
  obtain ⟨m, rfl⟩ : ∃ m, k = m + 1 + 1 + 1 := ⟨k - 3, by omega⟩
  have q1 : r6_dates.f (m + 1) p1 = _ := h1 (m + 1) (by omega)
  have q2 : r6_dates.f (m + 1) p2 = _ := h2 (m + 1) (by omega)
  have q3 : r6_May.f (m + 1) 3 0 0 0 y1 m1 d1 y2 m2 d2 = _ := h3 (m + 1) (by omega)
  have jt : r6_Parse.j2 (m + 1) true 3 0 0 0 y1 m1 d1 y2 m2 d2 = some Zr := by rw [r6_Parse.j2, if_pos rfl]; rfl
  show r6_Parse.l0 (m + 1 + 1 + 1) [p0, p1, p2] wants words 3 = _
  rw [r6_Parse.l0, if_pos (by decide), if_pos (by simp), if_pos (by decide), if_pos (show (3 : Int) < (words.length : Int) by decide), rd0, if_pos hw, if_pos (show (3 : Int) < (wants.length : Int) by decide), show ((([p0, p1, p2] : List ByteArray).length : Int) != rd wants 3) = false from rfl, r6_Parse.j1, if_neg (by decide), if_pos rfl, if_pos (by simp), rd1, q1, Option.bind_some, if_pos (by simp), rd2, q2, Option.bind_some]
  cases a with
  | false => rw [if_neg (show ¬ (false = true) by decide), if_neg (fun h => by cases h.1)]; exact jt
  | true =>
    rw [if_pos rfl]
    cases c with
    | false => rw [if_neg (show ¬ (false = true) by decide), if_neg (fun h => by cases h.2)]; exact jt
    | true =>
      rw [if_pos rfl, q3, Option.bind_some, if_pos ⟨rfl, rfl⟩, r6_Parse.j2]
      unfold mo
      cases b <;> rfl
/-! Of any text. -/
def Snd (l : List UInt8) (o : P11) : Prop := o = Zr ∨ ∃ K m n w y1 m1 d1 y2 m2 d2, o = (K, m, n, w, y1, m1, d1, y2, m2, d2, true) ∧ l = textL K m n w y1 m1 d1 y2 m2 d2 ∧ ∀ k, rule_Check.f (k + 3) K m n w y1 m1 d1 y2 m2 d2 = some none
theorem snd_mo {l : List UInt8} {b : Bool} {K m n w y1 m1 d1 y2 m2 d2 : Int} (hb : (b = true ∧ ∀ k, rule_Check.f (k + 3) K m n w y1 m1 d1 y2 m2 d2 = some none) ∨ (b = false ∧ ∀ k, rule_Check.f (k + 3) K m n w y1 m1 d1 y2 m2 d2 = some (some 1))) (hl : l = textL K m n w y1 m1 d1 y2 m2 d2) : Snd l (mo b K m n w y1 m1 d1 y2 m2 d2) := by
  rcases hb with ⟨rfl, hc⟩ | ⟨rfl, _⟩
  · exact .inr ⟨K, m, n, w, y1, m1, d1, y2, m2, d2, rfl, hl, hc⟩
  · exact .inl rfl
theorem join4 (a b c d sep : List UInt8) : Lib.join [a, b, c, d] sep = a ++ (sep ++ (b ++ (sep ++ (c ++ (sep ++ d))))) := by simp [Lib.join, List.intercalate]
theorem w01 : wrap64 ((0 : Int) + 1) = 1 := by unfold wrap64; decide
theorem w12 : wrap64 ((1 : Int) + 1) = 2 := by unfold wrap64; decide
theorem w23 : wrap64 ((2 : Int) + 1) = 3 := by unfold wrap64; decide
theorem w34 : wrap64 ((3 : Int) + 1) = 4 := by unfold wrap64; decide
theorem tl_of {p : ByteArray} {l : List UInt8} (h : p.toList = (bs l).toList) : p.data.toList = l := by
  rw [ByteArray.toList_eq, ByteArray.toList_eq, bs_list] at h
  exact h
theorem ref_any (s : ByteArray) (hs : s.size ≤ 300) : ∃ o, Ev (fun k => r6_Parse.f k s) o ∧ Snd s.data.toList o := by
  obtain ⟨L, hL, hm⟩ := cut_ev s 32 (by omega)
  have hj : s.data.toList = Lib.join (L.map (·.data.toList)) [32] := by
    rw [hm, join_split 32 s.data.toList.length s.data.toList (Nat.le_refl _)]
  have hne : L ≠ [] := fun e => by rw [e] at hm; exact split_ne 32 _ hm.symm
  have hL0 : (0 : Int) < (L.length : Int) := by
    have : 0 < L.length := List.length_pos_iff.mpr hne
    omega
  suffices h : ∃ o, Ev (fun k => r6_Parse.l0 k L wants words 0) o ∧ Snd s.data.toList o by
    obtain ⟨o, h1, h2⟩ := h
    exact ⟨o, Ev.bind (g := fun k L => r6_Parse.l0 k L wants words 0) hL h1, h2⟩
  have at4 : ∃ o, Ev (fun k => r6_Parse.l0 k L wants words 4) o ∧ Snd s.data.toList o := ⟨Zr, Ev.succ (g := fun _ => some Zr) (fun k => by rw [r6_Parse.l0, if_neg (by decide)]; rfl) (Ev.const _), .inl rfl⟩
  have at3 : ∃ o, Ev (fun k => r6_Parse.l0 k L wants words 3) o ∧ Snd s.data.toList o := by
    by_cases hc : (rdOf ByteArray.empty L 0).toList = (rdOf ByteArray.empty words 3).toList ∧ (L.length : Int) = rd wants 3
    · obtain ⟨hw, hl⟩ := hc
      have hl3 : L.length = 3 := by have : rd wants 3 = 3 := rfl; omega
      match L, hl3, hw, hj, hm with
      | [p0, p1, p2], _, hw, hj, hm =>
        have e0 : p0.data.toList = W3 := tl_of (l := W3) hw
        have hsz : ∀ p ∈ [p0, p1, p2], p.data.toList.length ≤ 300 := fun p hp => by
          have h1 : s.data.toList.length ≤ 300 := hs
          rw [hj] at h1
          simp only [List.map_cons, List.map_nil, join3, List.length_append, List.length_cons, List.length_nil] at h1
          rcases List.mem_cons.mp hp with rfl | hp
          · omega
          rcases List.mem_cons.mp hp with rfl | hp
          · omega
          obtain rfl := List.mem_singleton.mp hp
          omega
        obtain ⟨y1, m1, d1, a, hA, sA⟩ := dates_any p1 (by have := hsz p1 (by simp); have e : p1.size = p1.data.toList.length := (Array.length_toList).symm; omega)
        obtain ⟨y2, m2, d2, c, hB, sB⟩ := dates_any p2 (by have := hsz p2 (by simp); have e : p2.size = p2.data.toList.length := (Array.length_toList).symm; omega)
        obtain ⟨b, hb, hb2⟩ := may_ev 3 0 0 0 y1 m1 d1 y2 m2 d2
        refine ⟨_, kind3 p0 p1 p2 hw hA hB hb, ?_⟩
        by_cases hac : a = true ∧ c = true
        · rw [if_pos hac]
          refine snd_mo hb2 ?_
          rw [hj]
          simp only [List.map_cons, List.map_nil]
          rw [e0, sA hac.1, sB hac.2, join3]
          rfl
        · rw [if_neg hac]; exact .inl rfl
    · obtain ⟨o, h1, h2⟩ := at4
      exact ⟨o, skip L 3 (by decide) (by decide) hL0 hc (by rw [w34]; exact h1), h2⟩
  have at2 : ∃ o, Ev (fun k => r6_Parse.l0 k L wants words 2) o ∧ Snd s.data.toList o := by
    by_cases hc : (rdOf ByteArray.empty L 0).toList = (rdOf ByteArray.empty words 2).toList ∧ (L.length : Int) = rd wants 2
    · obtain ⟨hw, hl⟩ := hc
      have hl3 : L.length = 4 := by have : rd wants 2 = 4 := rfl; omega
      match L, hl3, hw, hl, hj, hL0 with
      | [p0, p1, p2, p3], _, hw, hl, hj, hL0 =>
        have e0 : p0.data.toList = W2 := tl_of (l := W2) hw
        obtain ⟨A, hA, sA⟩ := num_ev p1
        obtain ⟨B, hB, sB⟩ := num_ev p2
        obtain ⟨C, hC, sC⟩ := num_ev p3
        obtain ⟨b, hb, hb2⟩ := may_ev 2 A.1 B.1 C.1 0 0 0 0 0 0
        refine ⟨_, hit _ 2 (by decide) (by decide) (by decide) hL0 hw hl (kind2 p0 p1 p2 p3 hA hB hC hb), ?_⟩
        by_cases hac : A.2 = true ∧ B.2 = true ∧ C.2 = true
        · rw [if_pos hac]
          refine snd_mo hb2 ?_
          rw [hj]
          simp only [List.map_cons, List.map_nil]
          rw [e0, sA hac.1, sB hac.2.1, sC hac.2.2, join4]
          rfl
        · rw [if_neg hac]; exact .inl rfl
    · obtain ⟨o, h1, h2⟩ := at3
      exact ⟨o, skip L 2 (by decide) (by decide) hL0 hc (by rw [w23]; exact h1), h2⟩
  have at1 : ∃ o, Ev (fun k => r6_Parse.l0 k L wants words 1) o ∧ Snd s.data.toList o := by
    by_cases hc : (rdOf ByteArray.empty L 0).toList = (rdOf ByteArray.empty words 1).toList ∧ (L.length : Int) = rd wants 1
    · obtain ⟨hw, hl⟩ := hc
      have hl3 : L.length = 3 := by have : rd wants 1 = 3 := rfl; omega
      match L, hl3, hw, hl, hj, hL0 with
      | [p0, p1, p2], _, hw, hl, hj, hL0 =>
        have e0 : p0.data.toList = W1 := tl_of (l := W1) hw
        obtain ⟨A, hA, sA⟩ := num_ev p1
        obtain ⟨B, hB, sB⟩ := num_ev p2
        obtain ⟨b, hb, hb2⟩ := may_ev 1 A.1 B.1 0 0 0 0 0 0 0
        refine ⟨_, hit _ 1 (by decide) (by decide) (by decide) hL0 hw hl (kind1 p0 p1 p2 hA hB hb), ?_⟩
        by_cases hac : A.2 = true ∧ B.2 = true
        · rw [if_pos hac]
          refine snd_mo hb2 ?_
          rw [hj]
          simp only [List.map_cons, List.map_nil]
          rw [e0, sA hac.1, sB hac.2, join3]
          rfl
        · rw [if_neg hac]; exact .inl rfl
    · obtain ⟨o, h1, h2⟩ := at2
      exact ⟨o, skip L 1 (by decide) (by decide) hL0 hc (by rw [w12]; exact h1), h2⟩
  by_cases hc : (rdOf ByteArray.empty L 0).toList = (rdOf ByteArray.empty words 0).toList ∧ (L.length : Int) = rd wants 0
  · obtain ⟨hw, hl⟩ := hc
    have hl3 : L.length = 2 := by have : rd wants 0 = 2 := rfl; omega
    match L, hl3, hw, hl, hj, hL0 with
    | [p0, p1], _, hw, hl, hj, hL0 =>
      have e0 : p0.data.toList = W0 := tl_of (l := W0) hw
      obtain ⟨A, hA, sA⟩ := num_ev p1
      obtain ⟨b, hb, hb2⟩ := may_ev 0 0 0 A.1 0 0 0 0 0 0
      refine ⟨_, hit _ 0 (by decide) (by decide) (by decide) hL0 hw hl (kind0 p0 p1 hA hb), ?_⟩
      by_cases hac : A.2 = true
      · rw [if_pos hac]
        refine snd_mo hb2 ?_
        rw [hj]
        simp only [List.map_cons, List.map_nil]
        rw [e0, sA hac, join2]
        rfl
      · rw [if_neg hac]; exact .inl rfl
  · obtain ⟨o, h1, h2⟩ := at1
    exact ⟨o, skip L 0 (by decide) (by decide) hL0 hc (by rw [w01]; exact h1), h2⟩
/-! Of a rule's text. -/
theorem two {α β : Type} {f : α → β} {L : List α} {x y : β} (h : L.map f = [x, y]) : ∃ a b, L = [a, b] ∧ f a = x ∧ f b = y := by
  match L, h with
  | [a, b], h => simp at h; exact ⟨a, b, rfl, h.1, h.2⟩
theorem four {α β : Type} {f : α → β} {L : List α} {x y z u : β} (h : L.map f = [x, y, z, u]) : ∃ a b c d, L = [a, b, c, d] ∧ f a = x ∧ f b = y ∧ f c = z ∧ f d = u := by
  match L, h with
  | [a, b, c, d], h => simp at h; exact ⟨a, b, c, d, rfl, h.1, h.2.1, h.2.2.1, h.2.2.2⟩
theorem At.down {D q : Int} {j i d : Nat} (h : At D q j i d) (hq : -600000000 ≤ q) : At (D - 3652425) (q - 25) j i d := ⟨by have := h.eq; omega, h.hj, h.hi, h.hd, by omega, by have := h.q1; omega⟩
/-- The years of a rule that may be. -/
theorem years {m n w y1 m1 d1 y2 m2 d2 : Int} (h : Ok 3 m n w y1 m1 d1 y2 m2 d2) : y1 ≤ 9999 ∧ y2 ≤ 9999 := by
  rcases h with ⟨e, _⟩ | ⟨e, _⟩ | ⟨e, _⟩ | ⟨_, _, _, _, D, E, hT, h0, h2, hle⟩
  · cases e
  · cases e
  · cases e
  · refine ⟨?_, h2⟩
    obtain ⟨q, j, i, d, hA, ea, _, _, la, lb⟩ := hT.a
    obtain ⟨q', j', i', d', hB, eb, _, _, lc, ld⟩ := hT.b
    refine Decidable.byContradiction fun hn => ?_
    have jj := hA.hj
    have jj' := hB.hj
    have y1' : Yr (q - 25) j = y1 - 10000 := by rw [ea]; unfold Yr; omega
    have y2' : Yr (q' - 25) j' = y2 - 10000 := by rw [eb]; unfold Yr; omega
    have qa : -600000000 ≤ q := by unfold Yr at ea; omega
    have qb : -600000000 ≤ q' := by
      have : 0 ≤ y2 := by rw [eb]; exact year_up hA hB (by rw [← ea]; exact h0) hle
      unfold Yr at eb; omega
    have := year_up (hA.down qa) (hB.down qb) (by rw [y1']; omega) (by omega)
    rw [y2'] at this
    omega
theorem W_blank : (32 : UInt8) ∉ W0 ∧ (32 : UInt8) ∉ W1 ∧ (32 : UInt8) ∉ W2 ∧ (32 : UInt8) ∉ W3 := by decide
theorem text_size {K m n w y1 m1 d1 y2 m2 d2 : Int} (hOk : OkT K m n w y1 m1 d1 y2 m2 d2) : (textL K m n w y1 m1 d1 y2 m2 d2).length ≤ 200 := by
  rcases hOk with ⟨rfl, g1, g2, rfl, rfl, rfl, rfl, rfl, rfl, rfl, rfl⟩ | ⟨rfl, g1, g2, g3, g4, g5, rfl, rfl, rfl, rfl, rfl, rfl, rfl⟩ | ⟨rfl, g1, g2, g3, g4, g5, g6, g7, rfl, rfl, rfl, rfl, rfl, rfl⟩ | ⟨rfl, rfl, rfl, rfl, ⟨a1, a2⟩, ⟨b1, b2⟩, ⟨c1, c2⟩, ⟨e1, e2⟩, ⟨f1, f2⟩, ⟨i1, i2⟩⟩
  · have l1 := il w ⟨by omega, by omega⟩
    simp [textL, W0]; omega
  · have l1 := il m ⟨by omega, by omega⟩
    have l2 := il n ⟨by omega, by omega⟩
    simp [textL, W1]; omega
  · have l1 := il m ⟨by omega, by omega⟩
    have l2 := il n ⟨by omega, by omega⟩
    have l3 := il w ⟨by omega, by omega⟩
    simp [textL, W2]; omega
  · have l1 := date_len y1 m1 d1 ⟨by omega, by omega⟩ ⟨by omega, by omega⟩ ⟨by omega, by omega⟩
    have l2 := date_len y2 m2 d2 ⟨by omega, by omega⟩ ⟨by omega, by omega⟩ ⟨by omega, by omega⟩
    simp [textL, W3]; omega
theorem ref_text {K m n w y1 m1 d1 y2 m2 d2 : Int} (hOk : OkT K m n w y1 m1 d1 y2 m2 d2) (hO : Ok K m n w y1 m1 d1 y2 m2 d2) (hM : Ev (fun k => r6_May.f k K m n w y1 m1 d1 y2 m2 d2) true) : Ev (fun k => r6_Parse.f k (bs (textL K m n w y1 m1 d1 y2 m2 d2))) (K, m, n, w, y1, m1, d1, y2, m2, d2, true) := by
  obtain ⟨L, hL, he⟩ := cut_ev (bs (textL K m n w y1 m1 d1 y2 m2 d2)) 32 (by rw [sz]; have := text_size hOk; omega)
  rw [bs_list] at he
  have fin : ∀ {r : P11}, Ev (fun k => r6_Parse.l0 k L wants words 0) r → Ev (fun k => r6_Parse.f k (bs (textL K m n w y1 m1 d1 y2 m2 d2))) r := fun h => Ev.bind (g := fun k L => r6_Parse.l0 k L wants words 0) hL h
  have eB : ∀ l : List UInt8, (bs l).toList = l := fun l => by rw [ByteArray.toList_eq]; rfl
  obtain ⟨b0, b1, b2, b3⟩ := W_blank
  rcases hOk with ⟨rfl, g1, g2, rfl, rfl, rfl, rfl, rfl, rfl, rfl, rfl⟩ | ⟨rfl, g1, g2, g3, g4, g5, rfl, rfl, rfl, rfl, rfl, rfl, rfl⟩ | ⟨rfl, g1, g2, g3, g4, g5, g6, g7, rfl, rfl, rfl, rfl, rfl, rfl⟩ | ⟨rfl, rfl, rfl, rfl, ⟨a1, a2⟩, ⟨b1', b2'⟩, ⟨c1, c2⟩, ⟨e1, e2⟩, ⟨f1, f2⟩, ⟨i1, i2⟩⟩
  · have hsp : Lib.split (textL 0 0 0 w 0 0 0 0 0 0) [32] = [W0, Lib.itoa w] := by
      show Lib.split (W0 ++ 32 :: Lib.itoa w) [32] = _
      rw [split_cons 32 _ _ b0, split_one 32 _ (itoa_blank w)]
    rw [hsp] at he
    obtain ⟨p0, p1, rfl, q0, q1⟩ := two he
    obtain rfl := bs_of p0 _ q0
    obtain rfl := bs_of p1 _ q1
    refine fin (hit [bs W0, bs (Lib.itoa w)] 0 (by decide) (by decide) (by decide) (by simp) rfl rfl ?_)
    exact kind0 _ _ (num_at w (by omega) (by omega)) hM
  · have hsp : Lib.split (textL 1 m n 0 0 0 0 0 0 0) [32] = [W1, Lib.itoa m, Lib.itoa n] := by
      show Lib.split (W1 ++ 32 :: (Lib.itoa m ++ 32 :: Lib.itoa n)) [32] = _
      rw [split_cons 32 _ _ b1, split_cons 32 _ _ (itoa_blank m), split_one 32 _ (itoa_blank n)]
    rw [hsp] at he
    obtain ⟨p0, p1, p2, rfl, q0, q1, q2⟩ := three he
    obtain rfl := bs_of p0 _ q0
    obtain rfl := bs_of p1 _ q1
    obtain rfl := bs_of p2 _ q2
    refine fin (skip [bs W1, bs (Lib.itoa m), bs (Lib.itoa n)] 0 (by decide) (by decide) (by simp) (fun h => q10 ((show (bs W1).toList = (bs W0).toList from h.1).trans q00)) ?_)
    rw [w01]
    refine hit [bs W1, bs (Lib.itoa m), bs (Lib.itoa n)] 1 (by decide) (by decide) (by decide) (by simp) rfl rfl ?_
    exact kind1 _ _ _ (num_at m (by omega) (by omega)) (num_at n (by omega) (by omega)) hM
  · have hsp : Lib.split (textL 2 m n w 0 0 0 0 0 0) [32] = [W2, Lib.itoa m, Lib.itoa n, Lib.itoa w] := by
      show Lib.split (W2 ++ 32 :: (Lib.itoa m ++ 32 :: (Lib.itoa n ++ 32 :: Lib.itoa w))) [32] = _
      rw [split_cons 32 _ _ b2, split_cons 32 _ _ (itoa_blank m), split_cons 32 _ _ (itoa_blank n), split_one 32 _ (itoa_blank w)]
    rw [hsp] at he
    obtain ⟨p0, p1, p2, p3, rfl, q0, q1, q2, q3⟩ := four he
    obtain rfl := bs_of p0 _ q0
    obtain rfl := bs_of p1 _ q1
    obtain rfl := bs_of p2 _ q2
    obtain rfl := bs_of p3 _ q3
    refine fin (skip [bs W2, bs (Lib.itoa m), bs (Lib.itoa n), bs (Lib.itoa w)] 0 (by decide) (by decide) (by simp) (fun h => q20 ((show (bs W2).toList = (bs W0).toList from h.1).trans q00)) ?_)
    rw [w01]
    refine skip [bs W2, bs (Lib.itoa m), bs (Lib.itoa n), bs (Lib.itoa w)] 1 (by decide) (by decide) (by simp) (fun h => q21 ((show (bs W2).toList = (bs W1).toList from h.1).trans q11)) ?_
    rw [w12]
    refine hit [bs W2, bs (Lib.itoa m), bs (Lib.itoa n), bs (Lib.itoa w)] 2 (by decide) (by decide) (by decide) (by simp) rfl rfl ?_
    exact kind2 _ _ _ _ (num_at m (by omega) (by omega)) (num_at n (by omega) (by omega)) (num_at w (by omega) (by omega)) hM
  · obtain ⟨z1, z2⟩ := years hO
    have hsp : Lib.split (textL 3 0 0 0 y1 m1 d1 y2 m2 d2) [32] = [W3, dateL y1 m1 d1, dateL y2 m2 d2] := by
      show Lib.split (W3 ++ 32 :: (dateL y1 m1 d1 ++ 32 :: dateL y2 m2 d2)) [32] = _
      rw [split_cons 32 _ _ b3, split_cons 32 _ _ (date_blank y1 m1 d1), split_one 32 _ (date_blank y2 m2 d2)]
    rw [hsp] at he
    obtain ⟨p0, p1, p2, rfl, q0, q1, q2⟩ := three he
    obtain rfl := bs_of p0 _ q0
    obtain rfl := bs_of p1 _ q1
    obtain rfl := bs_of p2 _ q2
    refine fin (skip [bs W3, bs (dateL y1 m1 d1), bs (dateL y2 m2 d2)] 0 (by decide) (by decide) (by simp) (fun h => q30 ((show (bs W3).toList = (bs W0).toList from h.1).trans q00)) ?_)
    rw [w01]
    refine skip [bs W3, bs (dateL y1 m1 d1), bs (dateL y2 m2 d2)] 1 (by decide) (by decide) (by simp) (fun h => q31 ((show (bs W3).toList = (bs W1).toList from h.1).trans q11)) ?_
    rw [w12]
    refine skip [bs W3, bs (dateL y1 m1 d1), bs (dateL y2 m2 d2)] 2 (by decide) (by decide) (by simp) (fun h => q32 ((show (bs W3).toList = (bs W2).toList from h.1).trans q22)) ?_
    rw [w23]
    have := kind3 (bs W3) (bs (dateL y1 m1 d1)) (bs (dateL y2 m2 d2)) rfl (dates_at y1 m1 d1 ⟨a1, by omega⟩ ⟨b1', by omega⟩ ⟨c1, by omega⟩) (dates_at y2 m2 d2 ⟨e1, by omega⟩ ⟨f1, by omega⟩ ⟨i1, by omega⟩) hM
    exact this
/-- What is read of a short text, by both. -/
theorem both (s : ByteArray) (hs : s.size ≤ 300) : (∃ K m n w y1 m1 d1 y2 m2 d2, (∀ k, rule_Parse.f (k + 4) s = some (K, m, n, w, y1, m1, d1, y2, m2, d2, none)) ∧ Ev (fun k => r6_Parse.f k s) (K, m, n, w, y1, m1, d1, y2, m2, d2, true)) ∨ ((∀ k, rule_Parse.f (k + 4) s = some (0, 0, 0, 0, 0, 0, 0, 0, 0, 0, some 3)) ∧ Ev (fun k => r6_Parse.f k s) Zr) := by
  have one : ∀ K m n w y1 m1 d1 y2 m2 d2, (∀ k, rule_Check.f (k + 3) K m n w y1 m1 d1 y2 m2 d2 = some none) → s.data.toList = textL K m n w y1 m1 d1 y2 m2 d2 → OkT K m n w y1 m1 d1 y2 m2 d2 → (∀ k, rule_Parse.f (k + 4) s = some (K, m, n, w, y1, m1, d1, y2, m2, d2, none)) := by
    intro K m n w y1 m1 d1 y2 m2 d2 hc hl hOk k
    obtain ⟨h1, h2⟩ := own_text K m n w y1 m1 d1 y2 m2 d2 hOk hc
    have e : s = bs (textL K m n w y1 m1 d1 y2 m2 d2) := bs_of s _ hl
    rw [e, parse_of (k + 4) _ _ K m n w y1 m1 d1 y2 m2 d2 h2 (h1 k), if_pos rfl]
  have okT : ∀ K m n w y1 m1 d1 y2 m2 d2, (∀ k, rule_Check.f (k + 3) K m n w y1 m1 d1 y2 m2 d2 = some none) → OkT K m n w y1 m1 d1 y2 m2 d2 := by
    intro K m n w y1 m1 d1 y2 m2 d2 hc
    rcases chk_all K m n w y1 m1 d1 y2 m2 d2 with ⟨h, _⟩ | h
    · exact h
    · have := h 0; rw [hc 0] at this; cases this
  obtain ⟨o, ho, hS⟩ := ref_any s hs
  rcases hS with rfl | ⟨K, m, n, w, y1, m1, d1, y2, m2, d2, rfl, hl, hc⟩
  · rcases back_s s hs with ⟨K, m, n, w, y1, m1, d1, y2, m2, d2, hb⟩ | hb
    · exfalso
      obtain ⟨hp, U, hU, hU2⟩ := hb 0
      have hc : ∀ k, rule_Check.f (k + 3) K m n w y1 m1 d1 y2 m2 d2 = some none := by
        rcases chk_all K m n w y1 m1 d1 y2 m2 d2 with ⟨_, h⟩ | h
        · exact h
        · have := text_bad 4 K m n w y1 m1 d1 y2 m2 d2 (h 1)
          rw [this] at hU
          cases hU
      have hOk := okT _ _ _ _ _ _ _ _ _ _ hc
      obtain ⟨h1, h2⟩ := own_text K m n w y1 m1 d1 y2 m2 d2 hOk hc
      have e : U = bs (textL K m n w y1 m1 d1 y2 m2 d2) := by
        have := h1 0
        rw [hU] at this
        have h3 := Option.some.inj this
        exact (Prod.mk.inj h3).1
      have es : s = bs (textL K m n w y1 m1 d1 y2 m2 d2) := by
        refine bs_of s _ ?_
        rw [ByteArray.toList_eq, ByteArray.toList_eq, e, bs_list] at hU2
        exact hU2.symm
      rcases may_all K m n w y1 m1 d1 y2 m2 d2 with ⟨hO, _, k, hk⟩ | ⟨hc2, _⟩
      · have hr := ref_text hOk hO (Ev.of (fun k => r6_May.mono _ _ _ _ _ _ _ _ _ _ k) hk)
        rw [← es] at hr
        obtain ⟨K1, r1⟩ := ho
        obtain ⟨K2, r2⟩ := hr
        have a1 : r6_Parse.f (K1 + K2) s = _ := r1 (K1 + K2) (by omega)
        have a2 : r6_Parse.f (K1 + K2) s = _ := r2 (K1 + K2) (by omega)
        rw [a1] at a2
        have h3 := Option.some.inj a2
        simp [Zr] at h3
      · have := hc2 0; rw [hc 0] at this; cases this
    · exact .inr ⟨hb, ho⟩
  · exact .inl ⟨K, m, n, w, y1, m1, d1, y2, m2, d2, one _ _ _ _ _ _ _ _ _ _ hc hl (okT _ _ _ _ _ _ _ _ _ _ hc), ho⟩
end Go.Proofs.YtpagbmkdphdjoaaGreatDoor.PClk

/- The law of RuleTexts, in plain texts: any rule as a text, and the rule of any text, or the errors. -/
set_option linter.unusedVariables false
set_option linter.unusedSimpArgs false
namespace Go.Proofs.YtpagbmkdphdjoaaGreatDoor.PClk
open Go.RowKit Go.Proofs.YtpagbmkdphdjoaaGreatDoor.P Go.Proofs.YtpagbmkdphdjoaaGreatDoorW.PrintWords Go.Proofs.YtpagbmkdphdjoaaGreatDoorW.PrintLast Go.Proofs.YtpagbmkdphdjoaaGreatDoorW.PrintMore
/-- The law's second half: a rule's text, by both. -/
def tail2 (k : Nat) (t338 : ByteArray) (t339 : Option Int) (K m n w y1 m1 d1 y2 m2 d2 : Int) : Option Bool :=
  (r6_May.f k K m n w y1 m1 d1 y2 m2 d2).bind fun t375 => (if t375 = true then (if t339.isNone = true then ((r6_Text.f k K m n w y1 m1 d1 y2 m2 d2).bind fun t379 => (if t338.toList = t379.toList then ((w6_sure.f k).bind fun t380 => (some t380)) else (none))) else (none)) else ((w6_num.f t339).bind fun t376 => (if t376 = 1 then (if t338.toList = ([] : List UInt8) then ((w6_sure.f k).bind fun t377 => (some t377)) else (none)) else (none))))
theorem sure_ev : Ev (fun k => (w6_sure.f k).bind fun t => some t) true := ⟨20, fun k hk => by show (w6_sure.f k).bind _ = _; rw [sure_ok hk]; rfl⟩
theorem second (K m n w y1 m1 d1 y2 m2 d2 : Int) : ∃ T E, (∀ k, rule_Text.f (k + 4) K m n w y1 m1 d1 y2 m2 d2 = some (T, E)) ∧ Ev (fun k => tail2 k T E K m n w y1 m1 d1 y2 m2 d2) true := by
  obtain ⟨K3, hs⟩ := sure_ev
  obtain ⟨b, ⟨K1, hb⟩, hb2⟩ := may_ev K m n w y1 m1 d1 y2 m2 d2
  rcases hb2 with ⟨rfl, hc⟩ | ⟨rfl, hc⟩
  · have hOk : OkT K m n w y1 m1 d1 y2 m2 d2 := by
      rcases chk_all K m n w y1 m1 d1 y2 m2 d2 with ⟨h, _⟩ | h
      · exact h
      · have := h 0; rw [hc 0] at this; cases this
    obtain ⟨h1, _⟩ := own_text K m n w y1 m1 d1 y2 m2 d2 hOk hc
    obtain ⟨K2, h2⟩ := rtext K m n w y1 m1 d1 y2 m2 d2 hOk
    refine ⟨_, none, h1, K1 + K2 + K3, fun k hk => ?_⟩
    have q1 : r6_May.f k K m n w y1 m1 d1 y2 m2 d2 = _ := hb k (by omega)
    have q2 : r6_Text.f k K m n w y1 m1 d1 y2 m2 d2 = _ := h2 k (by omega)
    have q3 : ((w6_sure.f k).bind fun t => some t) = some true := hs k (by omega)
    show tail2 k _ none K m n w y1 m1 d1 y2 m2 d2 = _
    unfold tail2
    rw [q1, Option.bind_some, if_pos rfl, if_pos (show (none : Option Int).isNone = true from rfl), q2, Option.bind_some, if_pos rfl]
    exact q3
  · refine ⟨⟨#[]⟩, some 1, fun k => text_bad (k + 4) K m n w y1 m1 d1 y2 m2 d2 (hc (k + 1)), K1 + K3, fun k hk => ?_⟩
    have q1 : r6_May.f k K m n w y1 m1 d1 y2 m2 d2 = _ := hb k (by omega)
    have q3 : ((w6_sure.f k).bind fun t => some t) = some true := hs k (by omega)
    show tail2 k _ (some 1) K m n w y1 m1 d1 y2 m2 d2 = _
    unfold tail2
    rw [q1, Option.bind_some, if_neg (by decide)]
    show (if (1 : Int) = 1 then (if (⟨#[]⟩ : ByteArray).toList = ([] : List UInt8) then ((w6_sure.f k).bind fun t377 => (some t377)) else none) else none) = _
    rw [if_pos rfl, if_pos (by rw [ByteArray.toList_eq])]
    exact q3
theorem give (K m n w y1 m1 d1 y2 m2 d2 : Int) : w6_giveRule.f K m n w y1 m1 d1 y2 m2 d2 = some (K, m, n, w, y1, m1, d1, y2, m2, d2) := rfl
theorem texts_ok : w6_RuleTexts.Pure := by
  intro K m n w y1 m1 d1 y2 m2 d2 s _ _ _ _ _ _ _ _ _ _ _
  obtain ⟨K3, hs⟩ := sure_ev
  by_cases hl : (s.size : Int) > 300
  · refine ⟨K3, ?_⟩
    unfold w6_RuleTexts.f
    rw [if_pos hl]
    exact hs K3 (Nat.le_refl _)
  · obtain ⟨T, E, hT, K4, h4⟩ := second K m n w y1 m1 d1 y2 m2 d2
    rcases both s (by omega) with ⟨A, a1, a2, a3, a4, a5, a6, a7, a8, a9, hp, K5, h5⟩ | ⟨hp, K5, h5⟩
    · refine ⟨K3 + K4 + K5 + 4, ?_⟩
      have q0 : rule_Text.f (K3 + K4 + K5 + 4) K m n w y1 m1 d1 y2 m2 d2 = _ := hT (K3 + K4 + K5)
      have q1 : rule_Parse.f (K3 + K4 + K5 + 4) s = _ := hp (K3 + K4 + K5)
      have q2 : r6_Parse.f (K3 + K4 + K5 + 4) s = _ := h5 (K3 + K4 + K5 + 4) (by omega)
      unfold w6_RuleTexts.f
      rw [if_neg hl, give, Option.bind_some, q0, Option.bind_some, q1, Option.bind_some, q2, Option.bind_some, if_pos (show (none : Option Int).isNone = true from rfl), if_neg (show ¬ ((true != true) = true) by decide), if_pos rfl, give, Option.bind_some, if_neg (by simp)]
      exact h4 (K3 + K4 + K5 + 4) (by omega)
    · refine ⟨K3 + K4 + K5 + 4, ?_⟩
      have q0 : rule_Text.f (K3 + K4 + K5 + 4) K m n w y1 m1 d1 y2 m2 d2 = _ := hT (K3 + K4 + K5)
      have q1 : rule_Parse.f (K3 + K4 + K5 + 4) s = _ := hp (K3 + K4 + K5)
      have q2 : r6_Parse.f (K3 + K4 + K5 + 4) s = _ := h5 (K3 + K4 + K5 + 4) (by omega)
      unfold w6_RuleTexts.f
      rw [if_neg hl, give, Option.bind_some, q0, Option.bind_some, q1, Option.bind_some, q2, Option.bind_some, if_neg (show ¬ (some (3 : Int)).isNone = true from Bool.false_ne_true)]
      show (if (false != false) = true then _ else _) = _
      rw [if_neg (by decide), if_neg (by decide)]
      show ((w6_num.f (some 3)).bind _) = _
      rw [show w6_num.f (some 3) = some 3 from rfl, Option.bind_some, if_pos rfl, if_neg (by decide)]
      exact h4 (K3 + K4 + K5 + 4) (by omega)
end Go.Proofs.YtpagbmkdphdjoaaGreatDoor.PClk
namespace Go.Proofs.YtpagbmkdphdjoaaGreatDoor.Pure
open Go.RowKit Go.Proofs.YtpagbmkdphdjoaaGreatDoor.P
theorem RuleTexts : w6_RuleTexts.Pure := PClk.texts_ok
end Go.Proofs.YtpagbmkdphdjoaaGreatDoor.Pure
