/- The mathematics of DownTriggers. -/
import Derived.Test.YtgmdaaenhmclfaaPx5
namespace Go.Proofs.Ytgmdaaenhmclfaa.Pure
open Go.RowKit Go.Proofs.Ytgmdaaenhmclfaa.P Go.Proofs.YtgmdaaenhmclfaaW.PrintWords Go.Proofs.YtgmdaaenhmclfaaW.PrintLast
theorem up {α : Type} {f : Nat → Option α} (h : ∀ k, LeO (f k) (f (k + 1))) {k j : Nat} {r : α} (hr : f k = some r) (hkj : k ≤ j) : f j = some r := by
  induction hkj with
  | refl => exact hr
  | step _ ih => exact h _ _ ih
theorem w64 {n : Int} (h0 : -9223372036854775808 ≤ n) (h1 : n ≤ 9223372036854775807) : wrap64 n = n := by unfold wrap64; omega
theorem u64w {n : Int} (h0 : 0 ≤ n) (h1 : n ≤ 9223372036854775807) : IntKind.u64.wrap n = n := by unfold IntKind.wrap; simp [IntKind.bits, IntKind.signed]; omega
theorem u64_nonneg (a : Int) : 0 ≤ IntKind.u64.wrap a := by unfold IntKind.wrap; simp [IntKind.bits, IntKind.signed]; omega
def ln (x : Int) : Int := wrap64 (1 + wrap64 (Int.tmod (IntKind.u64.wrap x) 40))
theorem ln_ok (x : Int) : 1 ≤ ln x ∧ ln x ≤ 40 := by
  unfold ln
  have h := u64_nonneg x
  generalize IntKind.u64.wrap x = u at h ⊢
  rw [Int.tmod_eq_emod_of_nonneg h, w64 (n := u % 40) (by omega) (by omega), w64 (by omega) (by omega)]
  omega
theorem t_ok (x : Int) : 0 ≤ wrap64 (Int.tmod (IntKind.u64.wrap x) 900) ∧ wrap64 (Int.tmod (IntKind.u64.wrap x) 900) < 900 := by
  have h := u64_nonneg x
  generalize IntKind.u64.wrap x = u at h ⊢
  rw [Int.tmod_eq_emod_of_nonneg h, w64 (by omega) (by omega)]
  omega
def el (L : Nat → Int) (s : Int) (j : Nat) : S31 := ⟨(j : Int) + 1, j, 0, 1000, false, L j, j, s⟩
def X (L : Nat → Int) (s : Int) (m : Nat) : List S31 := (List.range' 0 m).map (el L s)
theorem X_len (L : Nat → Int) (s : Int) (m : Nat) : (X L s m).length = m := by simp [X]
theorem X_rd (L : Nat → Int) (s : Int) {m i : Nat} (h : i < m) : rd_T31 (X L s m) (i : Int) = el L s i := by simp [rd_T31, X, h]
theorem X_succ (L : Nat → Int) (s : Int) (m : Nat) : X L s m ++ [el L s m] = X L s (m + 1) := by simp [X, List.range'_concat]
def Ok (L : Nat → Int) : Prop := ∀ j, 1 ≤ L j ∧ L j ≤ 40
def St (s : Int) : Prop := s = -1 ∨ (0 ≤ s ∧ s ≤ 4611686018427387904)
theorem timely_ok {t : Int} (h : 0 ≤ t) (h1 : t ≤ 4611686018427387904) : down_timely.f t = some true := by
  unfold down_timely.f; rw [if_pos h, decide_eq_true h1]
theorem odd_at {a b l f s : Int} (k : Nat) (ha : 1 ≤ a) (hb : 0 ≤ b) (hl : 1 ≤ l) (hl1 : l ≤ 40) (hf : 0 ≤ f) (hfa : f < a) (hs : St s) : down_odd.f (k + 1) a b 0 1000 false l f s = some false := by
  unfold down_odd.f
  rw [if_neg (by omega), if_neg (by omega), timely_ok (by omega) (by omega), Option.bind_some, if_pos rfl, timely_ok (by omega) (by omega), Option.bind_some, if_pos rfl, down_odd.j0, if_neg (by decide), if_neg (by decide), if_neg (by omega), if_neg (by omega), if_neg (by omega), if_neg (by omega)]
  rcases hs with rfl | ⟨h0, h1⟩
  · rw [if_pos rfl]
  · rw [if_neg (by omega), timely_ok h0 h1]; rfl
theorem odd_loop {L : Nat → Int} (hL : Ok L) {s : Int} (hs : St s) {m : Nat} (hm : m ≤ 13) (k : Nat) : ∀ r i : Nat, i + r = m → down_Down__at_1_down_odd_25.l0 (k + r + 2) (X L s m) (m : Int) (i : Int) = some (-1) := by
  intro r
  induction r with
  | zero =>
    intro i h
    rw [down_Down__at_1_down_odd_25.l0, if_neg (by omega)]
  | succ r ih =>
    intro i h
    rw [show k + (r + 1) + 2 = (k + r + 2) + 1 by omega, down_Down__at_1_down_odd_25.l0, if_pos (by omega), if_pos (by omega), if_pos (by rw [X_len]; omega), X_rd L s (by omega)]
    rw [show down_odd.f (k + r + 2) (el L s i).f0 (el L s i).f1 (el L s i).f2 (el L s i).f3 (el L s i).f4 (el L s i).f5 (el L s i).f6 (el L s i).f7 = some false from odd_at (a := (i : Int) + 1) (b := (i : Int)) (l := L i) (f := (i : Int)) (s := s) (k + r + 1) (by omega) (by omega) (hL i).1 (hL i).2 (by omega) (by omega) hs]
    rw [Option.bind_some, if_neg (by decide), show wrap64 ((i : Int) + 1) = ((i + 1 : Nat) : Int) by rw [w64 (by omega) (by omega)]; omega]
    exact ih (i + 1) (by omega)
theorem ids_ok (L : Nat → Int) (s : Int) (m : Nat) : ∀ r i : Nat, i + r ≤ m → idsOk (i : Int) ((m : Int) + 1) ((List.range' i r).map (el L s)) = true := by
  intro r
  induction r with
  | zero => intro i h; rfl
  | succ r ih =>
    intro i h
    rw [List.range'_succ, List.map_cons, idsOk, Bool.and_eq_true, Bool.and_eq_true]
    refine ⟨decide_eq_true (show (i : Int) < (i : Int) + 1 by omega), decide_eq_true (show (i : Int) + 1 < (m : Int) + 1 by omega), ?_⟩
    exact ih (i + 1) (by omega)
theorem begun_ok {L : Nat → Int} (hL : Ok L) {s : Int} (hs : St s) {m k : Nat} (h1 : 1 ≤ m) (hm : m ≤ 13) (hk : 20 ≤ k) : down_begun.f k ((m : Int) + 1) (X L s m) = some ((m : Int) + 1, X L s m, none) := by
  unfold down_begun.f
  rw [if_neg (by omega), if_pos ⟨by omega, by omega, by rw [X_len]; omega, ids_ok L s m m 0 (by omega)⟩]
  have h := odd_loop hL hs hm (k - m - 2) m 0 (by omega)
  rw [show k - m - 2 + m + 2 = k by omega] at h
  unfold down_Down__at_1_down_odd_21.f down_Down__at_1_down_odd_25.f
  rw [X_len, show ((0 : Int)) = ((0 : Nat) : Int) from rfl, h]
  rfl
theorem half_ok {a b : Nat} (ha : a ≤ 13) (hb : b ≤ 13) : wrap64 ((IntKind.u64.wrap (wrap64 ((a : Int) + (b : Int)))) / 2) = (((a + b) / 2 : Nat) : Int) := by
  rw [w64 (n := (a : Int) + b) (by omega) (by omega), u64w (by omega) (by omega), w64 (by omega) (by omega)]
  omega
theorem find_ok {L : Nat → Int} {s : Int} {m : Nat} (h1 : 1 ≤ m) (hm : m ≤ 13) (k : Nat) : ∀ r a b : Nat, a ≤ m - 1 → m - 1 ≤ b → b ≤ m → b - a ≤ r → down_Down_int__at_2_down_List_find_1_23.l0 (k + r + 1) (X L s m) (m : Int) (m : Int) (a : Int) (b : Int) = some (((m - 1 : Nat) : Int), true) := by
  intro r
  induction r with
  | zero =>
    intro a b h2 h3 h4 h5
    have : a = m - 1 := by omega
    subst this
    rw [down_Down_int__at_2_down_List_find_1_23.l0, if_neg (by omega), if_pos (by omega), if_pos (by omega), if_pos (by rw [X_len]; omega), X_rd L s (by omega)]
    have e : wrap64 ((((m - 1 : Nat) : Int) + 1) - (m : Int)) = 0 := by rw [w64 (by omega) (by omega)]; omega
    show (some (((m - 1 : Nat) : Int), (wrap64 ((((m - 1 : Nat) : Int) + 1) - (m : Int)) == 0))) = _
    rw [e]; rfl
  | succ r ih =>
    intro a b h2 h3 h4 h5
    by_cases hab : a < b
    · rw [show k + (r + 1) + 1 = (k + r + 1) + 1 by omega, down_Down_int__at_2_down_List_find_1_23.l0, if_pos (by omega), half_ok (by omega) (by omega), if_pos (by omega), if_pos (by rw [X_len]; omega), X_rd L s (by omega)]
      have e : wrap64 (((((a + b) / 2 : Nat) : Int) + 1) - (m : Int)) = (((a + b) / 2 : Nat) : Int) + 1 - (m : Int) := w64 (by omega) (by omega)
      show (if wrap64 (((((a + b) / 2 : Nat) : Int) + 1) - (m : Int)) < 0 then _ else _) = _
      rw [e]
      by_cases hc : (((a + b) / 2 : Nat) : Int) + 1 - (m : Int) < 0
      · rw [if_pos hc, show wrap64 ((((a + b) / 2 : Nat) : Int) + 1) = (((a + b) / 2 + 1 : Nat) : Int) by rw [w64 (by omega) (by omega)]; omega]
        exact ih _ _ (by omega) h3 h4 (by omega)
      · rw [if_neg hc]
        exact ih _ _ h2 (by omega) (by omega) (by omega)
    · have : a = m - 1 := by omega
      subst this
      rw [down_Down_int__at_2_down_List_find_1_23.l0, if_neg (by omega), if_pos (by omega), if_pos (by omega), if_pos (by rw [X_len]; omega), X_rd L s (by omega)]
      have e : wrap64 ((((m - 1 : Nat) : Int) + 1) - (m : Int)) = 0 := by rw [w64 (by omega) (by omega)]; omega
      show (some (((m - 1 : Nat) : Int), (wrap64 ((((m - 1 : Nat) : Int) + 1) - (m : Int)) == 0))) = _
      rw [e]; rfl
theorem add_first {k : Nat} (hk : 20 ≤ k) : down_Add.f k 0 [] 0 0 0 1000 false 10 0 0 = some (2, [⟨1, 0, 0, 1000, false, 10, 0, -1⟩], 1, none) := by
  have h : down_Add.f 5 0 [] 0 0 0 1000 false 10 0 0 = some (2, [⟨1, 0, 0, 1000, false, 10, 0, -1⟩], 1, none) := by kernel_rfl
  exact up (fun k => down_Add.mono _ _ _ _ _ _ _ _ _ _ k) h (by omega)
theorem add_ok {L : Nat → Int} (hL : Ok L) {m k : Nat} (h1 : 1 ≤ m) (hm : m ≤ 12) (hk : 40 ≤ k) : down_Add.f k ((m : Int) + 1) (X L (-1) m) 0 (m : Int) 0 1000 false (L m) (m : Int) 0 = some ((m : Int) + 2, X L (-1) (m + 1), (m : Int) + 1, none) := by
  unfold down_Add.f
  rw [begun_ok hL (.inl rfl) h1 (by omega) (by omega)]
  have e := odd_at (a := (m : Int) + 1) (b := m) (l := L m) (f := m) (s := -1) (k - 1) (by omega) (by omega) (hL m).1 (hL m).2 (by omega) (by omega) (.inl rfl)
  rw [show k - 1 + 1 = k by omega] at e
  have f := find_ok (L := L) (s := -1) h1 (by omega) (k - m - 1) m 0 m (by omega) (by omega) (by omega) (by omega)
  rw [show k - m - 1 + m + 1 = k by omega] at f
  rw [Option.bind_some, if_pos (show (none : Option Int).isNone = true from rfl), e, Option.bind_some, if_neg (by decide)]
  unfold down_List_find.f down_Down_int__at_2_down_List_find_1_23.f
  simp only [X_len]
  rw [show (0 : Int) = ((0 : Nat) : Int) from rfl, f, Option.bind_some, Option.bind_some, if_pos (show ((m : Int) > ((0 : Nat) : Int)) by omega), show k = (k - 1) + 1 by omega, down_Add.j0, if_neg (show ¬ ((!true) = true) by decide), if_neg (by rw [X_len]; omega), if_neg (by show ¬ ((m : Int) + 1 ≥ 2147483648); omega), if_pos (by rw [X_len]; omega)]
  show some (wrap64 ((m : Int) + 1 + 1), X L (-1) m ++ [el L (-1) m], (m : Int) + 1, none) = _
  rw [X_succ, w64 (by omega) (by omega), show (m : Int) + 1 + 1 = (m : Int) + 2 by omega]
theorem span0 (L : Nat → Int) (i : Nat) : down_Down_span.f (el L (-1) i).f0 (el L (-1) i).f1 (el L (-1) i).f2 (el L (-1) i).f3 (el L (-1) i).f4 (el L (-1) i).f5 (el L (-1) i).f6 (el L (-1) i).f7 = some (0, 0, false) := by
  unfold down_Down_span.f
  rw [if_neg (show ¬ (el L (-1) i).f4 = true from Bool.false_ne_true), if_pos (show (el L (-1) i).f7 = -1 from rfl)]
theorem depth0_loop {L : Nat → Int} {m : Nat} (hm : m ≤ 13) (k : Nat) (o q c : Int) : ∀ r i : Nat, i + r = m → down_Depth.l0 (k + r + 1) o q c (X L (-1) m) (m : Int) (i : Int) = some c := by
  intro r
  induction r with
  | zero => intro i h; rw [down_Depth.l0, if_neg (by omega)]
  | succ r ih =>
    intro i h
    rw [show k + (r + 1) + 1 = (k + r + 1) + 1 by omega, down_Depth.l0, if_pos (by omega), if_pos (by omega), if_pos (by rw [X_len]; omega), X_rd L (-1) (by omega), span0, Option.bind_some, if_neg Bool.false_ne_true]
    rw [show wrap64 ((i : Int) + 1) = ((i + 1 : Nat) : Int) by rw [w64 (by omega) (by omega)]; omega]
    exact ih (i + 1) (by omega)
theorem depth0_ok {L : Nat → Int} (hL : Ok L) {m k : Nat} (h1 : 1 ≤ m) (hm : m ≤ 13) (hk : 40 ≤ k) (o q : Int) : down_Depth.f k ((m : Int) + 1) (X L (-1) m) o q = some 0 := by
  unfold down_Depth.f
  rw [begun_ok hL (.inl rfl) h1 hm (by omega)]
  have h := depth0_loop (L := L) hm (k - m - 1) o q 0 m 0 (by omega)
  rw [show k - m - 1 + m + 1 = k by omega] at h
  show down_Depth.l0 k o q 0 (X L (-1) m) ((X L (-1) m).length : Int) 0 = _
  rw [X_len]
  exact h
theorem span_ok {L : Nat → Int} (hL : Ok L) {t : Int} (ht : 0 ≤ t) (ht1 : t < 900) (i : Nat) : down_Down_span.f (el L t i).f0 (el L t i).f1 (el L t i).f2 (el L t i).f3 (el L t i).f4 (el L t i).f5 (el L t i).f6 (el L t i).f7 = some (t, t + L i, true) := by
  have h := hL i
  show down_Down_span.f ((i : Int) + 1) (i : Int) 0 1000 false (L i) (i : Int) t = _
  unfold down_Down_span.f
  rw [if_neg Bool.false_ne_true, if_neg (by omega), w64 (n := 4611686018427387904 - t) (by omega) (by omega)]
  unfold mn
  rw [if_neg (by omega), w64 (by omega) (by omega)]
theorem depth_loop {L : Nat → Int} (hL : Ok L) {t : Int} (ht : 0 ≤ t) (ht1 : t < 900) {m : Nat} (hm : m ≤ 13) (k o : Nat) (q : Int) (hq : t ≤ q) : ∀ (r i : Nat) (c : Int), i + r = m → 0 ≤ c → c ≤ i → down_Depth.l0 (k + r + 1) (o : Int) q c (X L t m) (m : Int) (i : Int) = some (if i ≤ o ∧ o < m ∧ q < t + L o then c + 1 else c) := by
  intro r
  induction r with
  | zero => intro i c h h0 h1; rw [down_Depth.l0, if_neg (by omega), if_neg (by omega)]
  | succ r ih =>
    intro i c h h0 h1
    rw [show k + (r + 1) + 1 = (k + r + 1) + 1 by omega, down_Depth.l0, if_pos (by omega), if_pos (by omega), if_pos (by rw [X_len]; omega), X_rd L t (by omega), span_ok hL ht ht1 i, Option.bind_some, if_pos rfl]
    have e1 : wrap64 ((i : Int) + 1) = ((i + 1 : Nat) : Int) := by rw [w64 (by omega) (by omega)]; omega
    have e2 : wrap64 (c + 1) = c + 1 := w64 (by omega) (by omega)
    rw [e1, e2]
    show (if (i : Int) = (o : Int) then (if t ≤ q then (if q < t + L i then _ else _) else _) else _) = _
    by_cases ho : (i : Int) = (o : Int)
    · have : i = o := by omega
      subst this
      rw [if_pos rfl, if_pos hq]
      by_cases hl : q < t + L i
      · rw [if_pos hl, ih (i + 1) (c + 1) (by omega) (by omega) (by omega), if_neg (by omega), if_pos ⟨by omega, by omega, hl⟩]
      · rw [if_neg hl, ih (i + 1) c (by omega) (by omega) (by omega), if_neg (by omega), if_neg (fun hh => hl hh.2.2)]
    · rw [if_neg ho, ih (i + 1) c (by omega) (by omega) (by omega)]
      have hio : i ≠ o := fun e => ho (by rw [e])
      by_cases hh : i ≤ o ∧ o < m ∧ q < t + L o
      · rw [if_pos hh, if_pos ⟨by omega, hh.2⟩]
      · rw [if_neg hh, if_neg (fun h2 => hh ⟨by omega, h2.2⟩)]
theorem depth_ok {L : Nat → Int} (hL : Ok L) {t : Int} (ht : 0 ≤ t) (ht1 : t < 900) {m k : Nat} (h1 : 1 ≤ m) (hm : m ≤ 13) (hk : 40 ≤ k) (o : Nat) (ho : o < m) (q : Int) (hq : t ≤ q) : down_Depth.f k ((m : Int) + 1) (X L t m) (o : Int) q = some (if q < t + L o then 1 else 0) := by
  unfold down_Depth.f
  rw [begun_ok hL (.inr ⟨ht, by omega⟩) h1 hm (by omega)]
  have h := depth_loop hL ht ht1 hm (k - m - 1) o q hq m 0 0 (by omega) (by omega) (by omega)
  rw [show k - m - 1 + m + 1 = k by omega] at h
  show down_Depth.l0 k (o : Int) q 0 (X L t m) ((X L t m).length : Int) 0 = _
  rw [X_len]
  refine h.trans ?_
  by_cases hl : q < t + L o
  · rw [if_pos ⟨by omega, ho, hl⟩, if_pos hl]; rfl
  · rw [if_neg (fun hh => hl hh.2.2), if_neg hl]
theorem probL_same (L : Nat → Int) (t : Int) : ∀ r i : Nat, 1 ≤ i → probL 0 t ((List.range' i r).map (el L (-1))) = (List.range' i r).map (el L (-1)) := by
  intro r
  induction r with
  | zero => intro i _; rfl
  | succ r ih =>
    intro i hi
    rw [List.range'_succ, List.map_cons, probL, if_neg (fun h => by have h2 : (i : Int) = 0 := h.2.1; omega), ih (i + 1) (by omega)]
theorem probF_same (L : Nat → Int) (t : Int) : ∀ (r i : Nat) (f : Int → Int), 1 ≤ i → probF 0 t ((List.range' i r).map (el L (-1))) f = f := by
  intro r
  induction r with
  | zero => intro i f _; rfl
  | succ r ih =>
    intro i f hi
    rw [List.range'_succ, List.map_cons, probF, if_neg (fun h => by have h2 : (i : Int) = 0 := h.2.1; omega), ih (i + 1) f (by omega)]
theorem chain_all (L : Nat → Int) (t : Int) : ∀ (r i : Nat) (f : Int → Int), 1 ≤ i → f (i : Int) ≠ 0 → chainZ t ((List.range' i r).map (el L (-1))) f = (List.range' i r).map (el L t) := by
  intro r
  induction r with
  | zero => intro i f _ _; rfl
  | succ r ih =>
    intro i f hi hf
    rw [List.range'_succ, List.map_cons, List.map_cons, chainZ, if_neg (show ¬ (el L (-1) i).f6 = 0 by show ¬ (i : Int) = 0; omega), if_pos (show (el L (-1) i).f7 = -1 from rfl), if_neg (show ¬ f (el L (-1) i).f6 = 0 from hf)]
    rw [ih (i + 1) _ (by omega) (by show setOne f ((i : Int) + 1) ((i + 1 : Nat) : Int) ≠ 0; unfold setOne; rw [if_pos (by omega)]; decide)]
    rfl
theorem probZ_ok (L : Nat → Int) {t : Int} (ht : 0 ≤ t) (ht1 : t < 900) (m : Nat) : probZ 0 t (X L (-1) (m + 1)) = X L t (m + 1) := by
  unfold probZ X
  rw [List.range'_succ, List.map_cons, List.map_cons]
  have hh : hit 0 t (el L (-1) 0) := ⟨rfl, rfl, rfl, rfl, ht, show t < 1000 by omega⟩
  rw [probL, if_pos hh, probF, if_pos hh, probL_same L t m (0 + 1) (by omega), probF_same L t m (0 + 1) _ (by omega), chainZ, if_pos (show (startAt t (el L (-1) 0)).f6 = 0 from rfl)]
  rw [chain_all L t m (0 + 1) _ (by omega) (by show setOne (fun _ => 0) (((0 : Nat) : Int) + 1) ((0 + 1 : Nat) : Int) ≠ 0; unfold setOne; rw [if_pos (by rfl)]; decide)]
  rfl
theorem wf_small {n : Int} (h0 : 0 ≤ n) (h1 : n ≤ 100) : (Lit.int .i64 n).wf = true := by
  simp only [Lit.wf, IntKind.min, IntKind.max, IntKind.signed, IntKind.bits, Bool.and_eq_true, decide_eq_true_eq, if_true]
  omega
theorem wfAll_ok (L : Nat → Int) (s : Int) {m : Nat} (hm : m ≤ 13) : wfAll (X L s m) = true := by
  unfold wfAll
  rw [List.all_eq_true]
  intro d hd
  unfold X at hd
  obtain ⟨j, hj, rfl⟩ := List.mem_map.mp hd
  have hj2 := List.mem_range'_1.mp hj
  rw [Bool.and_eq_true]
  exact ⟨wf_small (show 0 ≤ (j : Int) + 1 by omega) (show (j : Int) + 1 ≤ 100 by omega), wf_small (show 0 ≤ (j : Int) by omega) (show (j : Int) ≤ 100 by omega)⟩
theorem problem_ok {L : Nat → Int} (hL : Ok L) {t : Int} (ht : 0 ≤ t) (ht1 : t < 900) {m k : Nat} (hm : m + 1 ≤ 13) (hk : 40 ≤ k) : down_Problem.f k (((m + 1 : Nat) : Int) + 1) (X L (-1) (m + 1)) 0 t = some (((m + 1 : Nat) : Int) + 1, X L t (m + 1)) := by
  unfold down_Problem.f
  rw [begun_ok hL (.inl rfl) (by omega) hm (by omega), Option.bind_some]
  unfold probIf
  rw [if_pos ⟨rfl, ht, by omega, by rw [X_len]; omega, by rw [X_len]; omega, wfAll_ok L _ hm⟩, probZ_ok L ht ht1]
theorem sure_ok {k : Nat} (hk : 20 ≤ k) : belvederelaw18_sure.f k = some true := by
  have h : belvederelaw18_sure.f 10 = some true := by decide +kernel
  exact up belvederelaw18_sure.mono h (by omega)
def Lx (l0 : List Int) : Nat → Int
  | 0 => 10
  | j + 1 => ln (rd l0 (j : Int))
theorem Lx_ok (l0 : List Int) : Ok (Lx l0) := by
  intro j
  cases j with
  | zero => exact ⟨by show (1 : Int) ≤ 10; decide, by show (10 : Int) ≤ 40; decide⟩
  | succ j => exact ln_ok _
theorem loop2 (l0 : List Int) {n : Nat} (hn : n ≤ 12) (hl : n ≤ l0.length) {t : Int} (ht : 0 ≤ t) (ht1 : t < 900) (k : Nat) : ∀ r i : Nat, i + r = n → belvederelaw18_DownTriggers.l2 (k + r + 60) l0 (n : Int) t (i : Int) (((n + 1 : Nat) : Int) + 1) (X (Lx l0) t (n + 1)) = some true := by
  have hL := Lx_ok l0
  intro r
  induction r with
  | zero =>
    intro i h
    have e0 : (0 : Int) = ((0 : Nat) : Int) := rfl
    have e9 : wrap64 (t + 9) = t + 9 := w64 (by omega) (by omega)
    have e10 : wrap64 (t + 10) = t + 10 := w64 (by omega) (by omega)
    rw [show k + 0 + 60 = (k + 59) + 1 by omega, belvederelaw18_DownTriggers.l2, if_neg (by omega), e9, e10, e0]
    have h10 : Lx l0 0 = 10 := rfl
    rw [depth_ok hL ht ht1 (by omega) (by omega) (by omega) 0 (by omega) (t + 9) (by omega), if_pos (by omega), Option.bind_some, if_pos rfl]
    rw [depth_ok hL ht ht1 (by omega) (by omega) (by omega) 0 (by omega) (t + 10) (by omega), if_neg (by omega), Option.bind_some, if_pos (show (0 : Int) = ((0 : Nat) : Int) from rfl), sure_ok (by omega)]
    rfl
  | succ r ih =>
    intro i h
    have hi := hL (i + 1)
    have e1 : wrap64 ((i : Int) + 1) = ((i + 1 : Nat) : Int) := by rw [w64 (by omega) (by omega)]; omega
    have eL : wrap64 (1 + (wrap64 (Int.tmod (IntKind.u64.wrap (rd l0 (i : Int))) 40))) = Lx l0 (i + 1) := rfl
    have e2 : wrap64 (t + Lx l0 (i + 1)) = t + Lx l0 (i + 1) := w64 (by omega) (by omega)
    have e3 : wrap64 (t + Lx l0 (i + 1) - 1) = t + Lx l0 (i + 1) - 1 := w64 (by omega) (by omega)
    rw [show k + (r + 1) + 60 = (k + r + 60) + 1 by omega, belvederelaw18_DownTriggers.l2, if_pos (by omega), if_pos (by omega), if_pos (by omega), eL, e1, e2, e3]
    rw [depth_ok hL ht ht1 (by omega) (by omega) (by omega) (i + 1) (by omega) t (by omega), if_pos (by omega), Option.bind_some, if_pos rfl]
    rw [depth_ok hL ht ht1 (by omega) (by omega) (by omega) (i + 1) (by omega) (t + Lx l0 (i + 1) - 1) (by omega), if_pos (by omega), Option.bind_some, if_pos rfl]
    rw [depth_ok hL ht ht1 (by omega) (by omega) (by omega) (i + 1) (by omega) (t + Lx l0 (i + 1)) (by omega), if_neg (by omega), Option.bind_some, if_pos rfl]
    exact ih (i + 1) (by omega)
theorem loop1 (l0 : List Int) {n : Nat} (hn : n ≤ 12) (hl : n ≤ l0.length) {t : Int} (ht : 0 ≤ t) (ht1 : t < 900) (k : Nat) : ∀ r i : Nat, i + r = n + 1 → belvederelaw18_DownTriggers.l1 (k + r + n + 61) l0 (n : Int) t (i : Int) (((n + 1 : Nat) : Int) + 1) (X (Lx l0) (-1) (n + 1)) = some true := by
  have hL := Lx_ok l0
  intro r
  induction r with
  | zero =>
    intro i h
    rw [show k + 0 + n + 61 = (k + n + 60) + 1 by omega, belvederelaw18_DownTriggers.l1, if_neg (by omega), problem_ok hL ht ht1 (by omega) (by omega), Option.bind_some]
    exact loop2 l0 hn hl ht ht1 k n 0 (by omega)
  | succ r ih =>
    intro i h
    have e1 : wrap64 ((i : Int) + 1) = ((i + 1 : Nat) : Int) := by rw [w64 (by omega) (by omega)]; omega
    rw [show k + (r + 1) + n + 61 = (k + r + n + 61) + 1 by omega, belvederelaw18_DownTriggers.l1, if_pos (by omega), depth0_ok hL (by omega) (by omega) (by omega), Option.bind_some, if_pos rfl, e1]
    exact ih (i + 1) (by omega)
theorem loop0 (l0 : List Int) (a1 : Int) {n : Nat} (hn : n ≤ 12) (hl : n ≤ l0.length) (k : Nat) : ∀ r i : Nat, i + r = n → belvederelaw18_DownTriggers.l0 (k + r + n + n + 63) l0 a1 (n : Int) (i : Int) (((i + 1 : Nat) : Int) + 1) (X (Lx l0) (-1) (i + 1)) = some true := by
  have hL := Lx_ok l0
  intro r
  induction r with
  | zero =>
    intro i h
    have : i = n := by omega
    subst this
    have ht := t_ok a1
    rw [show k + 0 + i + i + 63 = (k + (i + 1) + i + 61) + 1 by omega, belvederelaw18_DownTriggers.l0, if_neg (by omega)]
    exact loop1 l0 hn hl ht.1 ht.2 k (i + 1) 0 (by omega)
  | succ r ih =>
    intro i h
    have e1 : wrap64 ((i : Int) + 1) = ((i + 1 : Nat) : Int) := by rw [w64 (by omega) (by omega)]; omega
    have e2 : wrap64 ((i : Int) + 2) = ((i + 1 : Nat) : Int) + 1 := by rw [w64 (by omega) (by omega)]; omega
    have eL : wrap64 (1 + (wrap64 (Int.tmod (IntKind.u64.wrap (rd l0 (i : Int))) 40))) = Lx l0 (i + 1) := rfl
    rw [show k + (r + 1) + n + n + 63 = (k + r + n + n + 63) + 1 by omega, belvederelaw18_DownTriggers.l0, if_pos (by omega), if_pos (by omega), if_pos (by omega), eL, e1, e2, add_ok hL (by omega) (by omega) (by omega), Option.bind_some, if_pos (show (none : Option Int).isNone = true from rfl), if_pos rfl]
    have h2 := ih (i + 1) (by omega)
    rw [show ((i + 1 + 1 : Nat) : Int) + 1 = ((i + 1 : Nat) : Int) + 2 by omega] at h2
    exact h2
theorem triggers_ok : belvederelaw18_DownTriggers.Pure := by
  intro l0 a1 _ _ _ _
  obtain ⟨n, hn⟩ : ∃ n, n = min l0.length 12 := ⟨_, rfl⟩
  refine ⟨n + n + n + 63, ?_⟩
  have e : mn (l0.length : Int) 12 = (n : Int) := by
    unfold mn
    by_cases h : (12 : Int) < (l0.length : Int)
    · rw [if_pos h]; omega
    · rw [if_neg h]; omega
  unfold belvederelaw18_DownTriggers.f
  rw [add_first (by omega), Option.bind_some, if_pos (show (none : Option Int).isNone = true from rfl), e]
  have h := loop0 l0 a1 (n := n) (by omega) (by omega) 0 n 0 (by omega)
  rw [show 0 + n + n + n + 63 = n + n + n + 63 by omega] at h
  exact h
end Go.Proofs.Ytgmdaaenhmclfaa.Pure
