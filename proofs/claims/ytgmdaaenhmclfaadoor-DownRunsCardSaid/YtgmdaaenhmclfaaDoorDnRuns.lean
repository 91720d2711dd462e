/- The mathematics of DownRuns, first part: the document's functions of layer 18 answer, at lists that may be, as the program's do. -/
import Derived.Test.YtgmdaaenhmclfaaDoorPx9
import Derived.Test.YtgmdaaenhmclfaaDoorPx14
import Derived.Test.YtgmdaaenhmclfaaDoorDnB
set_option linter.unusedVariables false
set_option linter.unusedSimpArgs false
namespace Go.Proofs.YtgmdaaenhmclfaaDoor.Dn
open Go.RowKit Go.Proofs.YtgmdaaenhmclfaaDoor.P Go.Proofs.YtgmdaaenhmclfaaDoorW.PrintWords Go.Proofs.YtgmdaaenhmclfaaDoorW.PrintLast
/-- From some number of rounds on. -/
def Ev {α : Type} (f : Nat → Option α) (r : α) : Prop := ∃ K, ∀ k, K ≤ k → f k = some r
/-- A downtime as the document's. -/
def cv (d : S47) : S30 := ⟨d.f0, d.f1, d.f2, d.f3, d.f4, d.f5, d.f6, d.f7⟩
def cl (l : List S47) : List S30 := l.map cv
theorem cl_len (l : List S47) : (cl l).length = l.length := by simp [cl]
theorem rd30 {l : List S47} {i : Nat} (h : i < l.length) : rd_T30 (cl l) (i : Int) = cv l[i] := by simp [rd_T30, cl, h]
theorem rd30m (a : List S47) (d : S47) (r : List S47) : rd_T30 (cl (a ++ d :: r)) (a.length : Int) = cv d := by
  rw [rd30 (by simp)]; simp
theorem clset (a : List S47) (d e : S47) (r : List S47) : (cl (a ++ d :: r)).set a.length (cv e) = cl ((a ++ [e]) ++ r) := by simp [cl]
theorem succ_w {i n : Nat} (h : i < n) (hn : n ≤ 4096) : wrap64 ((i : Int) + 1) = ((i + 1 : Nat) : Int) := by rw [w64 (by omega) (by omega)]; omega
theorem rtime_t {t : Int} (h : 0 ≤ t ∧ t ≤ 4611686018427387904) : r18_time.f t = some true := by
  unfold r18_time.f; rw [if_pos h.1, decide_eq_true h.2]
theorem rtime_f {t : Int} (h : ¬ (0 ≤ t ∧ t ≤ 4611686018427387904)) : r18_time.f t = some false := by
  unfold r18_time.f
  by_cases h0 : t ≥ 0
  · rw [if_pos h0, decide_eq_false (fun h1 => h ⟨h0, h1⟩)]
  · rw [if_neg h0]
/-- A downtime's kind. -/
def kd (d : S47) : Int := if d.f4 = true then 1 else if d.f6 = 0 then 2 else 3
theorem kind_ok {d : S47} (h : OkD d) (k : Nat) : r18_Kind.f (k + 2) d.f0 d.f1 d.f2 d.f3 d.f4 d.f5 d.f6 d.f7 = some (kd d) := by
  obtain ⟨h1, h2, h3, h4, h5, h6⟩ := h
  have main : r18_Kind.j0 (k + 2) false d.f0 d.f1 d.f2 d.f3 d.f4 d.f5 d.f6 d.f7 = some (kd d) := by
    rw [r18_Kind.j0, if_neg (by decide)]
    unfold kd
    rcases h6 with ⟨a, b, c, e⟩ | ⟨a, b, c, e, f, g⟩
    · rw [if_pos a, if_pos b, if_pos c, if_pos e, if_pos a]
    · have a' : ¬ d.f4 = true := by rw [a]; decide
      rw [if_neg a', if_neg a', if_neg (by omega), r18_Kind.j1, if_neg (by rw [decide_eq_false (by omega)]; decide)]
      by_cases h60 : d.f6 = 0
      · rw [if_pos h60, if_pos h60]
      · rw [if_neg h60, if_neg h60, if_pos (by omega), if_pos c]
  unfold r18_Kind.f
  rw [if_neg (by omega), if_neg (by omega), rtime_t ⟨h3, by omega⟩, Option.bind_some, if_pos rfl, rtime_t ⟨by omega, h4⟩, Option.bind_some, if_pos rfl, if_neg (by omega)]
  by_cases h7 : d.f7 = -1
  · rw [if_pos h7]; exact main
  · have ht : 0 ≤ d.f7 ∧ d.f7 ≤ 4611686018427387904 := by
      rcases h6 with ⟨_, _, _, e⟩ | ⟨_, _, _, _, _, e | e⟩
      · exact absurd e h7
      · exact absurd e h7
      · exact e
    rw [if_neg h7, rtime_t ht, Option.bind_some]
    exact main
theorem kind_no {d : S47} (h : ¬ OkD d) (h7 : d.f7 = -1) (k : Nat) : r18_Kind.f (k + 2) d.f0 d.f1 d.f2 d.f3 d.f4 d.f5 d.f6 d.f7 = some 0 := by
  have jt : ∀ a b c e f g i j, r18_Kind.j0 (k + 2) true a b c e f g i j = some 0 := fun a b c e f g i j => by rw [r18_Kind.j0, if_pos rfl]
  unfold r18_Kind.f
  by_cases h1 : d.f0 < 1
  · rw [if_pos h1, jt]
  rw [if_neg h1]
  by_cases h2 : d.f1 < 0
  · rw [if_pos h2, jt]
  rw [if_neg h2]
  by_cases h3 : 0 ≤ d.f2 ∧ d.f2 ≤ 4611686018427387904
  rotate_left 1
  · rw [rtime_f h3, Option.bind_some, if_neg (by decide), jt]
  rw [rtime_t h3, Option.bind_some, if_pos rfl]
  by_cases h4 : 0 ≤ d.f3 ∧ d.f3 ≤ 4611686018427387904
  rotate_left 1
  · rw [rtime_f h4, Option.bind_some, if_neg (by decide), jt]
  rw [rtime_t h4, Option.bind_some, if_pos rfl]
  by_cases h5 : d.f2 ≥ d.f3
  · rw [if_pos h5, jt]
  rw [if_neg h5, if_pos h7, r18_Kind.j0, if_neg (by decide)]
  by_cases h6 : d.f4 = true
  · rw [if_pos h6]
    by_cases h8 : d.f6 = 0
    · rw [if_pos h8]
      by_cases h9 : d.f5 = 0
      · exact absurd ⟨by omega, by omega, h3.1, h4.2, by omega, .inl ⟨h6, h8, h9, h7⟩⟩ h
      · rw [if_neg h9]
    · rw [if_neg h8]
  · have h6' : d.f4 = false := by cases hh : d.f4 with | true => exact absurd hh h6 | false => rfl
    rw [if_neg h6]
    have j1 : ∀ b : Bool, (b = false → 1 ≤ d.f5 ∧ d.f5 ≤ 34560000) → r18_Kind.j1 (k + 1) b d.f0 d.f1 d.f2 d.f3 d.f4 d.f5 d.f6 d.f7 = some 0 := by
      intro b hb
      rw [r18_Kind.j1]
      cases b with
      | true => rw [if_pos rfl]
      | false =>
        have hb := hb rfl
        rw [if_neg (by decide)]
        by_cases h8 : d.f6 = 0
        · exact absurd ⟨by omega, by omega, h3.1, h4.2, by omega, .inr ⟨h6', by omega, by omega, hb.1, hb.2, .inl h7⟩⟩ h
        · rw [if_neg h8]
          by_cases h9 : d.f6 > 0
          · rw [if_pos h9]
            by_cases h10 : d.f6 < d.f0
            · exact absurd ⟨by omega, by omega, h3.1, h4.2, by omega, .inr ⟨h6', by omega, by omega, hb.1, hb.2, .inl h7⟩⟩ h
            · rw [if_neg h10]
          · rw [if_neg h9]
    by_cases h8 : d.f5 < 1
    · rw [if_pos h8]; exact j1 true (fun e => by cases e)
    · rw [if_neg h8]
      exact j1 _ (fun e => ⟨by omega, by have := of_decide_eq_false e; omega⟩)
/-! The list as it counts. -/
theorem own_loop {nx : Int} {l : List S47} (h : OkL nx l) (k : Nat) : ∀ r i : Nat, i + r = l.length → r18_Own.l0 (k + r + 3) (i : Int) nx (cl l) = some (nx, cl l, true) := by
  have hl := h.len
  intro r
  induction r with
  | zero =>
    intro i hi
    rw [r18_Own.l0, cl_len, if_neg (by omega)]
  | succ r ih =>
    intro i hi
    have hlt : i < l.length := by omega
    have hm := List.getElem_mem hlt
    have hb := h.bd _ hm
    rw [show k + (r + 1) + 3 = (k + r + 3) + 1 by omega, r18_Own.l0, cl_len, if_pos (by omega), if_pos (by omega), rd30 hlt]
    rw [show r18_Kind.f (k + r + 3) (cv l[i]).f0 (cv l[i]).f1 (cv l[i]).f2 (cv l[i]).f3 (cv l[i]).f4 (cv l[i]).f5 (cv l[i]).f6 (cv l[i]).f7 = some (kd l[i]) from kind_ok (h.ok _ hm) (k + r + 1)]
    have hk0 : ¬ kd l[i] = 0 := by unfold kd; split; decide; split <;> decide
    rw [Option.bind_some, if_neg hk0, if_neg (show ¬ (cv l[i]).f0 ≥ nx from by show ¬ l[i].f0 ≥ nx; omega), succ_w hlt hl, ih (i + 1) (by omega)]
    by_cases h0 : (i : Int) > 0
    · obtain ⟨j, rfl⟩ : ∃ j, i = j + 1 := ⟨i - 1, by omega⟩
      have e : wrap64 (((j + 1 : Nat) : Int) - 1) = (j : Int) := by rw [w64 (by omega) (by omega)]; omega
      have hp := pw_lt h.pw (show j < j + 1 by omega) hlt
      rw [if_pos h0, e, if_pos (by omega), if_pos (by omega), rd30 (show j < l.length by omega), if_neg (show ¬ (cv l[j + 1]).f0 ≤ (cv (l[j]'(by omega))).f0 from by show ¬ l[j + 1].f0 ≤ (l[j]'(by omega)).f0; omega)]
    · rw [if_neg h0]
theorem own_beg {nx nx' : Int} {l : List S47} (h : Beg nx nx' l) : Ev (fun k => r18_Own.f k nx (cl l)) (nx', cl l, true) := by
  rcases h with ⟨rfl, rfl, rfl⟩ | ⟨rfl, h⟩
  · refine ⟨1, fun k hk => ?_⟩
    obtain ⟨m, rfl⟩ : ∃ m, k = m + 1 := ⟨k - 1, by omega⟩
    show (if (0 : Int) = 0 then r18_Own.j0 (m + 1) ((((cl []).length : Nat) : Int) == 0) 0 (cl []) else _) = _
    rw [if_pos rfl, r18_Own.j0, if_pos (show ((((cl []).length : Nat) : Int) == 0) = true from rfl)]
    rfl
  · refine ⟨l.length + 4, fun k hk => ?_⟩
    obtain ⟨m, rfl⟩ : ∃ m, k = m + l.length + 3 + 1 := ⟨k - l.length - 4, by omega⟩
    have h1 := h.n1
    have h2 := h.n2
    have h3 := h.len
    have e := own_loop h m l.length 0 (by omega)
    show (if nx' = 0 then _ else r18_Own.j0 (m + l.length + 3 + 1) false nx' (cl l)) = _
    rw [if_neg (by omega), r18_Own.j0, if_neg (by decide), if_neg (by omega), if_neg (by omega), if_neg (by rw [cl_len]; omega)]
    exact e
/-! The place of an ID. -/
def ids (l : List S47) : List Int := l.map (·.f0)
theorem ids_at {l : List S47} {j : Nat} (h : j < l.length) : (ids l)[j]? = some l[j].f0 := by simp [ids, h]
theorem ids_uniq {l : List S47} (h : (ids l).Pairwise (· < ·)) {i j : Nat} {x : Int} (hi : (ids l)[i]? = some x) (hj : (ids l)[j]? = some x) : i = j := by
  obtain ⟨hi1, hi2⟩ := List.getElem?_eq_some_iff.mp hi
  obtain ⟨hj1, hj2⟩ := List.getElem?_eq_some_iff.mp hj
  rcases Nat.lt_trichotomy i j with h1 | h1 | h1
  · have := List.pairwise_iff_getElem.mp h i j hi1 hj1 h1; omega
  · exact h1
  · have := List.pairwise_iff_getElem.mp h j i hj1 hi1 h1; omega
theorem rfind_loop {l : List S47} (hl : l.length ≤ 4096) (x : Int) (k : Nat) : ∀ r i : Nat, i + r = l.length → (∀ j : Nat, j < i → (ids l)[j]? ≠ some x) →
    ∃ p : Int, r18_Find.l0 (k + r + 1) (cl l) x (i : Int) = some p ∧ ((p = -1 ∧ ∀ j : Nat, (ids l)[j]? ≠ some x) ∨ ∃ j : Nat, p = (j : Int) ∧ (ids l)[j]? = some x) := by
  intro r
  induction r with
  | zero =>
    intro i hi hno
    refine ⟨-1, by rw [r18_Find.l0, cl_len, if_neg (by omega)], .inl ⟨rfl, fun j => ?_⟩⟩
    by_cases hj : j < i
    · exact hno j hj
    · rw [List.getElem?_eq_none (by simp [ids]; omega)]; exact fun e => by cases e
  | succ r ih =>
    intro i hi hno
    have hlt : i < l.length := by omega
    rw [show k + (r + 1) + 1 = (k + r + 1) + 1 by omega, r18_Find.l0, cl_len, if_pos (by omega), if_pos (by omega), rd30 hlt]
    by_cases he : (cv l[i]).f0 = x
    · rw [if_pos he]
      exact ⟨i, rfl, .inr ⟨i, rfl, by rw [ids_at hlt]; exact congrArg some he⟩⟩
    · rw [if_neg he, succ_w hlt hl]
      refine ih (i + 1) (by omega) (fun j hj => ?_)
      by_cases hji : j < i
      · exact hno j hji
      · obtain rfl : j = i := by omega
        rw [ids_at hlt]; exact fun e => he (Option.some.inj e)
theorem rfind {l : List S47} (hl : l.length ≤ 4096) (x : Int) {k : Nat} (hk : l.length + 1 ≤ k) :
    ∃ p : Int, r18_Find.f k (cl l) x = some p ∧ ((p = -1 ∧ ∀ j : Nat, (ids l)[j]? ≠ some x) ∨ ∃ j : Nat, p = (j : Int) ∧ (ids l)[j]? = some x) := by
  have h := rfind_loop hl x (k - l.length - 1) l.length 0 (by omega) (fun j hj => absurd hj (Nat.not_lt_zero _))
  rw [show k - l.length - 1 + l.length + 1 = k by omega] at h
  exact h
/-! What has started: by IDs, and by places. -/
structure Rel (I : List Int) (S : List Bool) (f : Int → Int) : Prop where
  len : S.length = I.length
  iff : ∀ x, f x ≠ 0 ↔ ∃ j : Nat, I[j]? = some x ∧ S[j]? = some true
theorem Rel.zero (I : List Int) : Rel I (List.replicate I.length false) (fun _ => 0) := by
  refine ⟨by simp, fun x => ⟨fun h => absurd rfl h, fun ⟨j, _, h⟩ => ?_⟩⟩
  rw [List.getElem?_replicate] at h
  split at h <;> cases h
theorem Rel.set {I : List Int} {S : List Bool} {f : Int → Int} (h : Rel I S f) {i : Nat} {x : Int} (hi : I[i]? = some x) : Rel I (S.set i true) (setOne f x) := by
  obtain ⟨hlt, _⟩ := List.getElem?_eq_some_iff.mp hi
  refine ⟨by rw [List.length_set]; exact h.len, fun y => ?_⟩
  unfold setOne
  by_cases hy : y = x
  · rw [if_pos hy]
    exact ⟨fun _ => ⟨i, by rw [hy]; exact hi, by rw [List.getElem?_set_self (by rw [h.len]; exact hlt)]⟩, fun _ => by decide⟩
  · rw [if_neg hy, h.iff y]
    constructor
    · rintro ⟨j, h1, h2⟩
      have hne : i ≠ j := fun e => hy (by rw [← e, hi] at h1; exact (Option.some.inj h1).symm)
      exact ⟨j, h1, by rw [List.getElem?_set_ne hne]; exact h2⟩
    · rintro ⟨j, h1, h2⟩
      have hne : i ≠ j := fun e => hy (by rw [← e, hi] at h1; exact (Option.some.inj h1).symm)
      exact ⟨j, h1, by rw [List.getElem?_set_ne hne] at h2; exact h2⟩
theorem Rel.unset {I : List Int} {S : List Bool} {f : Int → Int} (h : Rel I S f) {i : Nat} (hi : S[i]? ≠ some true) : Rel I (S.set i false) f := by
  refine ⟨by rw [List.length_set]; exact h.len, fun y => ?_⟩
  rw [h.iff y]
  constructor
  · rintro ⟨j, h1, h2⟩
    have hne : i ≠ j := fun e => hi (by rw [e]; exact h2)
    exact ⟨j, h1, by rw [List.getElem?_set_ne hne]; exact h2⟩
  · rintro ⟨j, h1, h2⟩
    by_cases hne : i = j
    · subst hne
      by_cases hl : i < S.length
      · rw [List.getElem?_set_self hl] at h2; cases h2
      · rw [List.getElem?_eq_none (by rw [List.length_set]; omega)] at h2; cases h2
    · exact ⟨j, h1, by rw [List.getElem?_set_ne hne] at h2; exact h2⟩
theorem rdOf_at {S : List Bool} {j : Nat} : (rdOf false S (j : Int) = true) ↔ S[j]? = some true := by
  unfold rdOf
  rw [show ((j : Int)).toNat = j from by omega, List.getD_eq_getElem?_getD]
  cases h : S[j]? with
  | none => simp
  | some b => cases b <;> simp
/-- chain: what has started then. -/
def chainF (t : Int) : List S47 → (Int → Int) → (Int → Int)
  | [], f => f
  | d :: r, f => if d.f6 = 0 then chainF t r f else if d.f7 = -1 then (if f d.f6 = 0 then chainF t r f else chainF t r (setOne f d.f0)) else chainF t r f
theorem ids_st (t : Int) (a : List S47) (d : S47) (r : List S47) : ids (a ++ [startAt t d] ++ r) = ids (a ++ d :: r) := by simp [ids, startAt]
theorem okL_st {nx t : Int} (ht : 0 ≤ t ∧ t ≤ 4611686018427387904) {a : List S47} {d : S47} {r : List S47} (h : OkL nx (a ++ d :: r)) (h4 : d.f4 = false) (h7 : d.f7 = -1) : OkL nx (a ++ startAt t d :: r) := by
  refine okL_sts ht h ?_
  have : ∀ a : List S47, Sts t (a ++ d :: r) (a ++ startAt t d :: r) := by
    intro a
    induction a with
    | nil => exact ⟨.inr ⟨h4, h7, rfl⟩, sts_refl t r⟩
    | cons x a ih => exact ⟨.inl rfl, ih⟩
  exact this a
theorem pass1 {nx t : Int} (ht : 0 ≤ t ∧ t ≤ 4611686018427387904) (k : Nat) (x8 : Int) : ∀ (rest done : List S47) (S : List Bool) (f : Int → Int), OkL nx (done ++ rest) → (done ++ rest).length + 3 ≤ k → Rel (ids (done ++ rest)) S f →
    ∃ S', rSt.l1 (k + rest.length + 1) t S (cl (done ++ rest)) x8 (done.length : Int) = rSt.l0 k t S' (cl (done ++ chainZ t rest f)) (wrap64 (x8 + 1)) ∧ Rel (ids (done ++ rest)) S' (chainF t rest f) := by
  intro rest
  induction rest with
  | nil =>
    intro done S f h hk hR
    refine ⟨S, ?_, hR⟩
    show rSt.l1 (k + 0 + 1) _ _ _ _ _ = _
    rw [rSt.l1, cl_len, if_neg (by simp)]
    rfl
  | cons d r ih =>
    intro done S f h hk hR
    have hd : OkD d := h.ok d (by simp)
    have hlen := h.len
    have hlt : done.length < (done ++ d :: r).length := by simp
    have hat : (ids (done ++ d :: r))[done.length]? = some d.f0 := by simp [ids]
    obtain ⟨p, hp, hp2⟩ := rfind (l := done ++ d :: r) hlen d.f6 (k := k + r.length + 1) (by omega)
    have keep : ∃ S', rSt.l1 (k + r.length + 1) t S (cl (done ++ d :: r)) x8 (wrap64 ((done.length : Int) + 1)) = rSt.l0 k t S' (cl (done ++ d :: chainZ t r f)) (wrap64 (x8 + 1)) ∧ Rel (ids (done ++ d :: r)) S' (chainF t r f) := by
      have h2 := ih (done ++ [d]) S f (by simpa using h) (by simp at hk ⊢; omega) (by simpa using hR)
      rw [succ_w hlt hlen]
      simpa using h2
    rw [show k + (d :: r).length + 1 = (k + r.length + 1) + 1 by simp; omega]
    show ∃ S', rSt.l1 ((k + r.length + 1) + 1) t S (cl (done ++ d :: r)) x8 (done.length : Int) = _ ∧ _
    rw [rSt.l1, cl_len, if_pos (by omega), if_pos (by omega), rd30m]
    rw [show (cv d).f6 = d.f6 from rfl, hp, Option.bind_some]
    rw [show r18_Kind.f (k + r.length + 1) (cv d).f0 (cv d).f1 (cv d).f2 (cv d).f3 (cv d).f4 (cv d).f5 d.f6 (cv d).f7 = some (kd d) from by rw [show k + r.length + 1 = (k + r.length - 1) + 2 by simp at hk; omega]; exact kind_ok hd _, Option.bind_some]
    unfold chainZ chainF
    by_cases h6 : d.f6 = 0
    · have hk3 : ¬ kd d = 3 := by unfold kd; rw [if_pos h6]; split <;> decide
      rw [if_neg hk3, if_pos h6, if_pos h6]
      exact keep
    have h4 : d.f4 = false := by
      rcases hd.kd with ⟨_, e, _⟩ | ⟨e, _⟩
      · exact absurd e h6
      · exact e
    have hk3 : kd d = 3 := by unfold kd; rw [if_neg (by rw [h4]; decide), if_neg h6]
    rw [if_pos hk3, if_neg h6, if_neg h6, show (cv d).f7 = d.f7 from rfl]
    by_cases h7 : d.f7 = -1
    rotate_left 1
    · rw [if_neg h7, if_neg h7, if_neg h7]; exact keep
    rw [if_pos h7, if_pos h7, if_pos h7]
    rcases hp2 with ⟨rfl, hno⟩ | ⟨j, rfl, hj⟩
    · have hf : f d.f6 = 0 := by
        by_cases hz : f d.f6 = 0
        · exact hz
        · obtain ⟨j, h1, _⟩ := (hR.iff d.f6).mp hz
          exact absurd h1 (hno j)
      rw [if_neg (by decide), if_pos hf, if_pos hf]; exact keep
    · have hjl : j < S.length := by rw [hR.len]; exact (List.getElem?_eq_some_iff.mp hj).1
      rw [if_pos (by omega), if_pos (by omega), if_pos (by omega)]
      by_cases hS : S[j]? = some true
      · have hf : ¬ f d.f6 = 0 := (hR.iff d.f6).mpr ⟨j, hj, hS⟩
        have hSl : done.length < S.length := by rw [hR.len]; simp [ids]
        rw [if_pos (rdOf_at.mpr hS), if_pos (by omega), if_neg hf, if_neg hf, show ((done.length : Int)).toNat = done.length by omega]
        have e : (cl (done ++ d :: r)).set done.length (⟨(cv d).f0, (cv d).f1, (cv d).f2, (cv d).f3, (cv d).f4, (cv d).f5, d.f6, t⟩ : S30) = cl ((done ++ [startAt t d]) ++ r) := clset done d (startAt t d) r
        rw [e, succ_w hlt hlen]
        have hR2 := hR.set hat
        have h2 := ih (done ++ [startAt t d]) (S.set done.length true) (setOne f d.f0) (by simpa using okL_st ht h h4 h7) (by simp at hk ⊢; omega) (by rw [ids_st t done d r]; exact hR2)
        rw [ids_st t done d r] at h2
        simpa using h2
      · have hf : f d.f6 = 0 := by
          by_cases hz : f d.f6 = 0
          · exact hz
          · obtain ⟨j', h1, h2⟩ := (hR.iff d.f6).mp hz
            have := ids_uniq h.pw h1 hj
            subst this
            exact absurd h2 hS
        rw [if_neg (fun e => hS (rdOf_at.mp e)), if_pos hf, if_pos hf]; exact keep
/-- Nothing more would start. -/
def Done (l : List S47) (f : Int → Int) : Prop := ∀ d ∈ l, d.f6 ≠ 0 → d.f7 = -1 → f d.f6 = 0
theorem chain_noop (t : Int) : ∀ (l : List S47) (f : Int → Int), Done l f → chainZ t l f = l ∧ chainF t l f = f
  | [], _, _ => ⟨rfl, rfl⟩
  | e :: r, f, h => by
    obtain ⟨h1, h2⟩ := chain_noop t r f (fun d hd => h d (.tail _ hd))
    unfold chainZ chainF
    by_cases g6 : e.f6 = 0
    · rw [if_pos g6, if_pos g6, h1, h2]; exact ⟨rfl, rfl⟩
    rw [if_neg g6, if_neg g6]
    by_cases g7 : e.f7 = -1
    · rw [if_pos g7, if_pos g7, if_pos (h e (.head _) g6 g7), if_pos (h e (.head _) g6 g7), h1, h2]; exact ⟨rfl, rfl⟩
    · rw [if_neg g7, if_neg g7, h1, h2]; exact ⟨rfl, rfl⟩
theorem chainF_low (t x : Int) : ∀ (l : List S47) (f : Int → Int), (∀ e ∈ l, e.f0 ≠ x) → chainF t l f x = f x
  | [], _, _ => rfl
  | e :: r, f, h => by
    have hr := fun g => chainF_low t x r g (fun y hy => h y (.tail _ hy))
    unfold chainF
    split
    · exact hr f
    split
    · split
      · exact hr f
      · rw [hr]; unfold setOne; rw [if_neg (fun e2 => h e (.head _) e2.symm)]
    · exact hr f
theorem chain_done {t : Int} (ht : 0 ≤ t) : ∀ (l : List S47) (f : Int → Int), (l.map (·.f0)).Pairwise (· < ·) → (∀ d ∈ l, OkD d) → Done (chainZ t l f) (chainF t l f)
  | [], _, _, _ => fun d hd => by cases hd
  | e :: r, f, hp, ho => by
    rw [List.map_cons, List.pairwise_cons] at hp
    have hr := fun g => chain_done ht r g hp.2 (fun x hx => ho x (.tail _ hx))
    have he := ho e (.head _)
    have low : ∀ g, e.f6 ≠ 0 → chainF t r g e.f6 = g e.f6 := fun g h6 => chainF_low t e.f6 r g (fun y hy e2 => by
      have h1 := hp.1 y.f0 (List.mem_map_of_mem hy)
      rcases he.kd with ⟨_, e3, _⟩ | ⟨_, _, e3, _⟩
      · exact h6 e3
      · omega)
    unfold chainZ chainF
    by_cases g6 : e.f6 = 0
    · rw [if_pos g6, if_pos g6]
      intro d hd
      rcases List.mem_cons.mp hd with rfl | hd
      · exact fun h => absurd g6 h
      · exact hr f d hd
    rw [if_neg g6, if_neg g6]
    by_cases g7 : e.f7 = -1
    rotate_left 1
    · rw [if_neg g7, if_neg g7]
      intro d hd
      rcases List.mem_cons.mp hd with rfl | hd
      · exact fun _ h => absurd h g7
      · exact hr f d hd
    rw [if_pos g7, if_pos g7]
    by_cases gf : f e.f6 = 0
    · rw [if_pos gf, if_pos gf]
      intro d hd
      rcases List.mem_cons.mp hd with rfl | hd
      · exact fun h6 _ => by rw [low f h6]; exact gf
      · exact hr f d hd
    · rw [if_neg gf, if_neg gf]
      intro d hd
      rcases List.mem_cons.mp hd with rfl | hd
      · intro _ h7
        have h7' : t = -1 := h7
        omega
      · exact hr _ d hd
theorem rest_noop {nx t : Int} (ht : 0 ≤ t ∧ t ≤ 4611686018427387904) {l : List S47} (h : OkL nx l) (f : Int → Int) (hD : Done l f) : ∀ (r i : Nat) (S : List Bool), i + r = l.length → Rel (ids l) S f → ∀ k, 4096 + 3 ≤ k →
    ∃ S', rSt.l0 (k + r * (l.length + 2) + 1) t S (cl l) (i : Int) = some (cl l, S') := by
  have hl := h.len
  obtain ⟨e1, e2⟩ := chain_noop t l f hD
  intro r
  induction r with
  | zero =>
    intro i S hi hR k hk
    refine ⟨S, ?_⟩
    rw [show k + 0 * (l.length + 2) + 1 = k + 1 by omega, rSt.l0, cl_len, if_neg (by omega)]
  | succ r ih =>
    intro i S hi hR k hk
    obtain ⟨S', h1, h2⟩ := pass1 (nx := nx) ht (k + r * (l.length + 2) + 1) (i : Int) l [] S f (by simpa using h) (by simp; omega) (by simpa using hR)
    rw [List.nil_append, List.nil_append, e1] at h1
    rw [List.nil_append, e2] at h2
    obtain ⟨S'', h3⟩ := ih (i + 1) S' (by omega) h2 k hk
    refine ⟨S'', ?_⟩
    rw [show k + (r + 1) * (l.length + 2) + 1 = (k + r * (l.length + 2) + 1 + l.length + 1) + 1 by rw [Nat.add_mul]; omega, rSt.l0, cl_len, if_pos (by omega)]
    have h1' : rSt.l1 (k + r * (l.length + 2) + 1 + l.length + 1) t S (cl l) (i : Int) 0 = _ := h1
    rw [h1', succ_w (show i < l.length by omega) hl]
    exact h3
theorem chain_ids {t : Int} {l : List S47} (h : ∀ d ∈ l, OkD d) (f : Int → Int) : ids (chainZ t l f) = ids l := sts_ids (chain_sts t l f h)
/-- What is gone on with till nothing is new: one way through. -/
theorem started_ok {nx t : Int} (ht : 0 ≤ t ∧ t ≤ 4611686018427387904) {l : List S47} (h : OkL nx l) {f : Int → Int} {S : List Bool} (hR : Rel (ids l) S f) : ∃ S', Ev (fun k => rSt.f k (cl l) t S) (cl (chainZ t l f), S') := by
  have hl := h.len
  have key : ∃ K S', rSt.f K (cl l) t S = some (cl (chainZ t l f), S') := by
    have hs := chain_sts t l f h.ok
    have hlen : (chainZ t l f).length = l.length := sts_len hs
    have hC := okL_sts ht h hs
    cases l with
    | nil =>
      refine ⟨1, S, ?_⟩
      unfold rSt.f
      rw [if_pos (by simp [cl])]
      rfl
    | cons d r =>
      obtain ⟨S1, h1, h2⟩ := pass1 (nx := nx) ht (5000 + r.length * ((d :: r).length + 2) + 1) 0 (d :: r) [] S f (by simpa using h) (by simp at hl ⊢; omega) (by simpa using hR)
      rw [List.nil_append, List.nil_append] at h1
      rw [List.nil_append, ← chain_ids h.ok f (t := t)] at h2
      obtain ⟨S2, h3⟩ := rest_noop ht hC (chainF t (d :: r) f) (chain_done ht.1 (d :: r) f h.pw h.ok) r.length 1 S1 (by rw [hlen, List.length_cons]; omega) h2 5000 (by omega)
      refine ⟨5000 + r.length * ((d :: r).length + 2) + 1 + (d :: r).length + 1 + 1, S2, ?_⟩
      unfold rSt.f
      rw [if_pos (by rw [cl_len]; simp only [List.length_nil]; omega), List.nil_append, rSt.l0, cl_len, if_pos (by rw [List.length_cons]; omega)]
      have h1' : rSt.l1 (5000 + r.length * ((d :: r).length + 2) + 1 + (d :: r).length + 1) t S (cl (d :: r)) 0 0 = _ := h1
      rw [hlen] at h3
      rw [h1', show wrap64 (0 + 1) = ((1 : Nat) : Int) from by unfold wrap64; decide]
      exact h3
  obtain ⟨K, S', e⟩ := key
  exact ⟨S', K, fun k hk => up (fun k => rSt.mono _ _ _ k) e hk⟩
end Go.Proofs.YtgmdaaenhmclfaaDoor.Dn
