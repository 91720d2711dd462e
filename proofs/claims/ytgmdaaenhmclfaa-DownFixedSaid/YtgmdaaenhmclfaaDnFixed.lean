/- The mathematics of DownFixed. -/
import Derived.Test.YtgmdaaenhmclfaaPx9
import Derived.Test.YtgmdaaenhmclfaaDnB
set_option linter.unusedVariables false
namespace Go.Proofs.Ytgmdaaenhmclfaa.Dn
open Go.RowKit Go.Proofs.Ytgmdaaenhmclfaa.P Go.Proofs.YtgmdaaenhmclfaaW.PrintWords Go.Proofs.YtgmdaaenhmclfaaW.PrintLast
def fr (l0 : List S46) (j : Nat) : Int := wrap64 (Int.tmod (IntKind.u64.wrap ((rd_T46 l0 (j : Int)).f0)) 100)
def ex (l0 : List S46) (j : Nat) : Int := wrap64 (Int.tmod (IntKind.u64.wrap ((rd_T46 l0 (j : Int)).f1)) 50)
def upTo (l0 : List S46) (j : Nat) : Int := fr l0 j + 1 + ex l0 j
theorem fr_ok (l0 : List S46) (j : Nat) : 0 ≤ fr l0 j ∧ fr l0 j < 100 := umod _ 100 (by decide) (by decide)
theorem ex_ok (l0 : List S46) (j : Nat) : 0 ≤ ex l0 j ∧ ex l0 j < 50 := umod _ 50 (by decide) (by decide)
def el (l0 : List S46) (j : Nat) : S31 := ⟨(j : Int) + 1, 3, fr l0 j, upTo l0 j, true, 0, 0, -1⟩
def X (l0 : List S46) (a m : Nat) : List S31 := (List.range' a m).map (el l0)
theorem X_len (l0 : List S46) (a m : Nat) : (X l0 a m).length = m := by simp [X]
theorem X_snoc (l0 : List S46) (m : Nat) : X l0 0 m ++ [el l0 m] = X l0 0 (m + 1) := by simp [X, List.range'_concat]
theorem X_cons (l0 : List S46) (a m : Nat) : X l0 a (m + 1) = el l0 a :: X l0 (a + 1) m := by simp [X, List.range'_succ]
theorem el_ok (l0 : List S46) (j : Nat) : OkD (el l0 j) := by
  have h1 := fr_ok l0 j
  have h2 := ex_ok l0 j
  refine ⟨show 1 ≤ (j : Int) + 1 by omega, show (0 : Int) ≤ 3 by decide, h1.1, ?_, ?_, .inl ⟨rfl, rfl, rfl, rfl⟩⟩
  · show upTo l0 j ≤ _; unfold upTo; omega
  · show fr l0 j < upTo l0 j; unfold upTo; omega
theorem X_ids (l0 : List S46) : ∀ m a : Nat, ((X l0 a m).map (·.f0)).Pairwise (· < ·) ∧ ∀ d ∈ X l0 a m, (a : Int) < d.f0 ∧ d.f0 ≤ ((a + m : Nat) : Int) := by
  intro m
  induction m with
  | zero => intro a; exact ⟨List.Pairwise.nil, fun d hd => by cases hd⟩
  | succ m ih =>
    intro a
    have h := ih (a + 1)
    rw [X_cons]
    refine ⟨?_, fun d hd => ?_⟩
    · rw [List.map_cons, List.pairwise_cons]
      refine ⟨fun x hx => ?_, h.1⟩
      obtain ⟨e, he, rfl⟩ := List.mem_map.mp hx
      have := (h.2 e he).1
      show (a : Int) + 1 < e.f0
      omega
    · rcases List.mem_cons.mp hd with rfl | hd
      · exact ⟨show (a : Int) < (a : Int) + 1 by omega, show (a : Int) + 1 ≤ _ by omega⟩
      · have := h.2 d hd
        omega
theorem X_ok (l0 : List S46) {a m nx : Nat} (h1 : a + m < nx) (h2 : nx ≤ 4096) : OkL (nx : Int) (X l0 a m) := by
  have h := X_ids l0 m a
  refine ⟨by omega, by omega, by rw [X_len]; omega, h.1, fun d hd => ?_, fun d hd => ?_⟩
  · have := h.2 d hd
    omega
  · unfold X at hd
    obtain ⟨j, _, rfl⟩ := List.mem_map.mp hd
    exact el_ok l0 j
/-- The next ID ahead of the round i. -/
def nxt (i : Nat) : Int := if i = 0 then 0 else (i : Int) + 1
theorem X_beg (l0 : List S46) {i : Nat} (hi : i ≤ 20) : Beg (nxt i) ((i : Int) + 1) (X l0 0 i) := by
  unfold nxt
  by_cases h : i = 0
  · subst h; exact .inl ⟨rfl, rfl, rfl⟩
  · rw [if_neg h]
    exact .inr ⟨rfl, X_ok l0 (nx := i + 1) (by omega) (by omega)⟩
theorem sp (l0 : List S46) (j : Nat) : spanZ (el l0 j) = (fr l0 j, upTo l0 j, true) := rfl
theorem in3 (l0 : List S46) (j : Nat) (t : Int) : inD 3 t (el l0 j) = decide (fr l0 j ≤ t ∧ t < upTo l0 j) := by
  unfold inD
  rw [sp]
  show (true && (decide ((3 : Int) = 3) && (decide (fr l0 j ≤ t) && decide (t < upTo l0 j)))) = _
  rw [Bool.eq_iff_iff]
  simp
theorem in2 (l0 : List S46) (j : Nat) (t : Int) : inD 2 t (el l0 j) = false := by
  unfold inD
  rw [show decide ((el l0 j).f1 = 2) = false from rfl]
  simp
theorem count2 (l0 : List S46) (t : Int) : ∀ m a : Nat, count 2 t (X l0 a m) = 0 := by
  intro m
  induction m with
  | zero => intro a; rfl
  | succ m ih => intro a; rw [X_cons, count_cons, in2, ih]; rfl
theorem count_snoc (o t : Int) (l : List S31) (d : S31) : count o t (l ++ [d]) = count o t l + (if inD o t d = true then 1 else 0) := by
  induction l with
  | nil => rw [List.nil_append, count_cons]; show _ + 0 = 0 + _; omega
  | cons e r ih => rw [List.cons_append, count_cons, count_cons, ih]; omega
theorem count_le (o t : Int) (l : List S31) : count o t l ≤ l.length := List.length_filter_le _ _
theorem chain_fixed (l0 : List S46) (t : Int) : ∀ (m a : Nat) (f : Int → Int), chainZ t (X l0 a m) f = X l0 a m := by
  intro m
  induction m with
  | zero => intro a f; rfl
  | succ m ih =>
    intro a f
    rw [X_cons, chainZ, if_pos (show (el l0 a).f6 = 0 from rfl), ih]
theorem pass_count (l0 : List S46) (t : Int) (m a : Nat) : count 3 t (passZ t (X l0 a m)) = count 3 t (X l0 a m) := by
  unfold passZ
  rw [chain_fixed, count_pass]
theorem cancel_one (l0 : List S46) {i r n k : Nat} (hn : n ≤ 20) (hr : i + r + 1 = n) (hk : 40 ≤ k) : down_Cancel.f k ((n : Int) + 1) (X l0 i (r + 1)) ((i : Int) + 1) = some ((n : Int) + 1, X l0 (i + 1) r, none) := by
  have ho := X_ok l0 (a := i) (m := r + 1) (nx := n + 1) (by omega) (by omega)
  have e : ((n + 1 : Nat) : Int) = (n : Int) + 1 := by omega
  rw [e] at ho
  obtain ⟨p, is, h1, h2, h3, h4⟩ := find_ok ho (x := (i : Int) + 1) (by omega) (by omega) (k := k) (by rw [X_len]; omega)
  have hp : p = 0 := by
    rcases Nat.eq_zero_or_pos p with h0 | h0
    · exact h0
    · have := h4 0 (by rw [X_len]; omega) h0
      simp only [X_cons] at this
      have h5 : (el l0 i).f0 = (i : Int) + 1 := rfl
      simp only [List.getElem_cons_zero] at this
      omega
  subst hp
  have his : is = true := h3.mpr ⟨by rw [X_len]; omega, by simp only [X_cons]; rfl⟩
  subst his
  unfold down_Cancel.f
  rw [begun_ok ho (by rw [X_len]; omega), Option.bind_some, if_pos (show (none : Option Int).isNone = true from rfl), h1, Option.bind_some, if_pos rfl]
  unfold down_Down_20.f
  rw [if_pos ⟨by simp, by rw [X_len]; show ((0 : Nat) : Int) < _; omega, by show wrap64 (((0 : Nat) : Int) + 1) = _; rw [w64 (by omega) (by omega)], by rw [X_len]; omega⟩]
  show some ((n : Int) + 1, (X l0 i (r + 1)).eraseIdx ((0 : Nat) : Int).toNat, none) = _
  rw [X_cons]
  rfl
theorem loop1 (l0 : List S46) {n : Nat} (hn : n ≤ 20) (t : Int) (k : Nat) : ∀ r i : Nat, i + r = n → belvederelaw18_DownFixed.l1 (k + r + 60) (n : Int) t (i : Int) (nxt n) (X l0 i r) = some true := by
  intro r
  induction r with
  | zero =>
    intro i h
    have hb : Beg (nxt n) (if n = 0 then 1 else (n : Int) + 1) (X l0 i 0) := by
      unfold nxt
      by_cases h0 : n = 0
      · rw [if_pos h0, if_pos h0]; exact .inl ⟨rfl, rfl, rfl⟩
      · rw [if_neg h0, if_neg h0]; exact .inr ⟨rfl, okL_nil (by omega) (by omega)⟩
    rw [show k + 0 + 60 = (k + 59) + 1 by omega, belvederelaw18_DownFixed.l1, if_neg (by omega), depth_beg hb (by rw [X_len]; omega), Option.bind_some, if_pos (show ((count 3 t (X l0 i 0) : Nat) : Int) = 0 from rfl), if_pos (show (((X l0 i 0).length : Nat) : Int) = 0 from rfl), sure_ok (by omega), Option.bind_some]
    by_cases h0 : n = 0
    · rw [if_pos (by omega)]
    · rw [if_neg (by omega), if_pos]
      unfold nxt
      rw [if_neg h0, w64 (by omega) (by omega)]
  | succ r ih =>
    intro i h
    have e1 : wrap64 ((i : Int) + 1) = (i : Int) + 1 := w64 (by omega) (by omega)
    have en : nxt n = (n : Int) + 1 := by unfold nxt; rw [if_neg (by omega)]
    have h2 := ih (i + 1) (by omega)
    rw [en] at h2 ⊢
    rw [show k + (r + 1) + 60 = (k + r + 60) + 1 by omega, belvederelaw18_DownFixed.l1, if_pos (by omega), e1, cancel_one l0 hn (by omega) (by omega), Option.bind_some, if_pos (show (none : Option Int).isNone = true from rfl)]
    rw [show ((i + 1 : Nat) : Int) = (i : Int) + 1 by omega] at h2
    exact h2
theorem loop0 (l0 : List S46) {n : Nat} (hn : n ≤ 20) (hl : n ≤ l0.length) {t : Int} (ht : 0 ≤ t) (ht1 : t < 200) (k : Nat) : ∀ r i : Nat, i + r = n → belvederelaw18_DownFixed.l0 (k + r + n + 62) l0 (n : Int) t ((count 3 t (X l0 0 i) : Nat) : Int) (i : Int) (nxt i) (X l0 0 i) = some true := by
  intro r
  induction r with
  | zero =>
    intro i h
    obtain rfl : i = n := by omega
    have hb := X_beg l0 hn
    rw [show k + 0 + i + 62 = (k + i + 61) + 1 by omega, belvederelaw18_DownFixed.l0, if_neg (by omega), depth_beg hb (by rw [X_len]; omega), Option.bind_some, if_pos rfl, depth_beg hb (by rw [X_len]; omega), Option.bind_some, count2, if_pos (show (((0 : Nat) : Int)) = 0 from rfl), pass_beg hb ⟨ht, by omega⟩ (by rw [X_len]; omega), Option.bind_some]
    have hp : Beg ((i : Int) + 1) ((i : Int) + 1) (passZ t (X l0 0 i)) := by
      refine .of (okL_sub hb.ok ?_)
      unfold passZ
      rw [chain_fixed]
      exact passL_sub _ _ _
    have hlen : (passZ t (X l0 0 i)).length ≤ 20 := by
      unfold passZ
      rw [chain_fixed]
      have := (passL_sub t (X l0 0 i) (fun _ => 0)).length_le
      rw [X_len] at this
      omega
    rw [depth_beg hp (by omega), Option.bind_some, pass_count, if_pos rfl]
    have h2 := loop1 l0 hn t (k + 1) i 0 (by omega)
    rw [show k + 1 + i + 60 = k + i + 61 by omega] at h2
    exact h2
  | succ r ih =>
    intro i h
    have hb := X_beg l0 (i := i) (by omega)
    have e1 : wrap64 ((i : Int) + 1) = (i : Int) + 1 := w64 (by omega) (by omega)
    have hf := fr_ok l0 i
    have he := ex_ok l0 i
    have ef : wrap64 (Int.tmod (IntKind.u64.wrap ((rd_T46 l0 (i : Int)).f0)) 100) = fr l0 i := rfl
    have ee : wrap64 (Int.tmod (IntKind.u64.wrap ((rd_T46 l0 (i : Int)).f1)) 50) = ex l0 i := rfl
    have e2 : wrap64 ((wrap64 (fr l0 i + 1)) + ex l0 i) = upTo l0 i := by unfold upTo; rw [w64 (n := fr l0 i + 1) (by omega) (by omega), w64 (by omega) (by omega)]
    have hadd : down_Add.f (k + r + n + 62) (nxt i) (X l0 0 i) 0 3 (fr l0 i) (upTo l0 i) true 0 0 0 = some ((i : Int) + 1 + 1, X l0 0 i ++ [⟨(i : Int) + 1, 3, fr l0 i, upTo l0 i, true, 0, 0, -1⟩], (i : Int) + 1, none) :=
      add_plain hb (by omega) (by rw [X_len]; omega) ⟨0, 3, fr l0 i, upTo l0 i, true, 0, 0, 0⟩ (el_ok l0 i) rfl (by rw [X_len]; omega)
    rw [show k + (r + 1) + n + 62 = (k + r + n + 62) + 1 by omega, belvederelaw18_DownFixed.l0, if_pos (by omega), if_pos (by omega), if_pos (by omega), ef, ee, e2, hadd, Option.bind_some, if_pos (show (none : Option Int).isNone = true from rfl), e1, if_pos rfl]
    have h2 := ih (i + 1) (by omega)
    have en : nxt (i + 1) = (i : Int) + 1 + 1 := by unfold nxt; rw [if_neg (by omega)]; omega
    rw [en, ← X_snoc, count_snoc, in3, show ((i + 1 : Nat) : Int) = (i : Int) + 1 by omega] at h2
    have hc := count_le 3 t (X l0 0 i)
    rw [X_len] at hc
    by_cases h3 : fr l0 i ≤ t
    · rw [if_pos h3]
      by_cases h4 : t < upTo l0 i
      · rw [if_pos h4]
        rw [decide_eq_true ⟨h3, h4⟩, if_pos rfl] at h2
        rw [w64 (n := ((count 3 t (X l0 0 i) : Nat) : Int) + 1) (by omega) (by omega)]
        exact h2
      · rw [if_neg h4]
        rw [decide_eq_false (fun h => h4 h.2), if_neg (by decide), Nat.add_zero] at h2
        exact h2
    · rw [if_neg h3]
      rw [decide_eq_false (fun h => h3 h.1), if_neg (by decide), Nat.add_zero] at h2
      exact h2
theorem fixed_ok : belvederelaw18_DownFixed.Pure := by
  intro l0 a1 _ _
  obtain ⟨n, hn⟩ : ∃ n, n = min l0.length 20 := ⟨_, rfl⟩
  refine ⟨n + n + 62, ?_⟩
  have e : mn (l0.length : Int) 20 = (n : Int) := by
    unfold mn
    by_cases h : (20 : Int) < (l0.length : Int)
    · rw [if_pos h]; omega
    · rw [if_neg h]; omega
  have ht := umod a1 200 (by decide) (by decide)
  unfold belvederelaw18_DownFixed.f
  rw [e]
  have h := loop0 l0 (n := n) (by omega) (by omega) ht.1 ht.2 0 n 0 (by omega)
  rw [show 0 + n + n + 62 = n + n + 62 by omega] at h
  exact h
end Go.Proofs.Ytgmdaaenhmclfaa.Dn
