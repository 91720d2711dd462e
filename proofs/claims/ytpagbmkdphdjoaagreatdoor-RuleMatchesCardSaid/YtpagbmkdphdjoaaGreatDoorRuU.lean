/- Plain mathematics of RuleMatches: the program's match and the document's tell the same. -/
import Derived.Test.YtpagbmkdphdjoaaGreatDoorRuV
import Derived.Test.YtpagbmkdphdjoaaGreatDoorPx22
set_option linter.unusedVariables false
set_option linter.unusedSimpArgs false
namespace Go.Proofs.YtpagbmkdphdjoaaGreatDoor.PClk
open Go.RowKit Go.Proofs.YtpagbmkdphdjoaaGreatDoor.P Go.Proofs.YtpagbmkdphdjoaaGreatDoorW.PrintWords Go.Proofs.YtpagbmkdphdjoaaGreatDoorW.PrintLast Go.Proofs.YtpagbmkdphdjoaaGreatDoorW.PrintMore
theorem yr_in {D q : Int} {j i d : Nat} (h : At D q j i d) (b0 : -70368744177664 ≤ D) (b1 : D ≤ 70368744177664) : -274877906944 ≤ Yr q j ∧ Yr q j ≤ 274877906944 := by
  have h1 := h.eq
  have h2 := h.lt
  have h3 := h.hj
  obtain ⟨R, hR⟩ : ∃ R, st j + offs (leapN (1970 + j)) i + d = R := ⟨_, rfl⟩
  rw [hR] at h1 h2
  unfold Yr
  omega
/-! The program's match. -/
theorem own_open {D q : Int} {j i d : Nat} (h : At D q j i d) (b0 : -70368744177664 ≤ D) (b1 : D ≤ 70368744177664) {K m n w y1 m1 d1 y2 m2 d2 : Int} (k : Nat) (hc : rule_Check.f (k + 5) K m n w y1 m1 d1 y2 m2 d2 = some none) :
    rule_Match.f (k + 5) K m n w y1 m1 d1 y2 m2 d2 D = rule_Match.j1 (k + 4) D (((len (leapN (1970 + j)) i : Nat)) : Int) (decide (m = 0 ∨ m = ((i + 1 : Nat) : Int))) K m n w y1 m1 d1 y2 m2 d2 (Yr q j) ((i + 1 : Nat) : Int) ((d + 1 : Nat) : Int) := by
  obtain ⟨y0, y9⟩ := yr_in h b0 b1
  unfold rule_Match.f
  rw [of_at h b0 b1, Option.bind_some, if_pos (show (none : Option Int).isNone = true from rfl), hc, Option.bind_some, if_pos (show (none : Option Int).isNone = true from rfl), rule_Match.j0, if_neg (by decide), length_at h y0 y9 (k + 1), Option.bind_some, if_pos (show (none : Option Int).isNone = true from rfl)]
  by_cases hm : m = 0
  · rw [if_pos hm, decide_eq_true (.inl hm)]
  · rw [if_neg hm, dec_beq, show decide (m = ((i + 1 : Nat) : Int)) = decide (m = 0 ∨ m = ((i + 1 : Nat) : Int)) by rw [decide_eq_decide]; omega]
theorem own_1 {D q : Int} {j i d : Nat} (h : At D q j i d) (b0 : -70368744177664 ≤ D) (b1 : D ≤ 70368744177664) {m n w y1 m1 d1 y2 m2 d2 : Int} (k : Nat) (hc : rule_Check.f (k + 5) 1 m n w y1 m1 d1 y2 m2 d2 = some none) :
    rule_Match.f (k + 5) 1 m n w y1 m1 d1 y2 m2 d2 D = some (decide (m = 0 ∨ m = ((i + 1 : Nat) : Int)) && decide (((d + 1 : Nat) : Int) = n ∨ (d : Int) - (((len (leapN (1970 + j)) i : Nat)) : Int) = n), none) := by
  have hl := len_le (leapN (1970 + j)) i h.hi
  have hd := h.hd
  have hop := own_open h b0 b1 k hc
  obtain ⟨L, hL⟩ : ∃ L, len (leapN (1970 + j)) i = L := ⟨_, rfl⟩
  rw [hL] at hl hd hop ⊢
  rw [hop, rule_Match.j1, if_neg (by decide), if_pos rfl]
  by_cases hm : m = 0 ∨ m = ((i + 1 : Nat) : Int)
  · rw [if_pos (dt hm), dt hm, Bool.true_and]
    by_cases hn : ((d + 1 : Nat) : Int) = n
    · rw [if_pos hn, decide_eq_true (.inl hn)]
    · rw [if_neg hn, w64 (x := ((d + 1 : Nat) : Int) - (L : Int)) (by omega) (by omega), w64 (by omega) (by omega), dec_beq]
      congr 2
      rw [decide_eq_decide]
      omega
  · rw [if_neg (df hm), decide_eq_false hm, Bool.false_and]
theorem ahead_eq (x : Nat) (hx : x ≤ 100) : rule_ahead.f (x : Int) = some (((x + 6) / 7 : Nat) : Int) := by
  unfold rule_ahead.f
  rw [w64 (x := (x : Int) + 7) (by omega) (by omega), w64 (x := (x : Int) + 7 - 1) (by omega) (by omega), show (x : Int) + 7 - 1 = ((x + 6 : Nat) : Int) by omega, show Int.tdiv ((x + 6 : Nat) : Int) 7 = (((x + 6) / 7 : Nat) : Int) from tdn _ 7, w64 (by omega) (by omega)]
theorem own_2 {D q : Int} {j i d : Nat} (h : At D q j i d) (b0 : -70368744177664 ≤ D) (b1 : D ≤ 70368744177664) {m n w y1 m1 d1 y2 m2 d2 : Int} (k : Nat) (hc : rule_Check.f (k + 5) 2 m n w y1 m1 d1 y2 m2 d2 = some none) :
    rule_Match.f (k + 5) 2 m n w y1 m1 d1 y2 m2 d2 D = some (decide (m = 0 ∨ m = ((i + 1 : Nat) : Int)) && decide (wd D = w ∧ ((((d + 7) / 7 : Nat) : Int) = n ∨ -(((len (leapN (1970 + j)) i - d + 6) / 7 : Nat) : Int) = n)), none) := by
  have hl := len_le (leapN (1970 + j)) i h.hi
  have hd := h.hd
  have hop := own_open h b0 b1 k hc
  obtain ⟨L, hL⟩ : ∃ L, len (leapN (1970 + j)) i = L := ⟨_, rfl⟩
  rw [hL] at hl hd hop ⊢
  have ea : rule_ahead.f ((d + 1 : Nat) : Int) = some (((d + 7) / 7 : Nat) : Int) := ahead_eq (d + 1) (by omega)
  have eb : rule_ahead.f (wrap64 (wrap64 ((L : Int) - ((d + 1 : Nat) : Int)) + 1)) = some (((L - d + 6) / 7 : Nat) : Int) := by
    rw [w64 (x := (L : Int) - ((d + 1 : Nat) : Int)) (by omega) (by omega), w64 (by omega) (by omega), show (L : Int) - ((d + 1 : Nat) : Int) + 1 = ((L - d : Nat) : Int) by omega]
    exact ahead_eq _ (by omega)
  rw [hop, rule_Match.j1, if_neg (by decide), if_neg (by decide), if_pos rfl]
  by_cases hm : m = 0 ∨ m = ((i + 1 : Nat) : Int)
  · rw [if_pos (dt hm), dt hm, Bool.true_and, weekday_eq D (by omega) (by omega), Option.bind_some]
    by_cases hw : wd D = w
    · rw [if_pos hw, ea, Option.bind_some]
      by_cases hn : (((d + 7) / 7 : Nat) : Int) = n
      · rw [if_pos hn, decide_eq_true ⟨hw, .inl hn⟩]
      · rw [if_neg hn, eb, Option.bind_some, w64 (by omega) (by omega), dec_beq]
        congr 2
        rw [decide_eq_decide]
        exact ⟨fun e => ⟨hw, .inr e⟩, fun e => e.2.resolve_left hn⟩
    · rw [if_neg hw, decide_eq_false (fun e => hw e.1)]
  · rw [if_neg (df hm), decide_eq_false hm, Bool.false_and]
theorem own_bad {D : Int} {K m n w y1 m1 d1 y2 m2 d2 : Int} (hb : ¬ (-70368744177664 ≤ D ∧ D ≤ 70368744177664)) (k : Nat) : rule_Match.f (k + 5) K m n w y1 m1 d1 y2 m2 d2 D = some (false, some 1) := by
  have ho : civil_Of.f D = some (0, 0, 0, some 1) := by
    unfold civil_Of.f
    by_cases h : D < -70368744177664
    · rw [if_pos h]
    · rw [if_neg h, if_pos (by omega)]
  unfold rule_Match.f
  rw [ho, Option.bind_some, if_neg (by decide), rule_Match.j0, if_pos rfl]
theorem own_bad2 {D : Int} {K m n w y1 m1 d1 y2 m2 d2 : Int} (k : Nat) (hc : rule_Check.f (k + 5) K m n w y1 m1 d1 y2 m2 d2 = some (some 1)) : rule_Match.f (k + 5) K m n w y1 m1 d1 y2 m2 d2 D = some (false, some 1) := by
  by_cases hb : -70368744177664 ≤ D ∧ D ≤ 70368744177664
  · obtain ⟨q, j, i, d, h⟩ := at_ex (D := D) (by omega) (by omega)
    unfold rule_Match.f
    rw [of_at h hb.1 hb.2, Option.bind_some, if_pos (show (none : Option Int).isNone = true from rfl), hc, Option.bind_some, if_neg (by decide), rule_Match.j0, if_pos rfl]
  · exact own_bad hb k
/-! The document's match. -/
def lst (F a s : Int) (N : Nat) : List Int := (List.range N).map (fun t : Nat => F + a + s * (t : Int))
theorem lst_len (F a s : Int) (N : Nat) : (lst F a s N).length = N := by simp [lst]
theorem lst_succ (F a s : Int) (N : Nat) : lst F a s (N + 1) = lst F a s N ++ [F + a + s * (N : Int)] := by simp [lst, List.range_succ]
theorem lst_rd (F a s : Int) {N t : Nat} (h : t < N) : rd (lst F a s N) (t : Int) = F + a + s * (t : Int) := by simp [rd, lst, h]
theorem loop_go (P : Nat → Nat → Option Bool) (L : Nat) (R : Bool) (hs : ∀ x, x < L → ∀ k, P (k + 1) x = P k (x + 1)) (he : ∀ k, P (k + 1) L = some R) : ∀ (r x : Nat), x + r = L → P (r + 1) x = some R
  | 0, x, e => by rw [show x = L by omega]; exact he 0
  | r + 1, x, e => by rw [hs x (by omega)]; exact loop_go P L R hs he r (x + 1) (by omega)
theorem l0_end {F D q dd : Int} {j i : Nat} (hi : i < 12) (a s : Int) (N : Nat) (hN : N ≤ 31) {K m n w y1 m1 d1 y2 m2 d2 : Int} (hn : n ≠ 0) (hn2 : -31 ≤ n) (hn3 : n ≤ 31) (idx : Int) (hx : idx = if n < 0 then (N : Int) + n else n - 1) (k : Nat) :
    r6_Match.l0 (k + 1) D F (lst F a s N) (((len (leapN (1970 + j)) i : Nat)) : Int) K m n w y1 m1 d1 y2 m2 d2 (Yr q j) ((i + 1 : Nat) : Int) dd = some (decide (0 ≤ idx ∧ idx < (N : Int) ∧ F + a + s * idx = D)) := by
  have fin : ∀ (x : Int), (if x ≥ 0 then (if x < (N : Int) then (if 0 ≤ x then some (rd (lst F a s N) x == D) else none) else some false) else some false) = some (decide (0 ≤ x ∧ x < (N : Int) ∧ F + a + s * x = D)) := by
    intro x
    by_cases g1 : x ≥ 0
    · rw [if_pos g1]
      by_cases g2 : x < (N : Int)
      · obtain ⟨t, rfl⟩ := Int.eq_ofNat_of_zero_le g1
        rw [if_pos g2, if_pos g1, lst_rd F a s (by omega), dec_beq]
        congr 1
        rw [decide_eq_decide]
        exact ⟨fun e => ⟨g1, g2, e⟩, fun e => e.2.2⟩
      · rw [if_neg g2, decide_eq_false (fun e => g2 e.2.1)]
    · rw [if_neg g1, decide_eq_false (fun e => g1 e.1)]
  rw [r6_Match.l0, rlen_y (Yr q j) q j i rfl hi, Option.bind_some, if_neg (by omega), lst_len]
  by_cases g : n < 0
  · rw [if_pos g] at hx ⊢
    rw [w64 (x := (N : Int) + n) (by omega) (by omega), ← hx]
    exact fin idx
  · rw [if_neg g] at hx ⊢
    rw [w64 (x := n - 1) (by omega) (by omega), ← hx]
    exact fin idx
theorem ref_k {D q : Int} {j i d : Nat} (h : At D q j i d) (b0 : -70368744177664 ≤ D) (b1 : D ≤ 70368744177664) {K m n w y1 m1 d1 y2 m2 d2 : Int} (h0 : K ≠ 0) (h3 : K ≠ 3) (R : Bool) (kL : Nat)
    (hl : r6_Match.l0 kL D (D - (d : Int)) [] 0 K m n w y1 m1 d1 y2 m2 d2 (Yr q j) ((i + 1 : Nat) : Int) ((d + 1 : Nat) : Int) = some R) : ∃ k, r6_Match.f k K m n w y1 m1 d1 y2 m2 d2 D = some (decide (m = 0 ∨ m = ((i + 1 : Nat) : Int)) && R) := by
  have hd := h.hd
  have hle := (len_le (leapN (1970 + j)) i h.hi).1
  obtain ⟨k1, h1⟩ := rof_at h
  have e1 : wrap64 (wrap64 (D - ((d + 1 : Nat) : Int)) + 1) = D - (d : Int) := by
    rw [w64 (x := D - ((d + 1 : Nat) : Int)) (by omega) (by omega), w64 (by omega) (by omega)]
    omega
  have hj : ∀ t, r6_Match.j0 (k1 + kL + 1) D t K m n w y1 m1 d1 y2 m2 d2 (Yr q j) ((i + 1 : Nat) : Int) ((d + 1 : Nat) : Int) = some (!t && R) := by
    intro t
    rw [r6_Match.j0]
    cases t with
    | true => rw [if_pos rfl]; rfl
    | false =>
      rw [if_neg (by decide), e1, Bool.not_false, Bool.true_and]
      exact up (fun k => (r6_Match.mono_l k).2 _ _ _ _ _ _ _ _ _ _ _ _ _ _ _ _ _) hl (by omega)
  refine ⟨k1 + kL + 1, ?_⟩
  unfold r6_Match.f
  rw [up (r4_Of.mono D) h1 (show k1 ≤ k1 + kL + 1 by omega), Option.bind_some, if_neg h0, if_neg h3]
  by_cases hm : m = 0
  · rw [if_pos hm, hj, decide_eq_true (.inl hm)]; rfl
  · rw [if_neg hm, hj, show (m != ((i + 1 : Nat) : Int)) = !(m == ((i + 1 : Nat) : Int)) from rfl, dec_beq, Bool.not_not, show decide (m = ((i + 1 : Nat) : Int)) = decide (m = 0 ∨ m = ((i + 1 : Nat) : Int)) by rw [decide_eq_decide]; omega]
theorem ref_1 {D q : Int} {j i d : Nat} (h : At D q j i d) (b0 : -70368744177664 ≤ D) (b1 : D ≤ 70368744177664) {m n w y1 m1 d1 y2 m2 d2 : Int} (hn : n ≠ 0) (hn2 : -31 ≤ n) (hn3 : n ≤ 31) :
    ∃ k, r6_Match.f k 1 m n w y1 m1 d1 y2 m2 d2 D = some (decide (m = 0 ∨ m = ((i + 1 : Nat) : Int)) && decide (((d + 1 : Nat) : Int) = n ∨ (d : Int) - (((len (leapN (1970 + j)) i : Nat)) : Int) = n)) := by
  have hi := h.hi
  have hd := h.hd
  have hle := len_le (leapN (1970 + j)) i hi
  obtain ⟨F, hF⟩ : ∃ F, D - (d : Int) = F := ⟨_, rfl⟩
  have hlen := rlen_y (Yr q j) q j i rfl hi
  have hgo := loop_go (fun k x => r6_Match.l0 k D F (lst F 0 1 x) (x : Int) 1 m n w y1 m1 d1 y2 m2 d2 (Yr q j) ((i + 1 : Nat) : Int) ((d + 1 : Nat) : Int)) (len (leapN (1970 + j)) i) _ ?_ (fun k => l0_end hi 0 1 _ hle.1 hn hn2 hn3 _ rfl k) (len (leapN (1970 + j)) i) 0 (Nat.zero_add _)
  · have hF2 := hF
    rw [← hF] at hgo
    obtain ⟨k, hk⟩ := ref_k (K := 1) h b0 b1 (by decide) (by decide) _ _ (show r6_Match.l0 _ D (D - (d : Int)) [] 0 1 m n w y1 m1 d1 y2 m2 d2 (Yr q j) ((i + 1 : Nat) : Int) ((d + 1 : Nat) : Int) = some _ from hgo)
    refine ⟨k, hk.trans ?_⟩
    congr 2
    rw [decide_eq_decide]
    obtain ⟨L, hL⟩ : ∃ L, len (leapN (1970 + j)) i = L := ⟨_, rfl⟩
    rw [hL] at hd hle ⊢
    by_cases g : n < 0
    · rw [if_pos g]; omega
    · rw [if_neg g]; omega
  · intro x hx k
    show r6_Match.l0 (k + 1) D F (lst F 0 1 x) (x : Int) 1 m n w y1 m1 d1 y2 m2 d2 (Yr q j) ((i + 1 : Nat) : Int) ((d + 1 : Nat) : Int) = r6_Match.l0 k D F (lst F 0 1 (x + 1)) ((x + 1 : Nat) : Int) 1 m n w y1 m1 d1 y2 m2 d2 (Yr q j) ((i + 1 : Nat) : Int) ((d + 1 : Nat) : Int)
    rw [r6_Match.l0, hlen, Option.bind_some, if_pos (by omega), if_pos rfl, lst_len, if_pos (by omega), w64 (x := F + (x : Int)) (by omega) (by omega), w64 (x := (x : Int) + 1) (by omega) (by omega), lst_succ, show F + 0 + 1 * (x : Int) = F + (x : Int) by omega, show (x : Int) + 1 = ((x + 1 : Nat) : Int) by omega]
theorem ref_2 {D q : Int} {j i d : Nat} (h : At D q j i d) (b0 : -70368744177664 ≤ D) (b1 : D ≤ 70368744177664) {m n w y1 m1 d1 y2 m2 d2 : Int} (hn : n ≠ 0) (hn2 : -5 ≤ n) (hn3 : n ≤ 5) (hw0 : 0 ≤ w) (hw1 : w < 7) :
    ∃ k, r6_Match.f k 2 m n w y1 m1 d1 y2 m2 d2 D = some (decide (m = 0 ∨ m = ((i + 1 : Nat) : Int)) && decide (wd D = w ∧ ((((d + 7) / 7 : Nat) : Int) = n ∨ -(((len (leapN (1970 + j)) i - d + 6) / 7 : Nat) : Int) = n))) := by
  have hi := h.hi
  have hd := h.hd
  have hle := len_le (leapN (1970 + j)) i hi
  obtain ⟨F, hF⟩ : ∃ F, D - (d : Int) = F := ⟨_, rfl⟩
  have hlen := rlen_y (Yr q j) q j i rfl hi
  obtain ⟨c, hc, hcw⟩ : ∃ c : Nat, c < 7 ∧ (F + (c : Int) + 4) % 7 = w := ⟨((w - F - 4) % 7).toNat, by omega, by omega⟩
  have hgo := loop_go (fun k x => r6_Match.l0 k D F (lst F (c : Int) 7 ((x + 6 - c) / 7)) (x : Int) 2 m n w y1 m1 d1 y2 m2 d2 (Yr q j) ((i + 1 : Nat) : Int) ((d + 1 : Nat) : Int)) (len (leapN (1970 + j)) i) _ ?_ (fun k => l0_end hi (c : Int) 7 _ (by omega) hn (by omega) (by omega) _ rfl k) (len (leapN (1970 + j)) i) 0 (Nat.zero_add _)
  · have hz : (0 + 6 - c) / 7 = 0 := by omega
    have hF2 := hF
    rw [hz, ← hF] at hgo
    obtain ⟨k, hk⟩ := ref_k (K := 2) h b0 b1 (by decide) (by decide) _ _ (show r6_Match.l0 _ D (D - (d : Int)) [] 0 2 m n w y1 m1 d1 y2 m2 d2 (Yr q j) ((i + 1 : Nat) : Int) ((d + 1 : Nat) : Int) = some _ from hgo)
    refine ⟨k, hk.trans ?_⟩
    congr 2
    rw [decide_eq_decide]
    obtain ⟨L, hL⟩ : ∃ L, len (leapN (1970 + j)) i = L := ⟨_, rfl⟩
    rw [hL] at hd hle ⊢
    unfold wd
    by_cases g : n < 0
    · rw [if_pos g]
      clear hgo hlen hk
      constructor
      · intro e; omega
      · intro e; omega
    · rw [if_neg g]
      clear hgo hlen hk
      constructor
      · intro e; omega
      · intro e; omega
  · intro x hx k
    show r6_Match.l0 (k + 1) D F (lst F (c : Int) 7 ((x + 6 - c) / 7)) (x : Int) 2 m n w y1 m1 d1 y2 m2 d2 (Yr q j) ((i + 1 : Nat) : Int) ((d + 1 : Nat) : Int) = r6_Match.l0 k D F (lst F (c : Int) 7 ((x + 1 + 6 - c) / 7)) ((x + 1 : Nat) : Int) 2 m n w y1 m1 d1 y2 m2 d2 (Yr q j) ((i + 1 : Nat) : Int) ((d + 1 : Nat) : Int)
    rw [r6_Match.l0, hlen, Option.bind_some, if_pos (by omega), if_neg (by decide), w64 (x := F + (x : Int)) (by omega) (by omega), rweek (F + (x : Int)) (by omega) (by omega), Option.bind_some, lst_len, w64 (x := (x : Int) + 1) (by omega) (by omega), show (x : Int) + 1 = ((x + 1 : Nat) : Int) by omega]
    by_cases g : x % 7 = c
    · rw [if_pos (show wd (F + (x : Int)) = w by unfold wd; omega), if_pos (by omega), show (x + 1 + 6 - c) / 7 = (x + 6 - c) / 7 + 1 by omega, lst_succ, show F + (c : Int) + 7 * (((x + 6 - c) / 7 : Nat) : Int) = F + (x : Int) by omega]
    · rw [if_neg (show ¬ wd (F + (x : Int)) = w by unfold wd; omega), show (x + 1 + 6 - c) / 7 = (x + 6 - c) / 7 by omega]
theorem match_all {D : Int} (b0 : -70368744177664 ≤ D) (b1 : D ≤ 70368744177664) (K m n w y1 m1 d1 y2 m2 d2 : Int) (hOk : Ok K m n w y1 m1 d1 y2 m2 d2) (hc : ∀ k, rule_Check.f (k + 3) K m n w y1 m1 d1 y2 m2 d2 = some none) : ∃ r, (∀ k, rule_Match.f (k + 5) K m n w y1 m1 d1 y2 m2 d2 D = some (r, none)) ∧ ∃ k, r6_Match.f k K m n w y1 m1 d1 y2 m2 d2 D = some r := by
  obtain ⟨q, j, i, d, h⟩ := at_ex (D := D) (by omega) (by omega)
  rcases hOk with ⟨rfl, _⟩ | ⟨rfl, g1, g2, g3, g4, g5, _⟩ | ⟨rfl, g1, g2, g3, g4, g5, g6, g7, _⟩ | ⟨rfl, rfl, rfl, rfl, A, E, two, _⟩
  · refine ⟨decide (wd D = w), fun k => ?_, ?_⟩
    · rw [own_open h b0 b1 k (hc (k + 2)), rule_Match.j1, if_pos rfl, weekday_eq D (by omega) (by omega), Option.bind_some, dec_beq]
    · obtain ⟨k, hk⟩ := rof_at h
      refine ⟨k, ?_⟩
      unfold r6_Match.f
      rw [hk, Option.bind_some, if_pos rfl, rweek D (by omega) (by omega), Option.bind_some, dec_beq]
  · exact ⟨_, fun k => own_1 h b0 b1 k (hc (k + 2)), ref_1 h b0 b1 g3 g4 g5⟩
  · exact ⟨_, fun k => own_2 h b0 b1 k (hc (k + 2)), ref_2 h b0 b1 g3 g4 g5 g6 g7⟩
  · refine ⟨decide (A ≤ D ∧ D ≤ E), fun k => ?_, ?_⟩
    · obtain ⟨o1, o2⟩ := two.own k
      rw [own_open h b0 b1 k (hc (k + 2)), rule_Match.j1, if_neg (by decide), if_neg (by decide), if_neg (by decide), o1, Option.bind_some, o2, Option.bind_some]
      by_cases g : A ≤ D
      · rw [if_pos g]
        congr 2
        rw [decide_eq_decide]
        exact ⟨fun e => ⟨g, e⟩, fun e => e.2⟩
      · rw [if_neg g, decide_eq_false (fun e => g e.1)]
    · obtain ⟨k0, hk0⟩ := two.ref
      obtain ⟨k1, h1⟩ := rof_at h
      obtain ⟨r1, r2⟩ := hk0 (k0 + k1) (by omega)
      refine ⟨k0 + k1, ?_⟩
      unfold r6_Match.f
      rw [up (r4_Of.mono D) h1 (show k1 ≤ k0 + k1 by omega), Option.bind_some, if_neg (by decide), if_pos rfl, r1, Option.bind_some]
      by_cases g : A ≤ D
      · rw [if_pos g, r2, Option.bind_some]
        congr 1
        rw [decide_eq_decide]
        exact ⟨fun e => ⟨g, e⟩, fun e => e.2⟩
      · rw [if_neg g, decide_eq_false (fun e => g e.1)]
theorem chk_sure (k : Nat) : rule_Check.f (k + 1) 2 5 (-1) 1 0 0 0 0 0 0 = some none := by rw [chk_2 k, if_pos (by decide)]
/-! The sure one. -/
theorem scan_sure : rule_scanned.f ⟨#[110, 116, 104, 32, 53, 32, 45, 49, 32, 49]⟩ = some (2, 5, -1, 1, 0, 0, 0, 0, 0, 0) := by
  have t1 : strings_Cut.f ⟨#[110, 116, 104, 32, 53, 32, 45, 49, 32, 49]⟩ ⟨#[32]⟩ = some (⟨#[110, 116, 104]⟩, ⟨#[53, 32, 45, 49, 32, 49]⟩, true) := by decide +kernel
  have t2 : rule_numbers.f ⟨#[53, 32, 45, 49, 32, 49]⟩ ⟨#[32]⟩ = some (5, -1, 1) := by decide +kernel
  unfold rule_scanned.f
  rw [t1, Option.bind_some]
  simp only [t2, Option.bind_some]
  rw [if_neg (by decide +kernel), if_neg (by decide +kernel), if_pos (by decide +kernel)]
theorem dig1 (n : Nat) (h : n < 10) : Lib.decDigits n = [UInt8.ofNat (48 + n)] := by rw [Lib.decDigits, dif_pos h]
theorem itoa_5 : strconv_Itoa_47.f 5 = some ⟨#[53]⟩ := by
  unfold strconv_Itoa_47.f
  rw [if_pos (by decide), if_pos (by decide), show (5 : Int) = ((5 : Nat) : Int) from rfl, Lib.itoa_nonneg, dig1 5 (by decide)]
  rfl
theorem itoa_1 : strconv_Itoa_47.f 1 = some ⟨#[49]⟩ := by
  unfold strconv_Itoa_47.f
  rw [if_pos (by decide), if_pos (by decide), show (1 : Int) = ((1 : Nat) : Int) from rfl, Lib.itoa_nonneg, dig1 1 (by decide)]
  rfl
theorem itoa_m1 : strconv_Itoa_47.f (-1) = some ⟨#[45, 49]⟩ := by
  unfold strconv_Itoa_47.f
  rw [if_pos (by decide), if_pos (by decide)]
  unfold Lib.itoa
  rw [if_pos (by decide), show (-1 : Int).natAbs = 1 from rfl, dig1 1 (by decide)]
  rfl
theorem digits_sure (k : Nat) : rule_digits.f (k + 4) ⟨#[32]⟩ [5, -1, 1] = some ⟨#[53, 32, 45, 49, 32, 49]⟩ := by
  have j : strings_Join.f [⟨#[53]⟩, ⟨#[45, 49]⟩, ⟨#[49]⟩] ⟨#[32]⟩ = some ⟨#[53, 32, 45, 49, 32, 49]⟩ := by decide +kernel
  have e0 : rd [5, -1, 1] 0 = 5 := rfl
  have e1 : rd [5, -1, 1] 1 = -1 := rfl
  have e2 : rd [5, -1, 1] 2 = 1 := rfl
  have w0 : wrap64 ((0 : Int) + 1) = 1 := by unfold wrap64; decide
  have w1 : wrap64 ((1 : Int) + 1) = 2 := by unfold wrap64; decide
  have w2 : wrap64 ((2 : Int) + 1) = 3 := by unfold wrap64; decide
  unfold rule_digits.f
  show rule_digits.l0 (k + 4) ⟨#[32]⟩ [] [5, -1, 1] 3 0 = _
  rw [rule_digits.l0, if_pos (by decide), if_pos (by decide), if_pos (by decide), e0, itoa_5, Option.bind_some, if_pos (by decide), w0]
  rw [rule_digits.l0, if_pos (by decide), if_pos (by decide), if_pos (by decide), e1, itoa_m1, Option.bind_some, if_pos (by decide), w1]
  rw [rule_digits.l0, if_pos (by decide), if_pos (by decide), if_pos (by decide), e2, itoa_1, Option.bind_some, if_pos (by decide), w2]
  rw [rule_digits.l0, if_neg (by decide)]
  show (strings_Join.f [⟨#[53]⟩, ⟨#[45, 49]⟩, ⟨#[49]⟩] ⟨#[32]⟩).bind _ = _
  rw [j]; rfl
theorem parse_sure (k : Nat) : rule_Parse.f (k + 4) ⟨#[110, 116, 104, 32, 53, 32, 45, 49, 32, 49]⟩ = some (2, 5, -1, 1, 0, 0, 0, 0, 0, 0, none) := by
  unfold rule_Parse.f rule_Text.f
  rw [scan_sure, Option.bind_some, chk_sure (k + 3), Option.bind_some, if_pos (show (none : Option Int).isNone = true from rfl), if_neg (by decide), if_neg (by decide), if_pos rfl, digits_sure k, Option.bind_some, if_pos (by decide), Option.bind_some, if_pos (show (none : Option Int).isNone = true from rfl), if_pos (by decide +kernel)]
theorem sure_ok {k : Nat} (hk : 20 ≤ k) : w6_sure.f k = some true := by
  obtain ⟨m, rfl⟩ : ∃ m, k = m + 5 := ⟨k - 5, by omega⟩
  unfold w6_sure.f
  obtain ⟨q, j, i, d, h⟩ := at_ex (D := 20603) (by decide) (by decide)
  have hm : rule_Match.f (m + 5) 2 5 (-1) 1 0 0 0 0 0 0 20603 = some (false, none) := by
    have ho : civil_Of.f 20603 = some (2026, 5, 30, none) := by decide +kernel
    have hl : civil_Length.f (m + 4) 2026 5 = some (31, none) := by
      have := length_yr 0 56 4 (by decide) (by decide) (by decide) (m + 1)
      exact this
    unfold rule_Match.f
    rw [ho, Option.bind_some, if_pos (show (none : Option Int).isNone = true from rfl), chk_sure (m + 4), Option.bind_some, if_pos (show (none : Option Int).isNone = true from rfl), rule_Match.j0, if_neg (by decide), hl, Option.bind_some, if_pos (show (none : Option Int).isNone = true from rfl), if_neg (by decide), rule_Match.j1, if_neg (by decide), if_neg (by decide), if_pos rfl, if_pos (by decide), weekday_eq 20603 (by decide) (by decide), Option.bind_some]
    rw [if_neg (show ¬ wd 20603 = 1 by decide)]
  rw [show m + 5 = (m + 1) + 4 by omega, parse_sure, Option.bind_some, show m + 1 + 4 = m + 5 by omega]
  show (rule_Match.f (m + 5) 2 5 (-1) 1 0 0 0 0 0 0 20603).bind _ = _
  rw [hm]
  rfl
theorem matches_ok : w6_RuleMatches.Pure := by
  intro K m n w y1 m1 d1 y2 m2 d2 D _ _ _ _ _ _ _ _ _ _ _
  rcases may_all K m n w y1 m1 d1 y2 m2 d2 with ⟨hOk, hc, kM, hM⟩ | ⟨hc, kM, hM⟩
  · by_cases hr : -70368744177664 ≤ D ∧ D ≤ 70368744177664
    · obtain ⟨r, h1, kR, h2⟩ := match_all hr.1 hr.2 K m n w y1 m1 d1 y2 m2 d2 hOk hc
      have e1 : rule_Match.f (kM + kR + 20) K m n w y1 m1 d1 y2 m2 d2 D = some (r, none) := h1 (kM + kR + 15)
      have e2 : r6_May.f (kM + kR + 20) K m n w y1 m1 d1 y2 m2 d2 = some true := up (r6_May.mono _ _ _ _ _ _ _ _ _ _) hM (by omega)
      have e3 : r6_Match.f (kM + kR + 20) K m n w y1 m1 d1 y2 m2 d2 D = some r := up (r6_Match.mono _ _ _ _ _ _ _ _ _ _ _) h2 (by omega)
      have e4 : rule_Check.f (kM + kR + 20) K m n w y1 m1 d1 y2 m2 d2 = some none := hc (kM + kR + 17)
      have e5 : w6_sure.f (kM + kR + 20) = some true := sure_ok (by omega)
      refine ⟨kM + kR + 20, ?_⟩
      unfold w6_RuleMatches.f w6_giveRule.f
      simp only [Option.bind_some]
      rw [e1, Option.bind_some, e2, Option.bind_some, if_pos rfl, if_neg (by omega), if_neg (by omega), if_pos (show (none : Option Int).isNone = true from rfl), e3, Option.bind_some, if_pos (beq_self_eq_true r), e4, Option.bind_some, if_pos (show (none : Option Int).isNone = true from rfl), e5]
      rfl
    · have e1 : rule_Match.f (kM + 20) K m n w y1 m1 d1 y2 m2 d2 D = some (false, some 1) := own_bad hr (kM + 15)
      have e2 : r6_May.f (kM + 20) K m n w y1 m1 d1 y2 m2 d2 = some true := up (r6_May.mono _ _ _ _ _ _ _ _ _ _) hM (by omega)
      have e4 : rule_Check.f (kM + 20) K m n w y1 m1 d1 y2 m2 d2 = some none := hc (kM + 17)
      have e5 : w6_sure.f (kM + 20) = some true := sure_ok (by omega)
      have n1 : w6_num.f (some 1) = some 1 := rfl
      have n0 : w6_num.f none = some 0 := rfl
      refine ⟨kM + 20, ?_⟩
      unfold w6_RuleMatches.f w6_giveRule.f
      simp only [Option.bind_some]
      rw [e1, Option.bind_some, e2, Option.bind_some, if_pos rfl]
      by_cases g : D < -70368744177664
      · rw [if_pos g]
        simp only [n1, n0, e2, e4, e5, Option.bind_some]
        rfl
      · rw [if_neg g, if_pos (by omega)]
        simp only [n1, n0, e2, e4, e5, Option.bind_some]
        rfl
  · have e1 : rule_Match.f (kM + 20) K m n w y1 m1 d1 y2 m2 d2 D = some (false, some 1) := own_bad2 (kM + 15) (hc (kM + 17))
    have e2 : r6_May.f (kM + 20) K m n w y1 m1 d1 y2 m2 d2 = some false := up (r6_May.mono _ _ _ _ _ _ _ _ _ _) hM (by omega)
    have e4 : rule_Check.f (kM + 20) K m n w y1 m1 d1 y2 m2 d2 = some (some 1) := hc (kM + 17)
    have e5 : w6_sure.f (kM + 20) = some true := sure_ok (by omega)
    have n1 : w6_num.f (some 1) = some 1 := rfl
    refine ⟨kM + 20, ?_⟩
    unfold w6_RuleMatches.f w6_giveRule.f
    simp only [Option.bind_some]
    rw [e1, Option.bind_some, e2, Option.bind_some, if_neg (by decide)]
    simp only [n1, e2, e4, e5, Option.bind_some]
    rfl
end Go.Proofs.YtpagbmkdphdjoaaGreatDoor.PClk
