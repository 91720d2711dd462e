/- Plain mathematics of layer 10: the bits of bits' letters are these. -/
import Derived.Test.YtahjnjlkpbjfnaaGreatDoorVaBackA
set_option linter.unusedVariables false
set_option linter.unusedSimpArgs false
namespace Go.Proofs.YtahjnjlkpbjfnaaGreatDoor.PVal
open Go Go.RowKit Go.Proofs.YtahjnjlkpbjfnaaGreatDoor.P Go.Proofs.YtahjnjlkpbjfnaaGreatDoorW.PrintWords Go.Proofs.YtahjnjlkpbjfnaaGreatDoorW.PrintLast Go.Proofs.YtahjnjlkpbjfnaaGreatDoorW.PrintMore
open Classical
theorem sel_sub : ∀ (l : List UInt8) (b : Nat), (selL l b).Sublist l
  | [], b => List.Sublist.refl _
  | c :: r, b => by
    rw [selL]
    split
    · exact (sel_sub r (b / 2)).cons_cons c
    · exact (sel_sub r (b / 2)).cons c
def sumIx (l : List UInt8) : List UInt8 → Nat
  | [] => 0
  | c :: r => 2 ^ ixN l c + sumIx l r
theorem opt_sum (l : List UInt8) : ∀ (S : List UInt8) (b : Nat), (∀ c ∈ S, c ∈ l) → optL l (S.map oneT) b = (((b + sumIx l S : Nat) : Int), none)
  | [], b, _ => rfl
  | c :: r, b, h => by
    rw [List.map_cons, opt_one (c := c) rfl, if_pos (h c (by simp)), opt_sum l r _ (fun d hd => h d (List.mem_cons_of_mem _ hd)), sumIx, Nat.add_assoc]
theorem ixN_at (pre r : List UInt8) (d : UInt8) (h : d ∉ pre) : ixN (pre ++ d :: r) d = pre.length := by
  unfold ixN
  rw [ix_at d r pre h]
  rfl
theorem sum_sel : ∀ (rest pre : List UInt8) (q : Nat), (pre ++ rest).Nodup → q < 2 ^ rest.length → sumIx (pre ++ rest) (selL rest q) = q * 2 ^ pre.length
  | [], pre, q, hn, hq => by
    rw [List.length_nil, Nat.pow_zero] at hq
    have : q = 0 := by omega
    subst this
    simp [selL, sumIx]
  | d :: r, pre, q, hn, hq => by
    have hd : d ∉ pre := fun e => (List.nodup_append.1 hn).2.2 d e d (by simp) rfl
    rw [List.length_cons, Nat.pow_succ] at hq
    have ih := sum_sel r (pre ++ [d]) (q / 2) (by rw [List.append_assoc]; exact hn) (by omega)
    rw [List.append_assoc, List.singleton_append, List.length_append, List.length_singleton, Nat.pow_succ] at ih
    have hx : q = q % 2 + q / 2 * 2 := by omega
    rw [selL]
    by_cases hb : q % 2 = 1
    · rw [if_pos hb, sumIx, ixN_at pre r d hd, ih]
      have e : q / 2 * (2 ^ pre.length * 2) = q / 2 * 2 * 2 ^ pre.length := by rw [Nat.mul_assoc, Nat.mul_comm 2]
      rw [e]
      generalize q / 2 * 2 = t at hx
      have hq1 : q = t + 1 := by omega
      rw [hq1, Nat.add_mul, Nat.one_mul, Nat.add_comm]
    · rw [if_neg hb, ih]
      have e : q / 2 * (2 ^ pre.length * 2) = q / 2 * 2 * 2 ^ pre.length := by rw [Nat.mul_assoc, Nat.mul_comm 2]
      rw [e]
      congr 1
      omega
theorem one_good (c : UInt8) (h : 97 ≤ c.toNat) : ¬ oddT (oneT c) := by
  have hb : ¬ blank c = true := by
    unfold blank
    simp only [Bool.or_eq_true, decide_eq_true_eq]
    omega
  rintro (e | e | e)
  · rw [toList_l] at e; cases e
  · have e2 : (44 : UInt8) ∈ [c] := e
    rw [List.mem_singleton] at e2
    rw [← e2] at h
    exact absurd h (by decide)
  · refine e ?_
    rw [toList_l, toList_l, trim_l]
    show rt (lf [c]) = [c]
    rw [lf_neg hb]
    unfold rt
    rw [List.reverse_singleton, List.dropWhile_cons_of_neg hb]
    rfl
theorem map_nodup {S : List UInt8} (h : S.Nodup) : (S.map oneT).Nodup := by
  unfold List.Nodup
  rw [List.pairwise_map]
  exact h.imp fun hne e => hne (by
    have := congrArg (fun x : ByteArray => x.data.toList) e
    exact (List.cons.inj this).1)
/-- What bits' letters say is the bits. -/
theorem let_back (b : Int) (L : ByteArray) (h : (letOf b L).2 = none) : optOf (letOf b L).1 L = (b, none) ∧ (letOf b L).1.size ≤ 40 := by
  unfold letOf at h ⊢
  by_cases hc : mayB L = true ∧ (110 : UInt8) ∉ L.data.toList ∧ 0 ≤ b ∧ b < ((2 ^ L.size : Nat) : Int)
  · rw [if_pos hc]
    obtain ⟨hm, hin, h0, h1⟩ := hc
    have hML := (mayB_iff L).1 hm
    obtain ⟨m, rfl⟩ : ∃ m : Nat, b = (m : Int) := ⟨b.toNat, by omega⟩
    rw [Int.toNat_natCast]
    have hlt : m < 2 ^ L.data.toList.length := by rw [← size_l]; omega
    have hsum := sum_sel L.data.toList [] m (by simpa using hML.2.2) hlt
    rw [List.nil_append, List.length_nil, Nat.pow_zero, Nat.mul_one] at hsum
    have hsub := sel_sub L.data.toList m
    unfold finT
    by_cases hS : selL L.data.toList m = []
    · rw [if_pos hS]
      rw [hS] at hsum
      have hl : listOf ⟨#[110]⟩ = ([⟨#[110]⟩], none) := by
        have := jn_back [oneT 110] (by simp) (fun x hx => by rw [List.mem_singleton] at hx; rw [hx]; exact one_good 110 (by decide)) (by simp) (by simp)
        exact this
      refine ⟨?_, by decide⟩
      unfold optOf
      rw [if_pos hm, hl, if_pos rfl, if_pos (show alone _ L from ⟨rfl, hin⟩)]
      rw [← hsum]
      rfl
    · rw [if_neg hS]
      have hgood : ∀ x ∈ (selL L.data.toList m).map oneT, ¬ oddT x := fun x hx => by
        obtain ⟨c, hc, rfl⟩ := List.mem_map.1 hx
        exact one_good c (hML.2.1 c (hsub.subset hc)).1
      have hlen : (selL L.data.toList m).length ≤ 16 := Nat.le_trans hsub.length_le hML.1
      have hjn : (⟨(commas (selL L.data.toList m)).toArray⟩ : ByteArray) = jn ((selL L.data.toList m).map oneT) := by
        unfold jn commas
        rw [map_one]
      have hl := jn_back ((selL L.data.toList m).map oneT) (by simpa using hS) hgood (map_nodup (hML.2.2.sublist hsub)) (by rw [List.length_map]; omega)
      rw [← hjn] at hl
      refine ⟨?_, ?_⟩
      · unfold optOf
        rw [if_pos hm, hl, if_pos rfl, if_neg, opt_sum _ _ _ (fun c hc => hsub.subset hc), hsum, Nat.zero_add]
        rintro ⟨e, _⟩
        have : (⟨#[110]⟩ : ByteArray) ∈ (selL L.data.toList m).map oneT := by rw [show (selL L.data.toList m).map oneT = [⟨#[110]⟩] from e]; simp
        obtain ⟨c, hc, he⟩ := List.mem_map.1 this
        have e2 : [c] = [110] := congrArg (fun x : ByteArray => x.data.toList) he
        rw [List.cons.injEq] at e2
        exact hin (by rw [← e2.1]; exact hsub.subset hc)
      · cases hq : selL L.data.toList m with
        | nil => exact absurd hq hS
        | cons c r =>
          rw [hq, List.length_cons] at hlen
          show (commas (c :: r)).length ≤ 40
          rw [commas_len]
          omega
  · rw [if_neg hc] at h
    cases h
theorem let_bad (b : Int) (L : ByteArray) (h : (letOf b L).2 ≠ none) : letOf b L = (⟨#[]⟩, some 1) := by
  unfold letOf at h ⊢
  by_cases hc : mayB L = true ∧ (110 : UInt8) ∉ L.data.toList ∧ 0 ≤ b ∧ b < ((2 ^ L.size : Nat) : Int)
  · rw [if_pos hc] at h
    unfold finT at h
    split at h <;> exact absurd rfl h
  · rw [if_neg hc]
end Go.Proofs.YtahjnjlkpbjfnaaGreatDoor.PVal
