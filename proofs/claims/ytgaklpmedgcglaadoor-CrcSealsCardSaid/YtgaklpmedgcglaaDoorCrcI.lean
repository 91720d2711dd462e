/- Plain mathematics of CrcSeals: the document's Seal and Open answer as the program's. -/
import Derived.Test.YtgaklpmedgcglaaDoorCrcH
set_option linter.unusedVariables false
namespace Go.Proofs.YtgaklpmedgcglaaDoor.Crc
open Go.RowKit Go.Proofs.YtgaklpmedgcglaaDoor.P Go.Proofs.YtgaklpmedgcglaaDoorW.PrintWords Go.Proofs.YtgaklpmedgcglaaDoorW.PrintLast Go.Proofs.YtgaklpmedgcglaaDoorW.PrintMore
theorem step_256 (s : Nat) (hs : s < 4294967296) : (Int.tmod (s : Int) 256) % 256 = ((s % 256 : Nat) : Int) ∧ (Int.tdiv (s : Int) 256) % 4294967296 = ((s / 256 : Nat) : Int) := by
  rw [Int.tmod_eq_emod_of_nonneg (by omega), Int.tdiv_eq_ediv_of_nonneg (by omega)]
  omega
theorem w_succ (i : Nat) (h : i < 1000000) : wrap64 ((i : Int) + 1) = ((i + 1 : Nat) : Int) := by unfold wrap64; omega
theorem seal_round (k : Nat) (x : List Int) (s i : Nat) (hi : i < 4) (hx : x.length < 140737488355328) (hs : s < 4294967296) :
    belvedereref01_Seal.l0 (k + 1) x (s : Int) (i : Int) = belvedereref01_Seal.l0 k (x ++ [((s % 256 : Nat) : Int)]) ((s / 256 : Nat) : Int) ((i + 1 : Nat) : Int) := by
  have g : (i : Int) < 4 := by omega
  rw [belvedereref01_Seal.l0, if_pos g, if_pos hx, (step_256 s hs).1, (step_256 s hs).2, w_succ i (by omega)]
theorem laidB_nat (s : Nat) : laidB (s : Int) = [((s % 256 : Nat) : Int), ((s / 256 % 256 : Nat) : Int), ((s / 256 / 256 % 256 : Nat) : Int), ((s / 256 / 256 / 256 % 256 : Nat) : Int)] := by
  unfold laidB
  have h1 : (s : Int) % 256 = ((s % 256 : Nat) : Int) := by omega
  have h2 : (s : Int) / 256 % 256 = ((s / 256 % 256 : Nat) : Int) := by omega
  have h3 : (s : Int) / 65536 % 256 = ((s / 256 / 256 % 256 : Nat) : Int) := by omega
  have h4 : (s : Int) / 16777216 % 256 = ((s / 256 / 256 / 256 % 256 : Nat) : Int) := by omega
  rw [h1, h2, h3, h4]
theorem seal_loop (x : List Int) (s : Nat) (hx : x.length ≤ 4000) (hs : s < 4294967296) : belvedereref01_Seal.l0 5 x (s : Int) 0 = some (x ++ laidB (s : Int)) := by
  have z : (0 : Int) = ((0 : Nat) : Int) := rfl
  rw [z, seal_round 4 x s 0 (by omega) (by omega) hs, seal_round 3 _ _ 1 (by omega) (by simp; omega) (by omega), seal_round 2 _ _ 2 (by omega) (by simp; omega) (by omega), seal_round 1 _ _ 3 (by omega) (by simp; omega) (by omega)]
  have g : ¬ (((3 + 1 : Nat) : Int) < 4) := by decide
  rw [belvedereref01_Seal.l0, if_neg g, laidB_nat]
  simp
theorem more_nat (l : List Int) (hb : By l) : ∃ s : Nat, s < 4294967296 ∧ moreZ 0 l = (s : Int) := by
  rw [zero_eq, more_eq 0 l hb (by decide)]
  exact ⟨_, xor_lt M_lt (reg_lt _ l hb (xor_lt M_lt (by decide))), rfl⟩
theorem ref_seal_ev (l : List Int) (hl : l.length ≤ 4000) (hb : By l) : Ev (fun k => belvedereref01_Seal.f k l) (l ++ laidB (moreZ 0 l)) := by
  obtain ⟨s, hs, es⟩ := more_nat l hb
  have h1 := ref_more_ev 0 l (by omega) hb (by decide)
  have c1 : ([] : List Int).length + l.length < 140737488355328 := by simp; omega
  rw [show ((0 : Nat) : Int) = 0 from rfl] at h1
  unfold belvedereref01_Seal.f
  refine Ev.bind h1 ?_
  simp only [if_pos c1, List.nil_append, es]
  exact Ev.of (fun k => (belvedereref01_Seal.mono_l k) _ _ _) (seal_loop l s hl hs)
theorem drop_rd {l r : List Int} {i : Nat} (h : l.drop i = r) : (r = [] ∧ l.length ≤ i) ∨ ∃ b t, r = b :: t := by
  cases r with
  | nil => exact .inl ⟨rfl, by have := congrArg List.length h; simp at this; omega⟩
  | cons b t => exact .inr ⟨b, t, rfl⟩
/-- The comparing loop: from i on. -/
theorem open_loop (l x : List Int) (n : Nat) (hlen : l.length = x.length) (hn : n ≤ l.length) (hl : l.length ≤ 4000) : ∀ (r t : List Int) (i : Nat), l.drop i = r → x.drop i = t →
    ∃ k, belvedereref01_Open.l0 k l (n : Int) x (i : Int) = some (if r = t then (l.take n, 0) else ([], 6)) := by
  intro r
  induction r with
  | nil =>
    intro t i h h'
    have e1 := congrArg List.length h
    rw [List.length_drop] at e1
    simp at e1
    have e2 : t = [] := by rw [← h', List.drop_eq_nil_of_le (by omega)]
    subst e2
    have g : ¬ ((i : Int) < (l.length : Int)) := by omega
    have g0 : (0 : Int) ≤ (n : Int) := Int.natCast_nonneg _
    have g1 : (n : Int) ≤ (l.length : Int) := by omega
    exact ⟨1, by rw [belvedereref01_Open.l0, if_neg g, if_pos g0, if_pos g1, if_pos rfl]; rfl⟩
  | cons b r ih =>
    intro t i h h'
    obtain ⟨h1, h2, h3⟩ := rd_drop h
    rcases drop_rd h' with ⟨_, h4⟩ | ⟨c, t', rfl⟩
    · omega
    · obtain ⟨k1, k2, k3⟩ := rd_drop h'
      have g : (i : Int) < (l.length : Int) := by omega
      have g0 : (0 : Int) ≤ (i : Int) := Int.natCast_nonneg _
      have g1 : (i : Int) < (x.length : Int) := by omega
      by_cases hbc : c = b
      · obtain ⟨k, hk⟩ := ih t' (i + 1) h3 k3
        refine ⟨k + 1, ?_⟩
        rw [belvedereref01_Open.l0, if_pos g, if_pos g0, if_pos g1, h1, k1, if_pos hbc, w_succ i (by omega), hk]
        subst hbc
        by_cases hr : r = t'
        · rw [if_pos hr, if_pos (by rw [hr])]
        · rw [if_neg hr, if_neg (fun e => hr (List.cons.inj e).2)]
      · refine ⟨1, ?_⟩
        rw [belvedereref01_Open.l0, if_pos g, if_pos g0, if_pos g1, h1, k1, if_neg hbc, if_neg (fun e => hbc (List.cons.inj e).1.symm)]
theorem ref_open_ev (l : List Int) (hl : l.length ≤ 4000) (hb : By l) : ∃ x e, crc_Open.f l = some (x, e) ∧ Ev (fun k => belvedereref01_Open.f k l) (x, e.getD 0) := by
  by_cases h4 : l.length < 4
  · refine ⟨[], some 4, ?_, ?_⟩
    · unfold crc_Open.f
      rw [if_pos (by omega), if_pos h4]
    · have g : (l.length : Int) < 4 := by omega
      unfold belvedereref01_Open.f
      simp only [if_pos g]
      exact Ev.now _
  · obtain ⟨q, hq⟩ : ∃ q, l.length = q + 4 := ⟨l.length - 4, by omega⟩
    have e4 : l.length - 4 = q := by omega
    have g : ¬ ((l.length : Int) < 4) := by omega
    have w4 : wrap64 ((l.length : Int) - 4) = (q : Int) := by unfold wrap64; omega
    have g0 : (0 : Int) ≤ (q : Int) := Int.natCast_nonneg _
    have g1 : (q : Int) ≤ (l.length : Int) := by omega
    have hs := ref_seal_ev (l.take q) (by rw [List.length_take]; omega) (hb.take q)
    have hxl : l.length = (l.take q ++ laidB (moreZ 0 (l.take q))).length := by rw [List.length_append, List.length_take, laidB_len]; omega
    have hxd : (l.take q ++ laidB (moreZ 0 (l.take q))).drop q = laidB (moreZ 0 (l.take q)) := by
      have e : (l.take q).length = q := by rw [List.length_take]; omega
      have := List.drop_left (l₁ := l.take q) (l₂ := laidB (moreZ 0 (l.take q)))
      rw [e] at this
      exact this
    obtain ⟨k, hk⟩ := open_loop l (l.take q ++ laidB (moreZ 0 (l.take q))) q hxl (by omega) hl (l.drop q) _ q rfl hxd
    have hE := Ev.of (fun k => (belvedereref01_Open.mono_l k) _ _ _ _) hk
    have hF : Ev (fun k => belvedereref01_Open.f k l) (if l.drop q = laidB (moreZ 0 (l.take q)) then (l.take q, 0) else ([], 6)) := by
      unfold belvedereref01_Open.f
      simp only [if_neg g, w4, if_pos g0, if_pos g1, Int.toNat_natCast]
      exact Ev.bind hs hE
    unfold crc_Open.f
    rw [if_pos (by omega), if_neg h4, e4]
    by_cases hd : l.drop q = laidB (moreZ 0 (l.take q))
    · rw [if_pos hd] at hF
      exact ⟨_, _, by rw [if_pos hd], hF⟩
    · rw [if_neg hd] at hF
      exact ⟨_, _, by rw [if_neg hd], hF⟩
end Go.Proofs.YtgaklpmedgcglaaDoor.Crc
