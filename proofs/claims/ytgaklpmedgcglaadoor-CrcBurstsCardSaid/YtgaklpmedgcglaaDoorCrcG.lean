/- Plain mathematics of layer 1: CrcBursts. -/
import Derived.Test.YtgaklpmedgcglaaDoorCrcF
set_option linter.unusedVariables false
namespace Go.Proofs.YtgaklpmedgcglaaDoor.Crc
open Go.RowKit Go.Proofs.YtgaklpmedgcglaaDoor.P Go.Proofs.YtgaklpmedgcglaaDoorW.PrintWords Go.Proofs.YtgaklpmedgcglaaDoorW.PrintLast Go.Proofs.YtgaklpmedgcglaaDoorW.PrintMore
theorem and1_u32 (a : Nat) (ha : a < 2 ^ 32) : Go.bits .and .u32 (a : Int) 1 = ((a % 2 : Nat) : Int) := by
  have ha' : a % 2 ^ IntKind.u32.bits = a := Nat.mod_eq_of_lt ha
  have h1 : (BitVec.ofInt IntKind.u32.bits (1 : Int)).toNat = 1 := by decide
  show IntKind.u32.wrap (((BitVec.ofInt IntKind.u32.bits (a : Int) &&& BitVec.ofInt IntKind.u32.bits (1 : Int)).toNat : Nat) : Int) = _
  rw [BitVec.toNat_and, h1, BitVec.ofInt_natCast, BitVec.toNat_ofNat, ha', Nat.and_one_is_mod, IntKind.wrap_u32]
  omega
theorem bit_at (P i : Nat) (hP : P < 2 ^ 32) (hi : i < 32) : Go.bits .and .u32 (shr .u32 (P : Int) (i : Int)) 1 = ((P / 2 ^ i % 2 : Nat) : Int) := by
  have h1 : ((i : Int)).toNat = i := rfl
  have h2 : min i (IntKind.u32.bits) = i := by
    have : IntKind.u32.bits = 32 := rfl
    omega
  have h3 : shr .u32 (P : Int) (i : Int) = ((P / 2 ^ i : Nat) : Int) := by
    unfold shr
    rw [h1, h2]
    simp
  rw [h3, and1_u32 _ (Nat.lt_of_le_of_lt (Nat.div_le_self ..) hP)]
theorem shl_at (t : Nat) (ht : t < 8) : shl .u8 1 (t : Int) = ((2 ^ t : Nat) : Int) ∧ 2 ^ t < 256 :=
  (show ∀ t : Fin 8, shl .u8 1 ((t.val : Nat) : Int) = ((2 ^ t.val : Nat) : Int) ∧ 2 ^ t.val < 256 by decide +kernel) ⟨t, ht⟩
theorem By.set {l : List Int} (h : By l) (p : Nat) {b : Int} (hb : 0 ≤ b ∧ b < 256) : By (l.set p b) := fun x hx => by
  rcases List.mem_or_eq_of_mem_set hx with h1 | h1
  · exact h x h1
  · rw [h1]; exact hb
theorem burst_end (P kk n : Nat) (z : List Int) (hz : By z) (hzl : z.length = n) (hn : 4 ≤ n) (hn2 : n ≤ 4004) (hP : P < 2 ^ 32) (hP0 : P ≠ 0) (hr : regN M z = iter 32 M ^^^ iter (8 * n - kk) P) (i : Int) (hi : ¬ i < 32) (k : Nat) :
    belvederelaw01_CrcBursts.l0 (k + 1) (P : Int) (kk : Int) z i = some true := by
  have ho : crc_Open.f z = some ([], some 6) := open_bad z hz (by omega) (by omega) (fun h => by
    rw [h] at hr
    have h3 : iter 32 M ^^^ iter 32 M = iter 32 M ^^^ (iter 32 M ^^^ iter (8 * n - kk) P) := by rw [← hr]
    rw [Nat.xor_self, ← Nat.xor_assoc, Nat.xor_self, Nat.zero_xor] at h3
    exact hP0 (iter_zero _ P hP h3.symm))
  rw [belvederelaw01_CrcBursts.l0, if_neg hi, ho, Option.bind_some]
  show ((belvederelaw01_num.f (some 6)).bind _) = _
  rw [num_of, Option.bind_some, if_pos (show (some (6 : Int)).getD 0 = 6 from rfl), sure]
  rfl
theorem burst_loop (P kk n : Nat) (hn : 4 ≤ n) (hn2 : n ≤ 4004) (hk : kk + 32 ≤ 8 * n) (hP : P < 2 ^ 32) (hP0 : P ≠ 0) : ∀ (d i : Nat) (z : List Int), i + d = 32 → By z → z.length = n → regN M z = iter 32 M ^^^ iter (8 * n - kk) (P % 2 ^ i) →
    ∃ k, belvederelaw01_CrcBursts.l0 k (P : Int) (kk : Int) z (i : Int) = some true := by
  intro d
  induction d with
  | zero =>
    intro i z hi hz hzl hr
    obtain rfl : i = 32 := by omega
    rw [Nat.mod_eq_of_lt hP] at hr
    exact ⟨1, burst_end P kk n z hz hzl hn hn2 hP hP0 hr _ (by decide) 0⟩
  | succ d ih =>
    intro i z hi hz hzl hr
    have HR := Aside0.mk hr
    clear hr
    have hi32 : i < 32 := by omega
    have g1 : (i : Int) < 32 := by omega
    have g2 : (0 : Int) ≤ (i : Int) := Int.natCast_nonneg _
    have w1 : wrap64 ((i : Int) + 1) = ((i + 1 : Nat) : Int) := by unfold wrap64; omega
    have hi1 : i + 1 + d = 32 := by omega
    obtain ⟨b, hbd⟩ : ∃ b, b = kk + i := ⟨_, rfl⟩
    have w2 : wrap64 ((kk : Int) + (i : Int)) = (b : Int) := by unfold wrap64; omega
    have t1 : wrap64 (Int.tdiv (b : Int) 8) = ((b / 8 : Nat) : Int) := by rw [Int.tdiv_eq_ediv_of_nonneg (by omega)]; unfold wrap64; omega
    have t2 : Int.tmod (b : Int) 8 = ((b % 8 : Nat) : Int) := by rw [Int.tmod_eq_emod_of_nonneg (by omega)]; omega
    have hp : b / 8 < z.length := by omega
    have hdiff : 8 * n - kk = i + (8 * n - b) := by omega
    have e8 : 8 * (b / 8) + b % 8 = b := by omega
    have ht8 : b % 8 < 8 := Nat.mod_lt _ (by decide)
    have hc0 := hz z[b / 8] (List.getElem_mem hp)
    obtain ⟨c, hc⟩ : ∃ c : Nat, z[b / 8] = (c : Int) := ⟨z[b / 8].toNat, by omega⟩
    have hc256 : c < 256 := by omega
    have r1 : rd z ((b / 8 : Nat) : Int) = z[b / 8] := (rd_drop (List.drop_eq_getElem_cons hp)).1
    obtain ⟨s1, s2⟩ := shl_at (b % 8) ht8
    obtain ⟨x1, x2⟩ := xor_u8 c (2 ^ (b % 8)) hc256 s2
    have hbyte : (0 : Int) ≤ ((c ^^^ 2 ^ (b % 8) : Nat) : Int) ∧ ((c ^^^ 2 ^ (b % 8) : Nat) : Int) < 256 := ⟨Int.natCast_nonneg _, Int.ofNat_lt.2 x2⟩
    have hm : P % 2 ^ (i + 1) = P % 2 ^ i + 2 ^ i * (P / 2 ^ i % 2) := Nat.mod_pow_succ
    have hb := bit_at P i hP hi32
    by_cases hbit : P / 2 ^ i % 2 = 1
    · have hf := reg_flip z M (b / 8) (b % 8) hp ht8 c hc
      have hsum : iter (8 * n - kk) (2 ^ i * 1) = iter (8 * n - b) 1 := by
        rw [hdiff, iter_add, iter_pow]
      have hlow : P % 2 ^ (i + 1) = (2 ^ i * 1) ^^^ (P % 2 ^ i) := by
        rw [hm, hbit, Nat.add_comm]
        exact low_xor 1 (P % 2 ^ i) i (Nat.mod_lt _ (Nat.two_pow_pos i))
      have hr2 : regN M (z.set (b / 8) ((c ^^^ 2 ^ (b % 8) : Nat) : Int)) = iter 32 M ^^^ iter (8 * n - kk) (P % 2 ^ (i + 1)) := by
        rw [hf, hzl, e8, HR.out, hlow, iter_xor, hsum, Nat.xor_comm (iter (8 * n - b) 1), Nat.xor_assoc]
      obtain ⟨k, hk2⟩ := ih (i + 1) (z.set (b / 8) ((c ^^^ 2 ^ (b % 8) : Nat) : Int)) hi1 (hz.set _ hbyte) (by rw [List.length_set]; exact hzl) hr2
      have g3 : (0 : Int) ≤ ((b / 8 : Nat) : Int) := Int.natCast_nonneg _
      have g4 : ((b / 8 : Nat) : Int) < (z.length : Int) := Int.ofNat_lt.2 hp
      have g5 : (0 : Int) ≤ ((b % 8 : Nat) : Int) := Int.natCast_nonneg _
      have t0 : (((b / 8 : Nat) : Int)).toNat = b / 8 := rfl
      have hone : ((P / 2 ^ i % 2 : Nat) : Int) = 1 := by rw [hbit]; rfl
      refine ⟨k + 1, ?_⟩
      rw [belvederelaw01_CrcBursts.l0, if_pos g1, if_pos g2, hb, if_pos hone, w2, t1, t2, if_pos g3, if_pos g4, if_pos g5, t0, r1, hc, s1, x1, w1]
      exact hk2
    · have hz0 : P / 2 ^ i % 2 = 0 := by
        rcases Nat.mod_two_eq_zero_or_one (P / 2 ^ i) with h | h
        · exact h
        · exact absurd h hbit
      rw [hz0, Nat.mul_zero, Nat.add_zero] at hm
      obtain ⟨k, hk2⟩ := ih (i + 1) z hi1 hz hzl (by rw [hm]; exact HR.out)
      have hne : ¬ (((P / 2 ^ i % 2 : Nat) : Int) = 1) := by rw [hz0]; decide
      refine ⟨k + 1, ?_⟩
      rw [belvederelaw01_CrcBursts.l0, if_pos g1, if_pos g2, hb, if_neg hne, w1]
      exact hk2
theorem burst_start (P kk n : Nat) (hn : 4 ≤ n) (hn2 : n ≤ 4004) (hk : kk + 32 ≤ 8 * n) (hP : P < 2 ^ 32) (hP0 : P ≠ 0) (z : List Int) (hz : By z) (hzl : z.length = n) (hr : regN M z = iter 32 M) : ∃ k, belvederelaw01_CrcBursts.l0 k (P : Int) (kk : Int) z 0 = some true := by
  have h0 : ∀ n : Nat, iter n 0 = 0 := by
    intro n
    induction n with
    | zero => rfl
    | succ n ih => rw [iter]; exact ih
  have h := burst_loop P kk n hn hn2 hk hP hP0 32 0 z (by omega) hz hzl (by rw [Nat.pow_zero, Nat.mod_one, h0, Nat.xor_zero]; exact hr)
  exact h
def kkOf (n : Nat) (a : Int) : Nat := (IntKind.u64.wrap a).toNat % (8 * n - 31)
theorem at_kk (n : Nat) (a : Int) (h1 : 4 ≤ n) (h2 : n ≤ 4004) : ¬ IntKind.u64.wrap (wrap64 ((wrap64 (8 * (n : Int))) - 31)) = 0 ∧
    wrap64 (Int.tmod (IntKind.u64.wrap a) (IntKind.u64.wrap (wrap64 ((wrap64 (8 * (n : Int))) - 31)))) = (kkOf n a : Int) ∧ kkOf n a + 32 ≤ 8 * n := by
  have w1 : IntKind.u64.wrap (wrap64 ((wrap64 (8 * (n : Int))) - 31)) = ((8 * n - 31 : Nat) : Int) := by rw [IntKind.wrap_u64]; unfold wrap64; omega
  obtain ⟨u, hu⟩ : ∃ u : Nat, IntKind.u64.wrap a = (u : Int) := ⟨(IntKind.u64.wrap a).toNat, by rw [IntKind.wrap_u64]; omega⟩
  obtain ⟨m, hm⟩ : ∃ m, 8 * n - 31 = m := ⟨_, rfl⟩
  have hm0 : 0 < m := by omega
  have hm1 : m ≤ 40000 := by omega
  have e : Int.tmod (u : Int) (m : Int) = ((u % m : Nat) : Int) := by rw [Int.tmod_eq_emod_of_nonneg (Int.natCast_nonneg _)]; exact (Int.natCast_emod u m).symm
  have hlt : u % m < m := Nat.mod_lt _ hm0
  have hk : kkOf n a = u % m := by unfold kkOf; rw [hu, hm]; rfl
  rw [w1, hu, hk, hm, e]
  refine ⟨by omega, ?_, by omega⟩
  unfold wrap64
  omega
theorem bursts_at (l : List Int) (hl : ¬ (l.length : Int) > 4000) (x : List Int) (hx : crc_Seal.f l = some x) (hxl : x.length = l.length + 4) (ox : crc_Open.f x = some (l, none)) (a P : Int) (hP : ¬ P = 0) (kk : Int)
    (e1 : ¬ IntKind.u64.wrap (wrap64 ((wrap64 (8 * (x.length : Int))) - 31)) = 0) (e2 : wrap64 (Int.tmod (IntKind.u64.wrap a) (IntKind.u64.wrap (wrap64 ((wrap64 (8 * (x.length : Int))) - 31)))) = kk) (k : Nat) (h : belvederelaw01_CrcBursts.l0 k P kk x 0 = some true) : belvederelaw01_CrcBursts.f k l a P = some true := by
  have e4 : wrap64 ((l.length : Int) + 4) = (l.length : Int) + 4 := by unfold wrap64; omega
  have c1 : (x.length : Int) = (l.length : Int) + 4 := by omega
  have c2 : ([] : List Int).length + x.length < 140737488355328 := by rw [List.length_nil]; omega
  unfold belvederelaw01_CrcBursts.f
  rw [if_neg hl, hx, Option.bind_some, ox, Option.bind_some, if_pos (show (none : Option Int).isNone = true from rfl), if_pos rfl, e4, if_pos c1, if_neg hP, if_neg e1, if_pos c2, e2, List.nil_append]
  exact h
theorem bursts_none (l : List Int) (hl : ¬ (l.length : Int) > 4000) (x : List Int) (hx : crc_Seal.f l = some x) (hxl : x.length = l.length + 4) (ox : crc_Open.f x = some (l, none)) (a : Int) : belvederelaw01_CrcBursts.f 0 l a 0 = some true := by
  have e4 : wrap64 ((l.length : Int) + 4) = (l.length : Int) + 4 := by unfold wrap64; omega
  have c1 : (x.length : Int) = (l.length : Int) + 4 := by omega
  unfold belvederelaw01_CrcBursts.f
  rw [if_neg hl, hx, Option.bind_some, ox, Option.bind_some, if_pos (show (none : Option Int).isNone = true from rfl), if_pos rfl, e4, if_pos c1, if_pos rfl, sure]
  rfl
theorem crcBursts : belvederelaw01_CrcBursts.Pure := by
  intro l a P _ _ hw ha hP
  have hb := by_of hw
  have ba := bounds_i64 ha
  have bP := bounds_u32 hP
  by_cases hl : (l.length : Int) > 4000
  · exact ⟨0, by unfold belvederelaw01_CrcBursts.f; rw [if_pos hl, sure]; rfl⟩
  · obtain ⟨x, hx⟩ : ∃ x, x = l ++ laidB (moreZ 0 l) := ⟨_, rfl⟩
    have hxl : x.length = l.length + 4 := by rw [hx, List.length_append, laidB_len]
    have sx := seal_f l (by omega)
    have ox := open_seal l (by omega)
    have hxb : By x := by rw [hx]; exact hb.append (laidB_by _)
    have hres := residue l hb
    rw [← hx] at sx ox hres
    have HRES := Aside0.mk hres
    clear hres
    by_cases h0 : P = 0
    · subst h0
      exact ⟨0, bursts_none l hl x sx hxl ox a⟩
    · obtain ⟨p, rfl⟩ : ∃ p : Nat, P = (p : Int) := ⟨P.toNat, by omega⟩
      clear hx
      obtain ⟨n, hn⟩ : ∃ n, x.length = n := ⟨_, rfl⟩
      have hn4 : 4 ≤ n := by omega
      have hn2 : n ≤ 4004 := by omega
      have hp32 : p < 2 ^ 32 := by omega
      have hp0 : p ≠ 0 := fun h => h0 (by rw [h]; rfl)
      obtain ⟨hq1, hq2, hq3⟩ := at_kk n a hn4 hn2
      obtain ⟨k, hk⟩ := burst_start p (kkOf n a) n hn4 hn2 hq3 hp32 hp0 x hxb hn HRES.out
      exact ⟨k, bursts_at l hl x sx hxl ox a p h0 _ (by rw [hn]; exact hq1) (by rw [hn]; exact hq2) k hk⟩
end Go.Proofs.YtgaklpmedgcglaaDoor.Crc
