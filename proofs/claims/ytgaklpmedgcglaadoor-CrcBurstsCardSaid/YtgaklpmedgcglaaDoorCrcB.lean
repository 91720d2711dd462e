/- Plain mathematics of layer 1: CrcMixed, CrcNested, CrcShort. -/
import Derived.Test.YtgaklpmedgcglaaDoorCrcA
set_option linter.unusedVariables false
namespace Go.Proofs.YtgaklpmedgcglaaDoor.Crc
open Go.RowKit Go.Proofs.YtgaklpmedgcglaaDoor.P Go.Proofs.YtgaklpmedgcglaaDoorW.PrintWords Go.Proofs.YtgaklpmedgcglaaDoorW.PrintLast Go.Proofs.YtgaklpmedgcglaaDoorW.PrintMore

/-! ### one bit; what is linear -/
def poly : Nat := 3988292384
def b1 (x : Nat) : Nat := (x / 2) ^^^ (if x % 2 = 1 then poly else 0)
theorem xor_half (x y : Nat) : (x ^^^ y) / 2 = (x / 2) ^^^ (y / 2) := by
  apply Nat.eq_of_testBit_eq
  intro i
  simp [Nat.testBit_xor, Nat.testBit_div_two]
theorem xor_odd (x y : Nat) : (x ^^^ y) % 2 = (x % 2 + y % 2) % 2 := by
  have h := Nat.testBit_xor x y 0
  simp only [Nat.testBit_zero] at h
  have hx : x % 2 = 0 ∨ x % 2 = 1 := by omega
  have hy : y % 2 = 0 ∨ y % 2 = 1 := by omega
  have hz : (x ^^^ y) % 2 = 0 ∨ (x ^^^ y) % 2 = 1 := by omega
  rcases hx with hx | hx <;> rcases hy with hy | hy <;> rcases hz with hz | hz <;> rw [hx, hy] at h ⊢ <;> rw [hz] at h ⊢ <;> simp_all
theorem xor4 (a b c d : Nat) : (a ^^^ b) ^^^ (c ^^^ d) = (a ^^^ c) ^^^ (b ^^^ d) := by
  rw [Nat.xor_assoc, Nat.xor_assoc, ← Nat.xor_assoc b c d, Nat.xor_comm b c, Nat.xor_assoc c b d]
theorem b1_xor (x y : Nat) : b1 (x ^^^ y) = b1 x ^^^ b1 y := by
  unfold b1
  rw [xor_half, xor_odd, xor4]
  congr 1
  have hx : x % 2 = 0 ∨ x % 2 = 1 := by omega
  have hy : y % 2 = 0 ∨ y % 2 = 1 := by omega
  rcases hx with hx | hx <;> rcases hy with hy | hy <;> simp [hx, hy]
theorem b1_even (y : Nat) : b1 (2 * y) = y := by
  unfold b1
  rw [if_neg (by omega), Nat.xor_zero]
  omega
theorem low_xor (h lo k : Nat) (hlo : lo < 2 ^ k) : 2 ^ k * h + lo = (2 ^ k * h) ^^^ lo := by
  rw [Nat.two_pow_add_eq_or_of_lt hlo]
  apply Nat.eq_of_testBit_eq
  intro i
  rw [Nat.testBit_or, Nat.testBit_xor, Nat.testBit_two_pow_mul]
  by_cases hi : i < k
  · have : ¬ (i ≥ k) := by omega
    simp [this]
  · rw [Nat.testBit_lt_two_pow (Nat.lt_of_lt_of_le hlo (Nat.pow_le_pow_right (by decide) (by omega)))]
    simp
theorem step_b1 (x : Nat) : stepN x = b1 (b1 (b1 (b1 x))) := by
  have hx : x = (16 * (x / 16)) ^^^ (x % 16) := by
    have := low_xor (x / 16) (x % 16) 4 (Nat.mod_lt _ (by decide))
    rw [← show 2 ^ 4 * (x / 16) + x % 16 = x by omega] 
    rw [this]
    have e1 : (2 ^ 4 * (x / 16) ^^^ x % 16) = x := by rw [← this]; omega
    rw [e1]
    exact e1.symm
  have h4 : ∀ i : Fin 16, b1 (b1 (b1 (b1 i.val))) = stN i.val := by decide
  have e : 16 * (x / 16) = 2 * (2 * (2 * (2 * (x / 16)))) := by omega
  conv => rhs; rw [hx]
  rw [b1_xor, b1_xor, b1_xor, b1_xor, e, b1_even, b1_even, b1_even, b1_even, h4 ⟨x % 16, Nat.mod_lt _ (by decide)⟩]
  rfl
theorem step_xor (x y : Nat) : stepN (x ^^^ y) = stepN x ^^^ stepN y := by
  rw [step_b1, step_b1 x, step_b1 y, b1_xor, b1_xor, b1_xor, b1_xor]
theorem byteN_xor (x y a b : Nat) : byteN (x ^^^ y) (a ^^^ b) = byteN x a ^^^ byteN y b := by
  unfold byteN
  rw [xor4, step_xor, step_xor]

/-! ### CrcMixed -/
theorem xor_u8 (a b : Nat) (ha : a < 256) (hb : b < 256) : Go.bits .xor .u8 (a : Int) (b : Int) = ((a ^^^ b : Nat) : Int) ∧ a ^^^ b < 256 := by
  have ha' : a % 2 ^ IntKind.u8.bits = a := Nat.mod_eq_of_lt ha
  have hb' : b % 2 ^ IntKind.u8.bits = b := Nat.mod_eq_of_lt hb
  have h := Nat.xor_lt_two_pow (n := 8) ha hb
  refine ⟨?_, h⟩
  simp only [Go.bits, BitVec.ofInt_natCast, BitVec.toNat_xor, BitVec.toNat_ofNat, ha', hb']
  rw [IntKind.wrap_u8]
  omega
def mix : List Int → List Int → List Int → List Int
  | a :: l, b :: m, c :: n => Go.bits .xor .u8 (Go.bits .xor .u8 a b) c :: mix l m n
  | _, _, _ => []
theorem mix_nil (m n : List Int) : mix [] m n = [] := by simp [mix]
theorem reg_mix : ∀ (l m n : List Int) (x y z : Nat), By l → By m → By n → l.length = m.length → l.length = n.length → regN (x ^^^ y ^^^ z) (mix l m n) = regN x l ^^^ regN y m ^^^ regN z n ∧ By (mix l m n) ∧ (mix l m n).length = l.length
  | [], [], [], x, y, z, _, _, _, _, _ => ⟨rfl, fun x hx => (by cases hx), rfl⟩
  | [], _ :: _, _, _, _, _, _, _, _, h, _ => by simp at h
  | [], _, _ :: _, _, _, _, _, _, _, _, h => by simp at h
  | _ :: _, [], _, _, _, _, _, _, _, h, _ => by simp at h
  | _ :: _, _, [], _, _, _, _, _, _, _, h => by simp at h
  | a :: l, b :: m, c :: n, x, y, z, hl, hm, hn, e1, e2 => by
    have ha := hl.head
    have hb := hm.head
    have hc := hn.head
    obtain ⟨p, rfl⟩ : ∃ p : Nat, a = (p : Int) := ⟨a.toNat, by omega⟩
    obtain ⟨q, rfl⟩ : ∃ q : Nat, b = (q : Int) := ⟨b.toNat, by omega⟩
    obtain ⟨r, rfl⟩ : ∃ r : Nat, c = (r : Int) := ⟨c.toNat, by omega⟩
    obtain ⟨g1, g2⟩ := xor_u8 p q (by omega) (by omega)
    obtain ⟨g3, g4⟩ := xor_u8 (p ^^^ q) r g2 (by omega)
    obtain ⟨i1, i2, i3⟩ := reg_mix l m n (byteN x p) (byteN y q) (byteN z r) hl.tail hm.tail hn.tail (by simpa using e1) (by simpa using e2)
    rw [mix, g1, g3]
    refine ⟨?_, fun v hv => ?_, by rw [List.length_cons, List.length_cons, i3]⟩
    · show regN (byteN (x ^^^ y ^^^ z) (p ^^^ q ^^^ r)) (mix l m n) = _
      rw [byteN_xor, byteN_xor, i1]
      rfl
    · rcases List.mem_cons.1 hv with h | h
      · rw [h]; omega
      · exact i2 v h
theorem rd_drop {l r : List Int} {b : Int} {i : Nat} (h : l.drop i = b :: r) : rd l (i : Int) = b ∧ i < l.length ∧ l.drop (i + 1) = r := by
  have hlt : i < l.length := by
    rcases Nat.lt_or_ge i l.length with h' | h'
    · exact h'
    · rw [List.drop_eq_nil_of_le h'] at h; cases h
  rw [List.drop_eq_getElem_cons hlt] at h
  injection h with h1 h2
  refine ⟨?_, hlt, h2⟩
  show (l[i]?).getD 0 = b
  rw [List.getElem?_eq_getElem hlt]
  exact h1
theorem zero_eq : moreZ 0 = moreZ ((0 : Nat) : Int) := rfl
theorem mixed_sum (l m n : List Int) (hl : By l) (hm : By m) (hn : By n) (e1 : l.length = m.length) (e2 : l.length = n.length) :
    Go.bits .xor .u32 (Go.bits .xor .u32 (moreZ 0 l) (moreZ 0 m)) (moreZ 0 n) = moreZ 0 (mix l m n) := by
  have hM : M ^^^ 0 = M := Nat.xor_zero _
  obtain ⟨i1, i2, i3⟩ := reg_mix l m n M M M hl hm hn e1 e2
  have r1 := reg_lt M l hl M_lt
  have r2 := reg_lt M m hm M_lt
  have r3 := reg_lt M n hn M_lt
  rw [zero_eq, more_eq 0 l hl (by decide), more_eq 0 m hm (by decide), more_eq 0 n hn (by decide), more_eq 0 _ i2 (by decide), hM,
    xor_u32 _ _ (xor_lt M_lt r1) (xor_lt M_lt r2), xor_u32 _ _ (xor_lt (xor_lt M_lt r1) (xor_lt M_lt r2)) (xor_lt M_lt r3)]
  have e : M ^^^ M ^^^ M = M := by rw [Nat.xor_self, Nat.zero_xor]
  rw [e] at i1
  rw [i1]
  congr 1
  rw [xor4 M (regN M l) M (regN M m), Nat.xor_self, Nat.zero_xor, ← Nat.xor_assoc, Nat.xor_comm _ M, Nat.xor_assoc]
theorem mixed_loop (l m n : List Int) (c : Nat) (h1 : c ≤ l.length) (h2 : c ≤ m.length) (h3 : c ≤ n.length) (hc : c ≤ 2000) (hl : By l) (hm : By m) (hn : By n) : ∀ (d i : Nat) (acc : List Int), i + d = c → acc.length = i → acc ++ mix ((l.take c).drop i) ((m.take c).drop i) ((n.take c).drop i) = mix (l.take c) (m.take c) (n.take c) →
    ∃ k, belvederelaw01_CrcMixed.l0 k l m n (c : Int) acc (i : Int) = some true := by
  have hlc : (l.take c).length = c := by rw [List.length_take]; omega
  have hmc : (m.take c).length = c := by rw [List.length_take]; omega
  have hnc : (n.take c).length = c := by rw [List.length_take]; omega
  intro d
  induction d with
  | zero =>
    intro i acc hi ha he
    obtain rfl : i = c := by omega
    have hd : (l.take i).drop i = [] := List.drop_eq_nil_of_le (by omega)
    rw [hd, mix_nil, List.append_nil] at he
    have t0 : ((i : Int)).toNat = i := rfl
    have g1 : (0 : Int) ≤ (i : Int) := Int.natCast_nonneg _
    have g2 : (i : Int) ≤ (l.length : Int) := by omega
    have g3 : (i : Int) ≤ (m.length : Int) := by omega
    have g4 : (i : Int) ≤ (n.length : Int) := by omega
    have hs := mixed_sum (l.take i) (m.take i) (n.take i) (hl.take i) (hm.take i) (hn.take i) (by rw [hlc, hmc]) (by rw [hlc, hnc])
    refine ⟨1, ?_⟩
    have g0 : ¬ ((i : Int) < (i : Int)) := Int.lt_irrefl _
    rw [belvederelaw01_CrcMixed.l0, if_neg g0, if_pos g1, if_pos g2, t0, sum_eq _ (by omega), Option.bind_some, if_pos g3, sum_eq _ (by omega), Option.bind_some, if_pos g4, sum_eq _ (by omega), Option.bind_some, sum_eq _ (by omega), Option.bind_some, he, if_pos hs, sure]
    rfl
  | succ d ih =>
    intro i acc hi ha he
    have hic : i < c := by omega
    have k1 : (i : Int) < (c : Int) := Int.ofNat_lt.2 hic
    have k2 : (i : Int) < (l.length : Int) := Int.ofNat_lt.2 (Nat.lt_of_lt_of_le hic h1)
    have k3 : (i : Int) < (m.length : Int) := Int.ofNat_lt.2 (Nat.lt_of_lt_of_le hic h2)
    have k4 : (i : Int) < (n.length : Int) := Int.ofNat_lt.2 (Nat.lt_of_lt_of_le hic h3)
    have k5 : acc.length < 140737488355328 := by rw [ha]; exact Nat.lt_of_lt_of_le (Nat.lt_of_lt_of_le hic hc) (by decide)
    have il : i < l.length := by omega
    have im : i < m.length := by omega
    have in_ : i < n.length := by omega
    have r1 : rd l (i : Int) = l[i] := (rd_drop (List.drop_eq_getElem_cons il)).1
    have r2 : rd m (i : Int) = m[i] := (rd_drop (List.drop_eq_getElem_cons im)).1
    have r3 : rd n (i : Int) = n[i] := (rd_drop (List.drop_eq_getElem_cons in_)).1
    have d1 : (l.take c).drop i = l[i] :: (l.take c).drop (i + 1) := by rw [List.drop_eq_getElem_cons (by omega), List.getElem_take]
    have d2 : (m.take c).drop i = m[i] :: (m.take c).drop (i + 1) := by rw [List.drop_eq_getElem_cons (by omega), List.getElem_take]
    have d3 : (n.take c).drop i = n[i] :: (n.take c).drop (i + 1) := by rw [List.drop_eq_getElem_cons (by omega), List.getElem_take]
    obtain ⟨k, hk⟩ := ih (i + 1) (acc ++ [Go.bits .xor .u8 (Go.bits .xor .u8 l[i] m[i]) n[i]]) (by omega) (by rw [List.length_append, ha]; rfl) (by
      rw [d1, d2, d3, mix] at he
      rw [List.append_assoc, List.singleton_append]
      exact he)
    have w1 : wrap64 ((i : Int) + 1) = ((i + 1 : Nat) : Int) := by unfold wrap64; omega
    have g1 : (0 : Int) ≤ (i : Int) := Int.natCast_nonneg _
    refine ⟨k + 1, ?_⟩
    rw [belvederelaw01_CrcMixed.l0, if_pos k1, if_pos g1, if_pos k2, if_pos k3, if_pos k4, if_pos k5, r1, r2, r3, w1]
    exact hk
theorem mn_nat (a b : Nat) : mn (a : Int) (b : Int) = ((min a b : Nat) : Int) := by unfold mn; split <;> omega
theorem mn_nat2 (a : Nat) : mn (a : Int) 2000 = ((min a 2000 : Nat) : Int) := by unfold mn; split <;> omega
theorem mixed_start (l m n : List Int) (c : Nat) (h1 : c ≤ l.length) (h2 : c ≤ m.length) (h3 : c ≤ n.length) (hc : c ≤ 2000) (hl : By l) (hm : By m) (hn : By n) : ∃ k, belvederelaw01_CrcMixed.l0 k l m n (c : Int) [] 0 = some true := by
  have h := mixed_loop l m n c h1 h2 h3 hc hl hm hn c 0 [] (Nat.zero_add _) List.length_nil (by rw [List.drop_zero, List.drop_zero, List.drop_zero, List.nil_append])
  exact h
theorem crcMixed : belvederelaw01_CrcMixed.Pure := by
  intro l m n _ _ hl _ _ hm _ _ hn
  obtain ⟨c, hc⟩ : ∃ c, c = min (min (min l.length m.length) n.length) 2000 := ⟨_, rfl⟩
  have hmn : mn (mn (mn (l.length : Int) (m.length : Int)) (n.length : Int)) 2000 = (c : Int) := by
    rw [mn_nat, mn_nat, mn_nat2, ← hc]
  have c1 : c ≤ l.length := by rw [hc]; exact Nat.le_trans (Nat.min_le_left ..) (Nat.le_trans (Nat.min_le_left ..) (Nat.min_le_left ..))
  have c2 : c ≤ m.length := by rw [hc]; exact Nat.le_trans (Nat.min_le_left ..) (Nat.le_trans (Nat.min_le_left ..) (Nat.min_le_right ..))
  have c3 : c ≤ n.length := by rw [hc]; exact Nat.le_trans (Nat.min_le_left ..) (Nat.min_le_right ..)
  have c4 : c ≤ 2000 := by rw [hc]; exact Nat.min_le_right ..
  obtain ⟨k, hk⟩ := mixed_start l m n c c1 c2 c3 c4 (by_of hl) (by_of hm) (by_of hn)
  refine ⟨k, ?_⟩
  unfold belvederelaw01_CrcMixed.f
  rw [hmn]
  exact hk
end Go.Proofs.YtgaklpmedgcglaaDoor.Crc
