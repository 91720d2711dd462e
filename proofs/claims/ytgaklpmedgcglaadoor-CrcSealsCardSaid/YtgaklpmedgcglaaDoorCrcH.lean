/- Plain mathematics of layer 1 for CrcSeals: the sum bit by bit is the sum by the table. -/
import Derived.Test.YtgaklpmedgcglaaDoorPx3
import Derived.Test.YtgaklpmedgcglaaDoorCrcSure
import Derived.Test.YtgaklpmedgcglaaDoorNumP
import Derived.OpenShut
import Derived.Lib.Bytes
set_option linter.unusedVariables false
namespace Go.Proofs.YtgaklpmedgcglaaDoor.Crc
open Go.RowKit Go.Proofs.YtgaklpmedgcglaaDoor.P Go.Proofs.YtgaklpmedgcglaaDoorW.PrintWords Go.Proofs.YtgaklpmedgcglaaDoorW.PrintLast Go.Proofs.YtgaklpmedgcglaaDoorW.PrintMore
/-- All 32 bits. -/
def M : Nat := 4294967295
theorem xor_lt {a b : Nat} (ha : a < 2 ^ 32) (hb : b < 2 ^ 32) : a ^^^ b < 2 ^ 32 := Nat.xor_lt_two_pow ha hb
theorem xor_u32 (a b : Nat) (ha : a < 2 ^ 32) (hb : b < 2 ^ 32) : Go.bits .xor .u32 (a : Int) (b : Int) = ((a ^^^ b : Nat) : Int) := by
  have ha' : a % 2 ^ IntKind.u32.bits = a := Nat.mod_eq_of_lt ha
  have hb' : b % 2 ^ IntKind.u32.bits = b := Nat.mod_eq_of_lt hb
  simp only [Go.bits, BitVec.ofInt_natCast, BitVec.toNat_xor, BitVec.toNat_ofNat, ha', hb']
  have := xor_lt ha hb
  rw [IntKind.wrap_u32]
  omega
theorem not_u32 (a : Nat) (ha : a < 2 ^ 32) : Go.bits .xor .u32 (-1) (a : Int) = ((M ^^^ a : Nat) : Int) := by
  have h1 : Go.bits .xor .u32 (-1) (a : Int) = Go.bits .xor .u32 ((M : Nat) : Int) (a : Int) := by
    simp only [Go.bits]
    have : (BitVec.ofInt IntKind.u32.bits (-1)) = BitVec.ofInt IntKind.u32.bits ((M : Nat) : Int) := by decide
    rw [this]
  rw [h1, xor_u32 _ _ (by decide) ha]
theorem and15_u32 (a : Nat) (ha : a < 2 ^ 32) : Go.bits .and .u32 (a : Int) 15 = ((a % 16 : Nat) : Int) := by
  have ha' : a % 2 ^ IntKind.u32.bits = a := Nat.mod_eq_of_lt ha
  have h1 : (BitVec.ofInt IntKind.u32.bits (15 : Int)).toNat = 2 ^ 4 - 1 := by decide
  show IntKind.u32.wrap (((BitVec.ofInt IntKind.u32.bits (a : Int) &&& BitVec.ofInt IntKind.u32.bits (15 : Int)).toNat : Nat) : Int) = _
  rw [BitVec.toNat_and, h1, BitVec.ofInt_natCast, BitVec.toNat_ofNat, ha', Nat.and_two_pow_sub_one_eq_mod, IntKind.wrap_u32]
  omega
def tab : List Nat := [0, 498536548, 997073096, 651767980, 1994146192, 1802195444, 1303535960, 1342533948, 3988292384, 4027552580, 3604390888, 3412177804, 2607071920, 2262029012, 2685067896, 3183342108]
def stN (i : Nat) : Nat := tab.getD i 0
def stepN (x : Nat) : Nat := (x / 16) ^^^ stN (x % 16)
def byteN (x b : Nat) : Nat := stepN (stepN (x ^^^ b))
def regN (x : Nat) (l : List Int) : Nat := l.foldl (fun y b => byteN y b.toNat) x
theorem stN_lt (i : Nat) (h : i < 16) : stN i < 2 ^ 32 := (show ∀ i : Fin 16, stN i.val < 2 ^ 32 by decide) ⟨i, h⟩
theorem st_eq (i : Nat) (h : i < 16) : crc_st (i : Int) = (stN i : Int) := (show ∀ i : Fin 16, crc_st ((i.val : Nat) : Int) = (stN i.val : Int) by decide) ⟨i, h⟩
theorem stepN_lt {x : Nat} (hx : x < 2 ^ 32) : stepN x < 2 ^ 32 := xor_lt (by omega) (stN_lt _ (Nat.mod_lt _ (by decide)))
theorem byteN_lt {x b : Nat} (hx : x < 2 ^ 32) (hb : b < 2 ^ 32) : byteN x b < 2 ^ 32 := stepN_lt (stepN_lt (xor_lt hx hb))
theorem step_eq (x : Nat) (hx : x < 2 ^ 32) : crc_step (x : Int) = (stepN x : Int) := by
  unfold crc_step
  have e1 : (x : Int) / 16 = ((x / 16 : Nat) : Int) := by omega
  rw [and15_u32 x hx, st_eq _ (Nat.mod_lt _ (by decide)), e1, xor_u32 _ _ (by omega) (stN_lt _ (Nat.mod_lt _ (by decide)))]
  rfl
theorem byte_eq (x b : Nat) (hx : x < 2 ^ 32) (hb : b < 256) : crc_byte (x : Int) (b : Int) = (byteN x b : Int) := by
  unfold crc_byte
  have e1 : (b : Int) % 4294967296 = (b : Int) := by omega
  have h1 := xor_lt hx (show b < 2 ^ 32 by omega)
  rw [e1, xor_u32 _ _ hx (by omega), step_eq _ h1, step_eq _ (stepN_lt h1)]
  rfl
/-- Bytes. -/
def By (l : List Int) : Prop := ∀ x ∈ l, 0 ≤ x ∧ x < 256
theorem By.head {b : Int} {r : List Int} (h : By (b :: r)) : 0 ≤ b ∧ b < 256 := h b (.head _)
theorem By.tail {b : Int} {r : List Int} (h : By (b :: r)) : By r := fun x hx => h x (.tail _ hx)
theorem By.drop {l : List Int} (h : By l) (n : Nat) : By (l.drop n) := fun x hx => h x (List.mem_of_mem_drop hx)
theorem By.take {l : List Int} (h : By l) (n : Nat) : By (l.take n) := fun x hx => h x (List.mem_of_mem_take hx)
theorem By.append {a b : List Int} (h : By a) (h2 : By b) : By (a ++ b) := fun x hx => (List.mem_append.1 hx).elim (h x) (h2 x)
theorem by_of {l : List Int} (h : ∀ x ∈ l, (Lit.int .u8 x).wf = true) : By l := fun x hx => by have := bounds_u8 (h x hx); omega
theorem reg_eq : ∀ (l : List Int) (x : Nat), By l → x < 2 ^ 32 → l.foldl crc_byte (x : Int) = (regN x l : Int) ∧ regN x l < 2 ^ 32
  | [], x, _, hx => ⟨rfl, hx⟩
  | b :: l, x, h, hx => by
    have hb := h.head
    obtain ⟨q, rfl⟩ : ∃ q : Nat, b = (q : Int) := ⟨b.toNat, by omega⟩
    have h1 : byteN x q < 2 ^ 32 := byteN_lt hx (by omega)
    have h2 := reg_eq l (byteN x q) h.tail h1
    rw [List.foldl_cons, byte_eq x q hx (by omega)]
    exact h2
theorem M_lt : M < 2 ^ 32 := by decide
theorem more_eq (s : Nat) (l : List Int) (h : By l) (hs : s < 2 ^ 32) : moreZ (s : Int) l = ((M ^^^ regN (M ^^^ s) l : Nat) : Int) := by
  have h1 := xor_lt M_lt hs
  obtain ⟨h2, h3⟩ := reg_eq l (M ^^^ s) h h1
  unfold moreZ
  rw [not_u32 s hs, h2, not_u32 _ h3]
theorem reg_lt (s : Nat) (l : List Int) (h : By l) (hs : s < 2 ^ 32) : regN s l < 2 ^ 32 := (reg_eq l s h hs).2
theorem MM (x : Nat) : M ^^^ (M ^^^ x) = x := by rw [← Nat.xor_assoc, Nat.xor_self, Nat.zero_xor]
theorem reg_append (x : Nat) (a b : List Int) : regN x (a ++ b) = regN (regN x a) b := List.foldl_append ..
theorem more_f (s : Int) (l : List Int) (hl : l.length < 140737488355328) : crc_More.f s l = some (moreZ s l) := by
  unfold crc_More.f
  rw [if_pos hl]
theorem sure : belvederelaw01_sure.f = some true := rfl

/-! ### CrcParts -/
/-! ### one bit; what is linear -/
def poly : Nat := 3988292384
def b1 (x : Nat) : Nat := (x / 2) ^^^ (if x % 2 = 1 then poly else 0)
theorem xor_half (x y : Nat) : (x ^^^ y) / 2 = (x / 2) ^^^ (y / 2) := by
  apply Nat.eq_of_testBit_eq
  intro i
  simp [Nat.testBit_xor, Nat.testBit_div_two]
theorem xor_odd (x y : Nat) : (x ^^^ y) % 2 = (x % 2 + y % 2) % 2 := by
  have h := Nat.testBit_xor x y 0
  simp only [Nat.testBit_zero] at h
  have hx : x % 2 = 0 ∨ x % 2 = 1 := by omega
  have hy : y % 2 = 0 ∨ y % 2 = 1 := by omega
  have hz : (x ^^^ y) % 2 = 0 ∨ (x ^^^ y) % 2 = 1 := by omega
  rcases hx with hx | hx <;> rcases hy with hy | hy <;> rcases hz with hz | hz <;> rw [hx, hy] at h ⊢ <;> rw [hz] at h ⊢ <;> simp_all
theorem xor4 (a b c d : Nat) : (a ^^^ b) ^^^ (c ^^^ d) = (a ^^^ c) ^^^ (b ^^^ d) := by
  rw [Nat.xor_assoc, Nat.xor_assoc, ← Nat.xor_assoc b c d, Nat.xor_comm b c, Nat.xor_assoc c b d]
theorem b1_xor (x y : Nat) : b1 (x ^^^ y) = b1 x ^^^ b1 y := by
  unfold b1
  rw [xor_half, xor_odd, xor4]
  congr 1
  have hx : x % 2 = 0 ∨ x % 2 = 1 := by omega
  have hy : y % 2 = 0 ∨ y % 2 = 1 := by omega
  rcases hx with hx | hx <;> rcases hy with hy | hy <;> simp [hx, hy]
theorem b1_even (y : Nat) : b1 (2 * y) = y := by
  unfold b1
  rw [if_neg (by omega), Nat.xor_zero]
  omega
theorem low_xor (h lo k : Nat) (hlo : lo < 2 ^ k) : 2 ^ k * h + lo = (2 ^ k * h) ^^^ lo := by
  rw [Nat.two_pow_add_eq_or_of_lt hlo]
  apply Nat.eq_of_testBit_eq
  intro i
  rw [Nat.testBit_or, Nat.testBit_xor, Nat.testBit_two_pow_mul]
  by_cases hi : i < k
  · have : ¬ (i ≥ k) := by omega
    simp [this]
  · rw [Nat.testBit_lt_two_pow (Nat.lt_of_lt_of_le hlo (Nat.pow_le_pow_right (by decide) (by omega)))]
    simp
theorem step_b1 (x : Nat) : stepN x = b1 (b1 (b1 (b1 x))) := by
  have hx : x = (16 * (x / 16)) ^^^ (x % 16) := by
    have := low_xor (x / 16) (x % 16) 4 (Nat.mod_lt _ (by decide))
    rw [← show 2 ^ 4 * (x / 16) + x % 16 = x by omega] 
    rw [this]
    have e1 : (2 ^ 4 * (x / 16) ^^^ x % 16) = x := by rw [← this]; omega
    rw [e1]
    exact e1.symm
  have h4 : ∀ i : Fin 16, b1 (b1 (b1 (b1 i.val))) = stN i.val := by decide
  have e : 16 * (x / 16) = 2 * (2 * (2 * (2 * (x / 16)))) := by omega
  conv => rhs; rw [hx]
  rw [b1_xor, b1_xor, b1_xor, b1_xor, e, b1_even, b1_even, b1_even, b1_even, h4 ⟨x % 16, Nat.mod_lt _ (by decide)⟩]
  rfl
theorem step_xor (x y : Nat) : stepN (x ^^^ y) = stepN x ^^^ stepN y := by
  rw [step_b1, step_b1 x, step_b1 y, b1_xor, b1_xor, b1_xor, b1_xor]
theorem byteN_xor (x y a b : Nat) : byteN (x ^^^ y) (a ^^^ b) = byteN x a ^^^ byteN y b := by
  unfold byteN
  rw [xor4, step_xor, step_xor]

/-! ### CrcMixed -/
theorem xor_u8 (a b : Nat) (ha : a < 256) (hb : b < 256) : Go.bits .xor .u8 (a : Int) (b : Int) = ((a ^^^ b : Nat) : Int) ∧ a ^^^ b < 256 := by
  have ha' : a % 2 ^ IntKind.u8.bits = a := Nat.mod_eq_of_lt ha
  have hb' : b % 2 ^ IntKind.u8.bits = b := Nat.mod_eq_of_lt hb
  have h := Nat.xor_lt_two_pow (n := 8) ha hb
  refine ⟨?_, h⟩
  simp only [Go.bits, BitVec.ofInt_natCast, BitVec.toNat_xor, BitVec.toNat_ofNat, ha', hb']
  rw [IntKind.wrap_u8]
  omega
def mix : List Int → List Int → List Int → List Int
  | a :: l, b :: m, c :: n => Go.bits .xor .u8 (Go.bits .xor .u8 a b) c :: mix l m n
  | _, _, _ => []
theorem mix_nil (m n : List Int) : mix [] m n = [] := by simp [mix]
theorem reg_mix : ∀ (l m n : List Int) (x y z : Nat), By l → By m → By n → l.length = m.length → l.length = n.length → regN (x ^^^ y ^^^ z) (mix l m n) = regN x l ^^^ regN y m ^^^ regN z n ∧ By (mix l m n) ∧ (mix l m n).length = l.length
  | [], [], [], x, y, z, _, _, _, _, _ => ⟨rfl, fun x hx => (by cases hx), rfl⟩
  | [], _ :: _, _, _, _, _, _, _, _, h, _ => by simp at h
  | [], _, _ :: _, _, _, _, _, _, _, _, h => by simp at h
  | _ :: _, [], _, _, _, _, _, _, _, h, _ => by simp at h
  | _ :: _, _, [], _, _, _, _, _, _, _, h => by simp at h
  | a :: l, b :: m, c :: n, x, y, z, hl, hm, hn, e1, e2 => by
    have ha := hl.head
    have hb := hm.head
    have hc := hn.head
    obtain ⟨p, rfl⟩ : ∃ p : Nat, a = (p : Int) := ⟨a.toNat, by omega⟩
    obtain ⟨q, rfl⟩ : ∃ q : Nat, b = (q : Int) := ⟨b.toNat, by omega⟩
    obtain ⟨r, rfl⟩ : ∃ r : Nat, c = (r : Int) := ⟨c.toNat, by omega⟩
    obtain ⟨g1, g2⟩ := xor_u8 p q (by omega) (by omega)
    obtain ⟨g3, g4⟩ := xor_u8 (p ^^^ q) r g2 (by omega)
    obtain ⟨i1, i2, i3⟩ := reg_mix l m n (byteN x p) (byteN y q) (byteN z r) hl.tail hm.tail hn.tail (by simpa using e1) (by simpa using e2)
    rw [mix, g1, g3]
    refine ⟨?_, fun v hv => ?_, by rw [List.length_cons, List.length_cons, i3]⟩
    · show regN (byteN (x ^^^ y ^^^ z) (p ^^^ q ^^^ r)) (mix l m n) = _
      rw [byteN_xor, byteN_xor, i1]
      rfl
    · rcases List.mem_cons.1 hv with h | h
      · rw [h]; omega
      · exact i2 v h
theorem rd_drop {l r : List Int} {b : Int} {i : Nat} (h : l.drop i = b :: r) : rd l (i : Int) = b ∧ i < l.length ∧ l.drop (i + 1) = r := by
  have hlt : i < l.length := by
    rcases Nat.lt_or_ge i l.length with h' | h'
    · exact h'
    · rw [List.drop_eq_nil_of_le h'] at h; cases h
  rw [List.drop_eq_getElem_cons hlt] at h
  injection h with h1 h2
  refine ⟨?_, hlt, h2⟩
  show (l[i]?).getD 0 = b
  rw [List.getElem?_eq_getElem hlt]
  exact h1
theorem zero_eq : moreZ 0 = moreZ ((0 : Nat) : Int) := rfl
theorem mixed_sum (l m n : List Int) (hl : By l) (hm : By m) (hn : By n) (e1 : l.length = m.length) (e2 : l.length = n.length) :
    Go.bits .xor .u32 (Go.bits .xor .u32 (moreZ 0 l) (moreZ 0 m)) (moreZ 0 n) = moreZ 0 (mix l m n) := by
  have hM : M ^^^ 0 = M := Nat.xor_zero _
  obtain ⟨i1, i2, i3⟩ := reg_mix l m n M M M hl hm hn e1 e2
  have r1 := reg_lt M l hl M_lt
  have r2 := reg_lt M m hm M_lt
  have r3 := reg_lt M n hn M_lt
  rw [zero_eq, more_eq 0 l hl (by decide), more_eq 0 m hm (by decide), more_eq 0 n hn (by decide), more_eq 0 _ i2 (by decide), hM,
    xor_u32 _ _ (xor_lt M_lt r1) (xor_lt M_lt r2), xor_u32 _ _ (xor_lt (xor_lt M_lt r1) (xor_lt M_lt r2)) (xor_lt M_lt r3)]
  have e : M ^^^ M ^^^ M = M := by rw [Nat.xor_self, Nat.zero_xor]
  rw [e] at i1
  rw [i1]
  congr 1
  rw [xor4 M (regN M l) M (regN M m), Nat.xor_self, Nat.zero_xor, ← Nat.xor_assoc, Nat.xor_comm _ M, Nat.xor_assoc]
theorem mn_nat (a b : Nat) : mn (a : Int) (b : Int) = ((min a b : Nat) : Int) := by unfold mn; split <;> omega
theorem mn_nat2 (a : Nat) : mn (a : Int) 2000 = ((min a 2000 : Nat) : Int) := by unfold mn; split <;> omega
theorem b1_lt {x : Nat} (hx : x < 2 ^ 32) : b1 x < 2 ^ 32 := by
  unfold b1
  split
  · exact xor_lt (by omega) (by decide)
  · exact xor_lt (by omega) (by decide)
/-- A bit of the byte and the register's, one round: the register turned by the byte goes on by one bit. -/
theorem round_eq (x c : Nat) : ((if x % 2 = c % 2 then x / 2 else (x / 2) ^^^ poly) ^^^ (c / 2)) = b1 (x ^^^ c) := by
  rw [b1_xor]
  unfold b1
  have hx : x % 2 = 0 ∨ x % 2 = 1 := by omega
  have hc : c % 2 = 0 ∨ c % 2 = 1 := by omega
  rcases hx with hx | hx <;> rcases hc with hc | hc <;> simp only [hx, hc, if_true, if_false, Nat.xor_zero, Nat.zero_ne_one, Nat.one_ne_zero]
  · rw [Nat.xor_assoc, Nat.xor_comm poly, ← Nat.xor_assoc]
  · rw [xor4, Nat.xor_self, Nat.xor_zero]
def iter : Nat → Nat → Nat
  | 0, x => x
  | n + 1, x => iter n (b1 x)
theorem iter_byte (x c : Nat) : iter 8 (x ^^^ c) = byteN x c := by
  unfold byteN
  rw [step_b1, step_b1]
  rfl
theorem rounds_eq (l : List Int) (hl : l.length ≤ 8000) (i : Nat) (res : Int) : ∀ (d j x c : Nat), j + d = 8 → x < 2 ^ 32 → c < 2 ^ d →
    (∀ y : Nat, y = iter d (x ^^^ c) → ∃ k, belvedereref01_More.l0 k l (y : Int) ((i + 1 : Nat) : Int) = some res) → i < l.length → ∃ k, belvedereref01_More.l1 k l (x : Int) (i : Int) (c : Int) (j : Int) = some res := by
  intro d
  induction d with
  | zero =>
    intro j x c hj hx hc h hi
    have hc0 : c = 0 := by simpa using hc
    subst hc0
    obtain ⟨k, hk⟩ := h x (by rw [iter, Nat.xor_zero])
    have w1 : wrap64 ((i : Int) + 1) = ((i + 1 : Nat) : Int) := by unfold wrap64; omega
    have g : ¬ ((j : Int) < 8) := by omega
    exact ⟨k + 1, by rw [belvedereref01_More.l1, if_neg g, w1]; exact hk⟩
  | succ d ih =>
    intro j x c hj hx hc h hi
    have g : (j : Int) < 8 := by omega
    have w1 : wrap64 ((j : Int) + 1) = ((j + 1 : Nat) : Int) := by unfold wrap64; omega
    have hc2 : c / 2 < 2 ^ d := by rw [Nat.pow_succ] at hc; omega
    have hc256 : c < 256 := by
      have : 2 ^ (d + 1) ≤ 2 ^ 8 := Nat.pow_le_pow_right (by decide) (by omega)
      omega
    have e1 : Int.tmod (x : Int) 2 = ((x % 2 : Nat) : Int) := by rw [Int.tmod_eq_emod_of_nonneg (by omega)]; omega
    have e2 : (Int.tmod (c : Int) 2) % 4294967296 = ((c % 2 : Nat) : Int) := by rw [Int.tmod_eq_emod_of_nonneg (by omega)]; omega
    have e3 : (Int.tdiv (x : Int) 2) % 4294967296 = ((x / 2 : Nat) : Int) := by rw [Int.tdiv_eq_ediv_of_nonneg (by omega)]; omega
    have e4 : (Int.tdiv (c : Int) 2) % 256 = ((c / 2 : Nat) : Int) := by rw [Int.tdiv_eq_ediv_of_nonneg (by omega)]; omega
    have e5 : Go.bits .xor .u32 ((x / 2 : Nat) : Int) 3988292384 = (((x / 2) ^^^ poly : Nat) : Int) := xor_u32 (x / 2) poly (by omega) (by decide)
    have hr := round_eq x c
    by_cases hb : x % 2 = c % 2
    · rw [if_pos hb] at hr
      obtain ⟨k, hk⟩ := ih (j + 1) (x / 2) (c / 2) (by omega) (by omega) hc2 (fun y hy => h y (by rw [hy, hr]; rfl)) hi
      exact ⟨k + 1, by rw [belvedereref01_More.l1, if_pos g, e1, e2, if_pos (by rw [hb]), e3, e4, w1]; exact hk⟩
    · rw [if_neg hb] at hr
      have hne : ¬ (((x % 2 : Nat) : Int) = ((c % 2 : Nat) : Int)) := fun e => hb (Int.ofNat.inj e)
      obtain ⟨k, hk⟩ := ih (j + 1) ((x / 2) ^^^ poly) (c / 2) (by omega) (xor_lt (by omega) (by decide)) hc2 (fun y hy => h y (by rw [hy, hr]; rfl)) hi
      exact ⟨k + 1, by rw [belvedereref01_More.l1, if_pos g, e1, e2, if_neg hne, e3, e4, w1, e5]; exact hk⟩
theorem ref_loop (l : List Int) (hl : l.length ≤ 8000) (hb : By l) : ∀ (r : List Int) (i x : Nat), l.drop i = r → i ≤ l.length → x < 2 ^ 32 → ∃ k, belvedereref01_More.l0 k l (x : Int) (i : Int) = some ((M ^^^ regN x r : Nat) : Int) := by
  intro r
  induction r with
  | nil =>
    intro i x h hi hx
    have hlen := congrArg List.length h
    rw [List.length_drop] at hlen
    simp at hlen
    have g : ¬ ((i : Int) < (l.length : Int)) := by omega
    have e : (4294967295 - (x : Int)) % 4294967296 = ((M ^^^ x : Nat) : Int) := by
      have h1 := not_u32 x hx
      have h2 : M ^^^ x = M - x := by
        have e1 : (BitVec.ofNat 32 x ^^^ BitVec.allOnes 32).toNat = x ^^^ M := by
          rw [BitVec.toNat_xor, BitVec.toNat_ofNat, BitVec.toNat_allOnes, Nat.mod_eq_of_lt hx]; rfl
        rw [Nat.xor_comm, ← e1, BitVec.xor_allOnes, BitVec.toNat_not, BitVec.toNat_ofNat, Nat.mod_eq_of_lt hx]; rfl
      rw [h2]
      have hM : M = 4294967295 := rfl
      omega
    exact ⟨1, by rw [belvedereref01_More.l0, if_neg g, e]; rfl⟩
  | cons b r ih =>
    intro i x h hi hx
    obtain ⟨h1, h2, h3⟩ := rd_drop h
    have hbb : 0 ≤ b ∧ b < 256 := hb b (by have : b ∈ l.drop i := by rw [h]; exact .head _
                                           exact List.mem_of_mem_drop this)
    obtain ⟨q, rfl⟩ : ∃ q : Nat, b = (q : Int) := ⟨b.toNat, by omega⟩
    have g : (i : Int) < (l.length : Int) := by omega
    have g0 : (0 : Int) ≤ (i : Int) := Int.natCast_nonneg _
    obtain ⟨k, hk⟩ := rounds_eq l hl i ((M ^^^ regN x ((q : Int) :: r) : Nat) : Int) 8 0 x q (by omega) hx (by omega) (fun y hy => by
      rw [hy, iter_byte]
      exact ih (i + 1) (byteN x q) h3 (by omega) (byteN_lt hx (by omega))) h2
    exact ⟨k + 1, by rw [belvedereref01_More.l0, if_pos g, if_pos g0, h1]; exact hk⟩
theorem ref_more (s : Nat) (l : List Int) (hl : l.length ≤ 8000) (hb : By l) (hs : s < 2 ^ 32) : ∃ k, belvedereref01_More.f k (s : Int) l = some (moreZ (s : Int) l) := by
  have e : (4294967295 - (s : Int)) % 4294967296 = ((M ^^^ s : Nat) : Int) := by
    have h2 : M ^^^ s = M - s := by
      have e1 : (BitVec.ofNat 32 s ^^^ BitVec.allOnes 32).toNat = s ^^^ M := by
        rw [BitVec.toNat_xor, BitVec.toNat_ofNat, BitVec.toNat_allOnes, Nat.mod_eq_of_lt hs]; rfl
      rw [Nat.xor_comm, ← e1, BitVec.xor_allOnes, BitVec.toNat_not, BitVec.toNat_ofNat, Nat.mod_eq_of_lt hs]; rfl
    rw [h2]
    have hM : M = 4294967295 := rfl
    omega
  obtain ⟨k, hk⟩ := ref_loop l hl hb l 0 (M ^^^ s) rfl (Nat.zero_le _) (xor_lt M_lt hs)
  refine ⟨k, ?_⟩
  unfold belvedereref01_More.f
  rw [e, more_eq s l hb hs]
  exact hk
theorem ref_more_ev (s : Nat) (l : List Int) (hl : l.length ≤ 8000) (hb : By l) (hs : s < 2 ^ 32) : Ev (fun k => belvedereref01_More.f k (s : Int) l) (moreZ (s : Int) l) := by
  obtain ⟨k, hk⟩ := ref_more s l hl hb hs
  exact Ev.of (belvedereref01_More.mono _ _) hk
theorem laidB_len (s : Int) : (laidB s).length = 4 := rfl
theorem seal_f (l : List Int) (hl : l.length + 4 < 140737488355328) : crc_Seal.f l = some (l ++ laidB (moreZ 0 l)) := by unfold crc_Seal.f; rw [if_pos hl]
/-- What was sealed is opened. -/
theorem open_seal (l : List Int) (hl : l.length + 4 < 140737488355328) : crc_Open.f (l ++ laidB (moreZ 0 l)) = some (l, none) := by
  have h1 : (l ++ laidB (moreZ 0 l)).length = l.length + 4 := by rw [List.length_append, laidB_len]
  have h2 : (l ++ laidB (moreZ 0 l)).length - 4 = l.length := by omega
  unfold crc_Open.f
  rw [if_pos (by omega), if_neg (by omega), h2, List.drop_left, List.take_left, if_pos rfl]
theorem open_any (l : List Int) (hl : l.length < 140737488355328) (h4 : ¬ l.length < 4) : crc_Open.f l = some (l.take (l.length - 4), none) ∨ crc_Open.f l = some ([], some 6) := by
  unfold crc_Open.f
  rw [if_pos hl, if_neg h4]
  split
  · exact .inl rfl
  · exact .inr rfl
theorem num_of (e : Option Int) : belvederelaw01_num.f e = some (e.getD 0) := rfl
/-! ### CrcShort -/
theorem u8_inj {a b : Int} (ha : 0 ≤ a ∧ a < 256) (hb : 0 ≤ b ∧ b < 256) (h : UInt8.ofNat a.toNat = UInt8.ofNat b.toNat) : a = b := by
  have h1 := congrArg UInt8.toNat h
  rw [UInt8.toNat_ofNat', UInt8.toNat_ofNat'] at h1
  omega
theorem texts_inj : ∀ (a b : List Int), By a → By b → (a.map fun n : Int => UInt8.ofNat n.toNat) = (b.map fun n : Int => UInt8.ofNat n.toNat) → a = b
  | [], [], _, _, _ => rfl
  | [], _ :: _, _, _, h => by simp at h
  | _ :: _, [], _, _, h => by simp at h
  | x :: a, y :: b, ha, hb, h => by
    injection h with h1 h2
    rw [u8_inj ha.head hb.head h1, texts_inj a b ha.tail hb.tail h2]
theorem text_list (a : List Int) : (strOfNums a).toList = a.map fun n : Int => UInt8.ofNat n.toNat := Go.Lib.strOfNums_toList a
theorem text_inj {a b : List Int} (ha : By a) (hb : By b) (h : (strOfNums a).toList = (strOfNums b).toList) : a = b := by
  rw [text_list, text_list] at h
  exact texts_inj a b ha hb h
theorem laidB_by (s : Int) : By (laidB s) := by
  intro x hx
  unfold laidB at hx
  simp only [List.mem_cons, List.not_mem_nil, or_false] at hx
  rcases hx with rfl | rfl | rfl | rfl <;> omega
end Go.Proofs.YtgaklpmedgcglaaDoor.Crc
