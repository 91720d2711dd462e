/- Plain mathematics of layer 1: the register, as natural numbers; four bits at once are four times one bit; what is linear. -/
import Derived.Test.YtgaklpmedgcglaaDoorPx3
import Derived.Test.YtgaklpmedgcglaaDoorPx4
import Derived.Test.YtgaklpmedgcglaaDoorPx6
import Derived.Test.YtgaklpmedgcglaaDoorPx7
import Derived.OpenShut
import Derived.Lib.Bytes
set_option linter.unusedVariables false
namespace Go.Proofs.YtgaklpmedgcglaaDoor.Crc
open Go.RowKit Go.Proofs.YtgaklpmedgcglaaDoor.P Go.Proofs.YtgaklpmedgcglaaDoorW.PrintWords Go.Proofs.YtgaklpmedgcglaaDoorW.PrintLast Go.Proofs.YtgaklpmedgcglaaDoorW.PrintMore

/-- All 32 bits. -/
def M : Nat := 4294967295
theorem xor_lt {a b : Nat} (ha : a < 2 ^ 32) (hb : b < 2 ^ 32) : a ^^^ b < 2 ^ 32 := Nat.xor_lt_two_pow ha hb
theorem xor_u32 (a b : Nat) (ha : a < 2 ^ 32) (hb : b < 2 ^ 32) : Go.bits .xor .u32 (a : Int) (b : Int) = ((a ^^^ b : Nat) : Int) := by
  have ha' : a % 2 ^ IntKind.u32.bits = a := Nat.mod_eq_of_lt ha
  have hb' : b % 2 ^ IntKind.u32.bits = b := Nat.mod_eq_of_lt hb
  simp only [Go.bits, BitVec.ofInt_natCast, BitVec.toNat_xor, BitVec.toNat_ofNat, ha', hb']
  have := xor_lt ha hb
  rw [IntKind.wrap_u32]
  omega
theorem not_u32 (a : Nat) (ha : a < 2 ^ 32) : Go.bits .xor .u32 (-1) (a : Int) = ((M ^^^ a : Nat) : Int) := by
  have h1 : Go.bits .xor .u32 (-1) (a : Int) = Go.bits .xor .u32 ((M : Nat) : Int) (a : Int) := by
    simp only [Go.bits]
    have : (BitVec.ofInt IntKind.u32.bits (-1)) = BitVec.ofInt IntKind.u32.bits ((M : Nat) : Int) := by decide
    rw [this]
  rw [h1, xor_u32 _ _ (by decide) ha]
theorem and15_u32 (a : Nat) (ha : a < 2 ^ 32) : Go.bits .and .u32 (a : Int) 15 = ((a % 16 : Nat) : Int) := by
  have ha' : a % 2 ^ IntKind.u32.bits = a := Nat.mod_eq_of_lt ha
  have h1 : (BitVec.ofInt IntKind.u32.bits (15 : Int)).toNat = 2 ^ 4 - 1 := by decide
  show IntKind.u32.wrap (((BitVec.ofInt IntKind.u32.bits (a : Int) &&& BitVec.ofInt IntKind.u32.bits (15 : Int)).toNat : Nat) : Int) = _
  rw [BitVec.toNat_and, h1, BitVec.ofInt_natCast, BitVec.toNat_ofNat, ha', Nat.and_two_pow_sub_one_eq_mod, IntKind.wrap_u32]
  omega
def tab : List Nat := [0, 498536548, 997073096, 651767980, 1994146192, 1802195444, 1303535960, 1342533948, 3988292384, 4027552580, 3604390888, 3412177804, 2607071920, 2262029012, 2685067896, 3183342108]
def stN (i : Nat) : Nat := tab.getD i 0
def stepN (x : Nat) : Nat := (x / 16) ^^^ stN (x % 16)
def byteN (x b : Nat) : Nat := stepN (stepN (x ^^^ b))
def regN (x : Nat) (l : List Int) : Nat := l.foldl (fun y b => byteN y b.toNat) x
theorem stN_lt (i : Nat) (h : i < 16) : stN i < 2 ^ 32 := (show ∀ i : Fin 16, stN i.val < 2 ^ 32 by decide) ⟨i, h⟩
theorem st_eq (i : Nat) (h : i < 16) : crc_st (i : Int) = (stN i : Int) := (show ∀ i : Fin 16, crc_st ((i.val : Nat) : Int) = (stN i.val : Int) by decide) ⟨i, h⟩
theorem stepN_lt {x : Nat} (hx : x < 2 ^ 32) : stepN x < 2 ^ 32 := xor_lt (by omega) (stN_lt _ (Nat.mod_lt _ (by decide)))
theorem byteN_lt {x b : Nat} (hx : x < 2 ^ 32) (hb : b < 2 ^ 32) : byteN x b < 2 ^ 32 := stepN_lt (stepN_lt (xor_lt hx hb))
theorem step_eq (x : Nat) (hx : x < 2 ^ 32) : crc_step (x : Int) = (stepN x : Int) := by
  unfold crc_step
  have e1 : (x : Int) / 16 = ((x / 16 : Nat) : Int) := by omega
  rw [and15_u32 x hx, st_eq _ (Nat.mod_lt _ (by decide)), e1, xor_u32 _ _ (by omega) (stN_lt _ (Nat.mod_lt _ (by decide)))]
  rfl
theorem byte_eq (x b : Nat) (hx : x < 2 ^ 32) (hb : b < 256) : crc_byte (x : Int) (b : Int) = (byteN x b : Int) := by
  unfold crc_byte
  have e1 : (b : Int) % 4294967296 = (b : Int) := by omega
  have h1 := xor_lt hx (show b < 2 ^ 32 by omega)
  rw [e1, xor_u32 _ _ hx (by omega), step_eq _ h1, step_eq _ (stepN_lt h1)]
  rfl
/-- Bytes. -/
def By (l : List Int) : Prop := ∀ x ∈ l, 0 ≤ x ∧ x < 256
theorem By.head {b : Int} {r : List Int} (h : By (b :: r)) : 0 ≤ b ∧ b < 256 := h b (.head _)
theorem By.tail {b : Int} {r : List Int} (h : By (b :: r)) : By r := fun x hx => h x (.tail _ hx)
theorem By.drop {l : List Int} (h : By l) (n : Nat) : By (l.drop n) := fun x hx => h x (List.mem_of_mem_drop hx)
theorem By.take {l : List Int} (h : By l) (n : Nat) : By (l.take n) := fun x hx => h x (List.mem_of_mem_take hx)
theorem By.append {a b : List Int} (h : By a) (h2 : By b) : By (a ++ b) := fun x hx => (List.mem_append.1 hx).elim (h x) (h2 x)
theorem by_of {l : List Int} (h : ∀ x ∈ l, (Lit.int .u8 x).wf = true) : By l := fun x hx => by have := bounds_u8 (h x hx); omega
theorem reg_eq : ∀ (l : List Int) (x : Nat), By l → x < 2 ^ 32 → l.foldl crc_byte (x : Int) = (regN x l : Int) ∧ regN x l < 2 ^ 32
  | [], x, _, hx => ⟨rfl, hx⟩
  | b :: l, x, h, hx => by
    have hb := h.head
    obtain ⟨q, rfl⟩ : ∃ q : Nat, b = (q : Int) := ⟨b.toNat, by omega⟩
    have h1 : byteN x q < 2 ^ 32 := byteN_lt hx (by omega)
    have h2 := reg_eq l (byteN x q) h.tail h1
    rw [List.foldl_cons, byte_eq x q hx (by omega)]
    exact h2
theorem M_lt : M < 2 ^ 32 := by decide
theorem more_eq (s : Nat) (l : List Int) (h : By l) (hs : s < 2 ^ 32) : moreZ (s : Int) l = ((M ^^^ regN (M ^^^ s) l : Nat) : Int) := by
  have h1 := xor_lt M_lt hs
  obtain ⟨h2, h3⟩ := reg_eq l (M ^^^ s) h h1
  unfold moreZ
  rw [not_u32 s hs, h2, not_u32 _ h3]
theorem reg_lt (s : Nat) (l : List Int) (h : By l) (hs : s < 2 ^ 32) : regN s l < 2 ^ 32 := (reg_eq l s h hs).2
theorem MM (x : Nat) : M ^^^ (M ^^^ x) = x := by rw [← Nat.xor_assoc, Nat.xor_self, Nat.zero_xor]
theorem reg_append (x : Nat) (a b : List Int) : regN x (a ++ b) = regN (regN x a) b := List.foldl_append ..
theorem sum_eq (l : List Int) (hl : l.length < 140737488355328) : crc_Sum.f l = some (moreZ 0 l) := by
  unfold crc_Sum.f crc_More.f
  rw [if_pos hl]
  rfl
theorem more_f (s : Int) (l : List Int) (hl : l.length < 140737488355328) : crc_More.f s l = some (moreZ s l) := by
  unfold crc_More.f
  rw [if_pos hl]
theorem sure : belvederelaw01_sure.f = some true := rfl

/-! ### CrcParts -/
theorem parts_at (l : List Int) (hl : ¬ (l.length : Int) > 8000) (hb : By l) (a : Int) (k : Nat) (hk : k ≤ l.length)
    (e1 : ¬ (IntKind.u64.wrap (wrap64 ((l.length : Int) + 1))) = 0) (e2 : wrap64 (Int.tmod (IntKind.u64.wrap a) (IntKind.u64.wrap (wrap64 ((l.length : Int) + 1)))) = (k : Int)) : belvederelaw01_CrcParts.f l a = some true := by
  have t0 : ((k : Int)).toNat = k := rfl
  have c1 : (0 : Int) ≤ (k : Int) := Int.natCast_nonneg _
  have c2 : (k : Int) ≤ (l.length : Int) := by omega
  have h1 : moreZ (moreZ 0 (l.take k)) (l.drop k) = moreZ 0 l := by
    have hz : ((0 : Nat) : Int) = 0 := rfl
    have r1 := reg_lt (M ^^^ 0) (l.take k) (hb.take k) (xor_lt M_lt (by decide))
    rw [← hz, more_eq 0 _ (hb.take k) (by decide), more_eq _ _ (hb.drop k) (xor_lt M_lt r1), more_eq 0 _ hb (by decide), MM, ← reg_append, List.take_append_drop]
  have h2 : moreZ (moreZ 0 l) [] = moreZ 0 l := by
    have hz : ((0 : Nat) : Int) = 0 := rfl
    have r1 := reg_lt (M ^^^ 0) l hb (xor_lt M_lt (by decide))
    rw [← hz, more_eq 0 _ hb (by decide), more_eq _ [] (fun x hx => by cases hx) (xor_lt M_lt r1), MM]
    rfl
  unfold belvederelaw01_CrcParts.f
  rw [if_neg hl, if_neg e1, e2, if_pos c1, if_pos c2, t0, sum_eq _ (by rw [List.length_take]; omega), Option.bind_some, more_f _ _ (by rw [List.length_drop]; omega), Option.bind_some, sum_eq _ (by omega), Option.bind_some, h1, if_pos rfl, Option.bind_some, more_f _ _ (by decide), Option.bind_some, Option.bind_some, h2, if_pos rfl, sure]
  rfl
theorem crcParts : belvederelaw01_CrcParts.Pure := by
  intro l a _ _ hw ha
  have hb := by_of hw
  have ba := bounds_i64 ha
  by_cases hl : (l.length : Int) > 8000
  · unfold belvederelaw01_CrcParts.f
    rw [if_pos hl, sure]
    rfl
  · have w1 : IntKind.u64.wrap (wrap64 ((l.length : Int) + 1)) = (l.length : Int) + 1 := by rw [IntKind.wrap_u64]; unfold wrap64; omega
    obtain ⟨u, hu⟩ : ∃ u : Nat, IntKind.u64.wrap a = (u : Int) := ⟨(IntKind.u64.wrap a).toNat, by rw [IntKind.wrap_u64]; omega⟩
    have e : Int.tmod (u : Int) ((l.length : Int) + 1) = ((u % (l.length + 1) : Nat) : Int) := by rw [Int.tmod_eq_emod_of_nonneg (by omega)]; exact (Int.natCast_emod u (l.length + 1)).symm
    have hlt : u % (l.length + 1) < l.length + 1 := Nat.mod_lt _ (by omega)
    refine parts_at l hl hb a (u % (l.length + 1)) (by omega) (by rw [w1]; omega) ?_
    rw [w1, hu, e]
    unfold wrap64
    omega
end Go.Proofs.YtgaklpmedgcglaaDoor.Crc
