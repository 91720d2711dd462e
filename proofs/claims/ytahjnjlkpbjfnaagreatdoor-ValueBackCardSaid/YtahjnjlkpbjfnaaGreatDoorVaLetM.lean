/- Plain mathematics of layer 10: the document's letters that may be are the program's. -/
import Derived.Test.YtahjnjlkpbjfnaaGreatDoorVaListA
import Derived.Test.YtahjnjlkpbjfnaaGreatDoorPx9
import Derived.Test.YtahjnjlkpbjfnaaGreatDoorPx10
import Derived.Test.YtahjnjlkpbjfnaaGreatDoorPx11
import Derived.Lib.Join
set_option linter.unusedVariables false
set_option linter.unusedSimpArgs false
namespace Go.Proofs.YtahjnjlkpbjfnaaGreatDoor.PVal
open Go Go.RowKit Go.Proofs.YtahjnjlkpbjfnaaGreatDoor.P Go.Proofs.YtahjnjlkpbjfnaaGreatDoorW.PrintWords Go.Proofs.YtahjnjlkpbjfnaaGreatDoorW.PrintLast Go.Proofs.YtahjnjlkpbjfnaaGreatDoorW.PrintMore
theorem bt_mid {s : ByteArray} {pre r : List UInt8} {d : UInt8} (h : s.data.toList = pre ++ d :: r) : bt s (pre.length : Int) = (d.toNat : Int) := by
  rw [bt_l s pre.length (by rw [h]; simp)]
  congr 1
  have : s.data.toList[pre.length]? = some d := by
    rw [h, List.getElem?_append_right (Nat.le_refl _), Nat.sub_self]; rfl
  rw [List.getElem?_eq_getElem (by rw [h]; simp)] at this
  exact congrArg UInt8.toNat (Option.some.inj this)
theorem up64 {n : Nat} (h : n ≤ 1000000000) : wrap64 ((n : Int) + 1) = ((n + 1 : Nat) : Int) := by rw [w64 (by omega) (by omega)]; omega
/-- Where a letter is first. -/
theorem at_l0 (L : ByteArray) (c : UInt8) (hL : L.size ≤ 1000) : ∀ (rest pre : List UInt8) (k : Nat), L.data.toList = pre ++ rest → c ∉ pre → rest.length + 1 ≤ k → belvedereref10_at.l0 k L (c.toNat : Int) (pre.length : Int) = some (Lib.indexByte L.data.toList c) := by
  intro rest
  induction rest with
  | nil =>
    intro pre k h hn hk
    obtain ⟨n, rfl⟩ : ∃ n, k = n + 1 := ⟨k - 1, by simp at hk; omega⟩
    have hl : L.size = pre.length := by rw [size_l, h]; simp
    rw [belvedereref10_at.l0, if_neg (by omega), h, List.append_nil, ix_notin c pre hn]
  | cons d r ih =>
    intro pre k h hn hk
    rw [List.length_cons] at hk
    obtain ⟨n, rfl⟩ : ∃ n, k = n + 1 := ⟨k - 1, by omega⟩
    have hl : L.size = pre.length + (r.length + 1) := by rw [size_l, h]; simp
    rw [belvedereref10_at.l0, if_pos (by omega), if_pos (Int.natCast_nonneg _), bt_mid h]
    by_cases hd : d = c
    · subst hd
      rw [if_pos rfl, h, ix_at d r pre hn]
    · rw [if_neg (fun e => hd (UInt8.toNat_inj.1 (by omega))), up64 (by omega)]
      have := ih (pre ++ [d]) n (by rw [h]; simp) (by simp only [List.mem_append, List.mem_singleton]; exact fun q => q.elim hn (fun e => hd e.symm)) (by omega)
      rw [List.length_append] at this
      exact this
theorem at_f (L : ByteArray) (c : UInt8) (hL : L.size ≤ 1000) (k : Nat) (hk : 1001 ≤ k) : belvedereref10_at.f k L (c.toNat : Int) = some (Lib.indexByte L.data.toList c) :=
  at_l0 L c hL L.data.toList [] k (by simp) (by simp) (by rw [← size_l]; omega)
/-- What letters must be. -/
def MayL (l : List UInt8) : Prop := l.length ≤ 16 ∧ (∀ c ∈ l, 97 ≤ c.toNat ∧ c.toNat ≤ 122) ∧ l.Nodup
theorem mayB_iff (L : ByteArray) : mayB L = true ↔ MayL L.data.toList := by
  unfold mayB MayL bytesOf
  rw [Bool.and_eq_true, Bool.and_eq_true, decide_eq_true_eq, decide_eq_true_eq, Bool.not_eq_true', size_l]
  have h1 : ((L.data.toList.map fun b => (b.toNat : Int)).any oddLetter = false) ↔ ∀ c ∈ L.data.toList, 97 ≤ c.toNat ∧ c.toNat ≤ 122 := by
    rw [List.any_map, List.any_eq_false]
    refine forall_congr' fun c => forall_congr' fun _ => ?_
    unfold oddLetter
    simp only [Function.comp, Bool.or_eq_true, decide_eq_true_eq]
    omega
  have h2 : (L.data.toList.map fun b => (b.toNat : Int)).Nodup ↔ L.data.toList.Nodup := by
    unfold List.Nodup
    rw [List.pairwise_map]
    constructor
    · exact fun h => h.imp fun hne e => hne (by rw [e])
    · exact fun h => h.imp fun hne e => hne (UInt8.toNat_inj.1 (by omega))
  rw [h1, h2, and_assoc]
theorem ix_lt_of_mem (c : UInt8) (l : List UInt8) (h : c ∈ l) : ∃ n : Nat, Lib.indexByte l c = (n : Int) ∧ n < l.length ∧ l[n]? = some c := by
  obtain ⟨a, r, rfl, hn⟩ := first_at c l h
  refine ⟨a.length, ix_at c r a hn, by simp, ?_⟩
  rw [List.getElem?_append_right (Nat.le_refl _), Nat.sub_self]
  rfl
theorem ix_prefix (c : UInt8) (a r : List UInt8) (h : c ∈ a) : Lib.indexByte (a ++ r) c ≠ (a.length : Int) := by
  obtain ⟨x, y, rfl, hn⟩ := first_at c a h
  rw [List.append_assoc, List.cons_append, ix_at c (y ++ r) x hn]
  simp
  omega
theorem may_l0 (L : ByteArray) (hL : L.size ≤ 1000) : ∀ (rest pre : List UInt8) (k : Nat), L.data.toList = pre ++ rest → (∀ c ∈ pre, 97 ≤ c.toNat ∧ c.toNat ≤ 122) → pre.Nodup → 1002 + rest.length ≤ k → belvedereref10_May.l0 k L (pre.length : Int) = some (mayB L) := by
  intro rest
  induction rest with
  | nil =>
    intro pre k h hp hn hk
    obtain ⟨n, rfl⟩ : ∃ n, k = n + 1 := ⟨k - 1, by omega⟩
    have hl : L.size = pre.length := by rw [size_l, h]; simp
    rw [belvedereref10_May.l0, if_neg (by omega)]
    congr 1
    rw [Bool.eq_iff_iff, mayB_iff, decide_eq_true_eq, h, List.append_nil]
    unfold MayL
    constructor
    · exact fun q => ⟨by omega, hp, hn⟩
    · exact fun q => by have := q.1; omega
  | cons d r ih =>
    intro pre k h hp hn hk
    rw [List.length_cons] at hk
    obtain ⟨n, rfl⟩ : ∃ n, k = n + 1 := ⟨k - 1, by omega⟩
    have hl : L.size = pre.length + (r.length + 1) := by rw [size_l, h]; simp
    have hno : ¬ MayL L.data.toList → some false = some (mayB L) := fun q => congrArg some (Bool.eq_false_iff.2 fun e => q ((mayB_iff L).1 e)).symm
    rw [belvedereref10_May.l0, if_pos (by omega), if_pos (Int.natCast_nonneg _), bt_mid h]
    by_cases h1 : (d.toNat : Int) < 97
    · rw [if_pos h1]
      exact hno fun q => by have := q.2.1 d (by rw [h]; simp); omega
    · rw [if_neg h1]
      by_cases h2 : (d.toNat : Int) > 122
      · rw [if_pos h2]
        exact hno fun q => by have := q.2.1 d (by rw [h]; simp); omega
      · rw [if_neg h2, at_f L d hL n (by omega), Option.bind_some]
        by_cases h3 : d ∈ pre
        · rw [if_neg (by rw [h]; exact ix_prefix d pre (d :: r) h3)]
          refine hno fun q => ?_
          have h4 := q.2.2
          rw [h, List.nodup_append] at h4
          exact h4.2.2 d h3 d (by simp) rfl
        · rw [if_pos (by rw [h]; exact ix_at d r pre h3), up64 (by omega)]
          have := ih (pre ++ [d]) n (by rw [h]; simp) (fun c hc => by
            rcases List.mem_append.1 hc with q | q
            · exact hp c q
            · rw [List.mem_singleton] at q; rw [q]; omega) (by
            rw [List.nodup_append]
            exact ⟨hn, by simp, fun a ha b hb e => by rw [List.mem_singleton] at hb; rw [e, hb] at ha; exact h3 ha⟩) (by omega)
          rw [List.length_append] at this
          exact this
theorem ref_may (L : ByteArray) (hL : L.size ≤ 1000) (k : Nat) (hk : 2003 ≤ k) : belvedereref10_May.f k L = some (mayB L) :=
  may_l0 L hL L.data.toList [] k (by simp) (fun c hc => by cases hc) List.nodup_nil (by rw [← size_l]; omega)
theorem own_may (L : ByteArray) (hL : L.size ≤ 1000) : value_may.f L = some (mayB L) := by unfold value_may.f; rw [if_pos (by omega)]
end Go.Proofs.YtahjnjlkpbjfnaaGreatDoor.PVal

/- Plain mathematics of layer 10: the bits of letters. -/
set_option linter.unusedVariables false
set_option linter.unusedSimpArgs false
namespace Go.Proofs.YtahjnjlkpbjfnaaGreatDoor.PVal
open Go Go.RowKit Go.Proofs.YtahjnjlkpbjfnaaGreatDoor.P Go.Proofs.YtahjnjlkpbjfnaaGreatDoorW.PrintWords Go.Proofs.YtahjnjlkpbjfnaaGreatDoorW.PrintLast Go.Proofs.YtahjnjlkpbjfnaaGreatDoorW.PrintMore
theorem or_i64 (a b : Nat) (ha : a < 65536) (hb : b < 65536) : Go.bits .or .i64 (a : Int) (b : Int) = ((a ||| b : Nat) : Int) := by
  have hx : a ||| b < 2 ^ 16 := Nat.or_lt_two_pow (by omega) (by omega)
  have h1 : (BitVec.ofInt 64 (a : Int)).toNat = a := by
    rw [BitVec.ofInt_natCast, BitVec.toNat_ofNat]; exact Nat.mod_eq_of_lt (by omega)
  have h2 : (BitVec.ofInt 64 (b : Int)).toNat = b := by
    rw [BitVec.ofInt_natCast, BitVec.toNat_ofNat]; exact Nat.mod_eq_of_lt (by omega)
  show IntKind.i64.wrap ((BitVec.ofInt 64 (a : Int) ||| BitVec.ofInt 64 (b : Int)).toNat : Int) = _
  rw [BitVec.toNat_or, h1, h2, i64_w, w64 (by omega) (by omega)]
theorem or_add (b p : Nat) (hp : p < 16) (hb : b < 65536) (h : b.testBit p = false) : b ||| 2 ^ p = b + 2 ^ p := by
  have hp2 : 2 ^ p < 2 ^ 16 := Nat.pow_lt_pow_right (by decide) hp
  have hz : BitVec.ofNat 32 b &&& BitVec.ofNat 32 (2 ^ p) = 0#32 := by
    apply BitVec.eq_of_toNat_eq
    rw [BitVec.toNat_and, BitVec.toNat_ofNat, BitVec.toNat_ofNat, Nat.mod_eq_of_lt (by omega), Nat.mod_eq_of_lt (by omega)]
    show b &&& 2 ^ p = 0
    apply Nat.eq_of_testBit_eq
    intro i
    rw [Nat.testBit_and, Nat.testBit_two_pow, Nat.zero_testBit]
    by_cases hi : p = i
    · rw [← hi, h]; rfl
    · rw [decide_eq_false hi, Bool.and_false]
  have e := BitVec.add_eq_or_of_and_eq_zero _ _ hz
  have e2 := congrArg BitVec.toNat e
  rw [BitVec.toNat_add, BitVec.toNat_or, BitVec.toNat_ofNat, BitVec.toNat_ofNat, Nat.mod_eq_of_lt (a := b) (by omega), Nat.mod_eq_of_lt (a := 2 ^ p) (by omega), Nat.mod_eq_of_lt (by omega)] at e2
  exact e2.symm
theorem shl_one (p : Nat) (hp : p < 16) : shl .i64 1 (p : Int) = ((2 ^ p : Nat) : Int) := by
  have hp2 : 2 ^ p < 2 ^ 16 := Nat.pow_lt_pow_right (by decide) hp
  unfold shl
  rw [Int.toNat_natCast, show IntKind.i64.bits = 64 from rfl, Nat.min_eq_left (by omega), Int.one_mul, show ((2 : Int) ^ p) = ((2 ^ p : Nat) : Int) by push_cast; rfl, i64_w]
  generalize 2 ^ p = q at hp2 ⊢
  rw [w64 (by omega) (by omega)]
/-- The place of a letter, as a number. -/
def ixN (l : List UInt8) (c : UInt8) : Nat := (Lib.indexByte l c).toNat
theorem ixN_mem {l : List UInt8} {c : UInt8} (h : c ∈ l) : Lib.indexByte l c = (ixN l c : Int) ∧ ixN l c < l.length ∧ l[ixN l c]? = some c := by
  obtain ⟨n, h1, h2, h3⟩ := ix_lt_of_mem c l h
  have : ixN l c = n := by unfold ixN; rw [h1]; rfl
  rw [this]
  exact ⟨h1, h2, h3⟩
theorem ixN_inj {l : List UInt8} {c d : UInt8} (hc : c ∈ l) (hd : d ∈ l) (h : ixN l c = ixN l d) : c = d := by
  have h1 := (ixN_mem hc).2.2
  have h2 := (ixN_mem hd).2.2
  rw [h, h2] at h1
  exact (Option.some.inj h1).symm
/-- The bits of parts. -/
def optL (l : List UInt8) : List ByteArray → Nat → Int × Option Int
  | [], b => ((b : Int), none)
  | x :: r, b => match x.data.toList with
    | [c] => if c ∈ l then optL l r (b + 2 ^ ixN l c) else (0, some 3)
    | _ => (0, some 3)
theorem opt_one {l : List UInt8} {x : ByteArray} {r : List ByteArray} {b : Nat} {c : UInt8} (h : x.data.toList = [c]) : optL l (x :: r) b = if c ∈ l then optL l r (b + 2 ^ ixN l c) else (0, some 3) := by rw [optL, h]
theorem opt_odd {l : List UInt8} {x : ByteArray} {r : List ByteArray} {b : Nat} (h : x.size ≠ 1) : optL l (x :: r) b = (0, some 3) := by
  rw [optL]
  split
  · rename_i c hc
    exact absurd (by rw [size_l, hc]; rfl) h
  · rfl
theorem one_of {x : ByteArray} (h : x.size = 1) : ∃ c, x.data.toList = [c] := List.length_eq_one_iff.1 (by rw [← size_l]; exact h)
theorem wl_add (b p : Nat) (hb : b ≤ 100000000) (hp : p < 16) : wrap64 ((b : Int) + ((2 ^ p : Nat) : Int)) = ((b + 2 ^ p : Nat) : Int) := by
  have hp2 : 2 ^ p < 2 ^ 16 := Nat.pow_lt_pow_right (by decide) hp
  generalize 2 ^ p = q at hp2 ⊢
  rw [w64 (by omega) (by omega)]; omega
/-! ### The document's loop -/
theorem ro_l1 (L : ByteArray) (hL : MayL L.data.toList) (xs pre : List ByteArray) (x : ByteArray) (r : List ByteArray) (hxs : xs = pre ++ x :: r) (hz : xs.length ≤ 1000) (c : UInt8) (hx : x.data.toList = [c]) (hc : c ∈ L.data.toList) (b : Nat) (hb : b ≤ 100000000) : ∀ (m j k : Nat), m + j = ixN L.data.toList c → 2000 + m ≤ k →
    ∃ n, n + m + 1 = k ∧ belvedereref10_Options.l1 k L xs (b : Int) (pre.length : Int) ((2 ^ j : Nat) : Int) (j : Int) = belvedereref10_Options.l0 n L xs ((b + 2 ^ ixN L.data.toList c : Nat) : Int) ((pre.length + 1 : Nat) : Int) := by
  have hLs : L.size ≤ 16 := by rw [size_l]; exact hL.1
  obtain ⟨i1, i2, i3⟩ := ixN_mem hc
  have hlen : xs.length = pre.length + (r.length + 1) := by rw [hxs]; simp
  have hrd : rdOf ByteArray.empty xs (pre.length : Int) = x := rd_at xs pre x r hxs
  have hsz : x.size = 1 := by rw [size_l, hx]; rfl
  have hbt : bt x 0 = (c.toNat : Int) := bt_mid (pre := []) (r := []) hx
  have h16 : ixN L.data.toList c < 16 := by have := hL.1; omega
  intro m
  induction m with
  | zero =>
    intro j k hm hk
    obtain ⟨n, rfl⟩ : ∃ n, k = n + 1 := ⟨k - 1, by omega⟩
    refine ⟨n, by omega, ?_⟩
    have hj : j = ixN L.data.toList c := by omega
    rw [belvedereref10_Options.l1, if_pos (Int.natCast_nonneg _), if_pos (by omega), hrd, if_pos (by omega), hbt, at_f L c (by omega) n (by omega), Option.bind_some, i1, if_neg (by omega), hj, wl_add b _ hb (by omega), up64 (by omega)]
  | succ m ih =>
    intro j k hm hk
    obtain ⟨n, rfl⟩ : ∃ n, k = n + 1 := ⟨k - 1, by omega⟩
    obtain ⟨n', h1, h2⟩ := ih (j + 1) n (by omega) (by omega)
    refine ⟨n', by omega, ?_⟩
    have hp2 : 2 ^ (j + 1) < 2 ^ 16 := Nat.pow_lt_pow_right (by decide) (by omega)
    have hw : wrap64 (2 * ((2 ^ j : Nat) : Int)) = ((2 ^ (j + 1) : Nat) : Int) := by
      rw [Nat.pow_succ] at hp2 ⊢
      generalize 2 ^ j = q at hp2 ⊢
      rw [w64 (by omega) (by omega)]; omega
    rw [belvedereref10_Options.l1, if_pos (Int.natCast_nonneg _), if_pos (by omega), hrd, if_pos (by omega), hbt, at_f L c (by omega) n (by omega), Option.bind_some, i1, if_pos (by omega), hw, up64 (by omega)]
    exact h2
theorem ro_l0 (L : ByteArray) (hL : MayL L.data.toList) (xs : List ByteArray) (hz : xs.length ≤ 1000) : ∀ (rest pre : List ByteArray) (b k : Nat), xs = pre ++ rest → b ≤ 65536 * pre.length → 3000 + 100 * rest.length ≤ k →
    belvedereref10_Options.l0 k L xs (b : Int) (pre.length : Int) = some ((optL L.data.toList rest b).1, E (optL L.data.toList rest b).2) := by
  have hLs : L.size ≤ 16 := by rw [size_l]; exact hL.1
  intro rest
  induction rest with
  | nil =>
    intro pre b k h hb hk
    obtain ⟨n, rfl⟩ : ∃ n, k = n + 1 := ⟨k - 1, by omega⟩
    have hlen : xs.length = pre.length := by rw [h]; simp
    rw [belvedereref10_Options.l0, if_neg (by omega)]
    rfl
  | cons x r ih =>
    intro pre b k h hb hk
    rw [List.length_cons] at hk
    obtain ⟨n, rfl⟩ : ∃ n, k = n + 1 + 1 := ⟨k - 2, by omega⟩
    have hlen : xs.length = pre.length + (r.length + 1) := by rw [h]; simp
    have hrd : rdOf ByteArray.empty xs (pre.length : Int) = x := rd_at xs pre x r h
    rw [belvedereref10_Options.l0, if_pos (by omega), if_pos (Int.natCast_nonneg _), hrd]
    by_cases h1 : x.size = 1
    · obtain ⟨c, hc⟩ := one_of h1
      have hbt : bt x 0 = (c.toNat : Int) := bt_mid (pre := []) (r := []) hc
      rw [if_pos (by omega), if_pos (by omega), hbt, at_f L c (by omega) (n + 1) (by omega), Option.bind_some, opt_one hc, belvedereref10_Options.j2]
      by_cases hm : c ∈ L.data.toList
      · obtain ⟨i1, i2, i3⟩ := ixN_mem hm
        obtain ⟨n', e1, e2⟩ := ro_l1 L hL xs pre x r h hz c hc hm b (by omega) (ixN L.data.toList c) 0 n (by omega) (by have := hL.1; omega)
        rw [i1, if_neg (by simp), if_pos hm]
        have hp2 : 2 ^ ixN L.data.toList c < 2 ^ 16 := Nat.pow_lt_pow_right (by decide) (by have := hL.1; omega)
        have := ih (pre ++ [x]) (b + 2 ^ ixN L.data.toList c) n' (by rw [h]; simp) (by rw [List.length_append, List.length_singleton]; omega) (by have := hL.1; omega)
        rw [List.length_append] at this
        exact e2.trans this
      · rw [ix_notin c _ hm, if_pos (by decide), if_neg hm]
        rfl
    · rw [if_neg (by omega), opt_odd h1, belvedereref10_Options.j2, if_pos rfl]
      rfl
/-! ### The program's loop -/
theorem po_l0 (L : ByteArray) (hL : MayL L.data.toList) (xs : List ByteArray) (hz : xs.length ≤ 1000) : ∀ (rest pre : List ByteArray) (b k : Nat), xs = pre ++ rest → b < 65536 → rest.Nodup → (∀ x ∈ rest, ∀ c ∈ L.data.toList, x.data.toList = [c] → b.testBit (ixN L.data.toList c) = false) → rest.length + 1 ≤ k →
    value_Options.l0 k L (b : Int) xs (xs.length : Int) (pre.length : Int) = some (optL L.data.toList rest b) := by
  have hLs : L.size ≤ 16 := by rw [size_l]; exact hL.1
  intro rest
  induction rest with
  | nil =>
    intro pre b k h hb hn ht hk
    obtain ⟨n, rfl⟩ : ∃ n, k = n + 1 := ⟨k - 1, by simp at hk; omega⟩
    have hlen : xs.length = pre.length := by rw [h]; simp
    rw [value_Options.l0, if_neg (by omega)]
    rfl
  | cons x r ih =>
    intro pre b k h hb hn ht hk
    rw [List.length_cons] at hk
    obtain ⟨n, rfl⟩ : ∃ n, k = n + 1 := ⟨k - 1, by omega⟩
    have hlen : xs.length = pre.length + (r.length + 1) := by rw [h]; simp
    have hrd : rdOf ByteArray.empty xs (pre.length : Int) = x := rd_at xs pre x r h
    have hI : strings_Index.f L x = some (Lib.index L.data.toList x.data.toList) := by unfold strings_Index.f; rw [if_pos (by omega)]
    rw [value_Options.l0, if_pos (by omega), if_pos (Int.natCast_nonneg _), if_pos (by omega), hrd, hI, Option.bind_some]
    by_cases h1 : x.size = 1
    · obtain ⟨c, hc⟩ := one_of h1
      rw [opt_one hc, hc, Lib.index_one]
      by_cases hm : c ∈ L.data.toList
      · obtain ⟨i1, i2, i3⟩ := ixN_mem hm
        have hi : ixN L.data.toList c < 16 := by have := hL.1; omega
        have hp2 : 2 ^ ixN L.data.toList c < 2 ^ 16 := Nat.pow_lt_pow_right (by decide) hi
        have htb := ht x (by simp) c hm hc
        have hor := or_add b _ hi hb htb
        have hlt : b ||| 2 ^ ixN L.data.toList c < 2 ^ 16 := Nat.or_lt_two_pow (by omega) (by omega)
        rw [i1, if_neg (by omega), if_pos (by omega), if_pos (Int.natCast_nonneg _), shl_one _ hi, or_i64 b _ hb (by omega), hor, if_pos hm, up64 (by omega)]
        rw [hor] at hlt
        have hno := List.nodup_cons.1 hn
        have := ih (pre ++ [x]) (b + 2 ^ ixN L.data.toList c) n (by rw [h]; simp) (by omega) hno.2 (fun y hy d hd hyd => by
          rw [← hor, Nat.testBit_or, ht y (List.mem_cons_of_mem _ hy) d hd hyd, Nat.testBit_two_pow, Bool.false_or]
          refine decide_eq_false fun e => ?_
          have e2 := ixN_inj hm hd e
          exact hno.1 (by rw [show x = y from ba_inj (by rw [hc, hyd, e2])]; exact hy)) (by omega)
        rw [List.length_append] at this
        exact this
      · rw [ix_notin c _ hm, if_pos (by decide), if_neg hm]
    · rw [opt_odd h1]
      by_cases h2 : Lib.index L.data.toList x.data.toList < 0
      · rw [if_pos h2]
      · rw [if_neg h2, if_neg (by omega)]
end Go.Proofs.YtahjnjlkpbjfnaaGreatDoor.PVal

/- Plain mathematics of layer 10: Options, the program's and the document's. -/
set_option linter.unusedVariables false
set_option linter.unusedSimpArgs false
namespace Go.Proofs.YtahjnjlkpbjfnaaGreatDoor.PVal
open Go Go.RowKit Go.Proofs.YtahjnjlkpbjfnaaGreatDoor.P Go.Proofs.YtahjnjlkpbjfnaaGreatDoorW.PrintWords Go.Proofs.YtahjnjlkpbjfnaaGreatDoorW.PrintLast Go.Proofs.YtahjnjlkpbjfnaaGreatDoorW.PrintMore
open Classical
theorem has_iff (l : List UInt8) (c : UInt8) : Lib.contains l [c] = true ↔ c ∈ l := by
  unfold Lib.contains
  rw [decide_eq_true_eq, Lib.index_one]
  constructor
  · intro h
    refine byContradiction fun hn => ?_
    rw [ix_notin c l hn] at h
    omega
  · intro h
    obtain ⟨a, r, rfl, hn⟩ := first_at c l h
    rw [ix_at c r a hn]
    omega
theorem ix_neg (l : List UInt8) (c : UInt8) : Lib.indexByte l c < 0 ↔ c ∉ l := by
  constructor
  · intro h hm
    obtain ⟨a, r, rfl, hn⟩ := first_at c l hm
    rw [ix_at c r a hn] at h
    omega
  · intro h
    rw [ix_notin c l h]
    decide
theorem listOf_none (s : ByteArray) (h : (listOf s).2 = none) : (listOf s).1 = partsT s ∧ (partsT s).Nodup ∧ (⟨#[]⟩ : ByteArray) ∉ partsT s := by
  unfold listOf at h ⊢
  by_cases h1 : (trimT s).toList = ([] : List UInt8)
  · rw [if_pos h1] at h; cases h
  · rw [if_neg h1] at h ⊢
    by_cases h2 : Lib.containsS (partsT s) ⟨#[]⟩ = true
    · rw [if_pos h2] at h; cases h
    · rw [if_neg h2] at h ⊢
      by_cases h3 : dupS (partsT s) = true
      · rw [if_pos h3] at h; cases h
      · rw [if_neg h3] at h ⊢
        by_cases h4 : 4096 < (partsT s).length
        · rw [if_pos h4] at h; cases h
        · rw [if_neg h4]
          exact ⟨rfl, byContradiction fun q => h3 ((dup_iff _).2 q), fun q => h2 ((Lib.containsS_iff _ _).2 q)⟩
theorem listOf_short (s : ByteArray) : (listOf s).1.length ≤ s.size + 1 := by
  have hc : ∀ (l cur : List UInt8), (cutAt 44 cur l).length ≤ l.length + 1 := by
    intro l
    induction l with
    | nil => intro cur; simp [cutAt]
    | cons d r ih =>
      intro cur
      rw [cutAt]
      split
      · rw [List.length_cons, List.length_cons]; have := ih []; omega
      · rw [List.length_cons]; have := ih (cur ++ [d]); omega
  have hp : (partsT s).length ≤ s.size + 1 := by
    unfold partsT partsAt
    rw [List.length_map, List.length_map, size_l]
    exact hc _ _
  unfold listOf
  repeat' split
  all_goals first | exact hp | exact Nat.zero_le _
/-- The list is the one letter that stands for none. -/
def alone (l : List ByteArray) (L : ByteArray) : Prop := l = [⟨#[110]⟩] ∧ (110 : UInt8) ∉ L.data.toList
noncomputable def optOf (s L : ByteArray) : Int × Option Int :=
  if mayB L = true then (if (listOf s).2 = none then (if alone (listOf s).1 L then (0, none) else optL L.data.toList (listOf s).1 0) else (0, (listOf s).2)) else (0, some 1)
theorem not_one {l : List ByteArray} (h : l ≠ [⟨#[110]⟩]) (h1 : (l.length : Int) = 1) : ¬ (rdOf ByteArray.empty l 0).toList = ([110] : List UInt8) := by
  obtain ⟨x, rfl⟩ := List.length_eq_one_iff.1 (show l.length = 1 by omega)
  intro e
  have e2 : x.toList = ([110] : List UInt8) := e
  rw [toList_l] at e2
  exact h (by rw [show x = ⟨#[110]⟩ from ba_of e2])
theorem own_opt (s L : ByteArray) (hs : s.size ≤ 500) (hL : L.size ≤ 1000) (k : Nat) (hk : 2000 ≤ k) : value_Options.f k s L = some (optOf s L) := by
  unfold value_Options.f optOf
  rw [own_may L hL, Option.bind_some]
  by_cases hm : mayB L = true
  · have hML := (mayB_iff L).1 hm
    rw [if_pos hm, if_pos hm, show value_List.f s = some (listOf s) by unfold value_List.f; rw [if_pos (by omega)], Option.bind_some]
    by_cases h2 : (listOf s).2 = none
    · have hn := listOf_none s h2
      have hlen := listOf_short s
      rw [if_pos (by rw [h2]; rfl), if_pos h2]
      have hnd : (listOf s).1.Nodup := by rw [hn.1]; exact hn.2.1
      generalize (listOf s).1 = l at hlen hnd ⊢
      have hgo : ∀ b : Bool, b = false → value_Options.j0 k L l b = some (optL L.data.toList l 0) := fun b hb => by
        subst hb
        obtain ⟨n, rfl⟩ : ∃ n, k = n + 1 := ⟨k - 1, by omega⟩
        rw [value_Options.j0, if_neg (by decide)]
        exact po_l0 L hML l (by omega) l [] 0 n (by simp) (by omega) hnd (fun x hx c hc hxc => Nat.zero_testBit _) (by omega)
      by_cases h1 : l = [⟨#[110]⟩]
      · have hc : strings_Contains.f L ⟨#[110]⟩ = some (Lib.contains L.data.toList [110]) := by unfold strings_Contains.f; rw [if_pos (by omega)]
        rw [if_pos (by rw [h1]; rfl), if_pos (by rw [h1]; decide), if_pos (by rw [h1]; show (⟨#[110]⟩ : ByteArray).toList = _; rw [toList_l]), hc, Option.bind_some]
        by_cases hin : (110 : UInt8) ∈ L.data.toList
        · rw [(has_iff _ _).2 hin, if_neg (fun q => q.2 hin)]
          exact hgo _ rfl
        · have hcf : Lib.contains L.data.toList [110] = false := Bool.eq_false_iff.2 fun q => hin ((has_iff _ _).1 q)
          rw [hcf, if_pos ⟨h1, hin⟩]
          obtain ⟨n, rfl⟩ : ∃ n, k = n + 1 := ⟨k - 1, by omega⟩
          rw [value_Options.j0, if_pos (show (!false) = true from rfl)]
      · rw [if_neg (fun q : alone l L => h1 q.1)]
        by_cases h3 : (l.length : Int) = 1
        · rw [if_pos h3, if_pos (by omega), if_neg (not_one h1 h3)]
          exact hgo _ rfl
        · rw [if_neg h3]
          exact hgo _ rfl
    · rw [if_neg h2]
      obtain ⟨e, he⟩ : ∃ e, (listOf s).2 = some e := by
        cases hq : (listOf s).2 with
        | none => exact absurd hq h2
        | some e => exact ⟨e, rfl⟩
      rw [he, if_neg (show ¬ (some e).isNone = true by simp)]
      rfl
  · rw [if_neg hm, if_neg hm]
theorem ref_opt (s L : ByteArray) (hs : s.size ≤ 500) (hL : L.size ≤ 1000) (k : Nat) (hk : 800000 ≤ k) : belvedereref10_Options.f k s L = some ((optOf s L).1, E (optOf s L).2) := by
  unfold belvedereref10_Options.f optOf
  rw [ref_may L hL k (by omega), Option.bind_some]
  by_cases hm : mayB L = true
  · have hML := (mayB_iff L).1 hm
    rw [if_pos hm, if_pos hm, ref_list s hs k (by omega), Option.bind_some]
    by_cases h2 : (listOf s).2 = none
    · have hlen := listOf_short s
      rw [if_pos (by rw [h2]; rfl), if_pos h2]
      generalize (listOf s).1 = l at hlen ⊢
      have hgo : ∀ b : Bool, b = false → belvedereref10_Options.j0 k L l b = some ((optL L.data.toList l 0).1, E (optL L.data.toList l 0).2) := fun b hb => by
        subst hb
        obtain ⟨n, rfl⟩ : ∃ n, k = n + 1 := ⟨k - 1, by omega⟩
        rw [belvedereref10_Options.j0, if_neg (by decide)]
        exact ro_l0 L hML l (by omega) l [] 0 n (by simp) (by omega) (by omega)
      by_cases h1 : l = [⟨#[110]⟩]
      · rw [if_pos (by rw [h1]; rfl), if_pos (by rw [h1]; decide), if_pos (by rw [h1]; show (⟨#[110]⟩ : ByteArray).toList = _; rw [toList_l]), show (110 : Int) = (((110 : UInt8).toNat : Nat) : Int) from rfl, at_f L 110 hL k (by omega), Option.bind_some]
        by_cases hin : (110 : UInt8) ∈ L.data.toList
        · rw [if_neg (fun q : alone l L => q.2 hin)]
          exact hgo _ (decide_eq_false fun q => (ix_neg _ _).1 q hin)
        · rw [if_pos (show alone l L from ⟨h1, hin⟩), decide_eq_true ((ix_neg _ _).2 hin)]
          obtain ⟨n, rfl⟩ : ∃ n, k = n + 1 := ⟨k - 1, by omega⟩
          rw [belvedereref10_Options.j0, if_pos rfl]
          rfl
      · rw [if_neg (fun q : alone l L => h1 q.1)]
        by_cases h3 : (l.length : Int) = 1
        · rw [if_pos h3, if_pos (by omega), if_neg (not_one h1 h3)]
          exact hgo _ rfl
        · rw [if_neg h3]
          exact hgo _ rfl
    · rw [if_neg h2]
      obtain ⟨e, he⟩ : ∃ e, (listOf s).2 = some e := by
        cases hq : (listOf s).2 with
        | none => exact absurd hq h2
        | some e => exact ⟨e, rfl⟩
      have hez : e ≠ 0 := by
        intro q
        subst q
        unfold listOf at he
        repeat' split at he
        all_goals cases he
      rw [he]
      show (if E (some e) = 0 then _ else _) = _
      rw [if_neg (show ¬ E (some e) = 0 from hez)]
  · rw [if_neg hm, if_neg hm]
    rfl
end Go.Proofs.YtahjnjlkpbjfnaaGreatDoor.PVal

/- Plain mathematics of layer 10: Letters, the program's and the document's. -/
set_option linter.unusedVariables false
set_option linter.unusedSimpArgs false
namespace Go.Proofs.YtahjnjlkpbjfnaaGreatDoor.PVal
open Go Go.RowKit Go.Proofs.YtahjnjlkpbjfnaaGreatDoor.P Go.Proofs.YtahjnjlkpbjfnaaGreatDoorW.PrintWords Go.Proofs.YtahjnjlkpbjfnaaGreatDoorW.PrintLast Go.Proofs.YtahjnjlkpbjfnaaGreatDoorW.PrintMore
open Classical
/-- The letters whose bits are set. -/
def selL : List UInt8 → Nat → List UInt8
  | [], _ => []
  | c :: r, b => if b % 2 = 1 then c :: selL r (b / 2) else selL r (b / 2)
theorem sel_append : ∀ (a r : List UInt8) (b : Nat), selL (a ++ r) b = selL a b ++ selL r (b / 2 ^ a.length)
  | [], r, b => by simp [selL]
  | c :: a, r, b => by
    rw [List.cons_append, selL, selL, sel_append a r (b / 2), List.length_cons, Nat.pow_succ, Nat.mul_comm, ← Nat.div_div_eq_div_mul]
    split <;> rfl
theorem sel_len : ∀ (l : List UInt8) (b : Nat), (selL l b).length ≤ l.length
  | [], b => Nat.le_refl _
  | c :: r, b => by
    rw [selL]
    have := sel_len r (b / 2)
    split
    · rw [List.length_cons, List.length_cons]; omega
    · rw [List.length_cons]; omega
def oneT (c : UInt8) : ByteArray := ⟨#[c]⟩
def commas (l : List UInt8) : List UInt8 := Lib.join (l.map fun c => [c]) [44]
def flat (l : List UInt8) : List UInt8 := l.flatMap fun c => [44, c]
theorem commas_cons (c d : UInt8) (r : List UInt8) : commas (c :: d :: r) = c :: 44 :: commas (d :: r) := by
  unfold commas Lib.join
  simp [List.intercalate, List.intersperse]
theorem flat_commas : ∀ (r : List UInt8) (c : UInt8), flat (c :: r) = 44 :: commas (c :: r)
  | [], c => by simp [flat, commas, Lib.join, List.intercalate, List.intersperse]
  | d :: r, c => by
    rw [commas_cons, ← flat_commas r d]
    simp [flat]
theorem flat_len : ∀ l : List UInt8, (flat l).length = 2 * l.length
  | [] => rfl
  | c :: r => by
    have := flat_len r
    simp only [flat, List.flatMap_cons, List.length_append, List.length_cons, List.length_nil] at this ⊢
    omega
theorem commas_len (c : UInt8) (r : List UInt8) : (commas (c :: r)).length = 2 * r.length + 1 := by
  have h := flat_len (c :: r)
  rw [flat_commas, List.length_cons, List.length_cons] at h
  omega
noncomputable def finT (s : List UInt8) : ByteArray × Option Int := if s = [] then (⟨#[110]⟩, none) else (⟨(commas s).toArray⟩, none)
noncomputable def letOf (b : Int) (L : ByteArray) : ByteArray × Option Int :=
  if mayB L = true ∧ (110 : UInt8) ∉ L.data.toList ∧ 0 ≤ b ∧ b < ((2 ^ L.size : Nat) : Int) then finT (selL L.data.toList b.toNat) else (⟨#[]⟩, some 1)
theorem and_one (x : Nat) (hx : x < 9223372036854775808) : Go.bits .and .i64 (x : Int) 1 = ((x % 2 : Nat) : Int) := by
  have h1 : (BitVec.ofInt 64 (x : Int)).toNat = x := by
    rw [BitVec.ofInt_natCast, BitVec.toNat_ofNat]; exact Nat.mod_eq_of_lt (by omega)
  have h2 : (BitVec.ofInt 64 (1 : Int)).toNat = 1 := by decide
  show IntKind.i64.wrap ((BitVec.ofInt 64 (x : Int) &&& BitVec.ofInt 64 (1 : Int)).toNat : Int) = _
  rw [BitVec.toNat_and, h1, h2, Nat.and_one_is_mod, i64_w, w64 (by omega) (by omega)]
theorem shr_nat (b i : Nat) (hi : i ≤ 64) : shr .i64 (b : Int) (i : Int) = ((b / 2 ^ i : Nat) : Int) := by
  unfold shr
  rw [Int.toNat_natCast, show IntKind.i64.bits = 64 from rfl, Nat.min_eq_left hi, show ((2 : Int) ^ i) = ((2 ^ i : Nat) : Int) by push_cast; rfl]
  rfl
theorem ext_one {L : ByteArray} {pre r : List UInt8} {d : UInt8} (h : L.data.toList = pre ++ d :: r) : L.extract pre.length (pre.length + 1) = oneT d := ba_inj (by
  rw [ByteArray.data_extract, Array.toList_extract, List.extract_eq_take_drop, h, List.drop_left, Nat.add_sub_cancel_left]
  rfl)
theorem map_one (l : List UInt8) : (l.map oneT).map (·.data.toList) = l.map fun c => [c] := by
  rw [List.map_map]
  rfl
theorem pl_l0 (L : ByteArray) (hL : L.size ≤ 16) (b : Nat) (hb : b < 9223372036854775808) : ∀ (rest pre : List UInt8) (k : Nat), L.data.toList = pre ++ rest → rest.length + 1 ≤ k →
    value_Letters.l0 k (b : Int) L ((selL pre b).map oneT) (L.size : Int) (pre.length : Int) = some (finT (selL L.data.toList b)) := by
  intro rest
  induction rest with
  | nil =>
    intro pre k h hk
    obtain ⟨n, rfl⟩ : ∃ n, k = n + 1 := ⟨k - 1, by simp at hk; omega⟩
    have hl : L.size = pre.length := by rw [size_l, h]; simp
    rw [List.append_nil] at h
    have hsl := sel_len pre b
    rw [value_Letters.l0, if_neg (by omega), List.length_map, h]
    cases hq : selL pre b with
    | nil => rw [if_pos (by rfl)]; rfl
    | cons c r =>
      rw [hq, List.length_cons] at hsl
      have hlen := commas_len c r
      rw [if_neg (by rw [List.length_cons]; omega)]
      unfold strings_Join.f
      rw [map_one, show (⟨#[44]⟩ : ByteArray).data.toList = [44] from rfl]
      rw [show Lib.join ((c :: r).map fun c => [c]) [44] = commas (c :: r) from rfl, if_pos ⟨by rw [List.length_map, List.length_cons]; omega, by omega⟩, Option.bind_some]
      unfold finT
      rw [if_neg (by simp)]
  | cons d r ih =>
    intro pre k h hk
    rw [List.length_cons] at hk
    obtain ⟨n, rfl⟩ : ∃ n, k = n + 1 := ⟨k - 1, by omega⟩
    have hl : L.size = pre.length + (r.length + 1) := by rw [size_l, h]; simp
    have hsl := sel_len pre b
    have hq : b / 2 ^ pre.length < 9223372036854775808 := Nat.lt_of_le_of_lt (Nat.div_le_self _ _) hb
    have hi := ih (pre ++ [d]) n (by rw [h]; simp) (by omega)
    rw [List.length_append, List.length_singleton, sel_append] at hi
    have hs1 : selL [d] (b / 2 ^ pre.length) = if b / 2 ^ pre.length % 2 = 1 then [d] else [] := by rw [selL]; rfl
    rw [hs1] at hi
    rw [value_Letters.l0, if_pos (by omega), if_pos (Int.natCast_nonneg _), shr_nat b _ (by omega), and_one _ hq, up64 (by omega)]
    by_cases hbit : b / 2 ^ pre.length % 2 = 1
    · rw [if_pos hbit] at hi
      rw [if_pos (by omega), if_pos (by omega), if_pos (by omega), if_pos (by rw [List.length_map]; omega), Int.toNat_natCast, Int.toNat_natCast, ext_one h]
      rw [List.map_append] at hi
      exact hi
    · rw [if_neg hbit] at hi
      rw [List.append_nil] at hi
      rw [if_neg (by omega)]
      exact hi
theorem rl_l0 (L : ByteArray) (hL : L.size ≤ 16) (b : Nat) (hb : b < 9223372036854775808) : ∀ (rest pre : List UInt8) (k : Nat), L.data.toList = pre ++ rest → rest.length + 1 ≤ k →
    belvedereref10_Letters.l0 k ((b / 2 ^ pre.length : Nat) : Int) L ⟨(flat (selL pre b)).toArray⟩ (pre.length : Int) = some (if b < 2 ^ L.size then ((finT (selL L.data.toList b)).1, 0) else (⟨#[]⟩, 1)) := by
  intro rest
  induction rest with
  | nil =>
    intro pre k h hk
    obtain ⟨n, rfl⟩ : ∃ n, k = n + 1 := ⟨k - 1, by simp at hk; omega⟩
    have hl : L.size = pre.length := by rw [size_l, h]; simp
    rw [List.append_nil] at h
    rw [belvedereref10_Letters.l0, if_neg (by omega), hl, h]
    by_cases hlt : b < 2 ^ pre.length
    · rw [if_pos hlt, Nat.div_eq_of_lt hlt, if_neg (by decide)]
      cases hq : selL pre b with
      | nil =>
        rw [if_pos (by rw [toList_l]; rfl)]
        unfold finT
        rw [if_pos rfl]
      | cons c r =>
        have hfl := flat_len (c :: r)
        rw [if_neg (by rw [toList_l]; show ¬ flat (c :: r) = []; rw [flat_commas]; simp), if_pos (by show (1 : Int) ≤ ((flat (c :: r)).length : Int); rw [hfl, List.length_cons]; omega)]
        unfold finT
        rw [if_neg (by simp)]
        have e : (⟨(flat (c :: r)).toArray⟩ : ByteArray).extract 1 (⟨(flat (c :: r)).toArray⟩ : ByteArray).size = ⟨(commas (c :: r)).toArray⟩ := ba_inj (by
          rw [ByteArray.data_extract, Array.toList_extract, List.extract_eq_take_drop]
          show ((flat (c :: r)).drop 1).take ((flat (c :: r)).length - 1) = commas (c :: r)
          rw [flat_commas]
          simp)
        rw [e]
    · rw [if_neg hlt, if_pos (by have : 0 < b / 2 ^ pre.length := Nat.div_pos (by omega) (Nat.two_pow_pos _); omega)]
  | cons d r ih =>
    intro pre k h hk
    rw [List.length_cons] at hk
    obtain ⟨n, rfl⟩ : ∃ n, k = n + 1 := ⟨k - 1, by omega⟩
    have hl : L.size = pre.length + (r.length + 1) := by rw [size_l, h]; simp
    have hsl := sel_len pre b
    have hfl := flat_len (selL pre b)
    have hq : b / 2 ^ pre.length < 9223372036854775808 := Nat.lt_of_le_of_lt (Nat.div_le_self _ _) hb
    have hi := ih (pre ++ [d]) n (by rw [h]; simp) (by omega)
    rw [List.length_append, List.length_singleton, sel_append, Nat.pow_succ, ← Nat.div_div_eq_div_mul] at hi
    have hs1 : selL [d] (b / 2 ^ pre.length) = if b / 2 ^ pre.length % 2 = 1 then [d] else [] := by rw [selL]; rfl
    rw [hs1] at hi
    generalize hQ : b / 2 ^ pre.length = q at hi hq ⊢
    have ht : Int.tmod (q : Int) 2 = ((q % 2 : Nat) : Int) := rfl
    have hd : wrap64 (Int.tdiv (q : Int) 2) = ((q / 2 : Nat) : Int) := by
      rw [show Int.tdiv (q : Int) 2 = ((q / 2 : Nat) : Int) from rfl, w64 (by omega) (by omega)]
    rw [belvedereref10_Letters.l0, if_pos (by omega), ht, hd, up64 (by omega)]
    by_cases hbit : q % 2 = 1
    · rw [if_pos hbit] at hi
      rw [if_pos (by omega), if_pos (by show (flat (selL pre b)).length + 1 ≤ _; omega), if_pos (Int.natCast_nonneg _), if_pos (by omega), if_pos (by omega), Int.toNat_natCast, Int.toNat_natCast, ext_one h, if_pos (by rw [ByteArray.size_append]; show (flat (selL pre b)).length + 1 + 1 ≤ _; omega)]
      have e : ((⟨(flat (selL pre b)).toArray⟩ : ByteArray) ++ ⟨#[44]⟩) ++ oneT d = ⟨(flat (selL pre b ++ [d])).toArray⟩ := ba_inj (by
        rw [ByteArray.data_append, ByteArray.data_append, Array.toList_append, Array.toList_append]
        show flat (selL pre b) ++ [44] ++ [d] = flat (selL pre b ++ [d])
        simp [flat])
      rw [e]
      exact hi
    · rw [if_neg hbit, List.append_nil] at hi
      rw [if_neg (by omega)]
      exact hi
theorem two_L (n : Nat) (h : n ≤ 16) : (2 : Nat) ^ n ≤ 65536 := Nat.pow_le_pow_right (by decide) h
theorem shl_L (n : Nat) (hn : n ≤ 16) : shl .i64 1 (n : Int) = ((2 ^ n : Nat) : Int) := by
  have h2 := two_L n hn
  unfold shl
  rw [Int.toNat_natCast, show IntKind.i64.bits = 64 from rfl, Nat.min_eq_left (by omega), Int.one_mul, show ((2 : Int) ^ n) = ((2 ^ n : Nat) : Int) by push_cast; rfl, i64_w]
  generalize 2 ^ n = q at h2 ⊢
  rw [w64 (by omega) (by omega)]
theorem own_let (b : Int) (hb : b ≤ 9223372036854775807) (L : ByteArray) (hL : L.size ≤ 1000) (k : Nat) (hk : 2000 ≤ k) : value_Letters.f k b L = some (letOf b L) := by
  unfold value_Letters.f letOf
  obtain ⟨n, rfl⟩ : ∃ n, k = n + 1 := ⟨k - 1, by omega⟩
  have hbad : value_Letters.j0 (n + 1) b L true = some (⟨#[]⟩, some 1) := by rw [value_Letters.j0, if_pos rfl]
  rw [own_may L hL, Option.bind_some]
  by_cases hm : mayB L = true
  · have hML := (mayB_iff L).1 hm
    have hLs : L.size ≤ 16 := by rw [size_l]; exact hML.1
    have hc : strings_Contains.f L ⟨#[110]⟩ = some (Lib.contains L.data.toList [110]) := by unfold strings_Contains.f; rw [if_pos (by omega)]
    rw [if_pos hm, hc, Option.bind_some]
    by_cases hin : (110 : UInt8) ∈ L.data.toList
    · rw [if_pos ((has_iff _ _).2 hin), hbad, if_neg (fun q => q.2.1 hin)]
    · rw [if_neg (fun q => hin ((has_iff _ _).1 q))]
      by_cases h0 : b < 0
      · rw [if_pos h0, hbad, if_neg (fun q => by have := q.2.2.1; omega)]
      · rw [if_neg h0, shl_L _ hLs]
        by_cases h1 : b < ((2 ^ L.size : Nat) : Int)
        · obtain ⟨m, rfl⟩ : ∃ m : Nat, b = (m : Int) := ⟨b.toNat, by omega⟩
          rw [decide_eq_false (by omega), if_pos ⟨hm, hin, by omega, h1⟩, value_Letters.j0, if_neg (by decide), Int.toNat_natCast]
          exact pl_l0 L hLs m (by omega) L.data.toList [] n (by simp) (by rw [← size_l]; omega)
        · rw [decide_eq_true (by omega), hbad, if_neg (fun q => h1 q.2.2.2)]
  · rw [if_neg hm, hbad, if_neg (fun q => hm q.1)]
theorem ref_let (b : Int) (hb : b ≤ 9223372036854775807) (L : ByteArray) (hL : L.size ≤ 1000) (k : Nat) (hk : 4000 ≤ k) : belvedereref10_Letters.f k b L = some ((letOf b L).1, E (letOf b L).2) := by
  unfold belvedereref10_Letters.f letOf
  obtain ⟨n, rfl⟩ : ∃ n, k = n + 1 := ⟨k - 1, by omega⟩
  have hbad : belvedereref10_Letters.j0 (n + 1) b L true = some (⟨#[]⟩, 1) := by rw [belvedereref10_Letters.j0, if_pos rfl]
  rw [ref_may L hL (n + 1) (by omega), Option.bind_some]
  by_cases hm : mayB L = true
  · have hML := (mayB_iff L).1 hm
    have hLs : L.size ≤ 16 := by rw [size_l]; exact hML.1
    rw [if_pos hm, show (110 : Int) = (((110 : UInt8).toNat : Nat) : Int) from rfl, at_f L 110 hL (n + 1) (by omega), Option.bind_some]
    by_cases hin : (110 : UInt8) ∈ L.data.toList
    · have hnn : ¬ Lib.indexByte L.data.toList 110 < 0 := fun q => (ix_neg L.data.toList 110).1 q hin
      rw [if_pos (by omega), hbad, if_neg (fun q => q.2.1 hin)]
      rfl
    · have := (ix_neg L.data.toList 110).2 hin
      rw [if_neg (by omega)]
      by_cases h0 : b < 0
      · rw [decide_eq_true h0, hbad, if_neg (fun q => by have := q.2.2.1; omega)]
        rfl
      · obtain ⟨m, rfl⟩ : ∃ m : Nat, b = (m : Int) := ⟨b.toNat, by omega⟩
        have hgo := rl_l0 L hLs m (by omega) L.data.toList [] n (by simp) (by rw [← size_l]; omega)
        rw [List.length_nil, Nat.pow_zero, Nat.div_one] at hgo
        rw [decide_eq_false h0, belvedereref10_Letters.j0, if_neg (by decide)]
        refine hgo.trans ?_
        by_cases h1 : m < 2 ^ L.size
        · rw [if_pos h1, if_pos ⟨hm, hin, by omega, by omega⟩, Int.toNat_natCast]
          unfold finT
          split <;> rfl
        · rw [if_neg h1, if_neg (fun q => h1 (by have := q.2.2.2; omega))]
          rfl
  · rw [if_neg hm, hbad, if_neg (fun q => hm q.1)]
    rfl
end Go.Proofs.YtahjnjlkpbjfnaaGreatDoor.PVal
