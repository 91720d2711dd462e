/- Plain mathematics of layer 10: the law ValueUnits. -/
import Derived.Test.YtahjnjlkpbjfnaaGreatDoorVaIntL
import Derived.Lib.ItoaMem
set_option linter.unusedVariables false
set_option linter.unusedSimpArgs false
namespace Go.Proofs.YtahjnjlkpbjfnaaGreatDoor.PVal
open Go Go.RowKit Go.Proofs.YtahjnjlkpbjfnaaGreatDoor.P Go.Proofs.YtahjnjlkpbjfnaaGreatDoorW.PrintWords Go.Proofs.YtahjnjlkpbjfnaaGreatDoorW.PrintLast Go.Proofs.YtahjnjlkpbjfnaaGreatDoorW.PrintMore
theorem intL_cons (c : UInt8) (r : List UInt8) (lo hi : Int) : intL (c :: r) lo hi = (if c = 45 then (if digL r true = true then (if 19 < (c :: r).length then (0, some 3) else fin (-(val 0 r : Int)) lo hi) else (0, some 3))
    else (if digL (c :: r) false = true then (if 19 < (c :: r).length then (0, some 3) else if val 0 (c :: r) < 9223372036854775808 then fin (val 0 (c :: r) : Int) lo hi else (0, some 5)) else (0, some 3))) := rfl
theorem digL_cons (c : UInt8) (r : List UInt8) (m : Bool) : digL (c :: r) m = ((c :: r).all isDig && (if c.toNat = 48 then decide (r = []) && !m else true)) := rfl
theorem dig_toNat (d : Nat) (h : d < 10) : (UInt8.ofNat (48 + d)).toNat = 48 + d := by
  rw [UInt8.toNat_ofNat']; omega
/-- What a number's digits are. -/
theorem dec_spec (n : Nat) : (∀ c ∈ Lib.decDigits n, isDig c = true) ∧ (∃ c r, Lib.decDigits n = c :: r ∧ (0 < n → c.toNat ≠ 48)) ∧ (∀ acc l, val acc (Lib.decDigits n ++ l) = val (acc * 10 ^ (Lib.decDigits n).length + n) l) := by
  induction n using Nat.strongRecOn with
  | _ n ih =>
    by_cases h : n < 10
    · have e : Lib.decDigits n = [UInt8.ofNat (48 + n)] := Lib.decDigits_one h
      have t := dig_toNat n h
      rw [e]
      refine ⟨fun c hc => ?_, ⟨_, _, rfl, fun h0 => by omega⟩, fun acc l => ?_⟩
      · rw [List.mem_singleton] at hc
        rw [hc]
        exact isDig_iff.2 (by omega)
      · show val (acc * 10 + ((UInt8.ofNat (48 + n)).toNat - 48)) l = _
        rw [t, show 48 + n - 48 = n by omega, List.length_singleton, Nat.pow_one]
    · have e : Lib.decDigits n = Lib.decDigits (n / 10) ++ [UInt8.ofNat (48 + n % 10)] := by rw [Lib.decDigits, dif_neg h]
      have t := dig_toNat (n % 10) (by omega)
      obtain ⟨h1, ⟨c, r, h2, h3⟩, h4⟩ := ih (n / 10) (by omega)
      rw [e]
      refine ⟨fun d hd => ?_, ⟨c, r ++ [UInt8.ofNat (48 + n % 10)], by rw [h2]; rfl, fun _ => h3 (by omega)⟩, fun acc l => ?_⟩
      · rcases List.mem_append.1 hd with q | q
        · exact h1 d q
        · rw [List.mem_singleton] at q
          rw [q]
          exact isDig_iff.2 (by omega)
      · rw [List.append_assoc, h4]
        show val ((acc * 10 ^ (Lib.decDigits (n / 10)).length + n / 10) * 10 + ((UInt8.ofNat (48 + n % 10)).toNat - 48)) l = _
        rw [t, show 48 + n % 10 - 48 = n % 10 by omega, List.length_append, List.length_singleton, Nat.pow_succ, Nat.add_mul, Nat.mul_assoc, Nat.add_assoc, show n / 10 * 10 + n % 10 = n by omega]
theorem dec_val (n : Nat) : val 0 (Lib.decDigits n) = n := by
  have := (dec_spec n).2.2 0 []
  rw [List.append_nil, Nat.zero_mul, Nat.zero_add] at this
  exact this
theorem dec_len (n k : Nat) (hk : n < 10 ^ (k + 1)) : (Lib.decDigits n).length ≤ k + 1 := by
  induction k generalizing n with
  | zero => rw [Lib.decDigits_one (by omega)]; simp
  | succ k ih =>
    rw [Lib.decDigits]
    split
    · simp
    · rw [List.length_append]
      have := ih (n / 10) (by rw [Nat.pow_succ] at hk; omega)
      simp only [List.length_cons, List.length_nil]
      omega
/-- A number up to ten million, as a text, is that number. -/
theorem int_dec (n : Nat) (hn : n ≤ 10000000) : intL (Lib.decDigits n) 0 10000000 = ((n : Int), none) := by
  obtain ⟨h1, ⟨c, r, h2, h3⟩, _⟩ := dec_spec n
  have hv := dec_val n
  have hl := dec_len n 7 (by omega)
  rw [h2] at h1 hv hl ⊢
  have hc := isDig_iff.1 (h1 c (List.mem_cons_self ..))
  have hne : ¬ c = 45 := fun e => by rw [e] at hc; exact absurd hc.1 (by decide)
  have hd : digL (c :: r) false = true := by
    rw [digL_cons, List.all_eq_true.mpr h1, Bool.true_and]
    by_cases h48 : c.toNat = 48
    · have h0 : n = 0 := by
        rcases Nat.eq_zero_or_pos n with q | q
        · exact q
        · exact absurd h48 (h3 q)
      have hr : r = [] := by
        rw [h0, Lib.decDigits_one (by decide)] at h2
        exact (List.cons.inj h2).2.symm
      rw [if_pos h48, decide_eq_true hr]
      rfl
    · rw [if_neg h48]
  show (if c = 45 then (if digL r true = true then (if 19 < (c :: r).length then (0, some 3) else fin (-(val 0 r : Int)) 0 10000000) else (0, some 3))
        else (if digL (c :: r) false = true then (if 19 < (c :: r).length then (0, some 3) else if val 0 (c :: r) < 9223372036854775808 then fin (val 0 (c :: r) : Int) 0 10000000 else (0, some 5)) else (0, some 3))) = _
  rw [if_neg hne, if_pos hd, if_neg (by omega), hv, if_pos (by omega)]
  unfold fin
  rw [if_neg (by omega), if_neg (by omega)]
theorem by_dig {c : UInt8} (h : isDig c = true) : byOf c = 0 := by
  have := isDig_iff.1 h
  unfold byOf
  rw [if_neg (by omega), if_neg (by omega), if_neg (by omega), if_neg (by omega)]
theorem sec_dec (n : Nat) (hn : n ≤ 10000000) : secL (Lib.decDigits n) = ((n : Int), none) := by
  obtain ⟨h1, ⟨c, r, h2, h3⟩, _⟩ := dec_spec n
  have hi := int_dec n hn
  unfold secL
  cases h : (Lib.decDigits n).getLast? with
  | none => rw [List.getLast?_eq_none_iff] at h; rw [h] at h2; cases h2
  | some d =>
    have hd := by_dig (h1 d (List.mem_of_getLast? h))
    simp only [hd, if_true]
    exact hi
theorem sec_snoc (l : List UInt8) (u : UInt8) : secL (l ++ [u]) = if byOf u = 0 then intL (l ++ [u]) 0 10000000 else ((intL l 0 10000000).1 * byOf u, (intL l 0 10000000).2) := by
  unfold secL
  rw [List.getLast?_concat]
  simp only [List.dropLast_concat]
theorem sec_unit (n : Nat) (hn : n ≤ 10000000) (u : UInt8) (hu : byOf u ≠ 0) : secL (Lib.decDigits n ++ [u]) = ((n : Int) * byOf u, none) := by
  rw [sec_snoc, if_neg hu, int_dec n hn]
theorem sec_w (n : Nat) : secL (Lib.decDigits n ++ [119]) = (0, some 3) := by
  obtain ⟨h1, ⟨c, r, h2, h3⟩, _⟩ := dec_spec n
  rw [sec_snoc, if_pos (by decide), h2, List.cons_append]
  have hc := isDig_iff.1 (h1 c (by rw [h2]; exact List.mem_cons_self ..))
  have hne : ¬ c = 45 := fun e => by rw [e] at hc; exact absurd hc.1 (by decide)
  have hd : ¬ digL (c :: (r ++ [119])) false = true := fun e => by
    have := (digL_dig e).2 119 (by simp)
    exact absurd this (by decide)
  rw [intL_cons, if_neg hne, if_neg hd]
theorem sec_zero (n : Nat) : secL (48 :: Lib.decDigits n) = (0, some 3) := by
  obtain ⟨h1, ⟨c, r, h2, h3⟩, _⟩ := dec_spec n
  have hd : ¬ digL (48 :: Lib.decDigits n) false = true := fun e => by
    rw [h2] at e
    rw [digL_cons, if_pos (by decide), decide_eq_false (List.cons_ne_nil c r), Bool.false_and, Bool.and_false] at e
    cases e
  have hi : intL (48 :: Lib.decDigits n) 0 10000000 = (0, some 3) := by
    rw [intL_cons, if_neg (by decide), if_neg hd]
  unfold secL
  cases h : ((48 : UInt8) :: Lib.decDigits n).getLast? with
  | none => rw [List.getLast?_eq_none_iff] at h; cases h
  | some d =>
    have hd : isDig d = true := by
      rcases List.mem_cons.1 (List.mem_of_getLast? h) with q | q
      · rw [q]; decide
      · exact h1 d q
    simp only [by_dig hd, if_true]
    exact hi
theorem ext_dig (i : Nat) (h : i < 10) : (⟨#[48, 49, 50, 51, 52, 53, 54, 55, 56, 57]⟩ : ByteArray).extract i (i + 1) = ⟨([UInt8.ofNat (48 + i)] : List UInt8).toArray⟩ := by
  have hc : i = 0 ∨ i = 1 ∨ i = 2 ∨ i = 3 ∨ i = 4 ∨ i = 5 ∨ i = 6 ∨ i = 7 ∨ i = 8 ∨ i = 9 := by omega
  rcases hc with rfl | rfl | rfl | rfl | rfl | rfl | rfl | rfl | rfl | rfl <;> decide +kernel
theorem ba_append (a b : List UInt8) : (⟨a.toArray⟩ : ByteArray) ++ ⟨b.toArray⟩ = ⟨(a ++ b).toArray⟩ := by
  apply ByteArray.ext
  rw [ByteArray.data_append]
  simp
theorem dig_step (k : Nat) (x3 : Int) (x : Nat) (l : List UInt8) (hx : x ≤ 10000000) (hl : l.length ≤ 1000) (hgo : 0 < x ∨ l = []) :
    belvederelaw10_ValueUnits.l0 (k + 1) x3 ⟨l.toArray⟩ (x : Int) = belvederelaw10_ValueUnits.l0 k x3 ⟨(UInt8.ofNat (48 + x % 10) :: l).toArray⟩ ((x / 10 : Nat) : Int) := by
  have t1 : Int.tmod (x : Int) 10 = ((x % 10 : Nat) : Int) := by rw [Int.tmod_eq_emod_of_nonneg (Int.natCast_nonneg x)]; rfl
  have t2 : wrap64 (Int.tdiv (x : Int) 10) = ((x / 10 : Nat) : Int) := by rw [show Int.tdiv (x : Int) 10 = ((x / 10 : Nat) : Int) by rw [Int.tdiv_eq_ediv_of_nonneg (Int.natCast_nonneg x)]; rfl, w64 (by omega) (by omega)]
  have t3 : wrap64 (((x % 10 : Nat) : Int) + 1) = ((x % 10 + 1 : Nat) : Int) := by rw [w64 (by omega) (by omega)]; omega
  have g1 : (0 : Int) ≤ ((x % 10 : Nat) : Int) := Int.natCast_nonneg _
  have g2 : ((x % 10 : Nat) : Int) ≤ ((x % 10 + 1 : Nat) : Int) := by omega
  have g3 : ((x % 10 + 1 : Nat) : Int) ≤ 10 := by omega
  have e := ext_dig (x % 10) (by omega)
  have g4 : (⟨([UInt8.ofNat (48 + x % 10)] : List UInt8).toArray⟩ : ByteArray).size + (⟨l.toArray⟩ : ByteArray).size ≤ 9223372036854775807 := by
    show 1 + l.length ≤ _
    omega
  have ec := ba_append [UInt8.ofNat (48 + x % 10)] l
  have tl : (⟨l.toArray⟩ : ByteArray).toList = l := by rw [toList_l]
  rw [belvederelaw10_ValueUnits.l0, t1, t3, Int.toNat_natCast, Int.toNat_natCast, e, t2, ec, tl]
  by_cases h0 : 0 < x
  · have c : (x : Int) > 0 := by omega
    rw [if_pos c, if_pos g1, if_pos g2, if_pos g3, if_pos g4]
    rfl
  · have c : ¬ ((x : Int) > 0) := by omega
    have hl0 : l = [] := hgo.resolve_left h0
    rw [if_neg c, if_pos hl0, if_pos g1, if_pos g2, if_pos g3, if_pos g4]
    rfl
theorem dig_loop (x3 : Int) (x : Nat) : 0 < x → x ≤ 10000000 → ∀ l : List UInt8, l.length + (Lib.decDigits x).length ≤ 1000 → ∃ j, ∀ k, belvederelaw10_ValueUnits.l0 (k + j) x3 ⟨l.toArray⟩ (x : Int) = belvederelaw10_ValueUnits.l0 k x3 ⟨(Lib.decDigits x ++ l).toArray⟩ 0 := by
  induction x using Nat.strongRecOn with
  | _ x ih =>
    intro h0 hx l hl
    by_cases h : x < 10
    · have e : Lib.decDigits x = [UInt8.ofNat (48 + x)] := Lib.decDigits_one h
      refine ⟨1, fun k => ?_⟩
      rw [dig_step k x3 x l hx (by omega) (.inl h0), show x / 10 = 0 by omega, show x % 10 = x by omega, e]
      rfl
    · have e : Lib.decDigits x = Lib.decDigits (x / 10) ++ [UInt8.ofNat (48 + x % 10)] := by rw [Lib.decDigits, dif_neg h]
      rw [e, List.length_append, List.length_singleton] at hl
      obtain ⟨j, hj⟩ := ih (x / 10) (by omega) (by omega) (by omega) (UInt8.ofNat (48 + x % 10) :: l) (by rw [List.length_cons]; omega)
      refine ⟨j + 1, fun k => ?_⟩
      rw [← Nat.add_assoc, dig_step (k + j) x3 x l hx (by omega) (.inl h0), hj k, e, List.append_assoc]
      rfl
def units : List ByteArray := [⟨#[]⟩, ⟨#[115]⟩, ⟨#[109]⟩, ⟨#[104]⟩, ⟨#[100]⟩]
def bys : List Int := [1, 1, 60, 3600, 86400]
theorem dig_all (x3 : Int) (n : Nat) (hn : n ≤ 10000000) : ∃ j, ∀ k, belvederelaw10_ValueUnits.l0 (k + j) x3 ⟨#[]⟩ (n : Int) = belvederelaw10_ValueUnits.l1 k x3 ⟨(Lib.decDigits n).toArray⟩ units bys 0 := by
  have hlen := dec_len n 7 (by omega)
  obtain ⟨_, ⟨c, r, h2, _⟩, _⟩ := dec_spec n
  have hstop : ∀ k, belvederelaw10_ValueUnits.l0 (k + 1) x3 ⟨(Lib.decDigits n).toArray⟩ 0 = belvederelaw10_ValueUnits.l1 k x3 ⟨(Lib.decDigits n).toArray⟩ units bys 0 := fun k => by
    have tl : (⟨(Lib.decDigits n).toArray⟩ : ByteArray).toList = Lib.decDigits n := by rw [toList_l]
    rw [belvederelaw10_ValueUnits.l0, tl, if_neg (by decide), if_neg (by rw [h2]; exact List.cons_ne_nil c r)]
    rfl
  rcases Nat.eq_zero_or_pos n with rfl | h0
  · refine ⟨2, fun k => ?_⟩
    have hs := dig_step (k + 1) x3 0 [] (by decide) (by simp) (.inr rfl)
    rw [show k + 2 = k + 1 + 1 from rfl]
    refine (Eq.trans (show _ = belvederelaw10_ValueUnits.l0 (k + 1 + 1) x3 ⟨([] : List UInt8).toArray⟩ ((0 : Nat) : Int) from rfl) hs).trans ?_
    have e : Lib.decDigits 0 = [UInt8.ofNat (48 + 0 % 10)] := Lib.decDigits_one (by decide)
    rw [← e]
    exact hstop k
  · obtain ⟨j, hj⟩ := dig_loop x3 n h0 hn [] (by simp; omega)
    refine ⟨j + 1, fun k => ?_⟩
    rw [show k + (j + 1) = (k + 1) + j by omega]
    refine (hj (k + 1)).trans ?_
    rw [List.append_nil]
    exact hstop k
theorem l1_go (k : Nat) (x3 : Int) (s : ByteArray) (i : Nat) (u : ByteArray) (b v : Int) (hi : i < 5) (hU : rdOf ByteArray.empty units (i : Int) = u) (hB : rd bys (i : Int) = b) (hz : s.size + u.size ≤ 9223372036854775807)
    (hs : value_Seconds.f (s ++ u) = some (v, none)) (hv : v = wrap64 (x3 * b)) : belvederelaw10_ValueUnits.l1 (k + 1) x3 s units bys (i : Int) = belvederelaw10_ValueUnits.l1 k x3 s units bys ((i + 1 : Nat) : Int) := by
  have hw : wrap64 ((i : Int) + 1) = ((i + 1 : Nat) : Int) := by rw [w64 (by omega) (by omega)]; omega
  rw [belvederelaw10_ValueUnits.l1, if_pos (by omega), if_pos (Int.natCast_nonneg _), if_pos (show (i : Int) < (units.length : Int) by (show (i : Int) < ((5 : Nat) : Int)); omega), hU, if_pos hz, hs, Option.bind_some]
  simp only [Option.isNone_none, if_true]
  rw [if_pos (show (i : Int) < (bys.length : Int) by (show (i : Int) < ((5 : Nat) : Int)); omega), hB, if_pos hv, hw]
theorem units_ok (a : Int) : ∃ k, belvederelaw10_ValueUnits.f k a = some true := by
  obtain ⟨n, hn, en⟩ : ∃ n : Nat, n ≤ 10000000 ∧ wrap64 (Int.tmod (IntKind.u64.wrap a) 10000001) = (n : Int) := by
    obtain ⟨m, hm⟩ : ∃ m : Nat, IntKind.u64.wrap a = (m : Int) := by
      have : 0 ≤ IntKind.u64.wrap a := by unfold IntKind.wrap; simp [IntKind.bits, IntKind.signed]; omega
      exact ⟨(IntKind.u64.wrap a).toNat, (Int.toNat_of_nonneg this).symm⟩
    have t : Int.tmod (m : Int) 10000001 = ((m % 10000001 : Nat) : Int) := by rw [Int.tmod_eq_emod_of_nonneg (Int.natCast_nonneg m)]; rfl
    refine ⟨m % 10000001, by omega, ?_⟩
    rw [hm, t, w64 (by omega) (by omega)]
  obtain ⟨j, hj⟩ := dig_all (n : Int) n hn
  refine ⟨26 + j, ?_⟩
  unfold belvederelaw10_ValueUnits.f
  rw [en]
  refine (hj 26).trans ?_
  have hlen := dec_len n 7 (by omega)
  have hsz : (⟨(Lib.decDigits n).toArray⟩ : ByteArray).size = (Lib.decDigits n).length := rfl
  have app : ∀ u : UInt8, ((⟨(Lib.decDigits n).toArray⟩ : ByteArray) ++ ⟨#[u]⟩) = ⟨(Lib.decDigits n ++ [u]).toArray⟩ := fun u => ba_append _ [u]
  have sec : ∀ l : List UInt8, l.length ≤ 1000 → value_Seconds.f ⟨l.toArray⟩ = some (secL l) := fun l hl => sec_f ⟨l.toArray⟩ hl
  have su : ∀ u : UInt8, byOf u ≠ 0 → value_Seconds.f ((⟨(Lib.decDigits n).toArray⟩ : ByteArray) ++ ⟨#[u]⟩) = some ((n : Int) * byOf u, none) := fun u hu => by
    rw [app, sec _ (by rw [List.length_append]; simp; omega), sec_unit n hn u hu]
  have s0 : value_Seconds.f ((⟨(Lib.decDigits n).toArray⟩ : ByteArray) ++ ⟨#[]⟩) = some ((n : Int), none) := by
    rw [show ((⟨(Lib.decDigits n).toArray⟩ : ByteArray) ++ ⟨#[]⟩) = ⟨(Lib.decDigits n ++ []).toArray⟩ from ba_append _ [], List.append_nil, sec _ (by omega), sec_dec n hn]
  have sw : value_Seconds.f ((⟨(Lib.decDigits n).toArray⟩ : ByteArray) ++ ⟨#[119]⟩) = some (0, some 3) := by
    rw [app, sec _ (by rw [List.length_append]; simp; omega), sec_w n]
  have sz : value_Seconds.f ((⟨#[48]⟩ : ByteArray) ++ ⟨(Lib.decDigits n).toArray⟩) = some (0, some 3) := by
    rw [show ((⟨#[48]⟩ : ByteArray) ++ ⟨(Lib.decDigits n).toArray⟩) = ⟨([48] ++ Lib.decDigits n).toArray⟩ from ba_append [48] _]
    show value_Seconds.f ⟨(48 :: Lib.decDigits n).toArray⟩ = _
    rw [sec _ (by rw [List.length_cons]; omega), sec_zero n]
  have sb : value_Seconds.f ⟨#[49, 48, 48, 48, 48, 48, 48, 49, 115]⟩ = some (0, some 5) := by decide +kernel
  have b1 : byOf 115 = 1 := by decide
  have b2 : byOf 109 = 60 := by decide
  have b3 : byOf 104 = 3600 := by decide
  have b4 : byOf 100 = 86400 := by decide
  show belvederelaw10_ValueUnits.l1 (25 + 1) _ _ _ _ ((0 : Nat) : Int) = _
  rw [l1_go 25 (n : Int) _ 0 ⟨#[]⟩ 1 (n : Int) (by decide) rfl rfl (by show _ + 0 ≤ _; omega) s0 (by rw [Int.mul_one, w64 (by omega) (by omega)]),
    l1_go 24 (n : Int) _ 1 ⟨#[115]⟩ 1 _ (by decide) rfl rfl (by show _ + 1 ≤ _; omega) (su 115 (by decide)) (by rw [b1, w64 (by omega) (by omega)]),
    l1_go 23 (n : Int) _ 2 ⟨#[109]⟩ 60 _ (by decide) rfl rfl (by show _ + 1 ≤ _; omega) (su 109 (by decide)) (by rw [b2, w64 (by omega) (by omega)]),
    l1_go 22 (n : Int) _ 3 ⟨#[104]⟩ 3600 _ (by decide) rfl rfl (by show _ + 1 ≤ _; omega) (su 104 (by decide)) (by rw [b3, w64 (by omega) (by omega)]),
    l1_go 21 (n : Int) _ 4 ⟨#[100]⟩ 86400 _ (by decide) rfl rfl (by show _ + 1 ≤ _; omega) (su 100 (by decide)) (by rw [b4, w64 (by omega) (by omega)])]
  rw [belvederelaw10_ValueUnits.l1, if_neg (by decide), if_pos (by omega), sw, Option.bind_some, if_pos (by omega), sz, Option.bind_some, sb, Option.bind_some]
  simp only
  rw [show belvederelaw10_num.f (some 3) = some 3 from rfl, Option.bind_some, if_pos rfl, Option.bind_some, if_pos rfl, show belvederelaw10_num.f (some 5) = some 5 from rfl, Option.bind_some, if_pos rfl, sure_k 10]
  rfl
end Go.Proofs.YtahjnjlkpbjfnaaGreatDoor.PVal
