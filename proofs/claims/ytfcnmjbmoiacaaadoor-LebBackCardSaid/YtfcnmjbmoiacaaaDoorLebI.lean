/- Plain mathematics of layer 2: LebTakes, LebTexts. -/
import Derived.Test.YtfcnmjbmoiacaaaDoorLebH
set_option linter.unusedVariables false
namespace Go.Proofs.YtfcnmjbmoiacaaaDoor.Leb
open Go.RowKit Go.Proofs.YtfcnmjbmoiacaaaDoor.P Go.Proofs.YtfcnmjbmoiacaaaDoorW.PrintWords Go.Proofs.YtfcnmjbmoiacaaaDoorW.PrintLast Go.Proofs.YtfcnmjbmoiacaaaDoorW.PrintMore
/-- What spec tells: an error with nothing, or a number. -/
theorem spec_shape (l : List Int) (hb : By l) : ((spec l).2.2 ≠ 0 ∧ (spec l).1 = 0 ∧ (spec l).2.1 = []) ∨
    ((spec l).2.2 = 0 ∧ (∃ v : Nat, v < 18446744073709551616 ∧ (spec l).1 = (v : Int)) ∧ (spec l).2.1.length ≤ l.length ∧ By (spec l).2.1) := by
  unfold spec
  split
  · exact .inl ⟨by decide, rfl, rfl⟩
  · split
    · exact .inl ⟨by decide, rfl, rfl⟩
    · split
      · exact .inr ⟨rfl, ⟨_, Nat.mod_lt _ (by decide), rfl⟩, by rw [List.length_drop]; omega, hb.drop _⟩
      · exact .inl ⟨by decide, rfl, rfl⟩
theorem errOf_get (e : Int) : (errOf e).getD 0 = e := by unfold errOf; split <;> simp_all
theorem num_eq (e : Int) : belvederelaw02_num.f (errOf e) = some e := by unfold belvederelaw02_num.f; rw [errOf_get]
/-- What the sign's code stands for. -/
def unzig (v : Nat) : Int := if v % 2 = 0 then ((v / 2 : Nat) : Int) else -((v / 2 : Nat) : Int) - 1
theorem unzig_zig (v : Int) : unzig (zig v) = v := by unfold unzig zig; split <;> split <;> omega
theorem not_int (n : Nat) (h : n < 9223372036854775808) : Go.bits .xor .i64 (n : Int) (-1) = -(n : Int) - 1 := by
  have e1 : (-1 : Int) = Int.negSucc 0 := rfl
  have hb : (BitVec.ofInt 64 (-1)) = BitVec.allOnes 64 := by decide
  show IntKind.i64.wrap _ = _
  have hw : (BitVec.ofInt 64 (n : Int) ^^^ BitVec.ofInt 64 (-1)).toNat = 18446744073709551615 - n := by
    rw [hb, BitVec.ofInt_natCast, BitVec.xor_allOnes, BitVec.toNat_not, BitVec.toNat_ofNat, Nat.mod_eq_of_lt (by omega)]
  have h2 : IntKind.i64.wrap (((BitVec.ofInt 64 (n : Int) ^^^ BitVec.ofInt 64 (-1)).toNat : Nat) : Int) = -(n : Int) - 1 := by
    rw [hw, IntKind.wrap_i64]
    omega
  exact h2
theorem same_int (n : Nat) (h : n < 9223372036854775808) : Go.bits .xor .i64 (n : Int) 0 = (n : Int) := by
  have hw : (BitVec.ofInt 64 (n : Int) ^^^ BitVec.ofInt 64 0).toNat = n := by
    have h0 : BitVec.ofInt 64 0 = 0#64 := by decide
    rw [h0, BitVec.ofInt_natCast, BitVec.xor_zero, BitVec.toNat_ofNat, Nat.mod_eq_of_lt (by omega)]
  have h2 : IntKind.i64.wrap (((BitVec.ofInt 64 (n : Int) ^^^ BitVec.ofInt 64 0).toNat : Nat) : Int) = (n : Int) := by
    rw [hw, IntKind.wrap_i64]
    omega
  exact h2
theorem and_one (v : Nat) (h : v < 18446744073709551616) : Go.bits .and .u64 (v : Int) 1 = ((v % 2 : Nat) : Int) := by
  have ha' : v % 2 ^ IntKind.u64.bits = v := Nat.mod_eq_of_lt h
  have hb' : 1 % 2 ^ IntKind.u64.bits = 1 := rfl
  have h1 : (BitVec.ofInt IntKind.u64.bits (1 : Int)).toNat = 1 := by decide
  show IntKind.u64.wrap (((BitVec.ofInt IntKind.u64.bits (v : Int) &&& BitVec.ofInt IntKind.u64.bits (1 : Int)).toNat : Nat) : Int) = _
  rw [BitVec.toNat_and, h1, BitVec.ofInt_natCast, BitVec.toNat_ofNat, ha', Nat.and_one_is_mod, IntKind.wrap_u64]
  omega
theorem unzig_eq (v : Nat) (h : v < 18446744073709551616) : Go.bits .xor .i64 (wrap64 ((v : Int) / 2)) (wrap64 (-(wrap64 (Go.bits .and .u64 (v : Int) 1)))) = unzig v := by
  rw [and_one v h]
  have e1 : wrap64 ((v : Int) / 2) = ((v / 2 : Nat) : Int) := by rw [w64 (by omega) (by omega)]; omega
  rw [e1]
  unfold unzig
  by_cases h2 : v % 2 = 0
  · rw [if_pos h2, h2, show wrap64 (-(wrap64 ((0 : Nat) : Int))) = 0 by unfold wrap64; decide]
    exact same_int (v / 2) (by omega)
  · rw [if_neg h2, show v % 2 = 1 by omega, show wrap64 (-(wrap64 ((1 : Nat) : Int))) = -1 by unfold wrap64; decide]
    exact not_int (v / 2) (by omega)
theorem takeInt_at (k : Nat) (l : List Int) (v : Int) (r : List Int) (e : Option Int) (h : leb_Take.f k l = some (v, r, e)) :
    leb_TakeInt.f k l = some (Go.bits .xor .i64 (wrap64 (v / 2)) (wrap64 (-(wrap64 (Go.bits .and .u64 v 1)))), r, e) := by
  unfold leb_TakeInt.f
  rw [h]
  rfl
theorem sign_eq (v : Nat) (h : v < 18446744073709551616) : belvedereref02_Sign.f (v : Int) = some (unzig v) := by
  unfold belvedereref02_Sign.f unzig
  have e1 : IntKind.u64.wrap (Int.tdiv (v : Int) 2) = ((v / 2 : Nat) : Int) := by rw [Int.tdiv_eq_ediv_of_nonneg (by omega), wu64 (by omega) (by omega)]; omega
  have e2 : Int.tmod (v : Int) 2 = ((v % 2 : Nat) : Int) := by rw [Int.tmod_eq_emod_of_nonneg (by omega)]; omega
  rw [e1, e2]
  by_cases h2 : v % 2 = 0
  · rw [if_pos (by omega), if_pos h2, w64 (by omega) (by omega)]
  · rw [if_neg (by omega), if_neg h2, w64 (n := ((v / 2 : Nat) : Int)) (by omega) (by omega), w64 (n := -((v / 2 : Nat) : Int)) (by omega) (by omega), w64 (by omega) (by omega)]
theorem by_of {l : List Int} (h : ∀ x ∈ l, (Lit.int .u8 x).wf = true) : By l := fun x hx => by have := bounds_u8 (h x hx); omega
theorem takes_at (k : Nat) (l : List Int) (hl : ¬ (l.length : Int) > 4000) (v : Int) (r : List Int) (e x : Int)
    (h1 : leb_Take.f k l = some (v, r, errOf e)) (h2 : belvedereref02_Take.f k l = some (v, r, e)) (h3 : leb_TakeInt.f k l = some (x, r, errOf e))
    (h4 : e = 0 → belvedereref02_Sign.f v = some x) (h5 : e ≠ 0 → x = 0) (hs : belvederelaw02_sure.f k = some true) : belvederelaw02_LebTakes.f k l = some true := by
  unfold belvederelaw02_LebTakes.f
  rw [if_neg hl, h1, Option.bind_some, h2, Option.bind_some, h3, Option.bind_some]
  show ((belvederelaw02_num.f (errOf e)).bind _) = _
  rw [num_eq, Option.bind_some, if_pos rfl]
  rw [Option.bind_some, if_pos rfl, if_pos rfl, if_pos rfl, if_pos rfl]
  by_cases he : e = 0
  · rw [if_pos he, h4 he, Option.bind_some, if_pos rfl, hs]; rfl
  · rw [if_neg he, if_pos (h5 he), hs]; rfl
theorem lebTakes : belvederelaw02_LebTakes.Pure := by
  intro l _ _ hw
  have hb := by_of hw
  obtain ⟨K0, p0⟩ := sure_ev
  by_cases hl : (l.length : Int) > 4000
  · exact ⟨K0, by unfold belvederelaw02_LebTakes.f; rw [if_pos hl, show belvederelaw02_sure.f K0 = some true from p0 _ (Nat.le_refl _)]; rfl⟩
  obtain ⟨K1, p1⟩ := take_ev l hb (by omega)
  obtain ⟨K2, p2⟩ := refTake_ev l hb (by omega)
  obtain ⟨K, hK⟩ : ∃ K, K = K0 + K1 + K2 := ⟨_, rfl⟩
  have q1 : leb_Take.f K l = some ((spec l).1, (spec l).2.1, errOf (spec l).2.2) := p1 K (by omega)
  have q2 : belvedereref02_Take.f K l = some ((spec l).1, (spec l).2.1, (spec l).2.2) := p2 K (by omega)
  refine ⟨K, takes_at K l hl _ _ _ _ q1 q2 (takeInt_at K l _ _ _ q1) ?_ ?_ (p0 K (by omega))⟩
  · intro he
    rcases spec_shape l hb with ⟨h, _⟩ | ⟨_, ⟨v, hv, hv2⟩, _⟩
    · exact absurd he h
    · rw [hv2, unzig_eq v hv]; exact sign_eq v hv
  · intro he
    rcases spec_shape l hb with ⟨_, h, _⟩ | ⟨h, _⟩
    · rw [h]; exact (unzig_eq 0 (by decide)).trans rfl
    · exact absurd h he
/-! ### texts -/
/-- The text at the front, what is behind it, the error. -/
def textSpec (l : List Int) (most : Int) : ByteArray × List Int × Int :=
  if most < 0 then (⟨#[]⟩, [], 1)
  else if (spec l).2.2 ≠ 0 then (⟨#[]⟩, [], (spec l).2.2)
  else if (spec l).1 > most then (⟨#[]⟩, [], 2)
  else if (spec l).1 > ((spec l).2.1.length : Int) then (⟨#[]⟩, [], 4)
  else (strOfNums ((spec l).2.1.take (spec l).1.toNat), (spec l).2.1.drop (spec l).1.toNat, 0)
theorem text_at (k : Nat) (l : List Int) (most : Int) (hm : most ≤ 9223372036854775807) (hl : l.length ≤ 4000000) (v : Int) (r : List Int) (e : Int) (hs : spec l = (v, r, e))
    (hv : e = 0 → 0 ≤ v ∧ r.length ≤ l.length) (h1 : leb_Take.f k l = some (v, r, errOf e)) :
    leb_TakeText.f k l most = some ((textSpec l most).1, (textSpec l most).2.1, errOf (textSpec l most).2.2) := by
  unfold leb_TakeText.f textSpec
  rw [hs]
  by_cases hn : most < 0
  · rw [if_pos hn, if_pos hn]; rfl
  · rw [if_neg hn, if_neg hn, h1, Option.bind_some]
    by_cases he : e = 0
    · subst he
      obtain ⟨v0, hr⟩ := hv rfl
      have c0 : ¬ ((0 : Int) ≠ 0) := fun h => h rfl
      have e1 : IntKind.u64.wrap most = most := wu64 (by omega) (by omega)
      have e2 : IntKind.u64.wrap (r.length : Int) = (r.length : Int) := wu64 (by omega) (by omega)
      rw [if_pos (show (errOf 0).isNone = true from rfl)]
      show (if v > IntKind.u64.wrap most then _ else _) = _
      rw [e1, if_neg c0]
      by_cases h2 : v > most
      · rw [if_pos h2, if_pos h2]; rfl
      · rw [if_neg h2, if_neg h2]
        show (if v > IntKind.u64.wrap (r.length : Int) then _ else _) = _
        rw [e2]
        by_cases h3 : v > (r.length : Int)
        · rw [if_pos h3, if_pos h3]; rfl
        · have e3 : slices_Clone_byte_byte.f (r.drop v.toNat) = some (r.drop v.toNat) := by unfold slices_Clone_byte_byte.f; rw [if_pos (by rw [List.length_drop]; omega)]
          rw [if_neg h3, if_neg h3]
          show (if 0 ≤ v then (if v ≤ (r.length : Int) then ((slices_Clone_byte_byte.f (r.drop v.toNat)).bind _) else _) else _) = _
          rw [if_pos v0, if_pos (Int.not_lt.1 h3), e3]
          rfl
    · have c0 : e ≠ 0 := he
      have en : errOf e = some e := by unfold errOf; rw [if_neg he]
      show (if (errOf e).isNone = true then _ else _) = _
      rw [en, if_neg (by simp), if_pos c0, en]
      rfl
theorem refText_at (k : Nat) (l : List Int) (most : Int) (hm : most ≤ 9223372036854775807) (hl : l.length ≤ 4000000) (v : Int) (r : List Int) (e : Int) (hs : spec l = (v, r, e))
    (hv : e = 0 → 0 ≤ v ∧ r.length ≤ l.length) (h1 : belvedereref02_Take.f k l = some (v, r, e)) :
    belvedereref02_TakeText.f k l most = some (textSpec l most) := by
  unfold belvedereref02_TakeText.f textSpec
  rw [hs]
  by_cases hn : most < 0
  · rw [if_pos hn, if_pos hn]
  · rw [if_neg hn, if_neg hn, h1, Option.bind_some]
    by_cases he : e = 0
    · subst he
      obtain ⟨v0, hr⟩ := hv rfl
      have c0 : ¬ ((0 : Int) ≠ 0) := fun h => h rfl
      have e1 : IntKind.u64.wrap most = most := wu64 (by omega) (by omega)
      have e2 : IntKind.u64.wrap (r.length : Int) = (r.length : Int) := wu64 (by omega) (by omega)
      rw [if_pos rfl]
      show (if v > IntKind.u64.wrap most then _ else _) = _
      rw [e1, if_neg c0]
      by_cases h2 : v > most
      · rw [if_pos h2, if_pos h2]
      · rw [if_neg h2, if_neg h2]
        show (if v > IntKind.u64.wrap (r.length : Int) then _ else _) = _
        rw [e2]
        by_cases h3 : v > (r.length : Int)
        · rw [if_pos h3, if_pos h3]
        · rw [if_neg h3, if_neg h3]
          show (if 0 ≤ v then (if v ≤ (r.length : Int) then some (strOfNums (r.take v.toNat), r.drop v.toNat, 0) else _) else _) = _
          rw [if_pos v0, if_pos (Int.not_lt.1 h3)]
    · have c0 : e ≠ 0 := he
      rw [if_neg he, if_pos c0]
theorem spec_num (l : List Int) (hb : By l) : (spec l).2.2 = 0 → 0 ≤ (spec l).1 ∧ (spec l).2.1.length ≤ l.length := by
  intro h
  rcases spec_shape l hb with ⟨h1, _⟩ | ⟨_, ⟨v, hv, hv2⟩, h3, _⟩
  · exact absurd h h1
  · exact ⟨by omega, h3⟩
theorem takeText_ev (l : List Int) (hb : By l) (hl : l.length ≤ 4000000) (most : Int) (hm : most ≤ 9223372036854775807) : Ev (fun k => leb_TakeText.f k l most) ((textSpec l most).1, (textSpec l most).2.1, errOf (textSpec l most).2.2) := by
  obtain ⟨K, hK⟩ := take_ev l hb hl
  exact ⟨K, fun k hk => text_at k l most hm hl _ _ _ rfl (spec_num l hb) (hK k hk)⟩
theorem texts_at (k : Nat) (l : List Int) (hl : ¬ (l.length : Int) > 4000) (most : Int) (t : ByteArray) (r : List Int) (e : Int)
    (h1 : leb_TakeText.f k l most = some (t, r, errOf e)) (h2 : belvedereref02_TakeText.f k l most = some (t, r, e)) (hs : belvederelaw02_sure.f k = some true) : belvederelaw02_LebTexts.f k l most = some true := by
  unfold belvederelaw02_LebTexts.f
  rw [if_neg hl, h1, Option.bind_some, h2, Option.bind_some, if_pos rfl, if_pos rfl]
  show ((belvederelaw02_num.f (errOf e)).bind _) = _
  rw [num_eq, Option.bind_some, if_pos rfl, hs]
  rfl
theorem lebTexts : belvederelaw02_LebTexts.Pure := by
  intro l most _ _ hw hm
  have hb := by_of hw
  have bm := bounds_i64 hm
  obtain ⟨K0, p0⟩ := sure_ev
  by_cases hl : (l.length : Int) > 4000
  · exact ⟨K0, by unfold belvederelaw02_LebTexts.f; rw [if_pos hl, show belvederelaw02_sure.f K0 = some true from p0 _ (Nat.le_refl _)]; rfl⟩
  obtain ⟨K1, p1⟩ := takeText_ev l hb (by omega) most bm.2
  obtain ⟨K2, p2⟩ := refTake_ev l hb (by omega)
  obtain ⟨K, hK⟩ : ∃ K, K = K0 + K1 + K2 := ⟨_, rfl⟩
  exact ⟨K, texts_at K l hl most _ _ _ (p1 K (by omega)) (refText_at K l most bm.2 (by omega) _ _ _ rfl (spec_num l hb) (p2 K (by omega))) (p0 K (by omega))⟩
end Go.Proofs.YtfcnmjbmoiacaaaDoor.Leb
