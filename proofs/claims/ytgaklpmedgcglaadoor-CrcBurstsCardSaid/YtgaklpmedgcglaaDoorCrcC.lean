/- Plain mathematics of layer 1: CrcNested, CrcShort. -/
import Derived.Test.YtgaklpmedgcglaaDoorCrcA
set_option linter.unusedVariables false
namespace Go.Proofs.YtgaklpmedgcglaaDoor.Crc
open Go.RowKit Go.Proofs.YtgaklpmedgcglaaDoor.P Go.Proofs.YtgaklpmedgcglaaDoorW.PrintWords Go.Proofs.YtgaklpmedgcglaaDoorW.PrintLast Go.Proofs.YtgaklpmedgcglaaDoorW.PrintMore
theorem laidB_len (s : Int) : (laidB s).length = 4 := rfl
theorem seal_f (l : List Int) (hl : l.length + 4 < 140737488355328) : crc_Seal.f l = some (l ++ laidB (moreZ 0 l)) := by unfold crc_Seal.f; rw [if_pos hl]
/-- What was sealed is opened. -/
theorem open_seal (l : List Int) (hl : l.length + 4 < 140737488355328) : crc_Open.f (l ++ laidB (moreZ 0 l)) = some (l, none) := by
  have h1 : (l ++ laidB (moreZ 0 l)).length = l.length + 4 := by rw [List.length_append, laidB_len]
  have h2 : (l ++ laidB (moreZ 0 l)).length - 4 = l.length := by omega
  unfold crc_Open.f
  rw [if_pos (by omega), if_neg (by omega), h2, List.drop_left, List.take_left, if_pos rfl]
theorem open_any (l : List Int) (hl : l.length < 140737488355328) (h4 : ¬ l.length < 4) : crc_Open.f l = some (l.take (l.length - 4), none) ∨ crc_Open.f l = some ([], some 6) := by
  unfold crc_Open.f
  rw [if_pos hl, if_neg h4]
  split
  · exact .inl rfl
  · exact .inr rfl
theorem num_of (e : Option Int) : belvederelaw01_num.f e = some (e.getD 0) := rfl
theorem nested_at (l : List Int) (b : Int) (hl : ¬ (l.length : Int) > 4000) (x y : List Int) (hx : crc_Seal.f l = some x) (hxl : x.length = l.length + 4) (hy : crc_Seal.f x = some y) (hyl : y.length = l.length + 8)
    (ox : crc_Open.f x = some (l, none)) (oy : crc_Open.f y = some (x, none)) (v : List Int) (g : Option Int) (ow : crc_Open.f (x ++ [b]) = some (v, g)) (hg : g = none ∨ g = some 6) : belvederelaw01_CrcNested.f l b = some true := by
  have e8 : wrap64 ((l.length : Int) + 8) = (l.length : Int) + 8 := by unfold wrap64; omega
  have c1 : (y.length : Int) = (l.length : Int) + 8 := by omega
  have c2 : ([] : List Int).length + x.length < 140737488355328 := by rw [List.length_nil]; omega
  have c3 : x.length < 140737488355328 := by omega
  have hw : (x ++ [b]).length = x.length + 1 := by rw [List.length_append]; rfl
  have e9 : wrap64 (((x ++ [b]).length : Int) - 1) = (x.length : Int) := by rw [hw]; unfold wrap64; omega
  have c4 : (0 : Int) ≤ (x.length : Int) := Int.natCast_nonneg _
  have c5 : (x.length : Int) ≤ ((x ++ [b]).length : Int) := by omega
  have t0 : ((x.length : Int)).toNat = x.length := rfl
  have htake : (x ++ [b]).take x.length = x := List.take_left
  unfold belvederelaw01_CrcNested.f
  rw [if_neg hl, hx, Option.bind_some, hy, Option.bind_some, oy, Option.bind_some]
  show ((crc_Open.f x).bind _) = _
  rw [ox, Option.bind_some, if_pos (show (none : Option Int).isNone = true from rfl), if_pos (show (none : Option Int).isNone = true from rfl), if_pos rfl, e8, if_pos c1, Option.bind_some, if_pos c2, Option.bind_some, List.nil_append, if_pos c3, Option.bind_some, ow, Option.bind_some, e9, if_pos c4, if_pos c5, t0, htake, ox, Option.bind_some]
  rcases hg with rfl | rfl
  · rw [if_pos (show (none : Option Int).isNone = true from rfl), if_pos (show (none : Option Int).isNone = true from rfl), if_pos rfl, sure]
    rfl
  · rw [if_neg (show ¬ (some (6 : Int)).isNone = true by simp)]
    show ((belvederelaw01_num.f (some 6)).bind _) = _
    rw [num_of, Option.bind_some, if_pos (show (some (6 : Int)).getD 0 = 6 from rfl), if_pos (show (none : Option Int).isNone = true from rfl), if_pos rfl, sure]
    rfl
theorem crcNested : belvederelaw01_CrcNested.Pure := by
  intro l b _ _ hw hb
  by_cases hl : (l.length : Int) > 4000
  · unfold belvederelaw01_CrcNested.f
    rw [if_pos hl, sure]
    rfl
  · obtain ⟨x, hx⟩ : ∃ x, x = l ++ laidB (moreZ 0 l) := ⟨_, rfl⟩
    have hxl : x.length = l.length + 4 := by rw [hx, List.length_append, laidB_len]
    have sx := seal_f l (by omega)
    have ox := open_seal l (by omega)
    rw [← hx] at sx ox
    obtain ⟨y, hy⟩ : ∃ y, y = x ++ laidB (moreZ 0 x) := ⟨_, rfl⟩
    have hyl : y.length = l.length + 8 := by rw [hy, List.length_append, laidB_len]; omega
    have sy := seal_f x (by omega)
    have oy := open_seal x (by omega)
    rw [← hy] at sy oy
    have hwl : (x ++ [b]).length = x.length + 1 := by rw [List.length_append]; rfl
    rcases open_any (x ++ [b]) (by omega) (by omega) with h | h
    · exact nested_at l b hl x y sx hxl sy hyl ox oy _ _ h (.inl rfl)
    · exact nested_at l b hl x y sx hxl sy hyl ox oy _ _ h (.inr rfl)

/-! ### CrcShort -/
theorem u8_inj {a b : Int} (ha : 0 ≤ a ∧ a < 256) (hb : 0 ≤ b ∧ b < 256) (h : UInt8.ofNat a.toNat = UInt8.ofNat b.toNat) : a = b := by
  have h1 := congrArg UInt8.toNat h
  rw [UInt8.toNat_ofNat', UInt8.toNat_ofNat'] at h1
  omega
theorem texts_inj : ∀ (a b : List Int), By a → By b → (a.map fun n : Int => UInt8.ofNat n.toNat) = (b.map fun n : Int => UInt8.ofNat n.toNat) → a = b
  | [], [], _, _, _ => rfl
  | [], _ :: _, _, _, h => by simp at h
  | _ :: _, [], _, _, h => by simp at h
  | x :: a, y :: b, ha, hb, h => by
    injection h with h1 h2
    rw [u8_inj ha.head hb.head h1, texts_inj a b ha.tail hb.tail h2]
theorem text_list (a : List Int) : (strOfNums a).toList = a.map fun n : Int => UInt8.ofNat n.toNat := Go.Lib.strOfNums_toList a
theorem text_inj {a b : List Int} (ha : By a) (hb : By b) (h : (strOfNums a).toList = (strOfNums b).toList) : a = b := by
  rw [text_list, text_list] at h
  exact texts_inj a b ha hb h
theorem laidB_by (s : Int) : By (laidB s) := by
  intro x hx
  unfold laidB at hx
  simp only [List.mem_cons, List.not_mem_nil, or_false] at hx
  rcases hx with rfl | rfl | rfl | rfl <;> omega
theorem short_lt (l : List Int) (hl : l.length < 4) : belvederelaw01_CrcShort.f l = some true := by
  have hm : mn (l.length : Int) 4 = (l.length : Int) := by unfold mn; rw [if_neg (by omega)]
  have t0 : ((l.length : Int)).toNat = l.length := rfl
  have ho : crc_Open.f l = some ([], some 4) := by unfold crc_Open.f; rw [if_pos (by omega), if_pos hl]
  unfold belvederelaw01_CrcShort.f
  rw [hm, if_pos (Int.natCast_nonneg _), if_pos (Int.le_refl _), t0, List.take_length, ho, Option.bind_some, if_pos (by omega)]
  show ((belvederelaw01_num.f (some 4)).bind _) = _
  rw [num_of, Option.bind_some, if_pos (show (some (4 : Int)).getD 0 = 4 from rfl), if_pos (show ((([] : List Int).length : Nat) : Int) = 0 from rfl), sure]
  rfl
theorem short_at (l : List Int) (hl : ¬ l.length < 4) (t s : List Int) (ht : l.take 4 = t) (hs : crc_Seal.f [] = some s) (e : Option Int) (ho : crc_Open.f t = some ([], e)) (hi : e.isNone = ((strOfNums t).toList == (strOfNums s).toList)) : belvederelaw01_CrcShort.f l = some true := by
  have hm : mn (l.length : Int) 4 = 4 := by unfold mn; split <;> omega
  have t0 : ((4 : Int)).toNat = 4 := rfl
  have c1 : (0 : Int) ≤ 4 := by decide
  have c2 : (4 : Int) ≤ (l.length : Int) := by omega
  have c3 : ¬ ((4 : Int) < 4) := by decide
  have c4 : ((([] : List Int).length : Nat) : Int) = 0 := rfl
  unfold belvederelaw01_CrcShort.f
  rw [hm, if_pos c1, if_pos c2, t0, ht, ho, Option.bind_some, if_neg c3, hs, Option.bind_some]
  cases e with
  | none =>
    rw [if_pos (show (none : Option Int).isNone = true from rfl), if_pos c2, if_pos (by rw [← hi]; rfl), if_pos c4, sure]
    rfl
  | some n =>
    rw [if_neg (show ¬ (some n).isNone = true by simp), if_pos c2, if_pos (by rw [← hi]; rfl), if_pos c4, sure]
    rfl
theorem crcShort : belvederelaw01_CrcShort.Pure := by
  intro l _ _ hw
  have hb := by_of hw
  by_cases hl : l.length < 4
  · exact short_lt l hl
  · have h4 : (l.take 4).length = 4 := by rw [List.length_take]; omega
    have hs : crc_Seal.f [] = some (laidB (moreZ 0 [])) := seal_f [] (by decide)
    have hd : (l.take 4).drop ((l.take 4).length - 4) = l.take 4 := by rw [h4]; rfl
    have ht : (l.take 4).take ((l.take 4).length - 4) = [] := by rw [h4]; rfl
    have ho : crc_Open.f (l.take 4) = (if l.take 4 = laidB (moreZ 0 []) then some ([], none) else some ([], some 6)) := by
      unfold crc_Open.f
      rw [if_pos (by omega), if_neg (by omega), hd, ht]
    by_cases he : l.take 4 = laidB (moreZ 0 [])
    · rw [if_pos he] at ho
      exact short_at l hl _ _ rfl hs none ho (by rw [he]; simp)
    · rw [if_neg he] at ho
      refine short_at l hl _ _ rfl hs (some 6) ho ?_
      have : ¬ ((strOfNums (l.take 4)).toList = (strOfNums (laidB (moreZ 0 []))).toList) := fun h => he (text_inj (hb.take 4) (laidB_by _) h)
      rw [beq_eq_false_iff_ne.2 this]
      rfl
end Go.Proofs.YtgaklpmedgcglaaDoor.Crc
