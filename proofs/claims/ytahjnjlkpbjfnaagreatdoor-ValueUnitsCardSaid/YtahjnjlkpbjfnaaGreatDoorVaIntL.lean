/- Plain mathematics of layer 10: Flag, Seconds, and the law ValueInts. -/
import Derived.Test.YtahjnjlkpbjfnaaGreatDoorVaIntM
set_option linter.unusedVariables false
set_option linter.unusedSimpArgs false
namespace Go.Proofs.YtahjnjlkpbjfnaaGreatDoor.PVal
open Go Go.RowKit Go.Proofs.YtahjnjlkpbjfnaaGreatDoor.P Go.Proofs.YtahjnjlkpbjfnaaGreatDoorW.PrintWords Go.Proofs.YtahjnjlkpbjfnaaGreatDoorW.PrintLast Go.Proofs.YtahjnjlkpbjfnaaGreatDoorW.PrintMore
theorem int_f (s : ByteArray) (lo hi : Int) (hs : s.size ≤ 1000) : value_Int.f s lo hi = some (intL s.data.toList lo hi) := by
  unfold value_Int.f
  rw [if_pos (by omega), intOf_eq]
theorem flag_eq (s : ByteArray) : ∃ x y, value_Flag.f s = some (x, y) ∧ belvedereref10_Flag.f s = some (x, E y) := by
  unfold value_Flag.f belvedereref10_Flag.f
  by_cases h0 : s.toList = ([] : List UInt8)
  · rw [if_pos h0, if_pos h0]; exact ⟨_, _, rfl, rfl⟩
  · rw [if_neg h0, if_neg h0]
    by_cases h1 : s.toList = ([48] : List UInt8)
    · rw [if_pos h1, if_pos h1]; exact ⟨_, _, rfl, rfl⟩
    · rw [if_neg h1, if_neg h1]
      by_cases h2 : s.toList = ([49] : List UInt8)
      · rw [if_pos h2, if_pos h2]; exact ⟨_, _, rfl, rfl⟩
      · rw [if_neg h2, if_neg h2]; exact ⟨_, _, rfl, rfl⟩
theorem fin_range (v : Int) : (fin v 0 10000000).1 = 0 ∨ (0 ≤ (fin v 0 10000000).1 ∧ (fin v 0 10000000).1 ≤ 10000000) := by
  unfold fin
  by_cases h1 : v < 0
  · rw [if_pos h1]; exact .inl rfl
  · rw [if_neg h1]
    by_cases h2 : v > 10000000
    · rw [if_pos h2]; exact .inl rfl
    · rw [if_neg h2]; exact .inr ⟨by show 0 ≤ v; omega, by show v ≤ 10000000; omega⟩
theorem intL_range (l : List UInt8) : 0 ≤ (intL l 0 10000000).1 ∧ (intL l 0 10000000).1 ≤ 10000000 := by
  have h := fin_range
  have hz : ∀ v, 0 ≤ (fin v 0 10000000).1 ∧ (fin v 0 10000000).1 ≤ 10000000 := fun v => by rcases h v with e | e <;> omega
  unfold intL
  split
  · exact ⟨Int.le_refl _, by decide⟩
  · repeat' split
    all_goals first | exact hz _ | exact ⟨Int.le_refl _, by decide⟩
/-- How many seconds a sign stands for; 0: it is none of these. -/
def byOf (c : UInt8) : Int := if (c.toNat : Int) = 115 then 1 else if (c.toNat : Int) = 109 then 60 else if (c.toNat : Int) = 104 then 3600 else if (c.toNat : Int) = 100 then 86400 else 0
theorem unit_by (c : UInt8) : value_unit.f (c.toNat : Int) = some (byOf c) := by
  unfold value_unit.f byOf
  repeat' split
  all_goals first | rfl | omega
/-- What a text says as a number of seconds. -/
def secL (l : List UInt8) : Int × Option Int := match l.getLast? with
  | none => (0, some 13)
  | some c => if byOf c = 0 then intL l 0 10000000 else ((intL l.dropLast 0 10000000).1 * byOf c, (intL l.dropLast 0 10000000).2)
theorem sec_f (s : ByteArray) (hs : s.size ≤ 1000) : value_Seconds.f s = some (secL s.data.toList) := by
  unfold value_Seconds.f secL
  rw [toList_l]
  cases h : s.data.toList.getLast? with
  | none => rw [if_pos (List.getLast?_eq_none_iff.1 h)]
  | some c =>
    have hne : s.data.toList ≠ [] := fun e => by rw [e] at h; cases h
    have hsz := size_l s
    have hpos : 0 < s.data.toList.length := List.length_pos_iff.mpr hne
    have hw : wrap64 ((s.size : Int) - 1) = ((s.size - 1 : Nat) : Int) := by rw [w64 (by omega) (by omega)]; omega
    have hb : bt s ((s.size - 1 : Nat) : Int) = (c.toNat : Int) := by
      rw [bt_l s (s.size - 1) (by omega)]
      congr 1
      rw [List.getLast?_eq_getElem?] at h
      rw [List.getElem?_eq_getElem (by omega)] at h
      have h2 := Option.some.inj h
      rw [← h2]
      congr 1
    have hx : (s.extract 0 (s.size - 1)).data.toList = s.data.toList.dropLast := by
      rw [ByteArray.data_extract, Array.toList_extract, List.extract_eq_take_drop, List.drop_zero, List.dropLast_eq_take, Nat.sub_zero, hsz]
    have hr := intL_range s.data.toList.dropLast
    have hr2 := intL_range s.data.toList
    have hxs : (s.extract 0 (s.size - 1)).size ≤ 1000 := by rw [ByteArray.size_extract]; omega
    rw [if_neg hne, hw, if_pos (by omega), if_pos (by omega), hb, unit_by, Option.bind_some, Int.toNat_natCast]
    have hbr : byOf c = 0 ∨ (0 < byOf c ∧ byOf c ≤ 86400) := by
      unfold byOf
      repeat' split
      all_goals first | exact .inl rfl | exact .inr ⟨by decide, by decide⟩
    rcases hbr with e0 | e1
    · rw [if_neg (by omega), int_f s _ _ hs, Option.bind_some]
      simp only [e0, if_true]
      rw [Int.mul_one, w64 (by omega) (by omega)]
    · have hm : 0 ≤ (intL s.data.toList.dropLast 0 10000000).1 * byOf c ∧ (intL s.data.toList.dropLast 0 10000000).1 * byOf c ≤ 10000000 * 86400 :=
        ⟨Int.mul_nonneg hr.1 (by omega), Int.mul_le_mul hr.2 e1.2 (by omega) (by decide)⟩
      rw [if_pos (by omega), if_pos (by omega), int_f _ _ _ hxs, hx, Option.bind_some]
      simp only
      rw [if_neg (by omega), w64 (by omega) (by omega)]
theorem sec_l0_end (k : Nat) (s : ByteArray) (by_ : Int) (hs : s.size ≤ 1000) (hne : s.data.toList ≠ []) (hb0 : 0 ≤ by_) (hb1 : by_ ≤ 86400) :
    belvedereref10_Seconds.l0 (k + 3001) s by_ 4 = if by_ = 0 then some ((intL s.data.toList 0 10000000).1, E (intL s.data.toList 0 10000000).2) else some ((intL s.data.toList.dropLast 0 10000000).1 * by_, E (intL s.data.toList.dropLast 0 10000000).2) := by
  have hsz := size_l s
  have hpos : 0 < s.data.toList.length := List.length_pos_iff.mpr hne
  have hw : wrap64 ((s.size : Int) - 1) = ((s.size - 1 : Nat) : Int) := by rw [w64 (by omega) (by omega)]; omega
  have hx : (s.extract 0 (s.size - 1)).data.toList = s.data.toList.dropLast := by
    rw [ByteArray.data_extract, Array.toList_extract, List.extract_eq_take_drop, List.drop_zero, List.dropLast_eq_take, Nat.sub_zero, hsz]
  have hr := intL_range s.data.toList.dropLast
  have hxs : (s.extract 0 (s.size - 1)).size ≤ 1000 := by rw [ByteArray.size_extract]; omega
  rw [belvedereref10_Seconds.l0, if_neg (by decide)]
  by_cases h0 : by_ = 0
  · rw [if_pos h0, if_pos h0, ref_int k s _ _ hs]; rfl
  · have hm : 0 ≤ (intL s.data.toList.dropLast 0 10000000).1 * by_ ∧ (intL s.data.toList.dropLast 0 10000000).1 * by_ ≤ 10000000 * 86400 :=
        ⟨Int.mul_nonneg hr.1 (by omega), Int.mul_le_mul hr.2 hb1 (by omega) (by decide)⟩
    rw [if_neg h0, if_neg h0, hw, if_pos (by omega), if_pos (by omega), Int.toNat_natCast, ref_int k _ _ _ hxs, hx, Option.bind_some]
    simp only
    rw [w64 (by omega) (by omega)]
theorem ref_sec (k : Nat) (s : ByteArray) (hs : s.size ≤ 1000) : belvedereref10_Seconds.f (k + 3005) s = some ((secL s.data.toList).1, E (secL s.data.toList).2) := by
  unfold belvedereref10_Seconds.f
  rw [toList_l]
  cases h : s.data.toList.getLast? with
  | none =>
    have hS : secL s.data.toList = (0, some 13) := by unfold secL; rw [h]
    rw [if_pos (List.getLast?_eq_none_iff.1 h), hS]; rfl
  | some c =>
    have hS : secL s.data.toList = if byOf c = 0 then intL s.data.toList 0 10000000 else ((intL s.data.toList.dropLast 0 10000000).1 * byOf c, (intL s.data.toList.dropLast 0 10000000).2) := by unfold secL; rw [h]
    have hne : s.data.toList ≠ [] := fun e => by rw [e] at h; cases h
    have hsz := size_l s
    have hpos : 0 < s.data.toList.length := List.length_pos_iff.mpr hne
    have hw : wrap64 ((s.size : Int) - 1) = ((s.size - 1 : Nat) : Int) := by rw [w64 (by omega) (by omega)]; omega
    have hb : bt s ((s.size - 1 : Nat) : Int) = (c.toNat : Int) := by
      rw [bt_l s (s.size - 1) (by omega)]
      congr 1
      rw [List.getLast?_eq_getElem?] at h
      rw [List.getElem?_eq_getElem (by omega)] at h
      have h2 := Option.some.inj h
      rw [← h2]
      congr 1
    rw [if_neg hne]
    have step : ∀ (n : Nat) (y : Int) (i : Nat) (hi : i < 4), belvedereref10_Seconds.l0 (n + 1) s y (i : Int) = if (c.toNat : Int) = bt ⟨#[115, 109, 104, 100]⟩ (i : Int) then belvedereref10_Seconds.l0 n s (rd [1, 60, 3600, 86400] (i : Int)) ((i + 1 : Nat) : Int) else belvedereref10_Seconds.l0 n s y ((i + 1 : Nat) : Int) := fun n y i hi => by
      have hwi : wrap64 ((i : Int) + 1) = ((i + 1 : Nat) : Int) := by rw [w64 (by omega) (by omega)]; omega
      rw [belvedereref10_Seconds.l0, if_pos (by omega), hw, if_pos (by omega), if_pos (by omega), if_pos (Int.natCast_nonneg _), hb, hwi, Option.bind_some, if_pos (show (i : Int) < (([1, 60, 3600, 86400] : List Int).length : Int) by (show (i : Int) < ((4 : Nat) : Int)); omega)]
    have s0 := fun n y => step n y 0 (by decide)
    have s1 := fun n y => step n y 1 (by decide)
    have s2 := fun n y => step n y 2 (by decide)
    have s3 := fun n y => step n y 3 (by decide)
    have b0 : bt ⟨#[115, 109, 104, 100]⟩ ((0 : Nat) : Int) = 115 := by decide
    have b1 : bt ⟨#[115, 109, 104, 100]⟩ ((1 : Nat) : Int) = 109 := by decide
    have b2 : bt ⟨#[115, 109, 104, 100]⟩ ((2 : Nat) : Int) = 104 := by decide
    have b3 : bt ⟨#[115, 109, 104, 100]⟩ ((3 : Nat) : Int) = 100 := by decide
    have r0 : rd [1, 60, 3600, 86400] ((0 : Nat) : Int) = 1 := by decide
    have r1 : rd [1, 60, 3600, 86400] ((1 : Nat) : Int) = 60 := by decide
    have r2 : rd [1, 60, 3600, 86400] ((2 : Nat) : Int) = 3600 := by decide
    have r3 : rd [1, 60, 3600, 86400] ((3 : Nat) : Int) = 86400 := by decide
    rw [b0, r0] at s0
    rw [b1, r1] at s1
    rw [b2, r2] at s2
    rw [b3, r3] at s3
    have hend := fun y hy0 hy1 => sec_l0_end k s y hs hne hy0 hy1
    show belvedereref10_Seconds.l0 (k + 3004 + 1) s 0 ((0 : Nat) : Int) = _
    rw [s0]
    have e4 : ∀ y, belvedereref10_Seconds.l0 (k + 3001) s y ((3 + 1 : Nat) : Int) = belvedereref10_Seconds.l0 (k + 3001) s y 4 := fun _ => rfl
    rw [hS]
    by_cases h115 : (c.toNat : Int) = 115
    · have hy : byOf c = 1 := by unfold byOf; rw [if_pos h115]
      rw [if_pos h115, hy, show k + 3004 = k + 3003 + 1 from rfl, s1, if_neg (by omega), show k + 3003 = k + 3002 + 1 from rfl, s2, if_neg (by omega), show k + 3002 = k + 3001 + 1 from rfl, s3, if_neg (by omega), e4, hend 1 (by decide) (by decide)]
      rfl
    · rw [if_neg h115, show k + 3004 = k + 3003 + 1 from rfl, s1]
      by_cases h109 : (c.toNat : Int) = 109
      · have hy : byOf c = 60 := by unfold byOf; rw [if_neg h115, if_pos h109]
        rw [if_pos h109, hy, show k + 3003 = k + 3002 + 1 from rfl, s2, if_neg (by omega), show k + 3002 = k + 3001 + 1 from rfl, s3, if_neg (by omega), e4, hend 60 (by decide) (by decide)]
        rfl
      · rw [if_neg h109, show k + 3003 = k + 3002 + 1 from rfl, s2]
        by_cases h104 : (c.toNat : Int) = 104
        · have hy : byOf c = 3600 := by unfold byOf; rw [if_neg h115, if_neg h109, if_pos h104]
          rw [if_pos h104, hy, show k + 3002 = k + 3001 + 1 from rfl, s3, if_neg (by omega), e4, hend 3600 (by decide) (by decide)]
          rfl
        · rw [if_neg h104, show k + 3002 = k + 3001 + 1 from rfl, s3]
          by_cases h100 : (c.toNat : Int) = 100
          · have hy : byOf c = 86400 := by unfold byOf; rw [if_neg h115, if_neg h109, if_neg h104, if_pos h100]
            rw [if_pos h100, hy, e4, hend 86400 (by decide) (by decide)]
            rfl
          · have hy : byOf c = 0 := by unfold byOf; rw [if_neg h115, if_neg h109, if_neg h104, if_neg h100]
            rw [if_neg h100, hy, e4, hend 0 (by decide) (by decide)]
            rfl
theorem law_Ints (s : ByteArray) (lo hi : Int) : belvederelaw10_ValueInts.f 3100 s lo hi = some true := by
  unfold belvederelaw10_ValueInts.f
  by_cases h : (s.size : Int) > 300
  · rw [if_pos h, sure_k 3090]; rfl
  · have hs : s.size ≤ 1000 := by omega
    obtain ⟨x, y, hf1, hf2⟩ := flag_eq s
    rw [if_neg h, int_f s lo hi hs, ref_int 100 s lo hi hs, hf1, hf2, sec_f s hs, ref_sec 95 s hs]
    simp only [Option.bind_some, if_true]
    rw [show belvederelaw10_num.f (intL s.data.toList lo hi).2 = some (E (intL s.data.toList lo hi).2) from rfl, show belvederelaw10_num.f y = some (E y) from rfl, show belvederelaw10_num.f (secL s.data.toList).2 = some (E (secL s.data.toList).2) from rfl]
    simp only [Option.bind_some, if_true, beq_self_eq_true]
    rw [sure_k 3090]
    rfl
end Go.Proofs.YtahjnjlkpbjfnaaGreatDoor.PVal
