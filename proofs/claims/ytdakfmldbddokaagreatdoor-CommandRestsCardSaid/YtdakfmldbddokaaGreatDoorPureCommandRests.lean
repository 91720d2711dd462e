/- Plain mathematics of layer 20: CommandRests. -/
import Derived.Test.YtdakfmldbddokaaGreatDoorCmA
import Derived.Test.YtdakfmldbddokaaGreatDoorPx8
set_option linter.unusedVariables false
set_option linter.unusedSimpArgs false
namespace Go.Proofs.YtdakfmldbddokaaGreatDoor.PClk
open Go Go.RowKit Go.Proofs.YtdakfmldbddokaaGreatDoor.P Go.Proofs.YtdakfmldbddokaaGreatDoorW.PrintWords Go.Proofs.YtdakfmldbddokaaGreatDoorW.PrintLast Go.Proofs.YtdakfmldbddokaaGreatDoorW.PrintMore
theorem wz (n : Int) (h0 : 0 ≤ n) (h1 : n < 1000) : wrap64 (n + 1) = n + 1 := w64c (by omega) (by omega)
theorem ack_parts : partsOf ⟨#[97, 47, 98, 59, 49]⟩ true [0, 1] = ([⟨#[97, 47, 98]⟩, ⟨#[49]⟩], none) := by decide +kernel
theorem ack_int : value_Int.f ⟨#[49]⟩ 0 1 = some (1, none) := by decide +kernel
theorem ack_read (k : Nat) : command_kind_read.f k 1 ⟨#[49]⟩ = some (1, none) := by
  unfold command_kind_read.f
  rw [if_pos rfl, ack_int]
  rfl
theorem ack_named : namedL [97, 47, 98] = true := by decide +kernel
theorem ack_cut : Lib.cut [97, 99, 107, 59, 97, 47, 98, 59, 49] [59] = ([97, 99, 107], [97, 47, 98, 59, 49], true) := cut_at 59 [97, 99, 107] [97, 47, 98, 59, 49] (by decide)
theorem ack_parse (k : Nat) : command_Parse.f (k + 10) ⟨#[97, 99, 107, 59, 97, 47, 98, 59, 49]⟩ = some (3, ⟨#[97, 47, 98]⟩, 1, 0, 0, 0, 0, ⟨#[]⟩, none) := by
  have hc : command_code.f ⟨(Lib.cut (⟨#[97, 99, 107, 59, 97, 47, 98, 59, 49]⟩ : ByteArray).data.toList [59]).1.toArray⟩ = some ((3 : Nat) : Int) := by
    rw [show (⟨#[97, 99, 107, 59, 97, 47, 98, 59, 49]⟩ : ByteArray).data.toList = [97, 99, 107, 59, 97, 47, 98, 59, 49] from rfl, ack_cut]
    exact code_word 3 (by decide) (by decide)
  rw [parse_top (k + 9) _ (by decide) 3 hc (by decide), if_neg (by decide)]
  rw [show (⟨#[97, 99, 107, 59, 97, 47, 98, 59, 49]⟩ : ByteArray).data.toList = [97, 99, 107, 59, 97, 47, 98, 59, 49] from rfl, ack_cut]
  have e : partsOf (⟨([97, 47, 98, 59, 49] : List UInt8).toArray⟩ : ByteArray) true (kindsOf ((3 : Nat) : Int)) = ([⟨#[97, 47, 98]⟩, ⟨#[49]⟩], none) := ack_parts
  simp only []
  rw [e]
  show command_Parse.l0 (k + 9 + 1) [⟨#[97, 47, 98]⟩, ⟨#[49]⟩] 0 [0, 1] 2 0 3 (⟨#[]⟩ : ByteArray) 0 0 0 0 0 (⟨#[]⟩ : ByteArray) = _
  rw [st_obj (k + 9) _ _ _ _ _ _ _ _ _ _ _ _ _ (by decide) (by decide) (by decide) (by decide) rfl (by decide) (by show 3 + 1 ≤ k + 9; omega)]
  refine (if_pos ack_named).trans ?_
  rw [wz 0 (by decide) (by decide)]
  rw [st_num0 (k + 8) _ _ _ _ _ _ _ _ _ _ _ _ (1, none) (by decide) (by decide) (by decide) (by decide) (by decide) (by decide) (ack_read _)]
  refine (if_pos rfl).trans ?_
  rw [show (0 : Int) + 1 = 1 from rfl, wz 1 (by decide) (by decide)]
  rw [st_end (k + 7) _ _ _ _ _ _ _ _ _ _ _ _ _ (by decide), if_neg (by decide)]
  rfl
theorem tl_ab : (⟨#[97, 47, 98]⟩ : ByteArray).toList = ([97, 47, 98] : List UInt8) := by decide +kernel
theorem tl_no : (⟨#[]⟩ : ByteArray).toList = ([] : List UInt8) := by decide +kernel
theorem tl_a : (⟨#[97]⟩ : ByteArray).toList = ([97] : List UInt8) := by decide +kernel
theorem sure_c (k : Nat) (hk : 10 ≤ k) : belvederelaw20_sure.f k = some true := by
  obtain ⟨n, rfl⟩ : ∃ n, k = n + 10 := ⟨k - 10, by omega⟩
  unfold belvederelaw20_sure.f
  rw [ack_parse, Option.bind_some]
  refine (if_pos rfl).trans ((if_pos rfl).trans ((if_pos tl_ab).trans ((if_pos rfl).trans ((if_pos rfl).trans ((if_pos rfl).trans ((if_pos rfl).trans ((if_pos rfl).trans (if_pos tl_no))))))))
/-! The text of a result. -/
theorem res_parts (d : UInt8) (hd : d ≠ 59) (t : List UInt8) : ∃ R : List ByteArray, parts ⟨(97 :: 59 :: d :: 59 :: t).toArray⟩ semi = ⟨#[97]⟩ :: ⟨#[d]⟩ :: R ∧ R.map (·.data.toList) = Lib.split t [59] := by
  have h := parts_data ⟨(97 :: 59 :: d :: 59 :: t).toArray⟩ semi
  have e : Lib.split (97 :: 59 :: d :: 59 :: t) [59] = [97] :: [d] :: Lib.split t [59] := by
    rw [show (97 :: 59 :: d :: 59 :: t : List UInt8) = [97] ++ 59 :: (d :: 59 :: t) from rfl, split_cons 59 [97] _ (by decide)]
    rw [show (d :: 59 :: t : List UInt8) = [d] ++ 59 :: t from rfl, split_cons 59 [d] _ (by simpa using Ne.symm hd)]
  have h2 : (parts ⟨(97 :: 59 :: d :: 59 :: t).toArray⟩ semi).map (·.data.toList) = [97] :: [d] :: Lib.split t [59] := by
    rw [h]; exact e
  obtain ⟨x, L, hL, hx, h3⟩ := List.map_eq_cons_iff.1 h2
  obtain ⟨y, R, rfl, hy, h4⟩ := List.map_eq_cons_iff.1 h3
  refine ⟨R, ?_, h4⟩
  rw [hL, ba_c hx, ba_c hy]
theorem has_one (c : UInt8) (l : List UInt8) : Lib.contains l [c] = decide (c ∈ l) := by
  unfold Lib.contains
  by_cases h : c ∈ l
  · obtain ⟨a, r, rfl, hn⟩ := first_at c l h
    rw [decide_eq_true h, decide_eq_true_eq, ix_at c r a hn]
    omega
  · rw [decide_eq_false h, decide_eq_false_iff_not, ix_notin c l h]
    omega
theorem res_partsOf (d : UInt8) (hd : d ≠ 59) (t : ByteArray) : partsOf ⟨(97 :: 59 :: d :: 59 :: t.data.toList).toArray⟩ true [0, 7, 9] = if 10 ∈ t.data.toList then ([], some 3) else ([⟨#[97]⟩, ⟨#[d]⟩, t], none) := by
  obtain ⟨R, h1, h2⟩ := res_parts d hd t.data.toList
  have hne : R ≠ [] := fun e => by
    rw [e] at h2
    exact split_ne 59 _ h2.symm
  have hl : lastText (⟨#[97]⟩ :: ⟨#[d]⟩ :: R) 3 = t := by
    unfold lastText
    refine (ba_c ?_).symm
    show t.data.toList = Lib.join (R.map (·.data.toList)) [59]
    rw [h2]
    exact (join_split 59 _ _ (Nat.le_refl _)).symm
  have hlen : 1 ≤ R.length := by
    cases R with
    | nil => exact absurd rfl hne
    | cons _ _ => simp
  unfold partsOf
  rw [show fieldRow (⟨(97 :: 59 :: d :: 59 :: t.data.toList).toArray⟩ : ByteArray) true = ⟨#[97]⟩ :: ⟨#[d]⟩ :: R from h1]
  rw [if_neg (by simp; omega), if_pos (by decide)]
  rw [show ([0, 7, 9] : List Int).length = 3 from rfl, hl, has_one]
  by_cases g : 10 ∈ t.data.toList
  · rw [if_pos (decide_eq_true g), if_pos g]
  · rw [if_neg (by simpa using g), if_neg g]
    rfl
theorem res_named : namedL [97] = true := by decide +kernel
theorem res_int : ∀ j : Nat, j < 4 → value_Int.f ⟨#[UInt8.ofNat (48 + j)]⟩ 0 3 = some ((j : Int), none) := by decide +kernel
theorem res_read (k j : Nat) (hj : j < 4) : command_kind_read.f k 7 ⟨#[UInt8.ofNat (48 + j)]⟩ = some ((j : Int), none) := by
  unfold command_kind_read.f
  rw [if_neg (by decide), if_neg (by decide), if_neg (by decide), if_neg (by decide), if_neg (by decide), if_neg (by decide), if_pos rfl, res_int j hj]
  rfl
theorem dig_ne : ∀ j : Nat, j < 4 → UInt8.ofNat (48 + j) ≠ 59 := by decide
theorem res_parse (k j : Nat) (hj : j < 4) (s t : ByteArray) (ht : t.size ≤ 1000) (hs : s.data.toList = [114, 101, 115, 117, 108, 116, 59, 97, 59, UInt8.ofNat (48 + j), 59] ++ t.data.toList) :
    command_Parse.f (k + 10) s = some (if 10 ∈ t.data.toList then badP 3 else (8, ⟨#[97]⟩, (j : Int), 0, 0, 0, 0, t, none)) := by
  have hcut : Lib.cut s.data.toList [59] = ([114, 101, 115, 117, 108, 116], 97 :: 59 :: UInt8.ofNat (48 + j) :: 59 :: t.data.toList, true) := by
    rw [hs]
    exact cut_at 59 [114, 101, 115, 117, 108, 116] (97 :: 59 :: UInt8.ofNat (48 + j) :: 59 :: t.data.toList) (by decide)
  have hc : command_code.f ⟨(Lib.cut s.data.toList [59]).1.toArray⟩ = some ((8 : Nat) : Int) := by
    rw [hcut]
    exact code_word 8 (by decide) (by decide)
  have hsz : s.size ≤ 4096 := by
    rw [size_c, hs]
    have := size_c t
    simp only [List.length_append, List.length_cons, List.length_nil]
    omega
  rw [parse_top (k + 9) s hsz 8 hc (by decide), if_neg (by decide), hcut]
  have e : partsOf (⟨(97 :: 59 :: UInt8.ofNat (48 + j) :: 59 :: t.data.toList).toArray⟩ : ByteArray) true (kindsOf ((8 : Nat) : Int)) = _ := res_partsOf _ (dig_ne j hj) t
  simp only []
  rw [e]
  by_cases g : 10 ∈ t.data.toList
  · rw [if_pos g, if_pos g]
  · rw [if_neg g, if_neg g]
    show command_Parse.l0 (k + 9 + 1) [⟨#[97]⟩, ⟨#[UInt8.ofNat (48 + j)]⟩, t] 0 [0, 7, 9] 3 0 8 (⟨#[]⟩ : ByteArray) 0 0 0 0 0 (⟨#[]⟩ : ByteArray) = _
    rw [st_obj (k + 9) _ _ _ _ _ _ _ _ _ _ _ _ _ (by decide) (by decide) (by decide) (by simp) rfl (by show 1 ≤ 1000000; omega) (by show 1 + 1 ≤ k + 9; omega)]
    refine (if_pos res_named).trans ?_
    rw [wz 0 (by decide) (by decide)]
    rw [st_num0 (k + 8) _ _ _ _ _ _ _ _ _ _ _ _ ((j : Int), none) (by decide) (by decide) (by decide) (by simp) (by decide) (by decide) (res_read _ j hj)]
    refine (if_pos rfl).trans ?_
    rw [show (0 : Int) + 1 = 1 from rfl, wz 1 (by decide) (by decide)]
    rw [st_text (k + 7) _ _ _ _ _ _ _ _ _ _ _ _ _ (by decide) (by decide) (by decide) (by simp) rfl]
    rw [show (1 : Int) + 1 = 2 from rfl, wz 2 (by decide) (by decide)]
    rw [st_end (k + 6) _ _ _ _ _ _ _ _ _ _ _ _ _ (by decide), if_neg (by simp)]
    rfl
/-! The law. -/
theorem good_l0 (t : ByteArray) (ht : t.size ≤ 1000) (j : Nat) (hj : j < 4) (a : ByteArray) (ha : a.toList = ([97] : List UInt8)) : ∀ (rest pre : List UInt8) (k : Nat), t.data.toList = pre ++ rest → 10 ∉ rest → rest.length + 20 ≤ k →
    belvederelaw20_CommandRests.l0 k t (j : Int) none (pre.length : Int) 8 a (j : Int) 0 0 0 0 t = some true
  | [], pre, k, h, hn, hk => by
    obtain ⟨k, rfl⟩ : ∃ m, k = m + 1 := ⟨k - 1, by omega⟩
    have hl : t.size = pre.length := by rw [size_c, h]; simp
    rw [belvederelaw20_CommandRests.l0, if_neg (by omega)]
    refine (if_pos rfl).trans ((if_pos rfl).trans ((if_pos ha).trans ((if_pos rfl).trans ((if_pos rfl).trans ((if_pos rfl).trans ((if_pos rfl).trans ((if_pos rfl).trans ((if_pos rfl).trans ?_))))))))
    rw [sure_c k (by simp at hk; omega)]
    rfl
  | d :: rest, pre, k, h, hn, hk => by
    obtain ⟨k, rfl⟩ : ∃ m, k = m + 1 := ⟨k - 1, by omega⟩
    have hl : t.size = pre.length + (rest.length + 1) := by rw [size_c, h]; simp
    have hd : ¬ ((d.toNat : Int) = 10) := fun e => hn (by
      have : d = 10 := UInt8.toNat_inj.1 (by show d.toNat = 10; omega)
      rw [this]
      simp)
    rw [belvederelaw20_CommandRests.l0, if_pos (by omega), if_pos (by omega), bt_c h, if_neg hd, show wrap64 ((pre.length : Int) + 1) = ((pre ++ [d]).length : Int) by rw [w64c (by omega) (by omega)]; simp]
    exact good_l0 t ht j hj a ha rest (pre ++ [d]) k (by rw [h]; simp) (fun q => hn (List.mem_cons_of_mem _ q)) (by simp at hk; omega)
theorem bad_l0 (t : ByteArray) (ht : t.size ≤ 1000) (j : Nat) (a b : ByteArray) (ha : a.toList = ([] : List UInt8)) (hb : b.toList = ([] : List UInt8)) : ∀ (rest pre : List UInt8) (k : Nat), t.data.toList = pre ++ rest → 10 ∈ rest → rest.length + 20 ≤ k →
    belvederelaw20_CommandRests.l0 k t (j : Int) (some 3) (pre.length : Int) 0 a 0 0 0 0 0 b = some true
  | [], pre, k, h, hn, hk => by simp at hn
  | d :: rest, pre, k, h, hn, hk => by
    obtain ⟨k, rfl⟩ : ∃ m, k = m + 1 := ⟨k - 1, by omega⟩
    have hl : t.size = pre.length + (rest.length + 1) := by rw [size_c, h]; simp
    rw [belvederelaw20_CommandRests.l0, if_pos (by omega), if_pos (by omega), bt_c h]
    by_cases g : (d.toNat : Int) = 10
    · rw [if_pos g, show belvederelaw20_num.f (some 3) = some 3 from rfl, Option.bind_some, if_pos rfl, if_pos rfl, if_pos ha, if_pos rfl, if_pos rfl, if_pos rfl, if_pos rfl, if_pos rfl, if_pos hb, sure_c k (by simp at hk; omega)]
      rfl
    · rw [if_neg g, show wrap64 ((pre.length : Int) + 1) = ((pre ++ [d]).length : Int) by rw [w64c (by omega) (by omega)]; simp]
      refine bad_l0 t ht j a b ha hb rest (pre ++ [d]) k (by rw [h]; simp) ?_ (by simp at hk; omega)
      rcases List.mem_cons.1 hn with e | e
      · exact absurd (by rw [← e]; rfl) g
      · exact e
theorem four (a1 : Int) : ∃ j : Nat, j < 4 ∧ wrap64 (Int.tmod (IntKind.u64.wrap a1) 4) = (j : Int) := by
  have h0 : 0 ≤ IntKind.u64.wrap a1 := by unfold IntKind.wrap; simp [IntKind.bits, IntKind.signed]; omega
  rw [Int.tmod_eq_emod_of_nonneg h0]
  generalize IntKind.u64.wrap a1 = x at h0
  refine ⟨(x % 4).toNat, by omega, ?_⟩
  rw [w64c (by omega) (by omega)]
  omega
theorem digs : ∀ j : Nat, j < 4 → (⟨#[48, 49, 50, 51]⟩ : ByteArray).extract j (j + 1) = ⟨#[UInt8.ofNat (48 + j)]⟩ := by decide +kernel
theorem rests (t : ByteArray) (a1 : Int) : belvederelaw20_CommandRests.f 2000 t a1 = some true := by
  unfold belvederelaw20_CommandRests.f
  by_cases hs : (t.size : Int) > 1000
  · rw [if_pos hs, sure_c 2000 (by decide)]
    rfl
  rw [if_neg hs]
  obtain ⟨j, hj, e⟩ := four a1
  rw [e]
  have e1 : wrap64 ((j : Int) + 1) = ((j + 1 : Nat) : Int) := by rw [w64c (by omega) (by omega)]; omega
  rw [e1, Int.toNat_natCast, Int.toNat_natCast, digs j hj]
  have hsz : (⟨#[UInt8.ofNat (48 + j)]⟩ : ByteArray).size = 1 := rfl
  rw [if_pos (by omega), if_pos (by omega), if_pos (by omega), if_pos (by rw [hsz]; omega)]
  rw [if_pos (by rw [ByteArray.size_append, hsz]; show 9 + 1 + 1 ≤ _; omega)]
  rw [if_pos (by rw [ByteArray.size_append, ByteArray.size_append, hsz]; show 9 + 1 + 1 + t.size ≤ _; omega)]
  rw [res_parse 1990 j hj _ t (by omega) (by simp), Option.bind_some]
  by_cases g : 10 ∈ t.data.toList
  · rw [if_pos g]
    exact bad_l0 t (by omega) j _ _ tl_no tl_no t.data.toList [] 2000 rfl g (by rw [← size_c]; omega)
  · rw [if_neg g]
    exact good_l0 t (by omega) j hj _ tl_a t.data.toList [] 2000 rfl g (by rw [← size_c]; omega)
end Go.Proofs.YtdakfmldbddokaaGreatDoor.PClk

/- The law of CommandRests, about its plain reading. -/
namespace Go.Proofs.YtdakfmldbddokaaGreatDoor.Pure
open Go.RowKit Go.Proofs.YtdakfmldbddokaaGreatDoor.P Go.Proofs.YtdakfmldbddokaaGreatDoorW.PrintWords Go.Proofs.YtdakfmldbddokaaGreatDoorW.PrintLast
theorem CommandRests : belvederelaw20_CommandRests.Pure := fun a0 a1 _ _ => ⟨2000, Go.Proofs.YtdakfmldbddokaaGreatDoor.PClk.rests a0 a1⟩
end Go.Proofs.YtdakfmldbddokaaGreatDoor.Pure
