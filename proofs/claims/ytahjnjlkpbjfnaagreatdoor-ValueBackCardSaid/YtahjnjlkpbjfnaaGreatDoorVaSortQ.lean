/- Plain mathematics of layer 10: rows as lists and as arrays; when a sorted row has a number twice. -/
import Derived.Test.YtahjnjlkpbjfnaaGreatDoorVaDup
import Derived.Sort.LotA
import Derived.Sort.LotB
import Derived.Sort.LotC
import Derived.Sort.LotD3
import Derived.Test.YtahjnjlkpbjfnaaGreatDoorPx5
import Derived.Test.YtahjnjlkpbjfnaaGreatDoorPx6
import Derived.Test.YtahjnjlkpbjfnaaGreatDoorPx7
set_option linter.unusedVariables false
set_option linter.unusedSimpArgs false
namespace Go.Proofs.YtahjnjlkpbjfnaaGreatDoor.PSim
open Go Go.RowKit Go.Proofs.YtahjnjlkpbjfnaaGreatDoor.P Go.Proofs.YtahjnjlkpbjfnaaGreatDoorW.PrintWords Go.Proofs.YtahjnjlkpbjfnaaGreatDoorW.PrintLast Go.Proofs.YtahjnjlkpbjfnaaGreatDoorW.PrintMore
theorem w64 {x : Int} (h0 : -9223372036854775808 ≤ x) (h1 : x ≤ 9223372036854775807) : wrap64 x = x := by unfold wrap64; omega
theorem rd_arr (d : Array Int) (j : Nat) : rd d.toList (j : Int) = d[j]! := by
  unfold rd
  rw [Int.toNat_natCast, List.getD_eq_getElem?_getD]
  by_cases h : j < d.size
  · rw [List.getElem?_eq_getElem (by simpa using h), getElem!_pos d j h]; simp
  · rw [List.getElem?_eq_none (by simpa using h), getElem!_neg d j h]; rfl
theorem set_swp (d : Array Int) (i j : Nat) (x y : Int) (hx : x = d[j]!) (hy : y = d[i]!) : ((d.toList.set i x).set j y) = (Sort.swp d i j).toList := by
  subst hx hy
  unfold Sort.swp
  simp
theorem size_swp (d : Array Int) (i j : Nat) : (Sort.swp d i j).size = d.size := Sort.size_swp d i j
theorem lt_int (x y : Int) : Sort.ltInt x y = decide (x < y) := rfl
/-- A sorted row of numbers has two neighbours that are one just where it has a number twice. -/
theorem twice_int {s : List Int} (hs : Sort.SortedIn Sort.ltInt 0 s.length s.toArray) : (∃ j, 0 < j ∧ j < s.length ∧ s.toArray[j]! = s.toArray[j - 1]!) ↔ ¬ s.Nodup := by
  have hg : ∀ (j : Nat) (hj : j < s.length), s.toArray[j]! = s[j] := fun j hj => by rw [getElem!_pos s.toArray j (by simpa using hj)]; simp
  have hle : ∀ (i j : Nat) (hi : i < s.length) (hj : j < s.length), i < j → s[i] ≤ s[j] := fun i j hi hj hij => by
    have := hs i j (Nat.zero_le _) hij hj
    rw [hg i hi, hg j hj, lt_int, decide_eq_false_iff_not] at this
    omega
  constructor
  · rintro ⟨j, h0, hj, e⟩ hnd
    rw [hg j hj, hg (j - 1) (by omega)] at e
    exact List.pairwise_iff_getElem.1 hnd (j - 1) j (by omega) hj (by omega) e.symm
  · intro hnd
    refine Classical.byContradiction fun hno => hnd (List.pairwise_iff_getElem.2 fun i j hi hj hij e => hno ⟨i + 1, by omega, by omega, ?_⟩)
    rw [hg (i + 1) (by omega), Nat.add_sub_cancel, hg i hi]
    have h1 := hle i (i + 1) hi (by omega) (by omega)
    rcases Nat.lt_or_ge (i + 1) j with q | q
    · have h2 := hle (i + 1) j (by omega) hj q
      rw [← e] at h2
      omega
    · obtain rfl : j = i + 1 := by omega
      exact e.symm
theorem compact_iff (l s : List Int) (hp : s.Perm l) (hs : Sort.SortedIn Sort.ltInt 0 s.length s.toArray) : decide ((Lib.compactUpTo s.toArray s.toArray.size).length = l.length) = decide l.Nodup := by
  have h1 := @Go.Proofs.YtahjnjlkpbjfnaaGreatDoor.PVal.short_iff Int _ _ s
  rw [twice_int hs, hp.nodup_iff] at h1
  have hl := hp.length_eq
  have hle : (Lib.compact s).length ≤ s.length := by
    unfold Lib.compact Lib.compactUpTo
    rw [List.length_map]
    refine Nat.le_trans (List.length_filter_le _ _) ?_
    simp
  have e : (Lib.compactUpTo s.toArray s.toArray.size).length = (Lib.compact s).length := by unfold Lib.compact; simp
  rw [e]
  by_cases hn : l.Nodup
  · rw [decide_eq_true hn]
    refine decide_eq_true ?_
    have hno : ¬ (Lib.compact s).length < s.length := fun q => (h1.1 q) hn
    omega
  · rw [decide_eq_false hn]
    refine decide_eq_false fun q => ?_
    have := h1.2 hn
    omega
end Go.Proofs.YtahjnjlkpbjfnaaGreatDoor.PSim

/- Plain mathematics of layer 10: the sort's parts, as printed at bytes, do what the library's plain functions do. -/
set_option linter.unusedVariables false
set_option linter.unusedSimpArgs false
namespace Go.Proofs.YtahjnjlkpbjfnaaGreatDoor.PSim
open Go Go.RowKit Go.Proofs.YtahjnjlkpbjfnaaGreatDoor.P Go.Proofs.YtahjnjlkpbjfnaaGreatDoorW.PrintWords Go.Proofs.YtahjnjlkpbjfnaaGreatDoorW.PrintLast Go.Proofs.YtahjnjlkpbjfnaaGreatDoorW.PrintMore
theorem less_f (x y : Int) : cmp_Less_byte.f x y = some (decide (x < y)) := by
  unfold cmp_Less_byte.f cmp_isNaN_byte.f
  rw [Option.bind_some, if_neg (by simp)]
theorem up1 {i : Nat} (h : i ≤ 1000000) : wrap64 ((i : Int) + 1) = ((i + 1 : Nat) : Int) := by rw [w64 (by omega) (by omega)]; omega
theorem down1 {i : Nat} (h0 : 1 ≤ i) (h : i ≤ 1000000) : wrap64 ((i : Int) - 1) = ((i - 1 : Nat) : Int) := by rw [w64 (by omega) (by omega)]; omega
theorem down1' {i : Nat} (h : i ≤ 1000000) : wrap64 (((i + 1 : Nat) : Int) - 1) = (i : Int) := by rw [w64 (by omega) (by omega)]; omega
theorem swp_rd (d : Array Int) (i j : Nat) : ((d.toList.set (i : Int).toNat (rd d.toList (j : Int))).set (j : Int).toNat (rd d.toList (i : Int))) = (Sort.swp d i j).toList := by
  rw [Int.toNat_natCast, Int.toNat_natCast]
  exact set_swp d i j _ _ (rd_arr d j) (rd_arr d i)
/-! The reversal. -/
theorem rev_l0 : ∀ (m i j : Nat) (d : Array Int), j - i ≤ m → j < d.size → d.size ≤ 100000 → i ≤ 100000 → ∀ k, slices_reverseRangeOrdered_byte.l0 (k + m + 1) d.toList i j = some (Sort.reverseLoop i j d).toList := by
  intro m
  induction m with
  | zero =>
    intro i j d hm hj hs hi k
    rw [slices_reverseRangeOrdered_byte.l0, if_neg (by omega), Sort.reverseLoop, if_neg (by omega)]
  | succ m ih =>
    intro i j d hm hj hs hi k
    rw [← Nat.add_assoc, slices_reverseRangeOrdered_byte.l0, Sort.reverseLoop]
    by_cases h : i < j
    · rw [if_pos (by omega), Array.length_toList, if_pos (by omega), if_pos (by omega), if_pos (by omega), if_pos (by omega), swp_rd, up1 (by omega), down1 (by omega) (by omega), if_pos h]
      exact ih (i + 1) (j - 1) _ (by omega) (by rw [size_swp]; omega) (by rw [size_swp]; omega) (by omega) k
    · rw [if_neg (by omega), if_neg h]
theorem rev_f (d : Array Int) (a b : Nat) (hab : a < b) (hb : b ≤ d.size) (hs : d.size ≤ 100000) : ∃ k, slices_reverseRangeOrdered_byte.f k d.toList a b = some (Sort.reverseRange d a b).toList := by
  refine ⟨0 + d.size + 1, ?_⟩
  unfold slices_reverseRangeOrdered_byte.f Sort.reverseRange
  rw [down1 (by omega) (by omega)]
  exact rev_l0 d.size a (b - 1) d (by omega) (by omega) hs (by omega) 0
/-! The first look of the partial insertion sort. -/
theorem par_l1 (a b : Nat) (d : Array Int) (hb : b ≤ d.size) (hs : d.size ≤ 100000) (h50 : b - a < 50) (hab : a ≤ b) : ∀ (m i : Nat), b - i ≤ m → a < i → i ≤ b → Sort.SortedIn Sort.ltInt a i d → ∃ r : Bool, (∀ k, slices_partialInsertionSortOrdered_byte.l1 (k + m + 2) d.toList a b i = some r) ∧ (r = true → Sort.SortedIn Sort.ltInt a b d) := by
  have hw : wrap64 ((b : Int) - (a : Int)) < 50 := by rw [w64 (by omega) (by omega)]; omega
  have hend : ∀ k, Sort.SortedIn Sort.ltInt a b d → slices_partialInsertionSortOrdered_byte.l1 (k + 2) d.toList a b b = some true := fun k _ => by
    rw [slices_partialInsertionSortOrdered_byte.l1, if_neg (by omega), slices_partialInsertionSortOrdered_byte.j2, if_pos rfl]
  intro m
  induction m with
  | zero =>
    intro i hm ha hi hS
    obtain rfl : i = b := by omega
    exact ⟨true, fun k => hend k hS, fun _ => hS⟩
  | succ m ih =>
    intro i hm ha hi hS
    by_cases h : i < b
    · by_cases hl : d[i]! < d[i - 1]!
      · refine ⟨false, fun k => ?_, fun h => by cases h⟩
        rw [show k + (m + 1) + 2 = (k + m + 1) + 1 + 1 by omega, slices_partialInsertionSortOrdered_byte.l1, down1 (by omega) (by omega), rd_arr, rd_arr, Array.length_toList, if_pos (by omega), if_pos (by omega), if_pos (by omega), if_pos (by omega), if_pos (by omega), less_f, Option.bind_some, if_pos (decide_eq_true hl), slices_partialInsertionSortOrdered_byte.j2, if_neg (by omega), if_pos hw]
      · obtain ⟨r, hr, hrs⟩ := ih (i + 1) (by omega) (by omega) (by omega) (Sort.SortedIn.snoc Sort.swo_ltInt hS (by rw [lt_int]; exact decide_eq_false hl))
        refine ⟨r, fun k => ?_, hrs⟩
        rw [show k + (m + 1) + 2 = (k + m + 2) + 1 by omega, slices_partialInsertionSortOrdered_byte.l1, down1 (by omega) (by omega), rd_arr, rd_arr, Array.length_toList, if_pos (by omega), if_pos (by omega), if_pos (by omega), if_pos (by omega), if_pos (by omega), less_f, Option.bind_some, if_neg (by rw [decide_eq_false hl]; decide), up1 (by omega)]
        exact hr k
    · obtain rfl : i = b := by omega
      exact ⟨true, fun k => by rw [show k + (m + 1) + 2 = (k + (m + 1)) + 2 from rfl]; exact hend _ hS, fun _ => hS⟩
theorem par_f (a b : Nat) (d : Array Int) (hab : a < b) (hb : b ≤ d.size) (hs : d.size ≤ 100000) (h50 : b - a < 50) : ∃ (k : Nat) (r : Bool), slices_partialInsertionSortOrdered_byte.f k d.toList a b = some r ∧ (r = true → Sort.SortedIn Sort.ltInt a b d) := by
  obtain ⟨r, hr, hrs⟩ := par_l1 a b d hb hs h50 (by omega) d.size (a + 1) (by omega) (by omega) (by omega) (fun i j h1 h2 h3 => by omega)
  refine ⟨0 + d.size + 2 + 1, r, ?_, hrs⟩
  unfold slices_partialInsertionSortOrdered_byte.f
  rw [slices_partialInsertionSortOrdered_byte.l0, if_pos (by decide), up1 (by omega)]
  exact hr 0
/-! Insertion sort. -/
theorem ins_l1 (a b i : Nat) (hi : i ≤ 200000) : ∀ (j : Nat) (d : Array Int), j < d.size → d.size ≤ 100000 → ∃ c, ∀ k, slices_insertionSortOrdered_byte.l1 (k + c) d.toList a b i j = slices_insertionSortOrdered_byte.l0 k (Sort.insInner Sort.ltInt a j d).toList a b ((i + 1 : Nat) : Int) := by
  intro j
  induction j with
  | zero =>
    intro d hj hs
    refine ⟨1, fun k => ?_⟩
    rw [slices_insertionSortOrdered_byte.l1, if_neg (by omega), up1 (by omega), Sort.insInner]
  | succ j ih =>
    intro d hj hs
    by_cases h : a < j + 1
    · by_cases hl : d[j + 1]! < d[j]!
      · obtain ⟨c, hc⟩ := ih (Sort.swp d (j + 1) j) (by rw [size_swp]; omega) (by rw [size_swp]; omega)
        refine ⟨c + 1, fun k => ?_⟩
        rw [← Nat.add_assoc, slices_insertionSortOrdered_byte.l1, down1' (by omega), swp_rd, rd_arr, rd_arr, Array.length_toList, if_pos (by omega), if_pos (by omega), if_pos (by omega), if_pos (by omega), if_pos (by omega), less_f, Option.bind_some, if_pos (decide_eq_true hl), Sort.insInner, if_pos (by simp only [Bool.and_eq_true, decide_eq_true_eq, lt_int]; exact ⟨h, hl⟩)]
        exact hc k
      · refine ⟨1, fun k => ?_⟩
        rw [slices_insertionSortOrdered_byte.l1, down1' (by omega), swp_rd, rd_arr, rd_arr, Array.length_toList, if_pos (by omega), if_pos (by omega), if_pos (by omega), if_pos (by omega), if_pos (by omega), less_f, Option.bind_some, if_neg (by rw [decide_eq_false hl]; decide), up1 (by omega), Sort.insInner, if_neg (by simp only [Bool.and_eq_true, decide_eq_true_eq, lt_int]; exact fun q => hl q.2)]
    · refine ⟨1, fun k => ?_⟩
      rw [slices_insertionSortOrdered_byte.l1, if_neg (by omega), up1 (by omega), Sort.insInner, if_neg (by simp only [Bool.and_eq_true, decide_eq_true_eq]; exact fun q => h q.1)]
theorem size_inner (a : Nat) : ∀ (j : Nat) (d : Array Int), (Sort.insInner Sort.ltInt a j d).size = d.size
  | 0, d => by rw [Sort.insInner]
  | j + 1, d => by
    rw [Sort.insInner]
    split
    · rw [size_inner a j, size_swp]
    · rfl
theorem ins_l0 (a b : Nat) : ∀ (m i : Nat) (d : Array Int), b - i ≤ m → b ≤ d.size → d.size ≤ 100000 → i ≤ 200000 → ∃ c, ∀ k, slices_insertionSortOrdered_byte.l0 (k + c) d.toList a b i = some (Sort.insOuter Sort.ltInt a b i d).toList := by
  intro m
  induction m with
  | zero =>
    intro i d hm hb hs hi
    exact ⟨1, fun k => by rw [slices_insertionSortOrdered_byte.l0, if_neg (by omega), Sort.insOuter, if_neg (by omega)]⟩
  | succ m ih =>
    intro i d hm hb hs hi
    by_cases h : i < b
    · obtain ⟨c1, h1⟩ := ins_l1 a b i hi i d (by omega) hs
      obtain ⟨c2, h2⟩ := ih (i + 1) (Sort.insInner Sort.ltInt a i d) (by omega) (by rw [size_inner]; omega) (by rw [size_inner]; omega) (by omega)
      refine ⟨c2 + c1 + 1, fun k => ?_⟩
      rw [← Nat.add_assoc, ← Nat.add_assoc, slices_insertionSortOrdered_byte.l0, if_pos (by omega), h1, Sort.insOuter, if_pos h]
      exact h2 k
    · exact ⟨1, fun k => by rw [slices_insertionSortOrdered_byte.l0, if_neg (by omega), Sort.insOuter, if_neg h]⟩
theorem ins_f (a b : Nat) (d : Array Int) (hab : a ≤ b) (hb : b ≤ d.size) (hs : d.size ≤ 100000) : ∃ k, slices_insertionSortOrdered_byte.f k d.toList a b = some (Sort.insertionSort Sort.ltInt d a b).toList := by
  obtain ⟨c, hc⟩ := ins_l0 a b b (a + 1) d (by omega) hb hs (by omega)
  refine ⟨0 + c, ?_⟩
  unfold slices_insertionSortOrdered_byte.f Sort.insertionSort
  rw [up1 (by omega)]
  exact hc 0
theorem scanUp_le (p : Int → Bool) (d : Array Int) (j i : Nat) (hi : i ≤ j + 2) : Sort.scanUp p d j i ≤ j + 2 := by
  by_cases h : i ≤ j + 1
  · have := (Sort.scanUp_spec p d j _ i rfl).2.1 h
    omega
  · rw [Sort.scanUp, if_neg (by simp only [Bool.and_eq_true, decide_eq_true_eq]; omega)]
    exact hi
/-! The partition into what is one with the pivot and what is greater. -/
theorem peq_l1 (a : Nat) (d : Array Int) (ha : a < d.size) (hs : d.size ≤ 100000) (j : Nat) (hj : j < d.size) : ∀ (m i : Nat), j + 1 - i ≤ m → i ≤ j + 2 → ∃ c, ∀ k, slices_partitionEqualOrdered_byte.l1 (k + c) d.toList a i j = slices_partitionEqualOrdered_byte.j2 k d.toList a ((Sort.scanUp (fun x => !Sort.ltInt d[a]! x) d j i : Nat) : Int) j := by
  intro m
  induction m with
  | zero =>
    intro i hm hi
    refine ⟨1, fun k => ?_⟩
    rw [slices_partitionEqualOrdered_byte.l1, if_neg (by omega), Sort.scanUp, if_neg (by simp only [Bool.and_eq_true, decide_eq_true_eq]; omega)]
  | succ m ih =>
    intro i hm hi
    by_cases h : i ≤ j
    · by_cases hl : d[a]! < d[i]!
      · refine ⟨1, fun k => ?_⟩
        rw [slices_partitionEqualOrdered_byte.l1, rd_arr, rd_arr, Array.length_toList, if_pos (by omega), if_pos (by omega), if_pos (by omega), if_pos (by omega), if_pos (by omega), less_f, Option.bind_some, if_pos (decide_eq_true hl), Sort.scanUp, if_neg (by simp only [Bool.and_eq_true, decide_eq_true_eq, lt_int, decide_eq_true hl]; simp)]
      · obtain ⟨c, hc⟩ := ih (i + 1) (by omega) (by omega)
        refine ⟨c + 1, fun k => ?_⟩
        rw [← Nat.add_assoc, slices_partitionEqualOrdered_byte.l1, rd_arr, rd_arr, Array.length_toList, if_pos (by omega), if_pos (by omega), if_pos (by omega), if_pos (by omega), if_pos (by omega), less_f, Option.bind_some, if_neg (by rw [decide_eq_false hl]; decide), up1 (by omega), Sort.scanUp, if_pos (by simp only [Bool.and_eq_true, decide_eq_true_eq, lt_int, decide_eq_false hl]; exact ⟨h, rfl⟩)]
        exact hc k
    · refine ⟨1, fun k => ?_⟩
      rw [slices_partitionEqualOrdered_byte.l1, if_neg (by omega), Sort.scanUp, if_neg (by simp only [Bool.and_eq_true, decide_eq_true_eq]; exact fun q => h q.1)]
def peqEnd (k : Nat) (d : Array Int) (a i j : Nat) : Option (Int × List Int) := if i > j then some ((i : Int), d.toList) else slices_partitionEqualOrdered_byte.l0 k (Sort.swp d i j).toList a ((i + 1 : Nat) : Int) ((j - 1 : Nat) : Int)
theorem peq_l2 (a : Nat) (d : Array Int) (ha : a < d.size) (hs : d.size ≤ 100000) (i : Nat) (hi1 : 1 ≤ i) (hi : i ≤ d.size + 1) : ∀ (j : Nat), j < d.size → ∃ c, ∀ k, slices_partitionEqualOrdered_byte.l2 (k + c) d.toList a i j = peqEnd k d a i (Sort.scanDown (fun x => Sort.ltInt d[a]! x) d i j) := by
  intro j
  induction j with
  | zero =>
    intro hj
    refine ⟨1, fun k => ?_⟩
    rw [slices_partitionEqualOrdered_byte.l2, if_neg (by omega), if_pos (by omega), Sort.scanDown, peqEnd, if_pos (by omega)]
  | succ j ih =>
    intro hj
    by_cases h : i ≤ j + 1
    · by_cases hl : d[a]! < d[j + 1]!
      · obtain ⟨c, hc⟩ := ih (by omega)
        refine ⟨c + 1, fun k => ?_⟩
        rw [← Nat.add_assoc, slices_partitionEqualOrdered_byte.l2, swp_rd, rd_arr, rd_arr, Array.length_toList, if_pos (by omega), if_pos (by omega), if_pos (by omega), if_pos (by omega), if_pos (by omega), less_f, Option.bind_some, if_pos (decide_eq_true hl), down1' (by omega), Sort.scanDown, if_pos (by simp only [Bool.and_eq_true, decide_eq_true_eq, lt_int]; exact ⟨h, hl⟩)]
        exact hc k
      · refine ⟨1, fun k => ?_⟩
        rw [slices_partitionEqualOrdered_byte.l2, swp_rd, rd_arr, rd_arr, Array.length_toList, if_pos (by omega), if_pos (by omega), if_pos (by omega), if_pos (by omega), if_pos (by omega), less_f, Option.bind_some, if_neg (by rw [decide_eq_false hl]; decide), if_neg (by omega), if_pos (by omega), if_pos (by omega), up1 (by omega), down1 (by omega) (by omega), Sort.scanDown, if_neg (by simp only [Bool.and_eq_true, decide_eq_true_eq, lt_int]; exact fun q => hl q.2), peqEnd, if_neg (by omega)]
    · refine ⟨1, fun k => ?_⟩
      rw [slices_partitionEqualOrdered_byte.l2, if_neg (by omega), if_pos (by omega), Sort.scanDown, if_neg (by simp only [Bool.and_eq_true, decide_eq_true_eq]; exact fun q => h q.1), peqEnd, if_pos (by omega)]
theorem peq_l0 (a : Nat) : ∀ (m i j : Nat) (d : Array Int), j + 1 - i ≤ m → a < i → i ≤ j + 2 → j < d.size → d.size ≤ 100000 → a < d.size → ∃ c, ∀ k, slices_partitionEqualOrdered_byte.l0 (k + c) d.toList a i j = some (((Sort.partEqLoop Sort.ltInt a i j d).1 : Int), (Sort.partEqLoop Sort.ltInt a i j d).2.toList) := by
  intro m
  induction m with
  | zero =>
    intro i j d hm hai hi hj hs ha
    obtain ⟨c1, h1⟩ := peq_l1 a d ha hs j hj (j + 1) i (by omega) hi
    have eU : Sort.scanUp (fun x => !Sort.ltInt d[a]! x) d j i = i := by rw [Sort.scanUp, if_neg (by simp only [Bool.and_eq_true, decide_eq_true_eq]; omega)]
    obtain ⟨c2, h2⟩ := peq_l2 a d ha hs i (by omega) (by omega) j hj
    have eD : Sort.scanDown (fun x => Sort.ltInt d[a]! x) d i j ≤ j := Sort.scanDown_le _ d i j
    rw [Sort.partEqLoop_eq, eU, if_pos (by omega)]
    rw [eU] at h1
    refine ⟨c2 + 1 + c1 + 1, fun k => ?_⟩
    rw [← Nat.add_assoc, slices_partitionEqualOrdered_byte.l0, ← Nat.add_assoc, h1, ← Nat.add_assoc, slices_partitionEqualOrdered_byte.j2, h2, peqEnd, if_pos (by omega)]
  | succ m ih =>
    intro i j d hm hai hi hj hs ha
    obtain ⟨c1, h1⟩ := peq_l1 a d ha hs j hj (j + 1) i (by omega) hi
    have hU := Sort.scanUp_ge (fun x => !Sort.ltInt d[a]! x) d j i
    have hU2 : Sort.scanUp (fun x => !Sort.ltInt d[a]! x) d j i ≤ j + 2 := scanUp_le _ d j i hi
    rw [Sort.partEqLoop_eq]
    generalize Sort.scanUp (fun x => !Sort.ltInt d[a]! x) d j i = I at h1 hU hU2 ⊢
    obtain ⟨c2, h2⟩ := peq_l2 a d ha hs I (by omega) (by omega) j hj
    have hD : Sort.scanDown (fun x => Sort.ltInt d[a]! x) d I j ≤ j := Sort.scanDown_le _ d I j
    generalize Sort.scanDown (fun x => Sort.ltInt d[a]! x) d I j = J at h2 hD ⊢
    by_cases h : I > J
    · rw [if_pos h]
      refine ⟨c2 + 1 + c1 + 1, fun k => ?_⟩
      rw [← Nat.add_assoc, slices_partitionEqualOrdered_byte.l0, ← Nat.add_assoc, h1, ← Nat.add_assoc, slices_partitionEqualOrdered_byte.j2, h2, peqEnd, if_pos h]
    · rw [if_neg h]
      obtain ⟨c3, h3⟩ := ih (I + 1) (J - 1) (Sort.swp d I J) (by omega) (by omega) (by omega) (by rw [size_swp]; omega) (by rw [size_swp]; omega) (by rw [size_swp]; omega)
      refine ⟨c3 + c2 + 1 + c1 + 1, fun k => ?_⟩
      rw [← Nat.add_assoc, slices_partitionEqualOrdered_byte.l0, ← Nat.add_assoc, h1, ← Nat.add_assoc, slices_partitionEqualOrdered_byte.j2, ← Nat.add_assoc, h2, peqEnd, if_neg h]
      exact h3 k
theorem peq_f (a b pivot : Nat) (d : Array Int) (hap : a ≤ pivot) (hpb : pivot < b) (hb : b ≤ d.size) (hs : d.size ≤ 100000) : ∃ k, slices_partitionEqualOrdered_byte.f k d.toList a b pivot = some (((Sort.partitionEqual Sort.ltInt d a b pivot).1 : Int), (Sort.partitionEqual Sort.ltInt d a b pivot).2.toList) := by
  obtain ⟨c, hc⟩ := peq_l0 a b (a + 1) (b - 1) (Sort.swp d a pivot) (by omega) (by omega) (by omega) (by rw [size_swp]; omega) (by rw [size_swp]; omega) (by rw [size_swp]; omega)
  refine ⟨0 + c, ?_⟩
  unfold slices_partitionEqualOrdered_byte.f Sort.partitionEqual
  rw [Array.length_toList, if_pos (by omega), if_pos (by omega), if_pos (by omega), if_pos (by omega), swp_rd, up1 (by omega), down1 (by omega) (by omega)]
  exact hc 0
end Go.Proofs.YtahjnjlkpbjfnaaGreatDoor.PSim

/- Plain mathematics of layer 10: the sort's partition, as printed at bytes, does what the library's plain function does. -/
set_option linter.unusedVariables false
set_option linter.unusedSimpArgs false
namespace Go.Proofs.YtahjnjlkpbjfnaaGreatDoor.PSim
open Go Go.RowKit Go.Proofs.YtahjnjlkpbjfnaaGreatDoor.P Go.Proofs.YtahjnjlkpbjfnaaGreatDoorW.PrintWords Go.Proofs.YtahjnjlkpbjfnaaGreatDoorW.PrintLast Go.Proofs.YtahjnjlkpbjfnaaGreatDoorW.PrintMore
theorem prt_l0 (a : Nat) (d : Array Int) (ha : a < d.size) (hs : d.size ≤ 100000) (j : Nat) (hj : j < d.size) : ∀ (m i : Nat), j + 1 - i ≤ m → i ≤ j + 2 → ∃ c, ∀ k, slices_partitionOrdered_byte.l0 (k + c) d.toList a i j = slices_partitionOrdered_byte.j1 k d.toList a ((Sort.scanUp (fun x => Sort.ltInt x d[a]!) d j i : Nat) : Int) j := by
  intro m
  induction m with
  | zero =>
    intro i hm hi
    refine ⟨1, fun k => ?_⟩
    rw [slices_partitionOrdered_byte.l0, if_neg (by omega), Sort.scanUp, if_neg (by simp only [Bool.and_eq_true, decide_eq_true_eq]; omega)]
  | succ m ih =>
    intro i hm hi
    by_cases h : i ≤ j
    · by_cases hl : d[i]! < d[a]!
      · obtain ⟨c, hc⟩ := ih (i + 1) (by omega) (by omega)
        refine ⟨c + 1, fun k => ?_⟩
        rw [← Nat.add_assoc, slices_partitionOrdered_byte.l0, rd_arr, rd_arr, Array.length_toList, if_pos (by omega), if_pos (by omega), if_pos (by omega), if_pos (by omega), if_pos (by omega), less_f, Option.bind_some, if_pos (decide_eq_true hl), up1 (by omega), Sort.scanUp, if_pos (by simp only [Bool.and_eq_true, decide_eq_true_eq, lt_int]; exact ⟨h, hl⟩)]
        exact hc k
      · refine ⟨1, fun k => ?_⟩
        rw [slices_partitionOrdered_byte.l0, rd_arr, rd_arr, Array.length_toList, if_pos (by omega), if_pos (by omega), if_pos (by omega), if_pos (by omega), if_pos (by omega), less_f, Option.bind_some, if_neg (by rw [decide_eq_false hl]; decide), Sort.scanUp, if_neg (by simp only [Bool.and_eq_true, decide_eq_true_eq, lt_int]; exact fun q => hl q.2)]
    · refine ⟨1, fun k => ?_⟩
      rw [slices_partitionOrdered_byte.l0, if_neg (by omega), Sort.scanUp, if_neg (by simp only [Bool.and_eq_true, decide_eq_true_eq]; exact fun q => h q.1)]
theorem prt_l3 (a : Nat) (d : Array Int) (ha : a < d.size) (hs : d.size ≤ 100000) (j : Nat) (hj : j < d.size) : ∀ (m i : Nat), j + 1 - i ≤ m → i ≤ j + 2 → ∃ c, ∀ k, slices_partitionOrdered_byte.l3 (k + c) d.toList a i j = slices_partitionOrdered_byte.j6 k d.toList a ((Sort.scanUp (fun x => Sort.ltInt x d[a]!) d j i : Nat) : Int) j := by
  intro m
  induction m with
  | zero =>
    intro i hm hi
    refine ⟨1, fun k => ?_⟩
    rw [slices_partitionOrdered_byte.l3, if_neg (by omega), Sort.scanUp, if_neg (by simp only [Bool.and_eq_true, decide_eq_true_eq]; omega)]
  | succ m ih =>
    intro i hm hi
    by_cases h : i ≤ j
    · by_cases hl : d[i]! < d[a]!
      · obtain ⟨c, hc⟩ := ih (i + 1) (by omega) (by omega)
        refine ⟨c + 1, fun k => ?_⟩
        rw [← Nat.add_assoc, slices_partitionOrdered_byte.l3, rd_arr, rd_arr, Array.length_toList, if_pos (by omega), if_pos (by omega), if_pos (by omega), if_pos (by omega), if_pos (by omega), less_f, Option.bind_some, if_pos (decide_eq_true hl), up1 (by omega), Sort.scanUp, if_pos (by simp only [Bool.and_eq_true, decide_eq_true_eq, lt_int]; exact ⟨h, hl⟩)]
        exact hc k
      · refine ⟨1, fun k => ?_⟩
        rw [slices_partitionOrdered_byte.l3, rd_arr, rd_arr, Array.length_toList, if_pos (by omega), if_pos (by omega), if_pos (by omega), if_pos (by omega), if_pos (by omega), less_f, Option.bind_some, if_neg (by rw [decide_eq_false hl]; decide), Sort.scanUp, if_neg (by simp only [Bool.and_eq_true, decide_eq_true_eq, lt_int]; exact fun q => hl q.2)]
    · refine ⟨1, fun k => ?_⟩
      rw [slices_partitionOrdered_byte.l3, if_neg (by omega), Sort.scanUp, if_neg (by simp only [Bool.and_eq_true, decide_eq_true_eq]; exact fun q => h q.1)]
theorem prt_l1 (a : Nat) (d : Array Int) (ha : a < d.size) (hs : d.size ≤ 100000) (i : Nat) (hi1 : 1 ≤ i) (hi : i ≤ d.size + 1) : ∀ (j : Nat), j < d.size → ∃ c, ∀ k, slices_partitionOrdered_byte.l1 (k + c) d.toList a i j = slices_partitionOrdered_byte.j3 k d.toList a i ((Sort.scanDown (fun x => !Sort.ltInt x d[a]!) d i j : Nat) : Int) := by
  intro j
  induction j with
  | zero =>
    intro hj
    refine ⟨1, fun k => ?_⟩
    rw [slices_partitionOrdered_byte.l1, if_neg (by omega), Sort.scanDown]
  | succ j ih =>
    intro hj
    by_cases h : i ≤ j + 1
    · by_cases hl : d[j + 1]! < d[a]!
      · refine ⟨1, fun k => ?_⟩
        rw [slices_partitionOrdered_byte.l1, rd_arr, rd_arr, Array.length_toList, if_pos (by omega), if_pos (by omega), if_pos (by omega), if_pos (by omega), if_pos (by omega), less_f, Option.bind_some, if_pos (decide_eq_true hl), Sort.scanDown, if_neg (by simp only [Bool.and_eq_true, decide_eq_true_eq, lt_int, decide_eq_true hl]; simp)]
      · obtain ⟨c, hc⟩ := ih (by omega)
        refine ⟨c + 1, fun k => ?_⟩
        rw [← Nat.add_assoc, slices_partitionOrdered_byte.l1, rd_arr, rd_arr, Array.length_toList, if_pos (by omega), if_pos (by omega), if_pos (by omega), if_pos (by omega), if_pos (by omega), less_f, Option.bind_some, if_neg (by rw [decide_eq_false hl]; decide), down1' (by omega), Sort.scanDown, if_pos (by simp only [Bool.and_eq_true, decide_eq_true_eq, lt_int, decide_eq_false hl]; exact ⟨h, rfl⟩)]
        exact hc k
    · refine ⟨1, fun k => ?_⟩
      rw [slices_partitionOrdered_byte.l1, if_neg (by omega), Sort.scanDown, if_neg (by simp only [Bool.and_eq_true, decide_eq_true_eq]; exact fun q => h q.1)]
def prtEnd (k : Nat) (d : Array Int) (a i j : Nat) : Option (Int × Bool × List Int) := if i > j then some ((j : Int), false, (Sort.swp d j a).toList) else slices_partitionOrdered_byte.l2 k (Sort.swp d i j).toList a ((i + 1 : Nat) : Int) ((j - 1 : Nat) : Int)
theorem prt_l4 (a : Nat) (d : Array Int) (ha : a < d.size) (hs : d.size ≤ 100000) (i : Nat) (hi1 : 1 ≤ i) (hi : i ≤ d.size + 1) : ∀ (j : Nat), j < d.size → ∃ c, ∀ k, slices_partitionOrdered_byte.l4 (k + c) d.toList a i j = prtEnd k d a i (Sort.scanDown (fun x => !Sort.ltInt x d[a]!) d i j) := by
  intro j
  induction j with
  | zero =>
    intro hj
    refine ⟨1, fun k => ?_⟩
    rw [slices_partitionOrdered_byte.l4]
    simp only [swp_rd]
    rw [Array.length_toList, if_neg (by omega), if_pos (by omega), if_pos (by omega), if_pos (by omega), if_pos (by omega), if_pos (by omega), Sort.scanDown, prtEnd, if_pos (by omega)]
  | succ j ih =>
    intro hj
    by_cases h : i ≤ j + 1
    · by_cases hl : d[j + 1]! < d[a]!
      · refine ⟨1, fun k => ?_⟩
        rw [slices_partitionOrdered_byte.l4]
        simp only [swp_rd]
        rw [rd_arr, rd_arr, Array.length_toList, if_pos (by omega), if_pos (by omega), if_pos (by omega), if_pos (by omega), if_pos (by omega), less_f, Option.bind_some, if_pos (decide_eq_true hl), if_neg (by omega), if_pos (by omega), if_pos (by omega), up1 (by omega), down1 (by omega) (by omega), Sort.scanDown, if_neg (by simp only [Bool.and_eq_true, decide_eq_true_eq, lt_int, decide_eq_true hl]; simp), prtEnd, if_neg (by omega)]
      · obtain ⟨c, hc⟩ := ih (by omega)
        refine ⟨c + 1, fun k => ?_⟩
        rw [← Nat.add_assoc, slices_partitionOrdered_byte.l4]
        simp only [swp_rd]
        rw [rd_arr, rd_arr, Array.length_toList, if_pos (by omega), if_pos (by omega), if_pos (by omega), if_pos (by omega), if_pos (by omega), less_f, Option.bind_some, if_neg (by rw [decide_eq_false hl]; decide), down1' (by omega), Sort.scanDown, if_pos (by simp only [Bool.and_eq_true, decide_eq_true_eq, lt_int, decide_eq_false hl]; exact ⟨h, rfl⟩)]
        exact hc k
    · refine ⟨1, fun k => ?_⟩
      rw [slices_partitionOrdered_byte.l4]
      simp only [swp_rd]
      rw [Array.length_toList, if_neg (by omega), if_pos (by omega), if_pos (by omega), if_pos (by omega), if_pos (by omega), if_pos (by omega), Sort.scanDown, if_neg (by simp only [Bool.and_eq_true, decide_eq_true_eq]; exact fun q => h q.1), prtEnd, if_pos (by omega)]
theorem prt_l2 (a : Nat) : ∀ (m i j : Nat) (d : Array Int), j + 1 - i ≤ m → a < i → i ≤ j + 2 → j < d.size → d.size ≤ 100000 → a < d.size → ∃ c, ∀ k, slices_partitionOrdered_byte.l2 (k + c) d.toList a i j = some (((Sort.partLoop Sort.ltInt a i j d).1 : Int), false, (Sort.swp (Sort.partLoop Sort.ltInt a i j d).2 (Sort.partLoop Sort.ltInt a i j d).1 a).toList) := by
  intro m
  induction m with
  | zero =>
    intro i j d hm hai hi hj hs ha
    obtain ⟨c1, h1⟩ := prt_l3 a d ha hs j hj (j + 1) i (by omega) hi
    have eU : Sort.scanUp (fun x => Sort.ltInt x d[a]!) d j i = i := by rw [Sort.scanUp, if_neg (by simp only [Bool.and_eq_true, decide_eq_true_eq]; omega)]
    obtain ⟨c2, h2⟩ := prt_l4 a d ha hs i (by omega) (by omega) j hj
    have eD : Sort.scanDown (fun x => !Sort.ltInt x d[a]!) d i j ≤ j := Sort.scanDown_le _ d i j
    rw [Sort.partLoop_eq, eU, if_pos (by omega)]
    rw [eU] at h1
    refine ⟨c2 + 1 + c1 + 1, fun k => ?_⟩
    rw [← Nat.add_assoc, slices_partitionOrdered_byte.l2, ← Nat.add_assoc, h1, ← Nat.add_assoc, slices_partitionOrdered_byte.j6, h2, prtEnd, if_pos (by omega)]
  | succ m ih =>
    intro i j d hm hai hi hj hs ha
    obtain ⟨c1, h1⟩ := prt_l3 a d ha hs j hj (j + 1) i (by omega) hi
    have hU := Sort.scanUp_ge (fun x => Sort.ltInt x d[a]!) d j i
    have hU2 : Sort.scanUp (fun x => Sort.ltInt x d[a]!) d j i ≤ j + 2 := scanUp_le _ d j i hi
    rw [Sort.partLoop_eq]
    generalize Sort.scanUp (fun x => Sort.ltInt x d[a]!) d j i = I at h1 hU hU2 ⊢
    obtain ⟨c2, h2⟩ := prt_l4 a d ha hs I (by omega) (by omega) j hj
    have hD : Sort.scanDown (fun x => !Sort.ltInt x d[a]!) d I j ≤ j := Sort.scanDown_le _ d I j
    generalize Sort.scanDown (fun x => !Sort.ltInt x d[a]!) d I j = J at h2 hD ⊢
    by_cases h : I > J
    · rw [if_pos h]
      refine ⟨c2 + 1 + c1 + 1, fun k => ?_⟩
      rw [← Nat.add_assoc, slices_partitionOrdered_byte.l2, ← Nat.add_assoc, h1, ← Nat.add_assoc, slices_partitionOrdered_byte.j6, h2, prtEnd, if_pos h]
    · rw [if_neg h]
      obtain ⟨c3, h3⟩ := ih (I + 1) (J - 1) (Sort.swp d I J) (by omega) (by omega) (by omega) (by rw [size_swp]; omega) (by rw [size_swp]; omega) (by rw [size_swp]; omega)
      refine ⟨c3 + c2 + 1 + c1 + 1, fun k => ?_⟩
      rw [← Nat.add_assoc, slices_partitionOrdered_byte.l2, ← Nat.add_assoc, h1, ← Nat.add_assoc, slices_partitionOrdered_byte.j6, ← Nat.add_assoc, h2, prtEnd, if_neg h]
      exact h3 k
theorem prt_f (a b pivot : Nat) (d : Array Int) (hap : a ≤ pivot) (hpb : pivot < b) (hb : b ≤ d.size) (hs : d.size ≤ 100000) : ∃ k, slices_partitionOrdered_byte.f k d.toList a b pivot = some (((Sort.partition Sort.ltInt d a b pivot).1 : Int), (Sort.partition Sort.ltInt d a b pivot).2.1, (Sort.partition Sort.ltInt d a b pivot).2.2.toList) := by
  obtain ⟨D, hD⟩ : ∃ D, Sort.swp d a pivot = D := ⟨_, rfl⟩
  have hDs : D.size = d.size := by rw [← hD, size_swp]
  obtain ⟨c1, h1⟩ := prt_l0 a D (by omega) (by omega) (b - 1) (by omega) b (a + 1) (by omega) (by omega)
  have hU := Sort.scanUp_ge (fun x => Sort.ltInt x D[a]!) D (b - 1) (a + 1)
  have hU2 : Sort.scanUp (fun x => Sort.ltInt x D[a]!) D (b - 1) (a + 1) ≤ b - 1 + 1 := (Sort.scanUp_spec (fun x => Sort.ltInt x D[a]!) D (b - 1) _ (a + 1) rfl).2.1 (by omega)
  have e : Sort.partition Sort.ltInt d a b pivot = if Sort.scanUp (fun x => Sort.ltInt x D[a]!) D (b - 1) (a + 1) > Sort.scanDown (fun x => !Sort.ltInt x D[a]!) D (Sort.scanUp (fun x => Sort.ltInt x D[a]!) D (b - 1) (a + 1)) (b - 1) then (Sort.scanDown (fun x => !Sort.ltInt x D[a]!) D (Sort.scanUp (fun x => Sort.ltInt x D[a]!) D (b - 1) (a + 1)) (b - 1), true, Sort.swp D (Sort.scanDown (fun x => !Sort.ltInt x D[a]!) D (Sort.scanUp (fun x => Sort.ltInt x D[a]!) D (b - 1) (a + 1)) (b - 1)) a) else ((Sort.partLoop Sort.ltInt a (Sort.scanUp (fun x => Sort.ltInt x D[a]!) D (b - 1) (a + 1) + 1) (Sort.scanDown (fun x => !Sort.ltInt x D[a]!) D (Sort.scanUp (fun x => Sort.ltInt x D[a]!) D (b - 1) (a + 1)) (b - 1) - 1) (Sort.swp D (Sort.scanUp (fun x => Sort.ltInt x D[a]!) D (b - 1) (a + 1)) (Sort.scanDown (fun x => !Sort.ltInt x D[a]!) D (Sort.scanUp (fun x => Sort.ltInt x D[a]!) D (b - 1) (a + 1)) (b - 1)))).1, false, Sort.swp (Sort.partLoop Sort.ltInt a (Sort.scanUp (fun x => Sort.ltInt x D[a]!) D (b - 1) (a + 1) + 1) (Sort.scanDown (fun x => !Sort.ltInt x D[a]!) D (Sort.scanUp (fun x => Sort.ltInt x D[a]!) D (b - 1) (a + 1)) (b - 1) - 1) (Sort.swp D (Sort.scanUp (fun x => Sort.ltInt x D[a]!) D (b - 1) (a + 1)) (Sort.scanDown (fun x => !Sort.ltInt x D[a]!) D (Sort.scanUp (fun x => Sort.ltInt x D[a]!) D (b - 1) (a + 1)) (b - 1)))).2 (Sort.partLoop Sort.ltInt a (Sort.scanUp (fun x => Sort.ltInt x D[a]!) D (b - 1) (a + 1) + 1) (Sort.scanDown (fun x => !Sort.ltInt x D[a]!) D (Sort.scanUp (fun x => Sort.ltInt x D[a]!) D (b - 1) (a + 1)) (b - 1) - 1) (Sort.swp D (Sort.scanUp (fun x => Sort.ltInt x D[a]!) D (b - 1) (a + 1)) (Sort.scanDown (fun x => !Sort.ltInt x D[a]!) D (Sort.scanUp (fun x => Sort.ltInt x D[a]!) D (b - 1) (a + 1)) (b - 1)))).1 a) := by
    unfold Sort.partition
    rw [hD]
  rw [e]
  clear e
  generalize Sort.scanUp (fun x => Sort.ltInt x D[a]!) D (b - 1) (a + 1) = I at h1 hU hU2 ⊢
  obtain ⟨c2, h2⟩ := prt_l1 a D (by omega) (by omega) I (by omega) (by omega) (b - 1) (by omega)
  have hJ : Sort.scanDown (fun x => !Sort.ltInt x D[a]!) D I (b - 1) ≤ b - 1 := Sort.scanDown_le _ D I (b - 1)
  generalize Sort.scanDown (fun x => !Sort.ltInt x D[a]!) D I (b - 1) = J at h2 hJ ⊢
  have hstart : ∀ k, slices_partitionOrdered_byte.f k d.toList a b pivot = slices_partitionOrdered_byte.l0 k D.toList a ((a + 1 : Nat) : Int) ((b - 1 : Nat) : Int) := fun k => by
    unfold slices_partitionOrdered_byte.f
    rw [Array.length_toList, if_pos (by omega), if_pos (by omega), if_pos (by omega), if_pos (by omega), swp_rd, up1 (by omega), down1 (by omega) (by omega), hD]
  by_cases h : I > J
  · rw [if_pos h]
    refine ⟨0 + 1 + c2 + 1 + c1, ?_⟩
    rw [hstart, h1, slices_partitionOrdered_byte.j1, h2, slices_partitionOrdered_byte.j3]
    simp only [swp_rd]
    rw [Array.length_toList, if_pos (by omega), if_pos (by omega), if_pos (by omega), if_pos (by omega), if_pos (by omega)]
  · rw [if_neg h]
    obtain ⟨c3, h3⟩ := prt_l2 a b (I + 1) (J - 1) (Sort.swp D I J) (by omega) (by omega) (by omega) (by rw [size_swp]; omega) (by rw [size_swp]; omega) (by rw [size_swp]; omega)
    refine ⟨0 + c3 + 1 + c2 + 1 + c1, ?_⟩
    rw [hstart, h1, slices_partitionOrdered_byte.j1, h2, slices_partitionOrdered_byte.j3]
    simp only [swp_rd]
    rw [Array.length_toList, if_neg (by omega), if_pos (by omega), if_pos (by omega), if_pos (by omega), if_pos (by omega), up1 (by omega), down1 (by omega) (by omega)]
    exact h3 0
end Go.Proofs.YtahjnjlkpbjfnaaGreatDoor.PSim
