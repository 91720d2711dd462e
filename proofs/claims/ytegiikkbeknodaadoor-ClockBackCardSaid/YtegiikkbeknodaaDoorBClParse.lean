/- The contract of clock.Parse at the texts that clock.Hours tells. -/
import Derived.Test.YtegiikkbeknodaaDoorBClText
import Derived.Test.YtegiikkbeknodaaDoorBackShelf
import Derived.Lib.SplitLaws
import Derived.Lib.AtoiErrMem
import Derived.Test.YtegiikkbeknodaaDoorBx0
namespace Go.Proofs.YtegiikkbeknodaaDoor.B
open Go.RowKit Go.Proofs.YtegiikkbeknodaaDoorW.PrintWords Go.Proofs.YtegiikkbeknodaaDoorW.PrintLast Go.Proofs.YtegiikkbeknodaaDoorW.PrintMore
attribute [local go_sem] max2_int min2_int max_two min_two max_three min_three max_four min_four
set_option linter.unusedVariables false
set_option linter.unusedSimpArgs false
theorem parts3 (x1 x2 y1 y2 z1 z2 : UInt8) (h1 : x1 ≠ 58) (h2 : x2 ≠ 58) (h3 : y1 ≠ 58) (h4 : y2 ≠ 58) (h5 : z1 ≠ 58) (h6 : z2 ≠ 58) :
    Lib.countB ⟨#[x1, x2, 58, y1, y2, 58, z1, z2]⟩ ⟨#[58]⟩ = 2 ∧ Lib.splitB ⟨#[58]⟩ 0 2 ⟨#[x1, x2, 58, y1, y2, 58, z1, z2]⟩ = [⟨#[x1, x2]⟩, ⟨#[y1, y2]⟩, ⟨#[z1, z2]⟩] := by
  have e1 : Lib.indexB ⟨#[x1, x2, 58, y1, y2, 58, z1, z2]⟩ ⟨#[58]⟩ = (2 : Nat) := by
    show Lib.index [x1, x2, 58, y1, y2, 58, z1, z2] [58] = 2
    simp [Lib.index, List.isPrefixOf, Ne.symm h1, Ne.symm h2]
  have e2 : Lib.indexB ⟨#[y1, y2, 58, z1, z2]⟩ ⟨#[58]⟩ = (2 : Nat) := by
    show Lib.index [y1, y2, 58, z1, z2] [58] = 2
    simp [Lib.index, List.isPrefixOf, Ne.symm h3, Ne.symm h4]
  constructor
  · show Lib.count [x1, x2, 58, y1, y2, 58, z1, z2] [58] = 2
    rw [Lib.count_one]
    simp [h1, h2, h3, h4, h5, h6]
  · rw [Lib.splitB_hit _ _ _ _ 2 e1]
    have a : (⟨#[x1, x2, 58, y1, y2, 58, z1, z2]⟩ : ByteArray).extract (2 + (⟨#[58]⟩ : ByteArray).size) (⟨#[x1, x2, 58, y1, y2, 58, z1, z2]⟩ : ByteArray).size = ⟨#[y1, y2, 58, z1, z2]⟩ := rfl
    rw [a, Lib.splitB_hit _ _ _ _ 2 e2, Lib.splitB_zero]
    rfl
theorem parts2 (x1 x2 y1 y2 : UInt8) (h1 : x1 ≠ 58) (h2 : x2 ≠ 58) (h3 : y1 ≠ 58) (h4 : y2 ≠ 58) :
    Lib.countB ⟨#[x1, x2, 58, y1, y2]⟩ ⟨#[58]⟩ = 1 ∧ Lib.splitB ⟨#[58]⟩ 0 1 ⟨#[x1, x2, 58, y1, y2]⟩ = [⟨#[x1, x2]⟩, ⟨#[y1, y2]⟩] := by
  have e1 : Lib.indexB ⟨#[x1, x2, 58, y1, y2]⟩ ⟨#[58]⟩ = (2 : Nat) := by
    show Lib.index [x1, x2, 58, y1, y2] [58] = 2
    simp [Lib.index, List.isPrefixOf, Ne.symm h1, Ne.symm h2]
  constructor
  · show Lib.count [x1, x2, 58, y1, y2] [58] = 1
    rw [Lib.count_one]
    simp [h1, h2, h3, h4]
  · rw [Lib.splitB_hit _ _ _ _ 2 e1, Lib.splitB_zero]
    rfl
theorem atoi_d2 (n : Nat) (h : n < 100) : Lib.atoi (d2 n).data.toList = some (n : Int) := by
  have hc : ∀ i : Fin 100, Lib.atoi (d2 i.val).data.toList = some ((i.val : Nat) : Int) := by decide +kernel
  exact hc ⟨n, h⟩
theorem dig_ne (n : Nat) (h : n < 10) : UInt8.ofNat (48 + n) ≠ 58 := by
  have hc : ∀ i : Fin 10, UInt8.ofNat (48 + i.val) ≠ 58 := by decide +kernel
  exact hc ⟨n, h⟩
theorem dig_val (n : Nat) (h : n < 10) : (UInt8.ofNat (48 + n)).toNat - 48 = n := by
  have hc : ∀ i : Fin 10, (UInt8.ofNat (48 + i.val)).toNat - 48 = i.val := by decide +kernel
  exact hc ⟨n, h⟩
def hm (a b : Nat) : ByteArray := (d2 a ++ (⟨#[58]⟩ : ByteArray)) ++ d2 b
theorem hms_eq (a b c : Nat) : hms a b c = ⟨#[UInt8.ofNat (48 + a / 10), UInt8.ofNat (48 + a % 10), 58, UInt8.ofNat (48 + b / 10), UInt8.ofNat (48 + b % 10), 58, UInt8.ofNat (48 + c / 10), UInt8.ofNat (48 + c % 10)]⟩ := rfl
theorem hm_eq (a b : Nat) : hm a b = ⟨#[UInt8.ofNat (48 + a / 10), UInt8.ofNat (48 + a % 10), 58, UInt8.ofNat (48 + b / 10), UInt8.ofNat (48 + b % 10)]⟩ := rfl
theorem split3_walk (a b c : Nat) (ha : a < 100) (hb : b < 100) (hc : c < 100) (w : World) (hG : GB w) : Calls Tryd.prog 33 #[.string (hms a b c), .string ⟨#[58]⟩] w fun e w' => e = .returned (.slice (some ⟨w.heap.size, 0, none⟩) 3 3) ∧ w' = w.alloc (.cells #[.string (d2 a), .string (d2 b), .string (d2 c)] 9) := by
  obtain ⟨m, hm⟩ := hG.lim
  obtain ⟨p1, p2⟩ := parts3 _ _ _ _ _ _ (dig_ne (a / 10) (by omega)) (dig_ne (a % 10) (by omega)) (dig_ne (b / 10) (by omega)) (dig_ne (b % 10) (by omega)) (dig_ne (c / 10) (by omega)) (dig_ne (c % 10) (by omega))
  have h := Any.strings_Split (ρ := Tryd.laysSplit_ren) { Tryd.laysSplit with } Tryd.laysSplit.i9 (hms a b c) ⟨#[58]⟩ m w (show 8 < 4294967281 by decide) hm (Nat.le_refl _)
  rw [hms_eq, p1, p2] at h
  rw [hms_eq]
  exact h
theorem split2_walk (a b : Nat) (ha : a < 100) (hb : b < 100) (w : World) (hG : GB w) : Calls Tryd.prog 33 #[.string (hm a b), .string ⟨#[58]⟩] w fun e w' => e = .returned (.slice (some ⟨w.heap.size, 0, none⟩) 2 2) ∧ w' = w.alloc (.cells #[.string (d2 a), .string (d2 b)] 9) := by
  obtain ⟨m, hm⟩ := hG.lim
  obtain ⟨p1, p2⟩ := parts2 _ _ _ _ (dig_ne (a / 10) (by omega)) (dig_ne (a % 10) (by omega)) (dig_ne (b / 10) (by omega)) (dig_ne (b % 10) (by omega))
  have h := Any.strings_Split (ρ := Tryd.laysSplit_ren) { Tryd.laysSplit with } Tryd.laysSplit.i9 (Go.Proofs.YtegiikkbeknodaaDoor.B.hm a b) ⟨#[58]⟩ m w (show 5 < 4294967281 by decide) hm (Nat.le_refl _)
  rw [hm_eq, p1, p2] at h
  rw [hm_eq]
  exact h
theorem atoi_walk (n : Nat) (h : n < 100) (W : World) : Calls Tryd.prog 34 #[.string (d2 n)] W fun e w' => e = .returned (.tuple #[.int .i64 (n : Int), .nilIface]) ∧ Below W.heap.size W w' :=
  (Any.strconv_Atoi Tryd.laysAtoi (d2 n) (n : Int) (show 2 ≤ 18 by decide) (atoi_d2 n h) W).mono fun e w' ⟨he, t, hw⟩ => ⟨he, by rw [hw]; exact Lib.bytesWorld_below _ _ _⟩
set_option maxHeartbeats 4000000 in
theorem parse3 (X A B C : ByteArray) (a b c r : Int) (w : World) (HSp : Aside0 (Calls Tryd.prog 33 #[.string X, .string ⟨#[58]⟩] w fun e w' => e = .returned (.slice (some ⟨w.heap.size, 0, none⟩) 3 3) ∧ w' = w.alloc (.cells #[.string A, .string B, .string C] 9)))
    (HA0 : Aside0 (∀ W, Calls Tryd.prog 34 #[.string A] W fun e w' => e = .returned (.tuple #[.int .i64 a, .nilIface]) ∧ Below W.heap.size W w')) (HT0 : Aside0 (∀ W, Calls Tryd.prog 26 #[.int .i64 a] W fun e w' => e = .returned (.string A) ∧ w' = W)) (HA1 : Aside0 (∀ W, Calls Tryd.prog 34 #[.string B] W fun e w' => e = .returned (.tuple #[.int .i64 b, .nilIface]) ∧ Below W.heap.size W w')) (HT1 : Aside0 (∀ W, Calls Tryd.prog 26 #[.int .i64 b] W fun e w' => e = .returned (.string B) ∧ w' = W)) (HA2 : Aside0 (∀ W, Calls Tryd.prog 34 #[.string C] W fun e w' => e = .returned (.tuple #[.int .i64 c, .nilIface]) ∧ Below W.heap.size W w')) (HT2 : Aside0 (∀ W, Calls Tryd.prog 26 #[.int .i64 c] W fun e w' => e = .returned (.string C) ∧ w' = W))
    (b1 : decide (b ≥ 60) = false) (a1 : decide (a > 24) = false) (c1 : decide (c ≥ 60) = false) (x1 : decide (wrap64 (wrap64 (wrap64 (a * 3600) + wrap64 (b * 60)) + c) > 86400) = false) (HX : Aside0 (wrap64 (wrap64 (wrap64 (a * 3600) + wrap64 (b * 60)) + c) = r)) :
    Calls Tryd.prog 20 #[.string X] w fun e w' => e = .returned (.tuple #[.int .i64 r, errW none]) ∧ Below w.heap.size w w' := by
  have hu67 := Tryd.underlying67
  have b2 : decide (60 ≤ b) = false := b1
  have a2 : decide (24 < a) = false := a1
  have c2 : decide (60 ≤ c) = false := c1
  have x2 : decide (86400 < wrap64 (wrap64 (wrap64 (a * 3600) + wrap64 (b * 60)) + c)) = false := x1
  have HB := Aside0.mk (Below.refl w.heap.size w)
  go_enter Tryd.func20, Tryd.ntmps20
  go_wp2_with (first | (go_at_call 33; (with_reducible refine (HSp.out).mono ?_); rintro e_ wq ⟨rfl, hw⟩; have BKP := Aside0.mk (show wq.heap[w.heap.size]? = some (.cells #[.string A, .string B, .string C] 9 (0, 0)) by rw [hw]; first | exact heap_alloc_new w _ | simp [World.alloc]); have n0_ := Aside0.mk (show Below w.heap.size w wq by rw [hw]; exact below_alloc HB.out _); clear HB hw; have HB := n0_; clear n0_) | ((with_reducible refine gate_dst (N := 5) rfl ?_); refine box_event ?hg (N := 5) ?hd (cs := #[.int .i64 0, .int .i64 0, .int .i64 0]) (t := 67) ?hr ?_; (case hd => rfl); (case hg => rfl); (case hr => first | (go_simp; done) | (go_simp; rfl)); intro g5 hg w5 hbox hb; have BKPn := Aside0.mk (blk_below (g := w.heap.size) (o := .cells #[.string A, .string B, .string C] 9 (0, 0)) (by first | exact BKP.out | ((with_reducible repeat (first | refine blk_drewN ?_ _ | refine blk_drew ?_ | refine blk_alloc ?_ _)); exact BKP.out)) hb); have NE := Aside0.mk ((by rw [hg]; exact Nat.ne_of_lt (blk_lt (g := w.heap.size) (o := .cells #[.string A, .string B, .string C] 9 (0, 0)) (by first | exact BKP.out | ((with_reducible repeat (first | refine blk_drewN ?_ _ | refine blk_drew ?_ | refine blk_alloc ?_ _)); exact BKP.out))) : w.heap.size ≠ g5)); clear BKP; have BKP := BKPn; clear BKPn; have n0_ := Aside0.mk (below_step (by repeat (first | (with_reducible first | exact HB.out | apply below_alloc | apply pw_below_drewN | apply below_drew1) | exact HB.out)) hb); have BKg5 := Aside0.mk (hbox); have GEg5 := Aside0.mk ((by rw [hg]; exact (below_size (by repeat (first | (with_reducible first | exact HB.out | apply below_alloc | apply pw_below_drewN | apply below_drew1) | exact HB.out))) : w.heap.size ≤ g5)); clear HB; have HB := n0_; clear n0_; clear hb hbox hg; have hczg5_0 : w5.cell? ⟨g5, 0, none⟩ = some (.int .i64 0) := (blk_cell BKg5.out 0).trans rfl; have hczg5_1 : w5.cell? ⟨g5, 1, none⟩ = some (.int .i64 0) := (blk_cell BKg5.out 1).trans rfl; have hczg5_2 : w5.cell? ⟨g5, 2, none⟩ = some (.int .i64 0) := (blk_cell BKg5.out 2).trans rfl; have hfzg5_0 := blk_frozen BKg5.out 0; have hfzg5_1 := blk_frozen BKg5.out 1; have hfzg5_2 := blk_frozen BKg5.out 2))
  go_loopg [25] 3 (fun kq v25 w' => ((kq = 3 ∧ v25 = .int .i64 0 ∧ Aside0 (w'.heap[g5]? = some (.cells #[.int .i64 0, .int .i64 0, .int .i64 0] 67 (0, 0)))) ∨ (kq = 2 ∧ v25 = .int .i64 1 ∧ Aside0 (w'.heap[g5]? = some (.cells #[.int .i64 a, .int .i64 0, .int .i64 0] 67 (0, 0)))) ∨ (kq = 1 ∧ v25 = .int .i64 2 ∧ Aside0 (w'.heap[g5]? = some (.cells #[.int .i64 a, .int .i64 b, .int .i64 0] 67 (0, 0)))) ∨ (kq = 0 ∧ v25 = .int .i64 3 ∧ Aside0 (w'.heap[g5]? = some (.cells #[.int .i64 a, .int .i64 b, .int .i64 c] 67 (0, 0))))) ∧ Aside0 (w'.heap[w.heap.size]? = some (.cells #[.string A, .string B, .string C] 9 (0, 0))) ∧ Aside0 (Below w.heap.size w w'))
  case atStart => exact ⟨.inl ⟨rfl, rfl, ⟨by (with_reducible repeat (first | refine blk_drewN ?_ _ | refine blk_drew ?_ | refine blk_alloc ?_ _)); refine blk_put (cs := #[.int .i64 0, .int .i64 0, .int .i64 0]) ?_ 2 _ rfl; (with_reducible repeat (first | refine blk_drewN ?_ _ | refine blk_drew ?_ | refine blk_alloc ?_ _)); refine blk_put (cs := #[.int .i64 0, .int .i64 0, .int .i64 0]) ?_ 1 _ rfl; (with_reducible repeat (first | refine blk_drewN ?_ _ | refine blk_drew ?_ | refine blk_alloc ?_ _)); refine blk_put (cs := #[.int .i64 0, .int .i64 0, .int .i64 0]) ?_ 0 _ rfl; (with_reducible repeat (first | refine blk_drewN ?_ _ | refine blk_drew ?_ | refine blk_alloc ?_ _)); exact BKg5.out⟩⟩, ⟨by (with_reducible repeat (first | refine blk_drewN ?_ _ | refine blk_drew ?_ | refine blk_alloc ?_ _)); refine blk_far ?_ NE.out _; (with_reducible repeat (first | refine blk_drewN ?_ _ | refine blk_drew ?_ | refine blk_alloc ?_ _)); refine blk_far ?_ NE.out _; (with_reducible repeat (first | refine blk_drewN ?_ _ | refine blk_drew ?_ | refine blk_alloc ?_ _)); refine blk_far ?_ NE.out _; (with_reducible repeat (first | refine blk_drewN ?_ _ | refine blk_drew ?_ | refine blk_alloc ?_ _)); exact BKP.out⟩, ⟨(by repeat (first | (with_reducible first | exact HB.out | apply below_alloc | apply pw_below_drewN | apply below_drew1 | refine below_set ?_ GEg5.out) | exact HB.out))⟩⟩
  case round =>
    clear HB BKP BKg5
    obtain ⟨hc, BKP, HB⟩ := hrel
    rcases hc with ⟨rfl, rfl, BK5⟩ | ⟨rfl, rfl, BK5⟩ | ⟨rfl, rfl, BK5⟩ | ⟨rfl, rfl, BK5⟩
    · have p0 := (blk_cell BKP.out 0).trans rfl
      go_wp2_with (first | (go_at_call 34; (with_reducible refine (HA0.out _).mono ?_); rintro e_ w2 ⟨rfl, hb⟩; have BK5n := Aside0.mk (blk_below (g := g5) (o := .cells #[.int .i64 0, .int .i64 0, .int .i64 0] 67 (0, 0)) (by first | exact BK5.out | ((with_reducible repeat (first | refine blk_drewN ?_ _ | refine blk_drew ?_ | refine blk_alloc ?_ _)); exact BK5.out)) hb); have BKPn := Aside0.mk (blk_below (g := w.heap.size) (o := .cells #[.string A, .string B, .string C] 9 (0, 0)) (by first | exact BKP.out | ((with_reducible repeat (first | refine blk_drewN ?_ _ | refine blk_drew ?_ | refine blk_alloc ?_ _)); exact BKP.out)) hb); have n0_ := Aside0.mk (below_step (by repeat (first | (with_reducible first | exact HB.out | apply below_alloc | apply pw_below_drewN | apply below_drew1) | exact HB.out)) hb); clear HB BK5 BKP hb; have HB := n0_; have BK5 := BK5n; have BKP := BKPn; clear n0_ BK5n BKPn; have q50 := (blk_cell BK5.out 0).trans rfl; have q5f := blk_frozen BK5.out 0) | (go_at_call 26; (with_reducible refine (HT0.out _).mono ?_); rintro e_ wx ⟨rfl, rfl⟩))
      go_roundg 2
      case measure => omega
      case rel => exact ⟨.inr (.inl ⟨rfl, by first | rfl | simp, ⟨by (with_reducible repeat (first | refine blk_drewN ?_ _ | refine blk_drew ?_ | refine blk_alloc ?_ _)); refine blk_put (cs := #[.int .i64 0, .int .i64 0, .int .i64 0]) ?_ 0 _ rfl; (with_reducible repeat (first | refine blk_drewN ?_ _ | refine blk_drew ?_ | refine blk_alloc ?_ _)); exact BK5.out⟩⟩), ⟨by (with_reducible repeat (first | refine blk_drewN ?_ _ | refine blk_drew ?_ | refine blk_alloc ?_ _)); refine blk_far ?_ NE.out _; (with_reducible repeat (first | refine blk_drewN ?_ _ | refine blk_drew ?_ | refine blk_alloc ?_ _)); exact BKP.out⟩, ⟨(by repeat (first | (with_reducible first | exact HB.out | apply below_alloc | apply pw_below_drewN | apply below_drew1 | refine below_set ?_ GEg5.out) | exact HB.out))⟩⟩
    · have p0 := (blk_cell BKP.out 1).trans rfl
      go_wp2_with (first | (go_at_call 34; (with_reducible refine (HA1.out _).mono ?_); rintro e_ w2 ⟨rfl, hb⟩; have BK5n := Aside0.mk (blk_below (g := g5) (o := .cells #[.int .i64 a, .int .i64 0, .int .i64 0] 67 (0, 0)) (by first | exact BK5.out | ((with_reducible repeat (first | refine blk_drewN ?_ _ | refine blk_drew ?_ | refine blk_alloc ?_ _)); exact BK5.out)) hb); have BKPn := Aside0.mk (blk_below (g := w.heap.size) (o := .cells #[.string A, .string B, .string C] 9 (0, 0)) (by first | exact BKP.out | ((with_reducible repeat (first | refine blk_drewN ?_ _ | refine blk_drew ?_ | refine blk_alloc ?_ _)); exact BKP.out)) hb); have n0_ := Aside0.mk (below_step (by repeat (first | (with_reducible first | exact HB.out | apply below_alloc | apply pw_below_drewN | apply below_drew1) | exact HB.out)) hb); clear HB BK5 BKP hb; have HB := n0_; have BK5 := BK5n; have BKP := BKPn; clear n0_ BK5n BKPn; have q50 := (blk_cell BK5.out 1).trans rfl; have q5f := blk_frozen BK5.out 1) | (go_at_call 26; (with_reducible refine (HT1.out _).mono ?_); rintro e_ wx ⟨rfl, rfl⟩))
      go_roundg 1
      case measure => omega
      case rel => exact ⟨.inr (.inr (.inl ⟨rfl, by first | rfl | simp, ⟨by (with_reducible repeat (first | refine blk_drewN ?_ _ | refine blk_drew ?_ | refine blk_alloc ?_ _)); refine blk_put (cs := #[.int .i64 a, .int .i64 0, .int .i64 0]) ?_ 1 _ rfl; (with_reducible repeat (first | refine blk_drewN ?_ _ | refine blk_drew ?_ | refine blk_alloc ?_ _)); exact BK5.out⟩⟩)), ⟨by (with_reducible repeat (first | refine blk_drewN ?_ _ | refine blk_drew ?_ | refine blk_alloc ?_ _)); refine blk_far ?_ NE.out _; (with_reducible repeat (first | refine blk_drewN ?_ _ | refine blk_drew ?_ | refine blk_alloc ?_ _)); exact BKP.out⟩, ⟨(by repeat (first | (with_reducible first | exact HB.out | apply below_alloc | apply pw_below_drewN | apply below_drew1 | refine below_set ?_ GEg5.out) | exact HB.out))⟩⟩
    · have p0 := (blk_cell BKP.out 2).trans rfl
      go_wp2_with (first | (go_at_call 34; (with_reducible refine (HA2.out _).mono ?_); rintro e_ w2 ⟨rfl, hb⟩; have BK5n := Aside0.mk (blk_below (g := g5) (o := .cells #[.int .i64 a, .int .i64 b, .int .i64 0] 67 (0, 0)) (by first | exact BK5.out | ((with_reducible repeat (first | refine blk_drewN ?_ _ | refine blk_drew ?_ | refine blk_alloc ?_ _)); exact BK5.out)) hb); have BKPn := Aside0.mk (blk_below (g := w.heap.size) (o := .cells #[.string A, .string B, .string C] 9 (0, 0)) (by first | exact BKP.out | ((with_reducible repeat (first | refine blk_drewN ?_ _ | refine blk_drew ?_ | refine blk_alloc ?_ _)); exact BKP.out)) hb); have n0_ := Aside0.mk (below_step (by repeat (first | (with_reducible first | exact HB.out | apply below_alloc | apply pw_below_drewN | apply below_drew1) | exact HB.out)) hb); clear HB BK5 BKP hb; have HB := n0_; have BK5 := BK5n; have BKP := BKPn; clear n0_ BK5n BKPn; have q50 := (blk_cell BK5.out 2).trans rfl; have q5f := blk_frozen BK5.out 2) | (go_at_call 26; (with_reducible refine (HT2.out _).mono ?_); rintro e_ wx ⟨rfl, rfl⟩))
      go_roundg 0
      case measure => omega
      case rel => exact ⟨.inr (.inr (.inr (⟨rfl, by first | rfl | simp, ⟨by (with_reducible repeat (first | refine blk_drewN ?_ _ | refine blk_drew ?_ | refine blk_alloc ?_ _)); refine blk_put (cs := #[.int .i64 a, .int .i64 b, .int .i64 0]) ?_ 2 _ rfl; (with_reducible repeat (first | refine blk_drewN ?_ _ | refine blk_drew ?_ | refine blk_alloc ?_ _)); exact BK5.out⟩⟩))), ⟨by (with_reducible repeat (first | refine blk_drewN ?_ _ | refine blk_drew ?_ | refine blk_alloc ?_ _)); refine blk_far ?_ NE.out _; (with_reducible repeat (first | refine blk_drewN ?_ _ | refine blk_drew ?_ | refine blk_alloc ?_ _)); exact BKP.out⟩, ⟨(by repeat (first | (with_reducible first | exact HB.out | apply below_alloc | apply pw_below_drewN | apply below_drew1 | refine below_set ?_ GEg5.out) | exact HB.out))⟩⟩
    · have q0 := (blk_cell BK5.out 0).trans rfl
      have q1 := (blk_cell BK5.out 1).trans rfl
      have q2 := (blk_cell BK5.out 2).trans rfl
      go_wp2
      go_ret2
      exact ⟨by rw [← HX.out]; rfl, (by repeat (first | (with_reducible first | exact HB.out | apply below_alloc | apply pw_below_drewN | apply below_drew1) | exact HB.out))⟩
set_option maxHeartbeats 4000000 in
theorem parse2 (X A B : ByteArray) (a b r : Int) (w : World) (HSp : Aside0 (Calls Tryd.prog 33 #[.string X, .string ⟨#[58]⟩] w fun e w' => e = .returned (.slice (some ⟨w.heap.size, 0, none⟩) 2 2) ∧ w' = w.alloc (.cells #[.string A, .string B] 9)))
    (HA0 : Aside0 (∀ W, Calls Tryd.prog 34 #[.string A] W fun e w' => e = .returned (.tuple #[.int .i64 a, .nilIface]) ∧ Below W.heap.size W w')) (HT0 : Aside0 (∀ W, Calls Tryd.prog 26 #[.int .i64 a] W fun e w' => e = .returned (.string A) ∧ w' = W)) (HA1 : Aside0 (∀ W, Calls Tryd.prog 34 #[.string B] W fun e w' => e = .returned (.tuple #[.int .i64 b, .nilIface]) ∧ Below W.heap.size W w')) (HT1 : Aside0 (∀ W, Calls Tryd.prog 26 #[.int .i64 b] W fun e w' => e = .returned (.string B) ∧ w' = W))
    (b1 : decide (b ≥ 60) = false) (a1 : decide (a > 24) = false) (x1 : decide (wrap64 (wrap64 (wrap64 (a * 3600) + wrap64 (b * 60))) > 86400) = false) (HX : Aside0 (wrap64 (wrap64 (wrap64 (a * 3600) + wrap64 (b * 60))) = r)) :
    Calls Tryd.prog 20 #[.string X] w fun e w' => e = .returned (.tuple #[.int .i64 r, errW none]) ∧ Below w.heap.size w w' := by
  have hu67 := Tryd.underlying67
  have b2 : decide (60 ≤ b) = false := b1
  have a2 : decide (24 < a) = false := a1
  skip
  have x2 : decide (86400 < wrap64 (wrap64 (wrap64 (a * 3600) + wrap64 (b * 60)))) = false := x1
  have HB := Aside0.mk (Below.refl w.heap.size w)
  go_enter Tryd.func20, Tryd.ntmps20
  go_wp2_with (first | (go_at_call 33; (with_reducible refine (HSp.out).mono ?_); rintro e_ wq ⟨rfl, hw⟩; have BKP := Aside0.mk (show wq.heap[w.heap.size]? = some (.cells #[.string A, .string B] 9 (0, 0)) by rw [hw]; first | exact heap_alloc_new w _ | simp [World.alloc]); have n0_ := Aside0.mk (show Below w.heap.size w wq by rw [hw]; exact below_alloc HB.out _); clear HB hw; have HB := n0_; clear n0_) | ((with_reducible refine gate_dst (N := 5) rfl ?_); refine box_event ?hg (N := 5) ?hd (cs := #[.int .i64 0, .int .i64 0, .int .i64 0]) (t := 67) ?hr ?_; (case hd => rfl); (case hg => rfl); (case hr => first | (go_simp; done) | (go_simp; rfl)); intro g5 hg w5 hbox hb; have BKPn := Aside0.mk (blk_below (g := w.heap.size) (o := .cells #[.string A, .string B] 9 (0, 0)) (by first | exact BKP.out | ((with_reducible repeat (first | refine blk_drewN ?_ _ | refine blk_drew ?_ | refine blk_alloc ?_ _)); exact BKP.out)) hb); have NE := Aside0.mk ((by rw [hg]; exact Nat.ne_of_lt (blk_lt (g := w.heap.size) (o := .cells #[.string A, .string B] 9 (0, 0)) (by first | exact BKP.out | ((with_reducible repeat (first | refine blk_drewN ?_ _ | refine blk_drew ?_ | refine blk_alloc ?_ _)); exact BKP.out))) : w.heap.size ≠ g5)); clear BKP; have BKP := BKPn; clear BKPn; have n0_ := Aside0.mk (below_step (by repeat (first | (with_reducible first | exact HB.out | apply below_alloc | apply pw_below_drewN | apply below_drew1) | exact HB.out)) hb); have BKg5 := Aside0.mk (hbox); have GEg5 := Aside0.mk ((by rw [hg]; exact (below_size (by repeat (first | (with_reducible first | exact HB.out | apply below_alloc | apply pw_below_drewN | apply below_drew1) | exact HB.out))) : w.heap.size ≤ g5)); clear HB; have HB := n0_; clear n0_; clear hb hbox hg; have hczg5_0 : w5.cell? ⟨g5, 0, none⟩ = some (.int .i64 0) := (blk_cell BKg5.out 0).trans rfl; have hczg5_1 : w5.cell? ⟨g5, 1, none⟩ = some (.int .i64 0) := (blk_cell BKg5.out 1).trans rfl; have hczg5_2 : w5.cell? ⟨g5, 2, none⟩ = some (.int .i64 0) := (blk_cell BKg5.out 2).trans rfl; have hfzg5_0 := blk_frozen BKg5.out 0; have hfzg5_1 := blk_frozen BKg5.out 1; have hfzg5_2 := blk_frozen BKg5.out 2))
  go_loopg [25] 2 (fun kq v25 w' => ((kq = 2 ∧ v25 = .int .i64 0 ∧ Aside0 (w'.heap[g5]? = some (.cells #[.int .i64 0, .int .i64 0, .int .i64 0] 67 (0, 0)))) ∨ (kq = 1 ∧ v25 = .int .i64 1 ∧ Aside0 (w'.heap[g5]? = some (.cells #[.int .i64 a, .int .i64 0, .int .i64 0] 67 (0, 0)))) ∨ (kq = 0 ∧ v25 = .int .i64 2 ∧ Aside0 (w'.heap[g5]? = some (.cells #[.int .i64 a, .int .i64 b, .int .i64 0] 67 (0, 0))))) ∧ Aside0 (w'.heap[w.heap.size]? = some (.cells #[.string A, .string B] 9 (0, 0))) ∧ Aside0 (Below w.heap.size w w'))
  case atStart => exact ⟨.inl ⟨rfl, rfl, ⟨by (with_reducible repeat (first | refine blk_drewN ?_ _ | refine blk_drew ?_ | refine blk_alloc ?_ _)); refine blk_put (cs := #[.int .i64 0, .int .i64 0, .int .i64 0]) ?_ 2 _ rfl; (with_reducible repeat (first | refine blk_drewN ?_ _ | refine blk_drew ?_ | refine blk_alloc ?_ _)); refine blk_put (cs := #[.int .i64 0, .int .i64 0, .int .i64 0]) ?_ 1 _ rfl; (with_reducible repeat (first | refine blk_drewN ?_ _ | refine blk_drew ?_ | refine blk_alloc ?_ _)); refine blk_put (cs := #[.int .i64 0, .int .i64 0, .int .i64 0]) ?_ 0 _ rfl; (with_reducible repeat (first | refine blk_drewN ?_ _ | refine blk_drew ?_ | refine blk_alloc ?_ _)); exact BKg5.out⟩⟩, ⟨by (with_reducible repeat (first | refine blk_drewN ?_ _ | refine blk_drew ?_ | refine blk_alloc ?_ _)); refine blk_far ?_ NE.out _; (with_reducible repeat (first | refine blk_drewN ?_ _ | refine blk_drew ?_ | refine blk_alloc ?_ _)); refine blk_far ?_ NE.out _; (with_reducible repeat (first | refine blk_drewN ?_ _ | refine blk_drew ?_ | refine blk_alloc ?_ _)); refine blk_far ?_ NE.out _; (with_reducible repeat (first | refine blk_drewN ?_ _ | refine blk_drew ?_ | refine blk_alloc ?_ _)); exact BKP.out⟩, ⟨(by repeat (first | (with_reducible first | exact HB.out | apply below_alloc | apply pw_below_drewN | apply below_drew1 | refine below_set ?_ GEg5.out) | exact HB.out))⟩⟩
  case round =>
    clear HB BKP BKg5
    obtain ⟨hc, BKP, HB⟩ := hrel
    rcases hc with ⟨rfl, rfl, BK5⟩ | ⟨rfl, rfl, BK5⟩ | ⟨rfl, rfl, BK5⟩
    · have p0 := (blk_cell BKP.out 0).trans rfl
      go_wp2_with (first | (go_at_call 34; (with_reducible refine (HA0.out _).mono ?_); rintro e_ w2 ⟨rfl, hb⟩; have BK5n := Aside0.mk (blk_below (g := g5) (o := .cells #[.int .i64 0, .int .i64 0, .int .i64 0] 67 (0, 0)) (by first | exact BK5.out | ((with_reducible repeat (first | refine blk_drewN ?_ _ | refine blk_drew ?_ | refine blk_alloc ?_ _)); exact BK5.out)) hb); have BKPn := Aside0.mk (blk_below (g := w.heap.size) (o := .cells #[.string A, .string B] 9 (0, 0)) (by first | exact BKP.out | ((with_reducible repeat (first | refine blk_drewN ?_ _ | refine blk_drew ?_ | refine blk_alloc ?_ _)); exact BKP.out)) hb); have n0_ := Aside0.mk (below_step (by repeat (first | (with_reducible first | exact HB.out | apply below_alloc | apply pw_below_drewN | apply below_drew1) | exact HB.out)) hb); clear HB BK5 BKP hb; have HB := n0_; have BK5 := BK5n; have BKP := BKPn; clear n0_ BK5n BKPn; have q50 := (blk_cell BK5.out 0).trans rfl; have q5f := blk_frozen BK5.out 0) | (go_at_call 26; (with_reducible refine (HT0.out _).mono ?_); rintro e_ wx ⟨rfl, rfl⟩))
      go_roundg 1
      case measure => omega
      case rel => exact ⟨.inr (.inl ⟨rfl, by first | rfl | simp, ⟨by (with_reducible repeat (first | refine blk_drewN ?_ _ | refine blk_drew ?_ | refine blk_alloc ?_ _)); refine blk_put (cs := #[.int .i64 0, .int .i64 0, .int .i64 0]) ?_ 0 _ rfl; (with_reducible repeat (first | refine blk_drewN ?_ _ | refine blk_drew ?_ | refine blk_alloc ?_ _)); exact BK5.out⟩⟩), ⟨by (with_reducible repeat (first | refine blk_drewN ?_ _ | refine blk_drew ?_ | refine blk_alloc ?_ _)); refine blk_far ?_ NE.out _; (with_reducible repeat (first | refine blk_drewN ?_ _ | refine blk_drew ?_ | refine blk_alloc ?_ _)); exact BKP.out⟩, ⟨(by repeat (first | (with_reducible first | exact HB.out | apply below_alloc | apply pw_below_drewN | apply below_drew1 | refine below_set ?_ GEg5.out) | exact HB.out))⟩⟩
    · have p0 := (blk_cell BKP.out 1).trans rfl
      go_wp2_with (first | (go_at_call 34; (with_reducible refine (HA1.out _).mono ?_); rintro e_ w2 ⟨rfl, hb⟩; have BK5n := Aside0.mk (blk_below (g := g5) (o := .cells #[.int .i64 a, .int .i64 0, .int .i64 0] 67 (0, 0)) (by first | exact BK5.out | ((with_reducible repeat (first | refine blk_drewN ?_ _ | refine blk_drew ?_ | refine blk_alloc ?_ _)); exact BK5.out)) hb); have BKPn := Aside0.mk (blk_below (g := w.heap.size) (o := .cells #[.string A, .string B] 9 (0, 0)) (by first | exact BKP.out | ((with_reducible repeat (first | refine blk_drewN ?_ _ | refine blk_drew ?_ | refine blk_alloc ?_ _)); exact BKP.out)) hb); have n0_ := Aside0.mk (below_step (by repeat (first | (with_reducible first | exact HB.out | apply below_alloc | apply pw_below_drewN | apply below_drew1) | exact HB.out)) hb); clear HB BK5 BKP hb; have HB := n0_; have BK5 := BK5n; have BKP := BKPn; clear n0_ BK5n BKPn; have q50 := (blk_cell BK5.out 1).trans rfl; have q5f := blk_frozen BK5.out 1) | (go_at_call 26; (with_reducible refine (HT1.out _).mono ?_); rintro e_ wx ⟨rfl, rfl⟩))
      go_roundg 0
      case measure => omega
      case rel => exact ⟨.inr (.inr (⟨rfl, by first | rfl | simp, ⟨by (with_reducible repeat (first | refine blk_drewN ?_ _ | refine blk_drew ?_ | refine blk_alloc ?_ _)); refine blk_put (cs := #[.int .i64 a, .int .i64 0, .int .i64 0]) ?_ 1 _ rfl; (with_reducible repeat (first | refine blk_drewN ?_ _ | refine blk_drew ?_ | refine blk_alloc ?_ _)); exact BK5.out⟩⟩)), ⟨by (with_reducible repeat (first | refine blk_drewN ?_ _ | refine blk_drew ?_ | refine blk_alloc ?_ _)); refine blk_far ?_ NE.out _; (with_reducible repeat (first | refine blk_drewN ?_ _ | refine blk_drew ?_ | refine blk_alloc ?_ _)); exact BKP.out⟩, ⟨(by repeat (first | (with_reducible first | exact HB.out | apply below_alloc | apply pw_below_drewN | apply below_drew1 | refine below_set ?_ GEg5.out) | exact HB.out))⟩⟩
    · have q0 := (blk_cell BK5.out 0).trans rfl
      have q1 := (blk_cell BK5.out 1).trans rfl
      have q2 := (blk_cell BK5.out 2).trans rfl
      go_wp2
      go_ret2
      exact ⟨by rw [← HX.out]; rfl, (by repeat (first | (with_reducible first | exact HB.out | apply below_alloc | apply pw_below_drewN | apply below_drew1) | exact HB.out))⟩
theorem wp {x : Int} (h0 : -9223372036854775808 ≤ x) (h1 : x ≤ 9223372036854775807) : wrap64 x = x := by unfold wrap64; omega
theorem parse_hms (a b c : Nat) (ha : a ≤ 24) (hb : b < 60) (hc : c < 60) (hs : a * 3600 + b * 60 + c ≤ 86400) (w : World) (hG : GB w) :
    Calls Tryd.prog 20 #[.string (hms a b c)] w fun e w' => e = .returned (.tuple #[.int .i64 ((a * 3600 + b * 60 + c : Nat) : Int), errW none]) ∧ Below w.heap.size w w' := by
  have e : wrap64 (wrap64 (wrap64 ((a : Int) * 3600) + wrap64 ((b : Int) * 60)) + (c : Int)) = ((a * 3600 + b * 60 + c : Nat) : Int) := by
    rw [wp (x := (a : Int) * 3600) (by omega) (by omega), wp (x := (b : Int) * 60) (by omega) (by omega), wp (x := (a : Int) * 3600 + (b : Int) * 60) (by omega) (by omega), wp (by omega) (by omega)]
    omega
  exact parse3 _ _ _ _ (a : Int) (b : Int) (c : Int) _ w ⟨split3_walk a b c (by omega) (by omega) (by omega) w hG⟩ ⟨atoi_walk a (by omega)⟩ ⟨two_walk _ a rfl (by omega)⟩ ⟨atoi_walk b (by omega)⟩ ⟨two_walk _ b rfl (by omega)⟩ ⟨atoi_walk c (by omega)⟩ ⟨two_walk _ c rfl (by omega)⟩
    (decide_eq_false (by omega)) (decide_eq_false (by omega)) (decide_eq_false (by omega)) (by rw [e]; exact decide_eq_false (by omega)) ⟨e⟩
theorem parse_hm (a b : Nat) (ha : a ≤ 24) (hb : b < 60) (hs : a * 3600 + b * 60 ≤ 86400) (w : World) (hG : GB w) :
    Calls Tryd.prog 20 #[.string (hm a b)] w fun e w' => e = .returned (.tuple #[.int .i64 ((a * 3600 + b * 60 : Nat) : Int), errW none]) ∧ Below w.heap.size w w' := by
  have e : wrap64 (wrap64 (wrap64 ((a : Int) * 3600) + wrap64 ((b : Int) * 60))) = ((a * 3600 + b * 60 : Nat) : Int) := by
    rw [wp (x := (a : Int) * 3600) (by omega) (by omega), wp (x := (b : Int) * 60) (by omega) (by omega), wp (x := (a : Int) * 3600 + (b : Int) * 60) (by omega) (by omega), wp (by omega) (by omega)]
    omega
  exact parse2 _ _ _ (a : Int) (b : Int) _ w ⟨split2_walk a b (by omega) (by omega) w hG⟩ ⟨atoi_walk a (by omega)⟩ ⟨two_walk _ a rfl (by omega)⟩ ⟨atoi_walk b (by omega)⟩ ⟨two_walk _ b rfl (by omega)⟩
    (decide_eq_false (by omega)) (decide_eq_false (by omega)) (by rw [e]; exact decide_eq_false (by omega)) ⟨e⟩
/-- What a text's digits tell. -/
def dv (t : ByteArray) (i : Nat) : Nat := (t.data.toList.getD i 0).toNat - 48
def pv (t : ByteArray) : Nat := 3600 * (10 * dv t 0 + dv t 1) + 60 * (10 * dv t 3 + dv t 4) + (if t.size = 8 then 10 * dv t 6 + dv t 7 else 0)
/-- Parse, at the texts that Hours tells. -/
def clock_Parse.f (a0 : ByteArray) : Option (Int × Option Int) := if pv a0 ≤ 86400 ∧ (a0 = hms (pv a0 / 3600) (pv a0 / 60 % 60) (pv a0 % 60) ∨ (pv a0 % 60 = 0 ∧ a0 = hm (pv a0 / 3600) (pv a0 / 60 % 60))) then some ((pv a0 : Int), none) else none
theorem clock_Parse.calls (a0 : ByteArray) (r1 : Int) (r2 : Option Int) (w : World) (h : clock_Parse.f a0 = some (r1, r2)) (hG : GB w) :
    Calls Tryd.prog 20 #[.string a0] w fun e w' => e = .returned (.tuple #[.int .i64 r1, errW r2]) ∧ Below w.heap.size w w' := by
  unfold clock_Parse.f at h
  by_cases hc : pv a0 ≤ 86400 ∧ (a0 = hms (pv a0 / 3600) (pv a0 / 60 % 60) (pv a0 % 60) ∨ (pv a0 % 60 = 0 ∧ a0 = hm (pv a0 / 3600) (pv a0 / 60 % 60)))
  · rw [if_pos hc] at h
    simp only [Option.some.injEq, Prod.mk.injEq] at h
    obtain ⟨rfl, rfl⟩ := h
    obtain ⟨s, hs⟩ : ∃ s, pv a0 = s := ⟨_, rfl⟩
    rw [hs] at hc ⊢
    obtain ⟨h1, h2⟩ := hc
    rcases h2 with h2 | ⟨h3, h2⟩
    · have e := parse_hms (s / 3600) (s / 60 % 60) (s % 60) (by omega) (by omega) (by omega) (by omega) w hG
      rw [show s / 3600 * 3600 + s / 60 % 60 * 60 + s % 60 = s by omega] at e
      rw [h2]
      exact e
    · have e := parse_hm (s / 3600) (s / 60 % 60) (by omega) (by omega) (by omega) w hG
      rw [show s / 3600 * 3600 + s / 60 % 60 * 60 = s by omega] at e
      rw [h2]
      exact e
  · rw [if_neg hc] at h; cases h
end Go.Proofs.YtegiikkbeknodaaDoor.B
