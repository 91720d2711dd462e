/- The contract of command.code: the number of a code's word; 0, if it is none. -/
import Derived.Test.YtdakfmldbddokaaGreatDoorPx0
import Derived.Test.YtdakfmldbddokaaGreatDoorGl
import Derived.Test.YtdakfmldbddokaaGreatDoorRuShelf
import Derived.Lib.SplitLaws
import Derived.Test.YtdakfmldbddokaaGreatDoorVaShelf
import Derived.Test.YtdakfmldbddokaaGreatDoorOpens
import Derived.ArgAppend
import Derived.Deep.RegionLawGrows
import Derived.Lib.SmallJoins
set_option linter.unusedVariables false
set_option linter.unusedSimpArgs false
namespace Go.Proofs.YtdakfmldbddokaaGreatDoor.P
open Go Go.RowKit Go.Proofs.YtdakfmldbddokaaGreatDoorW.PrintWords Go.Proofs.YtdakfmldbddokaaGreatDoorW.PrintLast Go.Proofs.YtdakfmldbddokaaGreatDoorW.PrintMore
def wordList : List ByteArray := [⟨#[]⟩, ⟨#[100, 111, 119, 110]⟩, ⟨#[117, 110, 100, 111, 119, 110]⟩, ⟨#[97, 99, 107]⟩, ⟨#[117, 110, 97, 99, 107]⟩, ⟨#[101, 110, 97, 98, 108, 101]⟩, ⟨#[100, 105, 115, 97, 98, 108, 101]⟩, ⟨#[99, 104, 101, 99, 107]⟩, ⟨#[114, 101, 115, 117, 108, 116]⟩, ⟨#[116, 101, 108, 108]⟩]
/-- The first place, from the k-th on, that holds the word. -/
def codeFrom (a0 : ByteArray) (k : Nat) : Nat := if k < 10 then (if 0 < k ∧ (wordList.getD k ByteArray.empty) = a0 then k else codeFrom a0 (k + 1)) else 0
termination_by 10 - k
def cCo.f (a0 : ByteArray) : Option Int := some (codeFrom a0 0 : Nat)
theorem str_info : ∃ i, Tryz.prog.info? 9 = some i ∧ i.size = 1 := by
  have h := info9
  obtain ⟨i, hi, e⟩ := Option.map_eq_some_iff.1 h
  exact ⟨i, hi, by simp only [Prod.mk.injEq] at e; exact e.2.1⟩
theorem idx_0 (W : World) : (Instr.index 46 (.agg #[.string ⟨#[]⟩, .string ⟨#[100, 111, 119, 110]⟩, .string ⟨#[117, 110, 100, 111, 119, 110]⟩, .string ⟨#[97, 99, 107]⟩, .string ⟨#[117, 110, 97, 99, 107]⟩, .string ⟨#[101, 110, 97, 98, 108, 101]⟩, .string ⟨#[100, 105, 115, 97, 98, 108, 101]⟩, .string ⟨#[99, 104, 101, 99, 107]⟩, .string ⟨#[114, 101, 115, 117, 108, 116]⟩, .string ⟨#[116, 101, 108, 108]⟩]) (.int .i64 0)).run Tryz.prog W = .ok (.string ⟨#[]⟩) W := by
  obtain ⟨i, hi, h1⟩ := str_info
  simp [Instr.index, run_underlying Tryz.underlying46, asIntOf, part, sizeOf, typeInfo, hi, h1, go_sem]
theorem idx_1 (W : World) : (Instr.index 46 (.agg #[.string ⟨#[]⟩, .string ⟨#[100, 111, 119, 110]⟩, .string ⟨#[117, 110, 100, 111, 119, 110]⟩, .string ⟨#[97, 99, 107]⟩, .string ⟨#[117, 110, 97, 99, 107]⟩, .string ⟨#[101, 110, 97, 98, 108, 101]⟩, .string ⟨#[100, 105, 115, 97, 98, 108, 101]⟩, .string ⟨#[99, 104, 101, 99, 107]⟩, .string ⟨#[114, 101, 115, 117, 108, 116]⟩, .string ⟨#[116, 101, 108, 108]⟩]) (.int .i64 1)).run Tryz.prog W = .ok (.string ⟨#[100, 111, 119, 110]⟩) W := by
  obtain ⟨i, hi, h1⟩ := str_info
  simp [Instr.index, run_underlying Tryz.underlying46, asIntOf, part, sizeOf, typeInfo, hi, h1, go_sem]
theorem idx_2 (W : World) : (Instr.index 46 (.agg #[.string ⟨#[]⟩, .string ⟨#[100, 111, 119, 110]⟩, .string ⟨#[117, 110, 100, 111, 119, 110]⟩, .string ⟨#[97, 99, 107]⟩, .string ⟨#[117, 110, 97, 99, 107]⟩, .string ⟨#[101, 110, 97, 98, 108, 101]⟩, .string ⟨#[100, 105, 115, 97, 98, 108, 101]⟩, .string ⟨#[99, 104, 101, 99, 107]⟩, .string ⟨#[114, 101, 115, 117, 108, 116]⟩, .string ⟨#[116, 101, 108, 108]⟩]) (.int .i64 2)).run Tryz.prog W = .ok (.string ⟨#[117, 110, 100, 111, 119, 110]⟩) W := by
  obtain ⟨i, hi, h1⟩ := str_info
  simp [Instr.index, run_underlying Tryz.underlying46, asIntOf, part, sizeOf, typeInfo, hi, h1, go_sem]
theorem idx_3 (W : World) : (Instr.index 46 (.agg #[.string ⟨#[]⟩, .string ⟨#[100, 111, 119, 110]⟩, .string ⟨#[117, 110, 100, 111, 119, 110]⟩, .string ⟨#[97, 99, 107]⟩, .string ⟨#[117, 110, 97, 99, 107]⟩, .string ⟨#[101, 110, 97, 98, 108, 101]⟩, .string ⟨#[100, 105, 115, 97, 98, 108, 101]⟩, .string ⟨#[99, 104, 101, 99, 107]⟩, .string ⟨#[114, 101, 115, 117, 108, 116]⟩, .string ⟨#[116, 101, 108, 108]⟩]) (.int .i64 3)).run Tryz.prog W = .ok (.string ⟨#[97, 99, 107]⟩) W := by
  obtain ⟨i, hi, h1⟩ := str_info
  simp [Instr.index, run_underlying Tryz.underlying46, asIntOf, part, sizeOf, typeInfo, hi, h1, go_sem]
theorem idx_4 (W : World) : (Instr.index 46 (.agg #[.string ⟨#[]⟩, .string ⟨#[100, 111, 119, 110]⟩, .string ⟨#[117, 110, 100, 111, 119, 110]⟩, .string ⟨#[97, 99, 107]⟩, .string ⟨#[117, 110, 97, 99, 107]⟩, .string ⟨#[101, 110, 97, 98, 108, 101]⟩, .string ⟨#[100, 105, 115, 97, 98, 108, 101]⟩, .string ⟨#[99, 104, 101, 99, 107]⟩, .string ⟨#[114, 101, 115, 117, 108, 116]⟩, .string ⟨#[116, 101, 108, 108]⟩]) (.int .i64 4)).run Tryz.prog W = .ok (.string ⟨#[117, 110, 97, 99, 107]⟩) W := by
  obtain ⟨i, hi, h1⟩ := str_info
  simp [Instr.index, run_underlying Tryz.underlying46, asIntOf, part, sizeOf, typeInfo, hi, h1, go_sem]
theorem idx_5 (W : World) : (Instr.index 46 (.agg #[.string ⟨#[]⟩, .string ⟨#[100, 111, 119, 110]⟩, .string ⟨#[117, 110, 100, 111, 119, 110]⟩, .string ⟨#[97, 99, 107]⟩, .string ⟨#[117, 110, 97, 99, 107]⟩, .string ⟨#[101, 110, 97, 98, 108, 101]⟩, .string ⟨#[100, 105, 115, 97, 98, 108, 101]⟩, .string ⟨#[99, 104, 101, 99, 107]⟩, .string ⟨#[114, 101, 115, 117, 108, 116]⟩, .string ⟨#[116, 101, 108, 108]⟩]) (.int .i64 5)).run Tryz.prog W = .ok (.string ⟨#[101, 110, 97, 98, 108, 101]⟩) W := by
  obtain ⟨i, hi, h1⟩ := str_info
  simp [Instr.index, run_underlying Tryz.underlying46, asIntOf, part, sizeOf, typeInfo, hi, h1, go_sem]
theorem idx_6 (W : World) : (Instr.index 46 (.agg #[.string ⟨#[]⟩, .string ⟨#[100, 111, 119, 110]⟩, .string ⟨#[117, 110, 100, 111, 119, 110]⟩, .string ⟨#[97, 99, 107]⟩, .string ⟨#[117, 110, 97, 99, 107]⟩, .string ⟨#[101, 110, 97, 98, 108, 101]⟩, .string ⟨#[100, 105, 115, 97, 98, 108, 101]⟩, .string ⟨#[99, 104, 101, 99, 107]⟩, .string ⟨#[114, 101, 115, 117, 108, 116]⟩, .string ⟨#[116, 101, 108, 108]⟩]) (.int .i64 6)).run Tryz.prog W = .ok (.string ⟨#[100, 105, 115, 97, 98, 108, 101]⟩) W := by
  obtain ⟨i, hi, h1⟩ := str_info
  simp [Instr.index, run_underlying Tryz.underlying46, asIntOf, part, sizeOf, typeInfo, hi, h1, go_sem]
theorem idx_7 (W : World) : (Instr.index 46 (.agg #[.string ⟨#[]⟩, .string ⟨#[100, 111, 119, 110]⟩, .string ⟨#[117, 110, 100, 111, 119, 110]⟩, .string ⟨#[97, 99, 107]⟩, .string ⟨#[117, 110, 97, 99, 107]⟩, .string ⟨#[101, 110, 97, 98, 108, 101]⟩, .string ⟨#[100, 105, 115, 97, 98, 108, 101]⟩, .string ⟨#[99, 104, 101, 99, 107]⟩, .string ⟨#[114, 101, 115, 117, 108, 116]⟩, .string ⟨#[116, 101, 108, 108]⟩]) (.int .i64 7)).run Tryz.prog W = .ok (.string ⟨#[99, 104, 101, 99, 107]⟩) W := by
  obtain ⟨i, hi, h1⟩ := str_info
  simp [Instr.index, run_underlying Tryz.underlying46, asIntOf, part, sizeOf, typeInfo, hi, h1, go_sem]
theorem idx_8 (W : World) : (Instr.index 46 (.agg #[.string ⟨#[]⟩, .string ⟨#[100, 111, 119, 110]⟩, .string ⟨#[117, 110, 100, 111, 119, 110]⟩, .string ⟨#[97, 99, 107]⟩, .string ⟨#[117, 110, 97, 99, 107]⟩, .string ⟨#[101, 110, 97, 98, 108, 101]⟩, .string ⟨#[100, 105, 115, 97, 98, 108, 101]⟩, .string ⟨#[99, 104, 101, 99, 107]⟩, .string ⟨#[114, 101, 115, 117, 108, 116]⟩, .string ⟨#[116, 101, 108, 108]⟩]) (.int .i64 8)).run Tryz.prog W = .ok (.string ⟨#[114, 101, 115, 117, 108, 116]⟩) W := by
  obtain ⟨i, hi, h1⟩ := str_info
  simp [Instr.index, run_underlying Tryz.underlying46, asIntOf, part, sizeOf, typeInfo, hi, h1, go_sem]
theorem idx_9 (W : World) : (Instr.index 46 (.agg #[.string ⟨#[]⟩, .string ⟨#[100, 111, 119, 110]⟩, .string ⟨#[117, 110, 100, 111, 119, 110]⟩, .string ⟨#[97, 99, 107]⟩, .string ⟨#[117, 110, 97, 99, 107]⟩, .string ⟨#[101, 110, 97, 98, 108, 101]⟩, .string ⟨#[100, 105, 115, 97, 98, 108, 101]⟩, .string ⟨#[99, 104, 101, 99, 107]⟩, .string ⟨#[114, 101, 115, 117, 108, 116]⟩, .string ⟨#[116, 101, 108, 108]⟩]) (.int .i64 9)).run Tryz.prog W = .ok (.string ⟨#[116, 101, 108, 108]⟩) W := by
  obtain ⟨i, hi, h1⟩ := str_info
  simp [Instr.index, run_underlying Tryz.underlying46, asIntOf, part, sizeOf, typeInfo, hi, h1, go_sem]
theorem same_l (l : List UInt8) (a : ByteArray) : (⟨l.toArray⟩ : ByteArray) = a ↔ l = a.toList := by
  rw [ByteArray.toList_eq]
  constructor
  · intro h; rw [← h]
  · intro h; exact ByteArray.ext (by rw [h])
set_option maxRecDepth 100000 in
set_option maxHeartbeats 4000000 in
theorem cCo.calls (a0 : ByteArray) (r : Int) (w : World) (h : cCo.f a0 = some r) (hG : GL w) :
    Calls Tryz.prog 21 #[.string a0] w fun e w' => e = .returned (.int .i64 r) ∧ Drawn0 w w' := by
  obtain rfl := Option.some.inj h
  obtain ⟨T, fr, hW⟩ := hG.words
  unfold wordCells at hW
  have w0 : w.cell? ⟨0, 0, none⟩ = some (.string ⟨#[]⟩) := by simp [World.cell?, hW]
  have w1 : w.cell? ⟨0, 1, none⟩ = some (.string ⟨#[100, 111, 119, 110]⟩) := by simp [World.cell?, hW]
  have w2 : w.cell? ⟨0, 2, none⟩ = some (.string ⟨#[117, 110, 100, 111, 119, 110]⟩) := by simp [World.cell?, hW]
  have w3 : w.cell? ⟨0, 3, none⟩ = some (.string ⟨#[97, 99, 107]⟩) := by simp [World.cell?, hW]
  have w4 : w.cell? ⟨0, 4, none⟩ = some (.string ⟨#[117, 110, 97, 99, 107]⟩) := by simp [World.cell?, hW]
  have w5 : w.cell? ⟨0, 5, none⟩ = some (.string ⟨#[101, 110, 97, 98, 108, 101]⟩) := by simp [World.cell?, hW]
  have w6 : w.cell? ⟨0, 6, none⟩ = some (.string ⟨#[100, 105, 115, 97, 98, 108, 101]⟩) := by simp [World.cell?, hW]
  have w7 : w.cell? ⟨0, 7, none⟩ = some (.string ⟨#[99, 104, 101, 99, 107]⟩) := by simp [World.cell?, hW]
  have w8 : w.cell? ⟨0, 8, none⟩ = some (.string ⟨#[114, 101, 115, 117, 108, 116]⟩) := by simp [World.cell?, hW]
  have w9 : w.cell? ⟨0, 9, none⟩ = some (.string ⟨#[116, 101, 108, 108]⟩) := by simp [World.cell?, hW]
  have HR : ∃ R : Nat, R = codeFrom a0 0 := ⟨_, rfl⟩
  obtain ⟨R, hR⟩ := HR
  rw [← hR]
  have HR := Aside0.mk hR
  clear h hG hW hR
  go_enter Tryz.func21, Tryz.ntmps21
  go_wp2
  go_loopg [6] 10 (fun kq s6 wr => ∃ (k : Nat) (z : Int), s6 = .int .i64 z ∧ z = (k : Int) ∧ k + kq = 10 ∧ Aside0 (codeFrom a0 k = R) ∧ Aside0 (Drawn0 w wr))
  case atStart => exact ⟨0, 0, rfl, rfl, rfl, ⟨HR.out.symm⟩, ⟨(by first | exact ⟨0, rfl⟩ | exact Drawn0.refl _)⟩⟩
  case round =>
    obtain ⟨k, z, rfl, hz, hk, hC, hw⟩ := hrel
    have hk10 : k = 0 ∨ k = 1 ∨ k = 2 ∨ k = 3 ∨ k = 4 ∨ k = 5 ∨ k = 6 ∨ k = 7 ∨ k = 8 ∨ k = 9 ∨ k = 10 := by omega
    rcases hk10 with rfl | rfl | rfl | rfl | rfl | rfl | rfl | rfl | rfl | rfl | rfl
    · obtain rfl : z = 0 := hz
      have hix := idx_0
      by_cases hq : ([] : List UInt8) = a0.toList
      · have hqb : (([] : List UInt8) == a0.toList) = true := beq_iff_eq.2 hq
        have HQ := Aside0.mk ((same_l _ a0).2 hq)
        clear hq
        go_wp2
        go_roundg 9
        case measure => omega
        case rel => exact ⟨1, 1, rfl, rfl, by omega, ⟨by have := hC.out; rw [codeFrom, if_pos (by decide), if_neg (by simp)] at this; exact this⟩, hw⟩
      · have hqb : (([] : List UInt8) == a0.toList) = false := beq_eq_false_iff_ne.2 hq
        have HQ := Aside0.mk (fun e => hq ((same_l _ a0).1 e))
        clear hq
        go_wp2
        go_roundg 9
        case measure => omega
        case rel => exact ⟨1, 1, rfl, rfl, by omega, ⟨by have := hC.out; rw [codeFrom, if_pos (by decide), if_neg (fun q => HQ.out q.2)] at this; exact this⟩, hw⟩
    · obtain rfl : z = 1 := hz
      have hix := idx_1
      by_cases hq : ([100, 111, 119, 110] : List UInt8) = a0.toList
      · have hqb : (([100, 111, 119, 110] : List UInt8) == a0.toList) = true := beq_iff_eq.2 hq
        have HQ := Aside0.mk ((same_l _ a0).2 hq)
        clear hq
        go_wp2
        (try simp only [Exit.inBlock, Exit.then]); go_ret
        refine ⟨?_, hw.out⟩
        have := hC.out
        rw [codeFrom, if_pos (by decide), if_pos ⟨by decide, HQ.out⟩] at this
        rw [← this]
        rfl
      · have hqb : (([100, 111, 119, 110] : List UInt8) == a0.toList) = false := beq_eq_false_iff_ne.2 hq
        have HQ := Aside0.mk (fun e => hq ((same_l _ a0).1 e))
        clear hq
        go_wp2
        go_roundg 8
        case measure => omega
        case rel => exact ⟨2, 2, rfl, rfl, by omega, ⟨by have := hC.out; rw [codeFrom, if_pos (by decide), if_neg (fun q => HQ.out q.2)] at this; exact this⟩, hw⟩
    · obtain rfl : z = 2 := hz
      have hix := idx_2
      by_cases hq : ([117, 110, 100, 111, 119, 110] : List UInt8) = a0.toList
      · have hqb : (([117, 110, 100, 111, 119, 110] : List UInt8) == a0.toList) = true := beq_iff_eq.2 hq
        have HQ := Aside0.mk ((same_l _ a0).2 hq)
        clear hq
        go_wp2
        (try simp only [Exit.inBlock, Exit.then]); go_ret
        refine ⟨?_, hw.out⟩
        have := hC.out
        rw [codeFrom, if_pos (by decide), if_pos ⟨by decide, HQ.out⟩] at this
        rw [← this]
        rfl
      · have hqb : (([117, 110, 100, 111, 119, 110] : List UInt8) == a0.toList) = false := beq_eq_false_iff_ne.2 hq
        have HQ := Aside0.mk (fun e => hq ((same_l _ a0).1 e))
        clear hq
        go_wp2
        go_roundg 7
        case measure => omega
        case rel => exact ⟨3, 3, rfl, rfl, by omega, ⟨by have := hC.out; rw [codeFrom, if_pos (by decide), if_neg (fun q => HQ.out q.2)] at this; exact this⟩, hw⟩
    · obtain rfl : z = 3 := hz
      have hix := idx_3
      by_cases hq : ([97, 99, 107] : List UInt8) = a0.toList
      · have hqb : (([97, 99, 107] : List UInt8) == a0.toList) = true := beq_iff_eq.2 hq
        have HQ := Aside0.mk ((same_l _ a0).2 hq)
        clear hq
        go_wp2
        (try simp only [Exit.inBlock, Exit.then]); go_ret
        refine ⟨?_, hw.out⟩
        have := hC.out
        rw [codeFrom, if_pos (by decide), if_pos ⟨by decide, HQ.out⟩] at this
        rw [← this]
        rfl
      · have hqb : (([97, 99, 107] : List UInt8) == a0.toList) = false := beq_eq_false_iff_ne.2 hq
        have HQ := Aside0.mk (fun e => hq ((same_l _ a0).1 e))
        clear hq
        go_wp2
        go_roundg 6
        case measure => omega
        case rel => exact ⟨4, 4, rfl, rfl, by omega, ⟨by have := hC.out; rw [codeFrom, if_pos (by decide), if_neg (fun q => HQ.out q.2)] at this; exact this⟩, hw⟩
    · obtain rfl : z = 4 := hz
      have hix := idx_4
      by_cases hq : ([117, 110, 97, 99, 107] : List UInt8) = a0.toList
      · have hqb : (([117, 110, 97, 99, 107] : List UInt8) == a0.toList) = true := beq_iff_eq.2 hq
        have HQ := Aside0.mk ((same_l _ a0).2 hq)
        clear hq
        go_wp2
        (try simp only [Exit.inBlock, Exit.then]); go_ret
        refine ⟨?_, hw.out⟩
        have := hC.out
        rw [codeFrom, if_pos (by decide), if_pos ⟨by decide, HQ.out⟩] at this
        rw [← this]
        rfl
      · have hqb : (([117, 110, 97, 99, 107] : List UInt8) == a0.toList) = false := beq_eq_false_iff_ne.2 hq
        have HQ := Aside0.mk (fun e => hq ((same_l _ a0).1 e))
        clear hq
        go_wp2
        go_roundg 5
        case measure => omega
        case rel => exact ⟨5, 5, rfl, rfl, by omega, ⟨by have := hC.out; rw [codeFrom, if_pos (by decide), if_neg (fun q => HQ.out q.2)] at this; exact this⟩, hw⟩
    · obtain rfl : z = 5 := hz
      have hix := idx_5
      by_cases hq : ([101, 110, 97, 98, 108, 101] : List UInt8) = a0.toList
      · have hqb : (([101, 110, 97, 98, 108, 101] : List UInt8) == a0.toList) = true := beq_iff_eq.2 hq
        have HQ := Aside0.mk ((same_l _ a0).2 hq)
        clear hq
        go_wp2
        (try simp only [Exit.inBlock, Exit.then]); go_ret
        refine ⟨?_, hw.out⟩
        have := hC.out
        rw [codeFrom, if_pos (by decide), if_pos ⟨by decide, HQ.out⟩] at this
        rw [← this]
        rfl
      · have hqb : (([101, 110, 97, 98, 108, 101] : List UInt8) == a0.toList) = false := beq_eq_false_iff_ne.2 hq
        have HQ := Aside0.mk (fun e => hq ((same_l _ a0).1 e))
        clear hq
        go_wp2
        go_roundg 4
        case measure => omega
        case rel => exact ⟨6, 6, rfl, rfl, by omega, ⟨by have := hC.out; rw [codeFrom, if_pos (by decide), if_neg (fun q => HQ.out q.2)] at this; exact this⟩, hw⟩
    · obtain rfl : z = 6 := hz
      have hix := idx_6
      by_cases hq : ([100, 105, 115, 97, 98, 108, 101] : List UInt8) = a0.toList
      · have hqb : (([100, 105, 115, 97, 98, 108, 101] : List UInt8) == a0.toList) = true := beq_iff_eq.2 hq
        have HQ := Aside0.mk ((same_l _ a0).2 hq)
        clear hq
        go_wp2
        (try simp only [Exit.inBlock, Exit.then]); go_ret
        refine ⟨?_, hw.out⟩
        have := hC.out
        rw [codeFrom, if_pos (by decide), if_pos ⟨by decide, HQ.out⟩] at this
        rw [← this]
        rfl
      · have hqb : (([100, 105, 115, 97, 98, 108, 101] : List UInt8) == a0.toList) = false := beq_eq_false_iff_ne.2 hq
        have HQ := Aside0.mk (fun e => hq ((same_l _ a0).1 e))
        clear hq
        go_wp2
        go_roundg 3
        case measure => omega
        case rel => exact ⟨7, 7, rfl, rfl, by omega, ⟨by have := hC.out; rw [codeFrom, if_pos (by decide), if_neg (fun q => HQ.out q.2)] at this; exact this⟩, hw⟩
    · obtain rfl : z = 7 := hz
      have hix := idx_7
      by_cases hq : ([99, 104, 101, 99, 107] : List UInt8) = a0.toList
      · have hqb : (([99, 104, 101, 99, 107] : List UInt8) == a0.toList) = true := beq_iff_eq.2 hq
        have HQ := Aside0.mk ((same_l _ a0).2 hq)
        clear hq
        go_wp2
        (try simp only [Exit.inBlock, Exit.then]); go_ret
        refine ⟨?_, hw.out⟩
        have := hC.out
        rw [codeFrom, if_pos (by decide), if_pos ⟨by decide, HQ.out⟩] at this
        rw [← this]
        rfl
      · have hqb : (([99, 104, 101, 99, 107] : List UInt8) == a0.toList) = false := beq_eq_false_iff_ne.2 hq
        have HQ := Aside0.mk (fun e => hq ((same_l _ a0).1 e))
        clear hq
        go_wp2
        go_roundg 2
        case measure => omega
        case rel => exact ⟨8, 8, rfl, rfl, by omega, ⟨by have := hC.out; rw [codeFrom, if_pos (by decide), if_neg (fun q => HQ.out q.2)] at this; exact this⟩, hw⟩
    · obtain rfl : z = 8 := hz
      have hix := idx_8
      by_cases hq : ([114, 101, 115, 117, 108, 116] : List UInt8) = a0.toList
      · have hqb : (([114, 101, 115, 117, 108, 116] : List UInt8) == a0.toList) = true := beq_iff_eq.2 hq
        have HQ := Aside0.mk ((same_l _ a0).2 hq)
        clear hq
        go_wp2
        (try simp only [Exit.inBlock, Exit.then]); go_ret
        refine ⟨?_, hw.out⟩
        have := hC.out
        rw [codeFrom, if_pos (by decide), if_pos ⟨by decide, HQ.out⟩] at this
        rw [← this]
        rfl
      · have hqb : (([114, 101, 115, 117, 108, 116] : List UInt8) == a0.toList) = false := beq_eq_false_iff_ne.2 hq
        have HQ := Aside0.mk (fun e => hq ((same_l _ a0).1 e))
        clear hq
        go_wp2
        go_roundg 1
        case measure => omega
        case rel => exact ⟨9, 9, rfl, rfl, by omega, ⟨by have := hC.out; rw [codeFrom, if_pos (by decide), if_neg (fun q => HQ.out q.2)] at this; exact this⟩, hw⟩
    · obtain rfl : z = 9 := hz
      have hix := idx_9
      by_cases hq : ([116, 101, 108, 108] : List UInt8) = a0.toList
      · have hqb : (([116, 101, 108, 108] : List UInt8) == a0.toList) = true := beq_iff_eq.2 hq
        have HQ := Aside0.mk ((same_l _ a0).2 hq)
        clear hq
        go_wp2
        (try simp only [Exit.inBlock, Exit.then]); go_ret
        refine ⟨?_, hw.out⟩
        have := hC.out
        rw [codeFrom, if_pos (by decide), if_pos ⟨by decide, HQ.out⟩] at this
        rw [← this]
        rfl
      · have hqb : (([116, 101, 108, 108] : List UInt8) == a0.toList) = false := beq_eq_false_iff_ne.2 hq
        have HQ := Aside0.mk (fun e => hq ((same_l _ a0).1 e))
        clear hq
        go_wp2
        go_roundg 0
        case measure => omega
        case rel => exact ⟨10, 10, rfl, rfl, by omega, ⟨by have := hC.out; rw [codeFrom, if_pos (by decide), if_neg (fun q => HQ.out q.2)] at this; exact this⟩, hw⟩
    · obtain rfl : z = 10 := hz
      go_wp2
      go_ret
      refine ⟨?_, hw.out⟩
      have := hC.out
      rw [codeFrom, if_neg (by decide)] at this
      rw [← this]
      rfl
end Go.Proofs.YtdakfmldbddokaaGreatDoor.P

/- The contract of strings.Cut, in the print's form, and that of Split: the kit's contracts, laid at this program. -/
set_option linter.unusedVariables false
namespace Go.Proofs.YtdakfmldbddokaaGreatDoor.P
open Go.RowKit Go.Proofs.YtdakfmldbddokaaGreatDoorW.PrintWords Go.Proofs.YtdakfmldbddokaaGreatDoorW.PrintLast
def stU.f (a0 a1 : ByteArray) : Option (ByteArray × ByteArray × Bool) := if a0.size < 4294967281 then some (⟨(Lib.cut a0.data.toList a1.data.toList).1.toArray⟩, ⟨(Lib.cut a0.data.toList a1.data.toList).2.1.toArray⟩, (Lib.cut a0.data.toList a1.data.toList).2.2) else none
theorem stU.calls (a0 a1 : ByteArray) (r1 r2 : ByteArray) (r3 : Bool) (w : World) (h : stU.f a0 a1 = some (r1, r2, r3)) (hG : GL w) :
    Calls Tryz.prog 20 #[.string a0, .string a1] w fun e w' => e = .returned (.tuple #[.string r1, .string r2, .bool r3]) ∧ Below w.heap.size w w' := by
  unfold stU.f at h
  split at h
  case isFalse => cases h
  case isTrue hs =>
    simp only [Option.some.injEq, Prod.mk.injEq] at h
    obtain ⟨rfl, rfl, rfl⟩ := h
    obtain ⟨m, hm⟩ := hG.lim
    refine (Tryz.strings_Cut a0 a1 m w hs hm).mono ?_
    rintro e w' ⟨rfl, n, rfl⟩
    exact ⟨rfl, (Below.refl _ _).trans ⟨rfl, rfl, rfl, Nat.le_refl _, fun _ _ => rfl⟩⟩
def parts (s sep : ByteArray) : List ByteArray := Lib.splitB sep 0 (Lib.countB s sep) s
theorem split_walk (s sep : ByteArray) (hs : s.size < 4294967281) (h1 : 1 ≤ sep.size) (w : World) (hG : GL w) : Calls Tryz.prog 38 #[.string s, .string sep] w fun e w' => e = .returned (.slice (some ⟨w.heap.size, 0, none⟩) (parts s sep).length (parts s sep).length) ∧ w' = w.alloc (.cells ((parts s sep).map Value.string).toArray 9) := by
  obtain ⟨m, hm⟩ := hG.lim
  have hl : (parts s sep).length = Lib.countB s sep + 1 := Lib.splitB_all sep h1 0 _ s rfl
  rw [hl]
  exact Tryz.strings_Split s sep m w hs hm h1
end Go.Proofs.YtdakfmldbddokaaGreatDoor.P

/- The contract of command.parts: a command's fields, or what is wrong (the cases without a text as the last field; the last case is not walked yet). -/
set_option linter.unusedVariables false
set_option linter.unusedSimpArgs false
namespace Go.Proofs.YtdakfmldbddokaaGreatDoor.P
open Go Go.RowKit Go.Proofs.YtdakfmldbddokaaGreatDoorW.PrintWords Go.Proofs.YtdakfmldbddokaaGreatDoorW.PrintLast Go.Proofs.YtdakfmldbddokaaGreatDoorW.PrintMore
def semi : ByteArray := ⟨#[59]⟩
def fieldRow (rest : ByteArray) (has : Bool) : List ByteArray := if has = true then parts rest semi else []
def lastText (l : List ByteArray) (n : Nat) : ByteArray := ⟨(Lib.join ((l.drop (n - 1)).map (·.data.toList)) [59]).toArray⟩
def partsOf (rest : ByteArray) (has : Bool) (kinds : List Int) : List ByteArray × Option Int :=
  if (fieldRow rest has).length < kinds.length then ([], some 13)
  else if kinds.getD (kinds.length - 1) 0 = 9 then
    (if Lib.contains (lastText (fieldRow rest has) kinds.length).data.toList [10] = true then ([], some 3) else ((fieldRow rest has).take (kinds.length - 1) ++ [lastText (fieldRow rest has) kinds.length], none))
  else if kinds.length < (fieldRow rest has).length then ([], some 3) else (fieldRow rest has, none)
def cPa.f (a0 : ByteArray) (a1 : Bool) (l2 : List Int) : Option (List ByteArray × Option Int) := if a0.size ≤ 4096 ∧ 1 ≤ l2.length ∧ l2.length ≤ 1000 ∧ (l2.getD (l2.length - 1) 0 = 9 → l2.length = 3) ∧ (lastText (fieldRow a0 a1) l2.length).size ≤ 4096 then some (partsOf a0 a1 l2) else none
set_option maxRecDepth 100000 in
set_option maxHeartbeats 4000000 in
theorem parts_none (a0 : ByteArray) (A2 : Option Addr) (c2 : Nat) (n : Nat) (w : World) (hn : 1 ≤ n) (hn2 : n ≤ 1000) :
    Calls Tryz.prog 22 #[.string a0, .bool false, .slice A2 n c2] w fun e w' => e = .returned (.tuple #[.slice none 0 0, errW (some 13)]) ∧ Below w.heap.size w w' := by
  have h0 : decide ((0 : Int) < (n : Int)) = true := decide_eq_true (by omega)
  have h0' : (0 : Int) < (n : Int) := by omega
  go_enter Tryz.func22, Tryz.ntmps22
  go_wp2
  first | go_ret2 | go_ret
  exact ⟨rfl, Below.refl _ _⟩
set_option maxRecDepth 100000 in
set_option maxHeartbeats 4000000 in
theorem parts_few (a0 : ByteArray) (A2 : Option Addr) (c2 : Nat) (n m : Nat) (w : World) (hS : Calls Tryz.prog 38 #[.string a0, .string semi] w fun e w' => e = .returned (.slice (some ⟨w.heap.size, 0, none⟩) m m) ∧ Below w.heap.size w w') (hm : m < n) :
    Calls Tryz.prog 22 #[.string a0, .bool true, .slice A2 n c2] w fun e w' => e = .returned (.tuple #[.slice none 0 0, errW (some 13)]) ∧ Below w.heap.size w w' := by
  have h0 : decide ((m : Int) < (n : Int)) = true := decide_eq_true (by omega)
  have h0' : (m : Int) < (n : Int) := by omega
  go_enter Tryz.func22, Tryz.ntmps22
  go_wp2_with (first | (go_at_call 38; refine hS.mono ?_; rintro e w1 ⟨rfl, hb⟩))
  first | go_ret2 | go_ret
  exact ⟨rfl, hb⟩
set_option maxRecDepth 100000 in
set_option maxHeartbeats 4000000 in
theorem parts_plain (a0 : ByteArray) (g o c2 : Nat) (x : Int) (n m : Nat) (w w1 : World) (hS : Calls Tryz.prog 38 #[.string a0, .string semi] w fun e w' => e = .returned (.slice (some ⟨w.heap.size, 0, none⟩) m m) ∧ w' = w1) (hcx : w1.cell? ⟨g, o + (n - 1), none⟩ = some (.int .i64 x)) (hn : 1 ≤ n) (hn2 : n ≤ 1000) (hm : ¬ m < n) (hx : x ≠ 9) (hmm : m ≤ 100000) :
    Calls Tryz.prog 22 #[.string a0, .bool true, .slice (some ⟨g, o, none⟩) n c2] w fun e w' => ((n < m ∧ e = .returned (.tuple #[.slice none 0 0, errW (some 3)])) ∨ (¬ n < m ∧ e = .returned (.tuple #[.slice (some ⟨w.heap.size, 0, none⟩) m m, errW none]))) ∧ w' = w1 := by
  have h0' : ¬ (m : Int) < (n : Int) := by omega
  have h0 : decide ((m : Int) < (n : Int)) = false := decide_eq_false h0'
  have hxb : (x == 9) = false := beq_eq_false_iff_ne.2 hx
  by_cases h1 : n < m
  · have h1' : (n : Int) < (m : Int) := by omega
    have h1b : decide ((n : Int) < (m : Int)) = true := decide_eq_true h1'
    go_enter Tryz.func22, Tryz.ntmps22
    go_wp2_with (first | (go_at_call 38; refine hS.mono ?_; rintro e w1' ⟨rfl, rfl⟩))
    first | go_ret2 | go_ret
    exact ⟨.inl ⟨h1, rfl⟩, rfl⟩
  · have h1' : ¬ (n : Int) < (m : Int) := by omega
    have h1b : decide ((n : Int) < (m : Int)) = false := decide_eq_false h1'
    go_enter Tryz.func22, Tryz.ntmps22
    go_wp2_with (first | (go_at_call 38; refine hS.mono ?_; rintro e w1' ⟨rfl, rfl⟩))
    first | go_ret2 | go_ret
    exact ⟨.inr ⟨h1, rfl⟩, rfl⟩
end Go.Proofs.YtdakfmldbddokaaGreatDoor.P

/- command.parts where the last field is a text (then there are three kinds). -/
set_option linter.unusedVariables false
set_option linter.unusedSimpArgs false
namespace Go.Proofs.YtdakfmldbddokaaGreatDoor.P
open Go Go.RowKit Go.Proofs.YtdakfmldbddokaaGreatDoorW.PrintWords Go.Proofs.YtdakfmldbddokaaGreatDoorW.PrintLast Go.Proofs.YtdakfmldbddokaaGreatDoorW.PrintMore
theorem cm_own_drewN {w : World} {base : Nat} {e : TypeId} {size n : Nat} {v : Value} {xs : List Value} (h : w.ownsRow base e size v n xs) (k : Nat) : (w.drewN k).ownsRow base e size v n xs := by
  induction k with
  | zero => exact h
  | succ k ih => exact ih
theorem cm_own_at3 {w : World} {base : Nat} {e : TypeId} {g cap : Nat} {x y z : Value} (h : w.ownsRow base e 1 (.slice (some ⟨g, 0, none⟩) 3 cap) 3 [x, y, z]) : w.cell? ⟨g, 2, none⟩ = some z := by
  rcases h.2 with ⟨_, h0⟩ | ⟨g', cap', cur, hv, hb, hh, hn, hc, hs, ht⟩
  · omega
  · simp only [Value.slice.injEq, Option.some.injEq, Addr.mk.injEq] at hv
    obtain ⟨⟨rfl, -⟩, -, rfl⟩ := hv
    have h2 : cur.toList[2]? = some z := by
      have := congrArg (·[2]?) ht
      simpa [List.getElem?_take] using this
    simp only [World.cell?, hh]
    simpa using h2
theorem cm_gl_ {w1 w2 w3 : World} {o : Obj} (hG : GL w1) (hb : Below w1.drew.heap.size w1.drew w2) (hg : (w2.alloc o).grownBy w3 none) : GL w3 := by
  have h1 : Below w1.heap.size w1 w2 := Below.trans (b := w1.drew) ⟨rfl, rfl, rfl, Nat.le_refl _, fun _ _ => rfl⟩ hb
  exact hG.below ((h1.alloc h1.size o).grown hg (Nat.le_trans h1.size (by simp)) (by intro k hk; cases hk))
theorem cm_below_ {w w1 w2 w3 : World} {o : Obj} (hB : Below w.heap.size w w1) (hsz : w.heap.size ≤ w1.heap.size) (hb : Below w1.drew.heap.size w1.drew w2) (hg : (w2.alloc o).grownBy w3 none) (n : Nat) : Below w.heap.size w (w3.drewN n) := by
  have h1 : Below w1.heap.size w1 w2 := Below.trans (b := w1.drew) ⟨rfl, rfl, rfl, Nat.le_refl _, fun _ _ => rfl⟩ hb
  have h2 : Below w1.heap.size w1 w3 := (h1.alloc h1.size o).grown hg (Nat.le_trans h1.size (by simp)) (by intro k hk; cases hk)
  exact pw_below_drewN (hB.trans (h2.mono hsz)) _
theorem cm_holds_ {w w1 w2 : World} {x0 x1 : ByteArray} {o : Obj} (h0 : w1.cell? ⟨w.heap.size, 0, none⟩ = some (.string x0)) (h1 : w1.cell? ⟨w.heap.size, 1, none⟩ = some (.string x1)) (hB : Below w.heap.size w w1) (hb : Below w1.drew.heap.size w1.drew w2) :
    ∀ b, some (⟨w.heap.size, 0, none⟩ : Addr) = some b → ∀ j u, ([.string x0, .string x1] : List Value)[j]? = some u → (w2.alloc o).cell? (b.add j) = some u := by
  intro b hb' j u hj
  obtain rfl := Option.some.inj hb'
  have hlt : w.heap.size < w1.heap.size := World.block_lt_of_cell? _ _ h0
  have hbb : Below w1.heap.size w1 (w2.alloc o) := Below.trans (b := w1.drew) ⟨rfl, rfl, rfl, Nat.le_refl _, fun _ _ => rfl⟩ (hb.alloc hb.size o)
  match j, hj with
  | 0, hj =>
    obtain rfl := Option.some.inj hj
    exact (hbb.cell (p := ⟨w.heap.size, 0, none⟩) hlt).trans h0
  | 1, hj =>
    obtain rfl := Option.some.inj hj
    exact (hbb.cell (p := ⟨w.heap.size, 1, none⟩) hlt).trans h1
theorem cm_news_ (w2 : World) (T : ByteArray) : ∀ j u, ([.string T] : List Value)[j]? = some u → (w2.alloc (.cells #[.string T] 9)).cell? ((⟨w2.heap.size, 0, none⟩ : Addr).add j) = some u := by
  intro j u hj
  match j, hj with
  | 0, hj =>
    obtain rfl := Option.some.inj hj
    rw [show (⟨w2.heap.size, 0, none⟩ : Addr).add 0 = ⟨w2.heap.size, 0, none⟩ from rfl]
    simp only [World.cell?, heap_alloc_new]
    rfl
set_option maxRecDepth 100000 in
set_option maxHeartbeats 4000000 in
theorem parts_text (a0 : ByteArray) (g o c2 : Nat) (m : Nat) (w w1 : World) (hS : Calls Tryz.prog 38 #[.string a0, .string semi] w fun e w' => e = .returned (.slice (some ⟨w.heap.size, 0, none⟩) m m) ∧ w' = w1) (hB : Below w.heap.size w w1) (hsz : w.heap.size ≤ w1.heap.size) (hcx : w1.cell? ⟨g, o + 2, none⟩ = some (.int .i64 9)) (hm : 2 < m) (hmm : m ≤ 100000) (x0 x1 T : ByteArray) (hx0 : w1.cell? ⟨w.heap.size, 0, none⟩ = some (.string x0)) (hx1 : w1.cell? ⟨w.heap.size, 1, none⟩ = some (.string x1)) (hG1 : GL w1)
    (hJ : ∀ W, Below w1.heap.size w1 W → Calls Tryz.prog 19 #[.slice (some ⟨w.heap.size, 2, none⟩) (m - 2) (m - 2), .string semi] W fun e w' => e = .returned (.string T) ∧ Below W.heap.size W w') (b : Bool) (hC : ∀ W, GL W → Calls Tryz.prog 32 #[.string T, .string ⟨#[10]⟩] W fun e w' => e = .returned (.bool b) ∧ Drawn0 W w') :
    Calls Tryz.prog 22 #[.string a0, .bool true, .slice (some ⟨g, o, none⟩) 3 c2] w fun e w' => ((b = true ∧ e = .returned (.tuple #[.slice none 0 0, errW (some 3)])) ∨ (b = false ∧ ∃ v, e = .returned (.tuple #[v, errW none]) ∧ w'.ownsRow w.heap.size 9 1 v 3 [.string x0, .string x1, .string T])) ∧ Below w.heap.size w w' := by
  have h0' : ¬ (m : Int) < 3 := by omega
  have h0 : decide ((m : Int) < 3) = false := decide_eq_false h0'
  have hpm : (2 : Int) ≤ (m : Int) := by omega
  have hne : ¬ m = 2 := by omega
  have hne1 : ¬ m ≤ 2 := by omega
  have hne2 : ¬ m - 2 = 0 := by omega
  have hw2 : IntKind.i64.wrap 2 = 2 := by decide
  obtain ⟨i0, hi, hzz⟩ := Option.map_eq_some_iff.1 info9
  simp only [Prod.mk.injEq] at hzz
  obtain ⟨hz0, hz1, hz2⟩ := hzz
  have A1 := Aside0.mk hi
  have A2 := Aside0.mk hz0
  have A3 := Aside0.mk hz1
  have A4 := Aside0.mk hz2
  have A5 := Aside0.mk hx0
  have A6 := Aside0.mk hx1
  have A7 := Aside0.mk hB
  have A8 := Aside0.mk hsz
  have A9 := Aside0.mk hG1
  clear hi hz0 hz1 hz2 hx0 hx1 hB hsz hG1
  go_enter Tryz.func22, Tryz.ntmps22
  go_upto_region 8 with (first | (go_at_call 38; refine hS.mono ?_; rintro e w1' ⟨rfl, rfl⟩))
  go_region_law (first
    | (refine goes_ (f := 19) Tryz.func19 (by kernel_rfl) rfl #[.slice (some ⟨w.heap.size, 2, none⟩) (m - 2) (m - 2), .string semi] (by rfl) rfl rfl (by simp [Act.eval, Act.put, semi]) ?_
       refine (hJ (World.drew _) ⟨rfl, rfl, rfl, Nat.le_refl _, fun _ _ => rfl⟩).mono ?_
       rintro e w2 ⟨rfl, hb2⟩
       have A10 := Aside0.mk hb2
       clear hb2
       refine ⟨_, rfl, ?_⟩)
    | (skip; refine step_append_grows rfl (.tmp 33) (.tmp 39) 47 rfl 9 i0 _ 1 16 Tryz.underlying47 A1.out A2.out A3.out A4.out rfl (by decide) (some ⟨w.heap.size, 0, none⟩) 2 2 [.string x0, .string x1] (by simp [Act.eval, Act.put]) (fun h => by cases h) rfl (cm_holds_ A5.out A6.out A7.out A10.out) ⟨w2.heap.size, 0, none⟩ 1 1 [.string T] (by simp [Act.eval, Act.put]) rfl (cm_news_ _ _) (by simp [Value.oneCell']) (by decide) (by decide) (by decide) ?_
       intro v' w' hown hgrow
       obtain ⟨g3, cap3, rfl⟩ := Joins.ownsRow_form hown (by decide)
       have A11 := Aside0.mk hown
       have A12 := Aside0.mk hgrow
       have hc3 := cm_own_at3 hown
       clear hown hgrow)
    | fail)
  cases b with
  | true =>
    go_wp2_with (first | (go_at_call 32; refine (hC _ (cm_gl_ A9.out A10.out A12.out)).mono ?_; rintro e w3 ⟨rfl, n3, rfl⟩))
    first | go_ret2 | go_ret
    exact ⟨rfl, cm_below_ A7.out A8.out A10.out A12.out n3⟩
  | false =>
    go_wp2_with (first | (go_at_call 32; refine (hC _ (cm_gl_ A9.out A10.out A12.out)).mono ?_; rintro e w3 ⟨rfl, n3, rfl⟩))
    first | go_ret2 | go_ret
    exact ⟨⟨_, rfl, own_weaken (cm_own_drewN A11.out _) (Nat.le_trans (Nat.le_trans A8.out A10.out.size) (by simp))⟩, cm_below_ A7.out A8.out A10.out A12.out n3⟩
end Go.Proofs.YtdakfmldbddokaaGreatDoor.P

/- The contract of command.parts, in the print's form. -/
set_option linter.unusedVariables false
set_option linter.unusedSimpArgs false
namespace Go.Proofs.YtdakfmldbddokaaGreatDoor.P
open Go Go.RowKit Go.Proofs.YtdakfmldbddokaaGreatDoorW.PrintWords Go.Proofs.YtdakfmldbddokaaGreatDoorW.PrintLast Go.Proofs.YtdakfmldbddokaaGreatDoorW.PrintMore
/-- Where the whole numbers of a row lie. -/
theorem cm_row_at_int {w : World} {A0 : Option Addr} {l0 : List Int} (hr0 : (Kd.int .i64).C w A0 l0.length l0) (hne : 0 < l0.length) :
    ∃ bk o, A0 = some ⟨bk, o, none⟩ ∧ bk < w.heap.size ∧ ∀ (j : Nat), j < l0.length → w.cell? ⟨bk, o + j, none⟩ = some (.int .i64 (l0.getD j 0)) := by
  obtain ⟨_, _, hh⟩ := Kd.reads_of_C (d := (0 : Int)) hr0
  obtain ⟨ad, rfl, hc⟩ := hh hne
  obtain ⟨bk, o, sp⟩ := ad
  have h0 := hc 0 hne
  have hsp : sp = none := by
    cases sp with
    | none => rfl
    | some q =>
      unfold World.cell? at h0
      split at h0
      · simp [Addr.add] at h0
      · cases h0
  subst hsp
  have hcell : ∀ (j : Nat), j < l0.length → w.cell? ⟨bk, o + j, none⟩ = some (.int .i64 (l0.getD j 0)) := fun j hj => by
    have h4 := hc j hj
    by_cases hj0 : j = 0
    · subst hj0; simpa [Addr.add] using h4
    · simpa [Addr.add, hj0] using h4
  refine ⟨bk, o, rfl, ?_, hcell⟩
  have h5 := hcell 0 hne
  unfold World.cell? at h5
  split at h5
  · rename_i hb; exact (Array.getElem?_eq_some_iff.1 hb).1
  · cases h5
theorem cm_R_of_alloc (w : World) (L : List ByteArray) (hL : L.length ≤ 100000) (hp : 0 < L.length) : Kd.R Kd.string 9 (w.alloc (.cells (L.map Value.string).toArray 9)) w.heap.size (fun _ => True) (.slice (some ⟨w.heap.size, 0, none⟩) L.length L.length) L := by
  refine Kd.R_of_own (enc := Value.string) ⟨by simp [encs], .inr ⟨w.heap.size, L.length, _, rfl, Nat.le_refl _, heap_alloc_new w _, Nat.le_refl _, by unfold maxLen; omega, by simp, ?_⟩⟩ (fun _ _ => trivial)
  simp only [encs]
  exact List.take_of_length_le (by simp)
theorem cm_parts_len (s : ByteArray) (hs : s.size ≤ 4096) : (parts s semi).length ≤ 4097 := by
  have h1 : (parts s semi).length = Lib.countB s semi + 1 := Lib.splitB_all semi (by decide) 0 _ s rfl
  have h2 := Lib.countB_le semi (by decide) s.size s (Nat.le_refl _)
  omega
theorem cm_three (L : List ByteArray) (h : 2 < L.length) : L.take 2 = [L.getD 0 ByteArray.empty, L.getD 1 ByteArray.empty] := by
  match L, h with
  | a :: b :: c :: r, _ => rfl
set_option maxRecDepth 100000 in
set_option maxHeartbeats 4000000 in
theorem cPa.calls (a0 : ByteArray) (a1 : Bool) (A2 : Option Addr) (c2 : Nat) (l2 : List Int) (r1 : List ByteArray) (r2 : Option Int) (w : World) (hr2 : (Kd.int .i64).C w A2 l2.length l2) (hc2 : l2.length ≤ c2) (h : cPa.f a0 a1 l2 = some (r1, r2)) (hG : GL w) :
    Calls Tryz.prog 22 #[.string a0, .bool a1, .slice A2 l2.length c2] w fun e w' => ∃ v0_, e = .returned (.tuple #[v0_, errW r2]) ∧ Kd.R Kd.string 9 w' w.heap.size (fun _ => True) v0_ r1 ∧ Below w.heap.size w w' := by
  unfold cPa.f at h
  split at h
  case isFalse => cases h
  case isTrue hd =>
    obtain ⟨d1, d2, d3, d4, d5⟩ := hd
    have h := Option.some.inj h
    unfold partsOf at h
    cases a1 with
    | false =>
      rw [if_pos (by simp [fieldRow]; omega)] at h
      obtain ⟨rfl, rfl⟩ := Prod.mk.inj h
      refine (parts_none a0 A2 c2 l2.length w d2 d3).mono ?_
      rintro e w' ⟨rfl, hb⟩
      exact ⟨_, rfl, Kd.R_nil _ _ _ _ _, hb⟩
    | true =>
      have hf : fieldRow a0 true = parts a0 semi := rfl
      rw [hf] at h d5
      have hm := cm_parts_len a0 d1
      have hs := split_walk a0 semi (by omega) (by decide) w hG
      have hbel : Below w.heap.size w (w.alloc (.cells ((parts a0 semi).map Value.string).toArray 9)) := (Below.refl _ _).alloc (Nat.le_refl _) _
      by_cases g1 : (parts a0 semi).length < l2.length
      · rw [if_pos g1] at h
        obtain ⟨rfl, rfl⟩ := Prod.mk.inj h
        refine (parts_few a0 A2 c2 l2.length _ w (hs.mono (by rintro e w' ⟨rfl, rfl⟩; exact ⟨rfl, hbel⟩)) g1).mono ?_
        rintro e w' ⟨rfl, hb⟩
        exact ⟨_, rfl, Kd.R_nil _ _ _ _ _, hb⟩
      · rw [if_neg g1] at h
        obtain ⟨g, o, rfl, hlt, hcell⟩ := cm_row_at_int hr2 (by omega)
        have hlast := (hbel.cell (p := ⟨g, o + (l2.length - 1), none⟩) hlt).trans (hcell (l2.length - 1) (by omega))
        have hR := cm_R_of_alloc w (parts a0 semi) (by omega) (by omega)
        by_cases g2 : l2.getD (l2.length - 1) 0 = 9
        · rw [if_pos g2] at h
          have g3 := d4 g2
          rw [g2, g3] at hlast
          have hC := (Kd.R_reads' hR).2.2
          have hc0 : ∀ j, j < (parts a0 semi).length → (w.alloc (.cells ((parts a0 semi).map Value.string).toArray 9)).cell? ⟨w.heap.size, j, none⟩ = some (.string ((parts a0 semi).getD j ByteArray.empty)) := fun j hj => by
            obtain ⟨_, _, hh⟩ := Kd.reads_of_C (d := ByteArray.empty) hC
            obtain ⟨ad, e1, hc⟩ := hh (by omega)
            obtain rfl := Option.some.inj e1
            have h4 := hc j hj
            by_cases hj0 : j = 0
            · subst hj0; simpa [Addr.add] using h4
            · simpa [Addr.add, hj0] using h4
          rw [g3] at h g1 d5
          have hT : stJ.f ((parts a0 semi).drop 2) semi = some (lastText (parts a0 semi) 3) := by
            unfold stJ.f
            rw [if_pos]
            · rfl
            · refine ⟨by simp; omega, ?_⟩
              have : (lastText (parts a0 semi) 3).size = (Lib.join (((parts a0 semi).drop 2).map (·.data.toList)) semi.data.toList).length := by
                simp [lastText, ByteArray.size, semi]
              omega
          have hCt : stC.f (lastText (parts a0 semi) 3) ⟨#[10]⟩ = some (Lib.contains (lastText (parts a0 semi) 3).data.toList [10]) := by
            unfold stC.f
            rw [if_pos (by omega)]
          have hdl : ((parts a0 semi).drop 2).length = (parts a0 semi).length - 2 := by simp
          rw [g3]
          refine (parts_text a0 g o c2 (parts a0 semi).length w _ hs hbel hbel.size hlast (by omega) (by omega) _ _ (lastText (parts a0 semi) 3) (hc0 0 (by omega)) (hc0 1 (by omega)) (hG.below hbel) (fun W hW => ?_) _ (fun W hW => stC.calls _ _ _ W hCt hW)).mono ?_
          · have hCd := Kd.C_drop (m := 2) (c := (parts a0 semi).length) (Kd.C_below hC hW) (by omega) (Nat.le_refl _)
            rw [if_neg (by omega)] at hCd
            have := stJ.calls _ ((parts a0 semi).length - 2) _ _ _ W hCd (by omega) hT
            rw [hdl] at this
            exact this
          · rintro e w' ⟨h1 | h1, hb⟩
            · obtain ⟨hb1, rfl⟩ := h1
              rw [if_pos hb1] at h
              obtain ⟨rfl, rfl⟩ := Prod.mk.inj h
              exact ⟨_, rfl, Kd.R_nil _ _ _ _ _, hb⟩
            · obtain ⟨hb1, v, rfl, hown⟩ := h1
              rw [if_neg (by rw [hb1]; simp)] at h
              obtain ⟨rfl, rfl⟩ := Prod.mk.inj h
              refine ⟨_, rfl, ?_, hb⟩
              rw [cm_three _ (by omega)]
              exact Kd.R_of_own (enc := Value.string) hown (fun _ _ => trivial)
        · rw [if_neg g2] at h
          refine (parts_plain a0 g o c2 _ l2.length (parts a0 semi).length w _ hs hlast d2 d3 g1 g2 (by omega)).mono ?_
          rintro e w' ⟨h1, rfl⟩
          rcases h1 with ⟨h1, rfl⟩ | ⟨h1, rfl⟩
          · rw [if_pos h1] at h
            obtain ⟨rfl, rfl⟩ := Prod.mk.inj h
            exact ⟨_, rfl, Kd.R_nil _ _ _ _ _, hbel⟩
          · rw [if_neg h1] at h
            obtain ⟨rfl, rfl⟩ := Prod.mk.inj h
            exact ⟨_, rfl, hR, hbel⟩
end Go.Proofs.YtdakfmldbddokaaGreatDoor.P
