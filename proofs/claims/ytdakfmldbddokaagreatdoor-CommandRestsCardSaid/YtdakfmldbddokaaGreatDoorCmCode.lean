/- The contract of command.code: the number of a code's word; 0, if it is none. -/
import Derived.Test.YtdakfmldbddokaaGreatDoorPx0
import Derived.Test.YtdakfmldbddokaaGreatDoorGl
set_option linter.unusedVariables false
set_option linter.unusedSimpArgs false
namespace Go.Proofs.YtdakfmldbddokaaGreatDoor.P
open Go Go.RowKit Go.Proofs.YtdakfmldbddokaaGreatDoorW.PrintWords Go.Proofs.YtdakfmldbddokaaGreatDoorW.PrintLast Go.Proofs.YtdakfmldbddokaaGreatDoorW.PrintMore
def wordList : List ByteArray := [⟨#[]⟩, ⟨#[100, 111, 119, 110]⟩, ⟨#[117, 110, 100, 111, 119, 110]⟩, ⟨#[97, 99, 107]⟩, ⟨#[117, 110, 97, 99, 107]⟩, ⟨#[101, 110, 97, 98, 108, 101]⟩, ⟨#[100, 105, 115, 97, 98, 108, 101]⟩, ⟨#[99, 104, 101, 99, 107]⟩, ⟨#[114, 101, 115, 117, 108, 116]⟩, ⟨#[116, 101, 108, 108]⟩]
/-- The first place, from the k-th on, that holds the word. -/
def codeFrom (a0 : ByteArray) (k : Nat) : Nat := if k < 10 then (if 0 < k ∧ (wordList.getD k ByteArray.empty) = a0 then k else codeFrom a0 (k + 1)) else 0
termination_by 10 - k
def command_code.f (a0 : ByteArray) : Option Int := some (codeFrom a0 0 : Nat)
theorem str_info : ∃ i, Tryz.prog.info? 9 = some i ∧ i.size = 1 := by
  have h := info9
  obtain ⟨i, hi, e⟩ := Option.map_eq_some_iff.1 h
  exact ⟨i, hi, by simp only [Prod.mk.injEq] at e; exact e.2.1⟩
theorem idx_0 (W : World) : (Instr.index 46 (.agg #[.string ⟨#[]⟩, .string ⟨#[100, 111, 119, 110]⟩, .string ⟨#[117, 110, 100, 111, 119, 110]⟩, .string ⟨#[97, 99, 107]⟩, .string ⟨#[117, 110, 97, 99, 107]⟩, .string ⟨#[101, 110, 97, 98, 108, 101]⟩, .string ⟨#[100, 105, 115, 97, 98, 108, 101]⟩, .string ⟨#[99, 104, 101, 99, 107]⟩, .string ⟨#[114, 101, 115, 117, 108, 116]⟩, .string ⟨#[116, 101, 108, 108]⟩]) (.int .i64 0)).run Tryz.prog W = .ok (.string ⟨#[]⟩) W := by
  obtain ⟨i, hi, h1⟩ := str_info
  simp [Instr.index, run_underlying Tryz.underlying46, asIntOf, part, sizeOf, typeInfo, hi, h1, go_sem]
theorem idx_1 (W : World) : (Instr.index 46 (.agg #[.string ⟨#[]⟩, .string ⟨#[100, 111, 119, 110]⟩, .string ⟨#[117, 110, 100, 111, 119, 110]⟩, .string ⟨#[97, 99, 107]⟩, .string ⟨#[117, 110, 97, 99, 107]⟩, .string ⟨#[101, 110, 97, 98, 108, 101]⟩, .string ⟨#[100, 105, 115, 97, 98, 108, 101]⟩, .string ⟨#[99, 104, 101, 99, 107]⟩, .string ⟨#[114, 101, 115, 117, 108, 116]⟩, .string ⟨#[116, 101, 108, 108]⟩]) (.int .i64 1)).run Tryz.prog W = .ok (.string ⟨#[100, 111, 119, 110]⟩) W := by
  obtain ⟨i, hi, h1⟩ := str_info
  simp [Instr.index, run_underlying Tryz.underlying46, asIntOf, part, sizeOf, typeInfo, hi, h1, go_sem]
theorem idx_2 (W : World) : (Instr.index 46 (.agg #[.string ⟨#[]⟩, .string ⟨#[100, 111, 119, 110]⟩, .string ⟨#[117, 110, 100, 111, 119, 110]⟩, .string ⟨#[97, 99, 107]⟩, .string ⟨#[117, 110, 97, 99, 107]⟩, .string ⟨#[101, 110, 97, 98, 108, 101]⟩, .string ⟨#[100, 105, 115, 97, 98, 108, 101]⟩, .string ⟨#[99, 104, 101, 99, 107]⟩, .string ⟨#[114, 101, 115, 117, 108, 116]⟩, .string ⟨#[116, 101, 108, 108]⟩]) (.int .i64 2)).run Tryz.prog W = .ok (.string ⟨#[117, 110, 100, 111, 119, 110]⟩) W := by
  obtain ⟨i, hi, h1⟩ := str_info
  simp [Instr.index, run_underlying Tryz.underlying46, asIntOf, part, sizeOf, typeInfo, hi, h1, go_sem]
theorem idx_3 (W : World) : (Instr.index 46 (.agg #[.string ⟨#[]⟩, .string ⟨#[100, 111, 119, 110]⟩, .string ⟨#[117, 110, 100, 111, 119, 110]⟩, .string ⟨#[97, 99, 107]⟩, .string ⟨#[117, 110, 97, 99, 107]⟩, .string ⟨#[101, 110, 97, 98, 108, 101]⟩, .string ⟨#[100, 105, 115, 97, 98, 108, 101]⟩, .string ⟨#[99, 104, 101, 99, 107]⟩, .string ⟨#[114, 101, 115, 117, 108, 116]⟩, .string ⟨#[116, 101, 108, 108]⟩]) (.int .i64 3)).run Tryz.prog W = .ok (.string ⟨#[97, 99, 107]⟩) W := by
  obtain ⟨i, hi, h1⟩ := str_info
  simp [Instr.index, run_underlying Tryz.underlying46, asIntOf, part, sizeOf, typeInfo, hi, h1, go_sem]
theorem idx_4 (W : World) : (Instr.index 46 (.agg #[.string ⟨#[]⟩, .string ⟨#[100, 111, 119, 110]⟩, .string ⟨#[117, 110, 100, 111, 119, 110]⟩, .string ⟨#[97, 99, 107]⟩, .string ⟨#[117, 110, 97, 99, 107]⟩, .string ⟨#[101, 110, 97, 98, 108, 101]⟩, .string ⟨#[100, 105, 115, 97, 98, 108, 101]⟩, .string ⟨#[99, 104, 101, 99, 107]⟩, .string ⟨#[114, 101, 115, 117, 108, 116]⟩, .string ⟨#[116, 101, 108, 108]⟩]) (.int .i64 4)).run Tryz.prog W = .ok (.string ⟨#[117, 110, 97, 99, 107]⟩) W := by
  obtain ⟨i, hi, h1⟩ := str_info
  simp [Instr.index, run_underlying Tryz.underlying46, asIntOf, part, sizeOf, typeInfo, hi, h1, go_sem]
theorem idx_5 (W : World) : (Instr.index 46 (.agg #[.string ⟨#[]⟩, .string ⟨#[100, 111, 119, 110]⟩, .string ⟨#[117, 110, 100, 111, 119, 110]⟩, .string ⟨#[97, 99, 107]⟩, .string ⟨#[117, 110, 97, 99, 107]⟩, .string ⟨#[101, 110, 97, 98, 108, 101]⟩, .string ⟨#[100, 105, 115, 97, 98, 108, 101]⟩, .string ⟨#[99, 104, 101, 99, 107]⟩, .string ⟨#[114, 101, 115, 117, 108, 116]⟩, .string ⟨#[116, 101, 108, 108]⟩]) (.int .i64 5)).run Tryz.prog W = .ok (.string ⟨#[101, 110, 97, 98, 108, 101]⟩) W := by
  obtain ⟨i, hi, h1⟩ := str_info
  simp [Instr.index, run_underlying Tryz.underlying46, asIntOf, part, sizeOf, typeInfo, hi, h1, go_sem]
theorem idx_6 (W : World) : (Instr.index 46 (.agg #[.string ⟨#[]⟩, .string ⟨#[100, 111, 119, 110]⟩, .string ⟨#[117, 110, 100, 111, 119, 110]⟩, .string ⟨#[97, 99, 107]⟩, .string ⟨#[117, 110, 97, 99, 107]⟩, .string ⟨#[101, 110, 97, 98, 108, 101]⟩, .string ⟨#[100, 105, 115, 97, 98, 108, 101]⟩, .string ⟨#[99, 104, 101, 99, 107]⟩, .string ⟨#[114, 101, 115, 117, 108, 116]⟩, .string ⟨#[116, 101, 108, 108]⟩]) (.int .i64 6)).run Tryz.prog W = .ok (.string ⟨#[100, 105, 115, 97, 98, 108, 101]⟩) W := by
  obtain ⟨i, hi, h1⟩ := str_info
  simp [Instr.index, run_underlying Tryz.underlying46, asIntOf, part, sizeOf, typeInfo, hi, h1, go_sem]
theorem idx_7 (W : World) : (Instr.index 46 (.agg #[.string ⟨#[]⟩, .string ⟨#[100, 111, 119, 110]⟩, .string ⟨#[117, 110, 100, 111, 119, 110]⟩, .string ⟨#[97, 99, 107]⟩, .string ⟨#[117, 110, 97, 99, 107]⟩, .string ⟨#[101, 110, 97, 98, 108, 101]⟩, .string ⟨#[100, 105, 115, 97, 98, 108, 101]⟩, .string ⟨#[99, 104, 101, 99, 107]⟩, .string ⟨#[114, 101, 115, 117, 108, 116]⟩, .string ⟨#[116, 101, 108, 108]⟩]) (.int .i64 7)).run Tryz.prog W = .ok (.string ⟨#[99, 104, 101, 99, 107]⟩) W := by
  obtain ⟨i, hi, h1⟩ := str_info
  simp [Instr.index, run_underlying Tryz.underlying46, asIntOf, part, sizeOf, typeInfo, hi, h1, go_sem]
theorem idx_8 (W : World) : (Instr.index 46 (.agg #[.string ⟨#[]⟩, .string ⟨#[100, 111, 119, 110]⟩, .string ⟨#[117, 110, 100, 111, 119, 110]⟩, .string ⟨#[97, 99, 107]⟩, .string ⟨#[117, 110, 97, 99, 107]⟩, .string ⟨#[101, 110, 97, 98, 108, 101]⟩, .string ⟨#[100, 105, 115, 97, 98, 108, 101]⟩, .string ⟨#[99, 104, 101, 99, 107]⟩, .string ⟨#[114, 101, 115, 117, 108, 116]⟩, .string ⟨#[116, 101, 108, 108]⟩]) (.int .i64 8)).run Tryz.prog W = .ok (.string ⟨#[114, 101, 115, 117, 108, 116]⟩) W := by
  obtain ⟨i, hi, h1⟩ := str_info
  simp [Instr.index, run_underlying Tryz.underlying46, asIntOf, part, sizeOf, typeInfo, hi, h1, go_sem]
theorem idx_9 (W : World) : (Instr.index 46 (.agg #[.string ⟨#[]⟩, .string ⟨#[100, 111, 119, 110]⟩, .string ⟨#[117, 110, 100, 111, 119, 110]⟩, .string ⟨#[97, 99, 107]⟩, .string ⟨#[117, 110, 97, 99, 107]⟩, .string ⟨#[101, 110, 97, 98, 108, 101]⟩, .string ⟨#[100, 105, 115, 97, 98, 108, 101]⟩, .string ⟨#[99, 104, 101, 99, 107]⟩, .string ⟨#[114, 101, 115, 117, 108, 116]⟩, .string ⟨#[116, 101, 108, 108]⟩]) (.int .i64 9)).run Tryz.prog W = .ok (.string ⟨#[116, 101, 108, 108]⟩) W := by
  obtain ⟨i, hi, h1⟩ := str_info
  simp [Instr.index, run_underlying Tryz.underlying46, asIntOf, part, sizeOf, typeInfo, hi, h1, go_sem]
theorem same_l (l : List UInt8) (a : ByteArray) : (⟨l.toArray⟩ : ByteArray) = a ↔ l = a.toList := by
  rw [ByteArray.toList_eq]
  constructor
  · intro h; rw [← h]
  · intro h; exact ByteArray.ext (by rw [h])
set_option maxRecDepth 100000 in
set_option maxHeartbeats 4000000 in
theorem command_code.calls (a0 : ByteArray) (r : Int) (w : World) (h : command_code.f a0 = some r) (hG : GL w) :
    Calls Tryz.prog 21 #[.string a0] w fun e w' => e = .returned (.int .i64 r) ∧ Drawn0 w w' := by
  obtain rfl := Option.some.inj h
  obtain ⟨T, fr, hW⟩ := hG.words
  unfold wordCells at hW
  have w0 : w.cell? ⟨0, 0, none⟩ = some (.string ⟨#[]⟩) := by simp [World.cell?, hW]
  have w1 : w.cell? ⟨0, 1, none⟩ = some (.string ⟨#[100, 111, 119, 110]⟩) := by simp [World.cell?, hW]
  have w2 : w.cell? ⟨0, 2, none⟩ = some (.string ⟨#[117, 110, 100, 111, 119, 110]⟩) := by simp [World.cell?, hW]
  have w3 : w.cell? ⟨0, 3, none⟩ = some (.string ⟨#[97, 99, 107]⟩) := by simp [World.cell?, hW]
  have w4 : w.cell? ⟨0, 4, none⟩ = some (.string ⟨#[117, 110, 97, 99, 107]⟩) := by simp [World.cell?, hW]
  have w5 : w.cell? ⟨0, 5, none⟩ = some (.string ⟨#[101, 110, 97, 98, 108, 101]⟩) := by simp [World.cell?, hW]
  have w6 : w.cell? ⟨0, 6, none⟩ = some (.string ⟨#[100, 105, 115, 97, 98, 108, 101]⟩) := by simp [World.cell?, hW]
  have w7 : w.cell? ⟨0, 7, none⟩ = some (.string ⟨#[99, 104, 101, 99, 107]⟩) := by simp [World.cell?, hW]
  have w8 : w.cell? ⟨0, 8, none⟩ = some (.string ⟨#[114, 101, 115, 117, 108, 116]⟩) := by simp [World.cell?, hW]
  have w9 : w.cell? ⟨0, 9, none⟩ = some (.string ⟨#[116, 101, 108, 108]⟩) := by simp [World.cell?, hW]
  have HR : ∃ R : Nat, R = codeFrom a0 0 := ⟨_, rfl⟩
  obtain ⟨R, hR⟩ := HR
  rw [← hR]
  have HR := Aside0.mk hR
  clear h hG hW hR
  go_enter Tryz.func21, Tryz.ntmps21
  go_wp2
  go_loopg [6] 10 (fun kq s6 wr => ∃ (k : Nat) (z : Int), s6 = .int .i64 z ∧ z = (k : Int) ∧ k + kq = 10 ∧ Aside0 (codeFrom a0 k = R) ∧ Aside0 (Drawn0 w wr))
  case atStart => exact ⟨0, 0, rfl, rfl, rfl, ⟨HR.out.symm⟩, ⟨(by first | exact ⟨0, rfl⟩ | exact Drawn0.refl _)⟩⟩
  case round =>
    obtain ⟨k, z, rfl, hz, hk, hC, hw⟩ := hrel
    have hk10 : k = 0 ∨ k = 1 ∨ k = 2 ∨ k = 3 ∨ k = 4 ∨ k = 5 ∨ k = 6 ∨ k = 7 ∨ k = 8 ∨ k = 9 ∨ k = 10 := by omega
    rcases hk10 with rfl | rfl | rfl | rfl | rfl | rfl | rfl | rfl | rfl | rfl | rfl
    · obtain rfl : z = 0 := hz
      have hix := idx_0
      by_cases hq : ([] : List UInt8) = a0.toList
      · have hqb : (([] : List UInt8) == a0.toList) = true := beq_iff_eq.2 hq
        have HQ := Aside0.mk ((same_l _ a0).2 hq)
        clear hq
        go_wp2
        go_roundg 9
        case measure => omega
        case rel => exact ⟨1, 1, rfl, rfl, by omega, ⟨by have := hC.out; rw [codeFrom, if_pos (by decide), if_neg (by simp)] at this; exact this⟩, hw⟩
      · have hqb : (([] : List UInt8) == a0.toList) = false := beq_eq_false_iff_ne.2 hq
        have HQ := Aside0.mk (fun e => hq ((same_l _ a0).1 e))
        clear hq
        go_wp2
        go_roundg 9
        case measure => omega
        case rel => exact ⟨1, 1, rfl, rfl, by omega, ⟨by have := hC.out; rw [codeFrom, if_pos (by decide), if_neg (fun q => HQ.out q.2)] at this; exact this⟩, hw⟩
    · obtain rfl : z = 1 := hz
      have hix := idx_1
      by_cases hq : ([100, 111, 119, 110] : List UInt8) = a0.toList
      · have hqb : (([100, 111, 119, 110] : List UInt8) == a0.toList) = true := beq_iff_eq.2 hq
        have HQ := Aside0.mk ((same_l _ a0).2 hq)
        clear hq
        go_wp2
        (try simp only [Exit.inBlock, Exit.then]); go_ret
        refine ⟨?_, hw.out⟩
        have := hC.out
        rw [codeFrom, if_pos (by decide), if_pos ⟨by decide, HQ.out⟩] at this
        rw [← this]
        rfl
      · have hqb : (([100, 111, 119, 110] : List UInt8) == a0.toList) = false := beq_eq_false_iff_ne.2 hq
        have HQ := Aside0.mk (fun e => hq ((same_l _ a0).1 e))
        clear hq
        go_wp2
        go_roundg 8
        case measure => omega
        case rel => exact ⟨2, 2, rfl, rfl, by omega, ⟨by have := hC.out; rw [codeFrom, if_pos (by decide), if_neg (fun q => HQ.out q.2)] at this; exact this⟩, hw⟩
    · obtain rfl : z = 2 := hz
      have hix := idx_2
      by_cases hq : ([117, 110, 100, 111, 119, 110] : List UInt8) = a0.toList
      · have hqb : (([117, 110, 100, 111, 119, 110] : List UInt8) == a0.toList) = true := beq_iff_eq.2 hq
        have HQ := Aside0.mk ((same_l _ a0).2 hq)
        clear hq
        go_wp2
        (try simp only [Exit.inBlock, Exit.then]); go_ret
        refine ⟨?_, hw.out⟩
        have := hC.out
        rw [codeFrom, if_pos (by decide), if_pos ⟨by decide, HQ.out⟩] at this
        rw [← this]
        rfl
      · have hqb : (([117, 110, 100, 111, 119, 110] : List UInt8) == a0.toList) = false := beq_eq_false_iff_ne.2 hq
        have HQ := Aside0.mk (fun e => hq ((same_l _ a0).1 e))
        clear hq
        go_wp2
        go_roundg 7
        case measure => omega
        case rel => exact ⟨3, 3, rfl, rfl, by omega, ⟨by have := hC.out; rw [codeFrom, if_pos (by decide), if_neg (fun q => HQ.out q.2)] at this; exact this⟩, hw⟩
    · obtain rfl : z = 3 := hz
      have hix := idx_3
      by_cases hq : ([97, 99, 107] : List UInt8) = a0.toList
      · have hqb : (([97, 99, 107] : List UInt8) == a0.toList) = true := beq_iff_eq.2 hq
        have HQ := Aside0.mk ((same_l _ a0).2 hq)
        clear hq
        go_wp2
        (try simp only [Exit.inBlock, Exit.then]); go_ret
        refine ⟨?_, hw.out⟩
        have := hC.out
        rw [codeFrom, if_pos (by decide), if_pos ⟨by decide, HQ.out⟩] at this
        rw [← this]
        rfl
      · have hqb : (([97, 99, 107] : List UInt8) == a0.toList) = false := beq_eq_false_iff_ne.2 hq
        have HQ := Aside0.mk (fun e => hq ((same_l _ a0).1 e))
        clear hq
        go_wp2
        go_roundg 6
        case measure => omega
        case rel => exact ⟨4, 4, rfl, rfl, by omega, ⟨by have := hC.out; rw [codeFrom, if_pos (by decide), if_neg (fun q => HQ.out q.2)] at this; exact this⟩, hw⟩
    · obtain rfl : z = 4 := hz
      have hix := idx_4
      by_cases hq : ([117, 110, 97, 99, 107] : List UInt8) = a0.toList
      · have hqb : (([117, 110, 97, 99, 107] : List UInt8) == a0.toList) = true := beq_iff_eq.2 hq
        have HQ := Aside0.mk ((same_l _ a0).2 hq)
        clear hq
        go_wp2
        (try simp only [Exit.inBlock, Exit.then]); go_ret
        refine ⟨?_, hw.out⟩
        have := hC.out
        rw [codeFrom, if_pos (by decide), if_pos ⟨by decide, HQ.out⟩] at this
        rw [← this]
        rfl
      · have hqb : (([117, 110, 97, 99, 107] : List UInt8) == a0.toList) = false := beq_eq_false_iff_ne.2 hq
        have HQ := Aside0.mk (fun e => hq ((same_l _ a0).1 e))
        clear hq
        go_wp2
        go_roundg 5
        case measure => omega
        case rel => exact ⟨5, 5, rfl, rfl, by omega, ⟨by have := hC.out; rw [codeFrom, if_pos (by decide), if_neg (fun q => HQ.out q.2)] at this; exact this⟩, hw⟩
    · obtain rfl : z = 5 := hz
      have hix := idx_5
      by_cases hq : ([101, 110, 97, 98, 108, 101] : List UInt8) = a0.toList
      · have hqb : (([101, 110, 97, 98, 108, 101] : List UInt8) == a0.toList) = true := beq_iff_eq.2 hq
        have HQ := Aside0.mk ((same_l _ a0).2 hq)
        clear hq
        go_wp2
        (try simp only [Exit.inBlock, Exit.then]); go_ret
        refine ⟨?_, hw.out⟩
        have := hC.out
        rw [codeFrom, if_pos (by decide), if_pos ⟨by decide, HQ.out⟩] at this
        rw [← this]
        rfl
      · have hqb : (([101, 110, 97, 98, 108, 101] : List UInt8) == a0.toList) = false := beq_eq_false_iff_ne.2 hq
        have HQ := Aside0.mk (fun e => hq ((same_l _ a0).1 e))
        clear hq
        go_wp2
        go_roundg 4
        case measure => omega
        case rel => exact ⟨6, 6, rfl, rfl, by omega, ⟨by have := hC.out; rw [codeFrom, if_pos (by decide), if_neg (fun q => HQ.out q.2)] at this; exact this⟩, hw⟩
    · obtain rfl : z = 6 := hz
      have hix := idx_6
      by_cases hq : ([100, 105, 115, 97, 98, 108, 101] : List UInt8) = a0.toList
      · have hqb : (([100, 105, 115, 97, 98, 108, 101] : List UInt8) == a0.toList) = true := beq_iff_eq.2 hq
        have HQ := Aside0.mk ((same_l _ a0).2 hq)
        clear hq
        go_wp2
        (try simp only [Exit.inBlock, Exit.then]); go_ret
        refine ⟨?_, hw.out⟩
        have := hC.out
        rw [codeFrom, if_pos (by decide), if_pos ⟨by decide, HQ.out⟩] at this
        rw [← this]
        rfl
      · have hqb : (([100, 105, 115, 97, 98, 108, 101] : List UInt8) == a0.toList) = false := beq_eq_false_iff_ne.2 hq
        have HQ := Aside0.mk (fun e => hq ((same_l _ a0).1 e))
        clear hq
        go_wp2
        go_roundg 3
        case measure => omega
        case rel => exact ⟨7, 7, rfl, rfl, by omega, ⟨by have := hC.out; rw [codeFrom, if_pos (by decide), if_neg (fun q => HQ.out q.2)] at this; exact this⟩, hw⟩
    · obtain rfl : z = 7 := hz
      have hix := idx_7
      by_cases hq : ([99, 104, 101, 99, 107] : List UInt8) = a0.toList
      · have hqb : (([99, 104, 101, 99, 107] : List UInt8) == a0.toList) = true := beq_iff_eq.2 hq
        have HQ := Aside0.mk ((same_l _ a0).2 hq)
        clear hq
        go_wp2
        (try simp only [Exit.inBlock, Exit.then]); go_ret
        refine ⟨?_, hw.out⟩
        have := hC.out
        rw [codeFrom, if_pos (by decide), if_pos ⟨by decide, HQ.out⟩] at this
        rw [← this]
        rfl
      · have hqb : (([99, 104, 101, 99, 107] : List UInt8) == a0.toList) = false := beq_eq_false_iff_ne.2 hq
        have HQ := Aside0.mk (fun e => hq ((same_l _ a0).1 e))
        clear hq
        go_wp2
        go_roundg 2
        case measure => omega
        case rel => exact ⟨8, 8, rfl, rfl, by omega, ⟨by have := hC.out; rw [codeFrom, if_pos (by decide), if_neg (fun q => HQ.out q.2)] at this; exact this⟩, hw⟩
    · obtain rfl : z = 8 := hz
      have hix := idx_8
      by_cases hq : ([114, 101, 115, 117, 108, 116] : List UInt8) = a0.toList
      · have hqb : (([114, 101, 115, 117, 108, 116] : List UInt8) == a0.toList) = true := beq_iff_eq.2 hq
        have HQ := Aside0.mk ((same_l _ a0).2 hq)
        clear hq
        go_wp2
        (try simp only [Exit.inBlock, Exit.then]); go_ret
        refine ⟨?_, hw.out⟩
        have := hC.out
        rw [codeFrom, if_pos (by decide), if_pos ⟨by decide, HQ.out⟩] at this
        rw [← this]
        rfl
      · have hqb : (([114, 101, 115, 117, 108, 116] : List UInt8) == a0.toList) = false := beq_eq_false_iff_ne.2 hq
        have HQ := Aside0.mk (fun e => hq ((same_l _ a0).1 e))
        clear hq
        go_wp2
        go_roundg 1
        case measure => omega
        case rel => exact ⟨9, 9, rfl, rfl, by omega, ⟨by have := hC.out; rw [codeFrom, if_pos (by decide), if_neg (fun q => HQ.out q.2)] at this; exact this⟩, hw⟩
    · obtain rfl : z = 9 := hz
      have hix := idx_9
      by_cases hq : ([116, 101, 108, 108] : List UInt8) = a0.toList
      · have hqb : (([116, 101, 108, 108] : List UInt8) == a0.toList) = true := beq_iff_eq.2 hq
        have HQ := Aside0.mk ((same_l _ a0).2 hq)
        clear hq
        go_wp2
        (try simp only [Exit.inBlock, Exit.then]); go_ret
        refine ⟨?_, hw.out⟩
        have := hC.out
        rw [codeFrom, if_pos (by decide), if_pos ⟨by decide, HQ.out⟩] at this
        rw [← this]
        rfl
      · have hqb : (([116, 101, 108, 108] : List UInt8) == a0.toList) = false := beq_eq_false_iff_ne.2 hq
        have HQ := Aside0.mk (fun e => hq ((same_l _ a0).1 e))
        clear hq
        go_wp2
        go_roundg 0
        case measure => omega
        case rel => exact ⟨10, 10, rfl, rfl, by omega, ⟨by have := hC.out; rw [codeFrom, if_pos (by decide), if_neg (fun q => HQ.out q.2)] at this; exact this⟩, hw⟩
    · obtain rfl : z = 10 := hz
      go_wp2
      go_ret
      refine ⟨?_, hw.out⟩
      have := hC.out
      rw [codeFrom, if_neg (by decide)] at this
      rw [← this]
      rfl
end Go.Proofs.YtdakfmldbddokaaGreatDoor.P
