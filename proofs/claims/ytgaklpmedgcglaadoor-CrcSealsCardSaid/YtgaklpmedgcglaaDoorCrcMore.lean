/- The contract of crc.More, in the print's form: after the printed walk of the other writing of it; what it reads of the package's table is the premise's. -/
import Derived.Test.YtgaklpmedgcglaaDoorPx0
import Derived.Test.YtgaklpmedgcglaaDoorGl
import Derived.WalkSpells
namespace Go.Proofs.YtgaklpmedgcglaaDoor.P
open Go.RowKit Go.Proofs.YtgaklpmedgcglaaDoorW.PrintWords Go.Proofs.YtgaklpmedgcglaaDoorW.PrintLast Go.Proofs.YtgaklpmedgcglaaDoorW.PrintMore
attribute [local go_sem] max2_int min2_int max_two min_two max_three min_three max_four min_four
set_option linter.unusedVariables false
set_option linter.unusedSimpArgs false
def crc_st (i : Int) : Int := ([0, 498536548, 997073096, 651767980, 1994146192, 1802195444, 1303535960, 1342533948, 3988292384, 4027552580, 3604390888, 3412177804, 2607071920, 2262029012, 2685067896, 3183342108] : List Int).getD i.toNat 0
theorem crc_and15 (x : Int) : 0 ≤ Go.bits .and .u32 x 15 ∧ Go.bits .and .u32 x 15 < 16 := by
  have h1 : (BitVec.ofInt IntKind.u32.bits (15 : Int)).toNat = 15 := by decide
  have h2 : (BitVec.ofInt IntKind.u32.bits x &&& BitVec.ofInt IntKind.u32.bits (15 : Int)).toNat < 16 := by
    rw [BitVec.toNat_and, h1]
    exact Nat.lt_of_le_of_lt Nat.and_le_right (by decide)
  have h3 : Go.bits .and .u32 x 15 = (((BitVec.ofInt IntKind.u32.bits x &&& BitVec.ofInt IntKind.u32.bits (15 : Int)).toNat : Nat) : Int) := by
    show IntKind.u32.wrap (((BitVec.ofInt IntKind.u32.bits x &&& BitVec.ofInt IntKind.u32.bits (15 : Int)).toNat : Nat) : Int) = _
    rw [IntKind.wrap_u32]
    omega
  omega
theorem crc_cell {w : World} (h : GL w) (i : Int) (h0 : 0 ≤ i) (h1 : i < 16) : w.cell? ⟨0, i.toNat, none⟩ = some (.int .u32 (crc_st i)) := h.steps i.toNat (by omega)
mutual
def crc_MoreK.l0 : Nat → List Int → Int → Int → Option (Int)
  | 0, _, _, _ => none
  | k + 1, l1, x5, x12 => if x12 < (l1.length : Int) then (if 0 ≤ x12 then (crc_MoreK.l1 k l1 (Go.bits .xor .u32 x5 ((rd l1 x12) % 4294967296)) x12 0) else (none)) else (some (Go.bits .xor .u32 (-1) x5))
def crc_MoreK.l1 : Nat → List Int → Int → Int → Int → Option (Int)
  | 0, _, _, _, _ => none
  | k + 1, l1, x5, x12, x20 => if x20 < 2 then (crc_MoreK.l1 k l1 (Go.bits .xor .u32 (x5 / 16) (crc_st (Go.bits .and .u32 x5 15))) x12 (wrap64 (x20 + 1))) else (crc_MoreK.l0 k l1 x5 (wrap64 (x12 + 1)))
end
def crc_MoreK.f (k : Nat) (a0 : Int) (l1 : List Int) : Option (Int) := crc_MoreK.l0 k l1 (Go.bits .xor .u32 (-1) a0) 0
theorem crc_MoreK.calls (k : Nat) (a0 : Int) (A1 : Option Addr) (c1 : Nat) (l1 : List Int) (r : Int) (w : World) (hr1 : Kd.C (Kd.int .u8) w A1 l1.length l1) (hc1 : l1.length ≤ c1) (h : crc_MoreK.f k a0 l1 = some r) (hG : GL w) :
    Calls Tryd.prog 13 #[.int .u32 a0, .slice A1 l1.length c1] w fun e w' => e = .returned (.int .u32 r) ∧ Drawn0 w w' := by
  have HR1 := Aside0.mk hr1
  have HC1 := Aside0.mk hc1
  have HG := Aside0.mk hG
  clear hr1 hc1 hG
  have H : (crc_MoreK.l0 k l1 (Go.bits .xor .u32 (-1) a0) 0) = some r := h
  clear h
  have H' := Aside0.mk H
  clear H
  go_enter Tryd.func13, Tryd.ntmps13
  go_wp2
  go_loopg [5, 12] k (fun kq v5 v12 w' => ∃ (x5_1 : Int) (x12_1 : Int), v5 = .int .u32 x5_1 ∧ v12 = .int .i64 x12_1 ∧ Aside0 (crc_MoreK.l0 kq l1 x5_1 x12_1 = some r) ∧ Aside0 (kq ≤ k) ∧ Drawn0 w w')
  case atStart => exact ⟨(Go.bits .xor .u32 (-1) a0), (0), (by first | rfl | (simp; done) | (simp [*]; done)), (by first | rfl | (simp; done) | (simp [*]; done)), H', ⟨Nat.le_refl _⟩, by repeat (first | exact Drawn0.refl _ | apply Drawn0.step)⟩
  case round =>
    clear H'
    obtain ⟨x5_1, x12_1, rfl, rfl, HA, HK1, ⟨m1, rfl⟩⟩ := hrel
    cases gk with
    | zero => exact absurd HA.out (by simp [crc_MoreK.l0])
    | succ k1 =>
      have H := HA.out
      clear HA
      simp only [crc_MoreK.l0] at H
      by_cases c3 : x12_1 < (l1.length : Int)
      · rw [if_pos c3] at H
        have c3b0 : decide (x12_1 < (l1.length : Int)) = true := decide_eq_true c3
        clear c3
        by_cases c4 : 0 ≤ x12_1
        · rw [if_pos c4] at H
          have c4b0 : decide (0 ≤ x12_1) = true := decide_eq_true c4
          clear c4
          have H' := Aside0.mk H
          clear H
          have p109 : 0 ≤ (x12_1 : Int) := of_decide_eq_true (by first | (with_reducible assumption) | assumption)
          have q109 : x12_1 < (l1.length : Int) := of_decide_eq_true (by first | (with_reducible assumption) | assumption)
          obtain ⟨ad109, e109, hx109_0⟩ := Kd.at_int HR1.out x12_1 p109 q109
          cases e109
          replace p109 := eq_true p109
          replace q109 := eq_true q109
          go_wp2
          go_loopg [5, 20] k1 (fun kq v5 v20 w' => ∃ (x5_2 : Int) (x20_2 : Int), v5 = .int .u32 x5_2 ∧ v20 = .int .i64 x20_2 ∧ Aside0 (crc_MoreK.l1 kq l1 x5_2 x12_1 x20_2 = some r) ∧ Aside0 (kq ≤ k1) ∧ Drawn0 w w')
          case atStart => exact ⟨(Go.bits .xor .u32 x5_1 ((rd l1 x12_1) % 4294967296)), (0), (by first | rfl | (simp; done) | (simp [*]; done)), (by first | rfl | (simp; done) | (simp [*]; done)), H', ⟨Nat.le_refl _⟩, by repeat (first | exact Drawn0.refl _ | apply Drawn0.step)⟩
          case round =>
            clear H'
            try clear c3b0
            try clear c4b0
            try clear hx109_0
            try clear p109
            try clear q109
            obtain ⟨x5_2, x20_2, rfl, rfl, HA, HK2, ⟨m2, rfl⟩⟩ := hrel
            cases gk with
            | zero => exact absurd HA.out (by simp [crc_MoreK.l1])
            | succ k2 =>
              have H := HA.out
              clear HA
              simp only [crc_MoreK.l1] at H
              by_cases c5 : x20_2 < 2
              · rw [if_pos c5] at H
                have c5b0 : decide (x20_2 < 2) = true := decide_eq_true c5
                clear c5
                have H' := Aside0.mk H
                clear H
                have p110 := (crc_and15 x5_2).1
                have q110 := (crc_and15 x5_2).2
                have hx110_0 := crc_cell HG.out (Go.bits .and .u32 x5_2 15) p110 q110
                replace p110 := eq_true p110
                replace q110 := eq_true q110
                go_wp2
                go_roundg k2
                case measure => have := HK1.out; have := HK2.out; omega
                case rel => exact ⟨(Go.bits .xor .u32 (x5_2 / 16) (crc_st (Go.bits .and .u32 x5_2 15))), (wrap64 (x20_2 + 1)), (by first | rfl | (simp; done) | (simp [*]; done)), (by first | rfl | (simp; done) | (simp [*]; done)), H', ⟨by have := HK1.out; have := HK2.out; omega⟩, by repeat (first | exact Drawn0.refl _ | apply Drawn0.step)⟩
              · rw [if_neg c5] at H
                have c5b0 : decide (x20_2 < 2) = false := decide_eq_false c5
                clear c5
                have H' := Aside0.mk H
                clear H
                go_wp2
                go_roundg k2
                case measure => have := HK1.out; have := HK2.out; omega
                case rel => exact ⟨(x5_2), (wrap64 (x12_1 + 1)), (by first | rfl | (simp; done) | (simp [*]; done)), (by first | rfl | (simp; done) | (simp [*]; done)), H', ⟨by have := HK1.out; have := HK2.out; omega⟩, by repeat (first | exact Drawn0.refl _ | apply Drawn0.step)⟩
        · rw [if_neg c4] at H
          exact absurd H (by simp)
      · rw [if_neg c3] at H
        have c3b0 : decide (x12_1 < (l1.length : Int)) = false := decide_eq_false c3
        clear c3
        obtain rfl := Option.some.inj H
        go_wp2
        go_ret
        exact ⟨by first | rfl | (simp; done) | (simp [*]; done), by repeat (first | exact Drawn0.refl _ | apply Drawn0.step)⟩
def crc_step (x : Int) : Int := Go.bits .xor .u32 (x / 16) (crc_st (Go.bits .and .u32 x 15))
def crc_byte (x b : Int) : Int := crc_step (crc_step (Go.bits .xor .u32 x (b % 4294967296)))
def moreZ (s : Int) (l : List Int) : Int := Go.bits .xor .u32 (-1) (l.foldl crc_byte (Go.bits .xor .u32 (-1) s))
theorem crc_loop (l : List Int) (hl : l.length < 140737488355328) : ∀ (r : List Int) (i : Nat) (x : Int), l.drop i = r → i ≤ l.length → crc_MoreK.l0 (4 * r.length + 1) l x (i : Int) = some (Go.bits .xor .u32 (-1) (r.foldl crc_byte x)) := by
  intro r
  induction r with
  | nil =>
    intro i x h hi
    have hlen := congrArg List.length h
    rw [List.length_drop] at hlen
    simp at hlen
    have c : ¬ ((i : Int) < (l.length : Int)) := by omega
    show crc_MoreK.l0 1 l x (i : Int) = _
    rw [crc_MoreK.l0, if_neg c]
    rfl
  | cons b r ih =>
    intro i x h hi
    have hlt : i < l.length := by
      rcases Nat.lt_or_ge i l.length with h' | h'
      · exact h'
      · rw [List.drop_eq_nil_of_le h'] at h; cases h
    have h2 := h
    rw [List.drop_eq_getElem_cons hlt] at h2
    injection h2 with hb h3
    have e1 : rd l (i : Int) = b := by
      show (l[i]?).getD 0 = b
      rw [List.getElem?_eq_getElem hlt]; exact hb
    have c1 : (i : Int) < (l.length : Int) := by omega
    have c2 : (0 : Int) ≤ (i : Int) := Int.natCast_nonneg _
    have w0 : wrap64 (0 + 1) = 1 := by unfold wrap64; decide
    have w1 : wrap64 (1 + 1) = 2 := by unfold wrap64; decide
    have w2 : wrap64 ((i : Int) + 1) = ((i + 1 : Nat) : Int) := by unfold wrap64; omega
    have c3 : (0 : Int) < 2 := by decide
    have c4 : (1 : Int) < 2 := by decide
    have c5 : ¬ ((2 : Int) < 2) := by decide
    show crc_MoreK.l0 (4 * r.length + 1 + 1 + 1 + 1 + 1) l x (i : Int) = _
    rw [crc_MoreK.l0, if_pos c1, if_pos c2, crc_MoreK.l1, if_pos c3, w0, crc_MoreK.l1, if_pos c4, w1, crc_MoreK.l1, if_neg c5, w2, e1]
    exact ih (i + 1) _ h3 (by omega)
def crc_More.f (a0 : Int) (l1 : List Int) : Option (Int) := if l1.length < 140737488355328 then some (moreZ a0 l1) else none
theorem crc_More.calls (a0 : Int) (A1 : Option Addr) (c1 : Nat) (l1 : List Int) (r : Int) (w : World) (hr1 : Kd.C (Kd.int .u8) w A1 l1.length l1) (hc1 : l1.length ≤ c1) (h : crc_More.f a0 l1 = some r) (hG : GL w) :
    Calls Tryd.prog 13 #[.int .u32 a0, .slice A1 l1.length c1] w fun e w' => e = .returned (.int .u32 r) ∧ Drawn0 w w' := by
  unfold crc_More.f at h
  by_cases hl : l1.length < 140737488355328
  · rw [if_pos hl] at h
    obtain rfl := Option.some.inj h
    exact crc_MoreK.calls (4 * l1.length + 1) a0 A1 c1 l1 _ w hr1 hc1 (crc_loop l1 hl l1 0 _ rfl (Nat.zero_le _)) hG
  · rw [if_neg hl] at h
    cases h
/-- crc.Sum. -/
theorem crc_SumH.calls (A0 : Option Addr) (c0 : Nat) (l0 : List Int) (w : World) (hr0 : Kd.C (Kd.int .u8) w A0 l0.length l0) (hc0 : l0.length ≤ c0) (hl : l0.length < 140737488355328) (hG : GL w) :
    Calls Tryd.prog 11 #[.slice A0 l0.length c0] w fun e w' => e = .returned (.int .u32 (moreZ 0 l0)) ∧ Drawn0 w w' := by
  have HM := Aside0.mk (crc_More.calls 0 A0 c0 l0 (moreZ 0 l0) w hr0 hc0 (by unfold crc_More.f; rw [if_pos hl]) hG)
  clear hr0 hc0 hl hG
  go_enter Tryd.func11, Tryd.ntmps11
  go_wp2_with (first | ((with_reducible refine gate_callee (f := 13) rfl ?_); refine goesL_ (some 4) rfl rfl Tryd.func13 (by kernel_rfl) rfl #[.int .u32 0, .slice A0 l0.length c0] rfl (by (try simp only [List.map_toArray, List.map_cons, List.map_nil]); first | done | rfl) ?_; (with_reducible refine HM.out.mono ?_); rintro e w5 ⟨rfl, ⟨m5, rfl⟩⟩; refine ⟨_, rfl, ?_⟩))
  go_ret
  exact ⟨rfl, by repeat (first | exact Drawn0.refl _ | apply Drawn0.step)⟩
end Go.Proofs.YtgaklpmedgcglaaDoor.P
