/- Plain mathematics of ClockHours: the two Hours, and the law. -/
import Derived.Test.YtegiikkbeknodaaDoorHoB
import Derived.Test.YtegiikkbeknodaaDoorRows
set_option linter.unusedVariables false
set_option linter.unusedSimpArgs false
namespace Go.Proofs.YtegiikkbeknodaaDoor.PClk
open Go.RowKit Go.Proofs.YtegiikkbeknodaaDoor.P Go.Proofs.YtegiikkbeknodaaDoorW.PrintWords Go.Proofs.YtegiikkbeknodaaDoorW.PrintLast Go.Proofs.YtegiikkbeknodaaDoorW.PrintMore
theorem d2_sz (n : Nat) : (d2 n).size = 2 := rfl
theorem c1_sz : (⟨#[58]⟩ : ByteArray).size = 1 := rfl
theorem text_r (n : Nat) (h : n ≤ 86400) (k : Nat) : r5_Text.f (k + 3) (n : Int) = some (hms (n / 3600) (n / 60 % 60) (n % 60)) := by
  have t1 : wrap64 (Int.tdiv (n : Int) 3600) = ((n / 3600 : Nat) : Int) := by rw [show Int.tdiv (n : Int) 3600 = ((n / 3600 : Nat) : Int) from tdn n 3600, w64 (by omega) (by omega)]
  have t2 : wrap64 (Int.tdiv (n : Int) 60) = ((n / 60 : Nat) : Int) := by rw [show Int.tdiv (n : Int) 60 = ((n / 60 : Nat) : Int) from tdn n 60, w64 (by omega) (by omega)]
  have t3 : Int.tmod ((n / 60 : Nat) : Int) 60 = ((n / 60 % 60 : Nat) : Int) := tmn (n / 60) 60
  have t4 : Int.tmod (n : Int) 60 = ((n % 60 : Nat) : Int) := tmn n 60
  have up : ∀ m : Nat, m < 100 → r5_digits.f (k + 3) (m : Int) 2 = some (d2 m) := fun m hm => at_rounds (g := fun k => r5_digits.f k (m : Int) 2) (r5_digits.mono _ _) (by omega) (dig_two m hm)
  unfold r5_Text.f
  rw [t1, t2, t3, t4, up _ (by omega), up _ (by omega), up _ (by omega)]
  simp only [Option.bind_some]
  have s1 : (d2 (n / 3600) ++ (⟨#[58]⟩ : ByteArray)).size = 3 := by rw [ba_size]; rfl
  have s2 : ((d2 (n / 3600) ++ (⟨#[58]⟩ : ByteArray)) ++ d2 (n / 60 % 60)).size = 5 := by rw [ba_size, s1]; rfl
  have s3 : (((d2 (n / 3600) ++ (⟨#[58]⟩ : ByteArray)) ++ d2 (n / 60 % 60)) ++ (⟨#[58]⟩ : ByteArray)).size = 6 := by rw [ba_size, s2]; rfl
  have z1 := d2_sz (n / 3600)
  have z2 := d2_sz (n / 60 % 60)
  have z3 := d2_sz (n % 60)
  rw [if_pos (by rw [z1]; decide), if_pos (by rw [s1, z2]; decide), if_pos (by rw [s2]; decide), if_pos (by rw [s3, z3]; decide)]
  rfl
def hoursOf (n : Nat) : ByteArray := if n % 60 = 0 then (hms (n / 3600) (n / 60 % 60) (n % 60)).extract 0 5 else hms (n / 3600) (n / 60 % 60) (n % 60)
theorem hours_r (n : Nat) (h : n ≤ 86400) (k : Nat) : r5_Hours.f (k + 4) (n : Int) = some (hoursOf n, 0) := by
  have t4 : Int.tmod (n : Int) 60 = ((n % 60 : Nat) : Int) := tmn n 60
  unfold r5_Hours.f hoursOf
  rw [if_neg (by omega), show decide ((n : Int) > 86400) = false from decide_eq_false (by omega), r5_Hours.j0, if_neg (by decide), t4, text_r n h k]
  simp only [Option.bind_some]
  by_cases c : n % 60 = 0
  · rw [if_pos (by omega), if_pos (by decide), if_pos (by rw [hms_size]; decide), if_pos c]
  · rw [if_neg (by omega), if_neg c]
theorem text_c (n : Nat) (h : n ≤ 86400) : clock_text.f (n : Int) = some (hms (n / 3600) (n / 60 % 60) (n % 60)) := by
  unfold clock_text.f
  rw [if_pos (by omega), if_pos (by omega), Int.toNat_natCast]
theorem ten_ : ∀ c : Fin 100, (([58, UInt8.ofNat (48 + c.val / 10), UInt8.ofNat (48 + c.val % 10)] : List UInt8) == [58, 48, 48]) = decide (c.val = 0) := by decide +kernel
theorem suffix (a b c : Nat) (hc : c < 60) : strings_CutSuffix.f (hms a b c) (⟨#[58, 48, 48]⟩ : ByteArray) = some (if c = 0 then ((hms a b c).extract 0 5, true) else (hms a b c, false)) := by
  have hz := hms_size a b c
  have e3 : ((⟨#[58, 48, 48]⟩ : ByteArray).size : Int) = 3 := rfl
  have hzI : ((hms a b c).size : Int) = 8 := by omega
  have e5 : wrap64 ((8 : Int) - 3) = 5 := by unfold wrap64; omega
  have hx : ((hms a b c).extract ((5 : Int).toNat) 8).toList = [58, UInt8.ofNat (48 + c / 10), UInt8.ofNat (48 + c % 10)] := by
    rw [hms_eq, ByteArray.toList_eq]
    rfl
  have hy : (⟨#[58, 48, 48]⟩ : ByteArray).toList = [58, 48, 48] := by rw [ByteArray.toList_eq]
  unfold strings_CutSuffix.f stringslite_CutSuffix.f stringslite_HasSuffix.f
  rw [hzI, e3, e5, if_pos (by decide), if_pos (by decide), if_pos (by decide), hz, hx, hy, ten_ ⟨c, by omega⟩]
  simp only [Option.bind_some]
  by_cases h0 : c = 0
  · rw [if_pos (decide_eq_true h0), if_pos (by decide), if_pos (by decide), if_pos h0]
    rfl
  · rw [if_neg (by simpa using h0), if_neg h0]
    rfl
theorem hours_c (n : Nat) (h : n ≤ 86400) (k : Nat) : clock_Hours.f (k + 1) (n : Int) = some (hoursOf n, none) := by
  unfold clock_Hours.f hoursOf
  rw [if_neg (by omega), show decide ((n : Int) > 86400) = false from decide_eq_false (by omega), clock_Hours.j0, if_neg (by decide), text_c n h]
  simp only [Option.bind_some]
  rw [suffix _ _ _ (by omega)]
  simp only [Option.bind_some]
  by_cases c : n % 60 = 0
  · rw [if_pos c, if_pos rfl, if_pos c]
  · rw [if_neg c, if_neg (fun e => Bool.false_ne_true e), if_neg c]
theorem hours_eq (a : Int) (k : Nat) : ∃ x y, clock_Hours.f (k + 4) a = some (x, y) ∧ r5_Hours.f (k + 4) a = some (x, E y) := by
  by_cases h : 0 ≤ a ∧ a ≤ 86400
  · obtain ⟨n, rfl⟩ : ∃ n : Nat, a = (n : Int) := ⟨a.toNat, by omega⟩
    exact ⟨_, _, hours_c n (by omega) (k + 3), hours_r n (by omega) k⟩
  · refine ⟨⟨#[]⟩, some 1, ?_, ?_⟩
    · unfold clock_Hours.f
      by_cases c : a < 0
      · rw [if_pos c, clock_Hours.j0, if_pos rfl]
      · rw [if_neg c, show decide (a > 86400) = true from decide_eq_true (by omega), clock_Hours.j0, if_pos rfl]
    · unfold r5_Hours.f
      by_cases c : a < 0
      · rw [if_pos c, r5_Hours.j0, if_pos rfl]; rfl
      · rw [if_neg c, show decide (a > 86400) = true from decide_eq_true (by omega), r5_Hours.j0, if_pos rfl]; rfl
/-- The law, at every number and every text that is shorter than strings.Split's bound. -/
theorem law_Hours (a : Int) (s : ByteArray) (hs : s.size ≤ 1048576) : w5_ClockHours.f 20 a s = some true := by
  obtain ⟨x, y, h1, h2⟩ := hours_eq a 16
  have h3 : clock_Parse.f s = some (parseL (parts s ⟨#[58]⟩)) := by
    unfold clock_Parse.f
    rw [if_pos (by omega)]
  have h4 := parse_eq s
  have h5 : w5_sure.f 20 = some true := at_rounds (g := fun k => w5_sure.f k) w5_sure.mono (by omega) sure_1
  unfold w5_ClockHours.f
  rw [h1, h2, h3, h4]
  simp only [Option.bind_some, if_true]
  rw [show w5_num.f y = some (E y) from rfl, show w5_num.f (parseL (parts s ⟨#[58]⟩)).2 = some (E (parseL (parts s ⟨#[58]⟩)).2) from rfl]
  simp only [Option.bind_some, if_true]
  rw [h5]
  rfl
/-- The bulk's bound, of the text. -/
theorem short_text {H : Type} {a : Int} {s : ByteArray} (hk : Rows.uptoSmall H ([.lit (.int .i64 a), .lit (.string s.data.toList)] ++ []) = true) : s.size ≤ 1048576 := by
  have h : Rows.uptoBulkAll (H := H) ([.lit (.int .i64 a), .lit (.string s.data.toList)] ++ []) ≤ 1048576 := of_decide_eq_true hk
  simp only [List.append_nil, Rows.uptoBulkAll, Rows.uptoBulk, Array.length_toList] at h
  have e : s.size = s.data.size := rfl
  omega
end Go.Proofs.YtegiikkbeknodaaDoor.PClk
