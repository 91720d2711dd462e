/- Plain mathematics of layer 10: what must come whatever the input is. -/
import Derived.Test.YtahjnjlkpbjfnaaGreatDoorVaDup
import Derived.Test.YtahjnjlkpbjfnaaGreatDoorPx5
set_option linter.unusedVariables false
set_option linter.unusedSimpArgs false
namespace Go.Proofs.YtahjnjlkpbjfnaaGreatDoor.PVal
open Go Go.RowKit Go.Proofs.YtahjnjlkpbjfnaaGreatDoor.P Go.Proofs.YtahjnjlkpbjfnaaGreatDoorW.PrintWords Go.Proofs.YtahjnjlkpbjfnaaGreatDoorW.PrintLast Go.Proofs.YtahjnjlkpbjfnaaGreatDoorW.PrintMore
theorem may_dur : value_may.f ⟨#[100, 117, 114]⟩ = some true := by decide +kernel
theorem parts_du : partsT ⟨#[100, 44, 117]⟩ = [⟨#[100]⟩, ⟨#[117]⟩] := by decide +kernel
theorem list_du : value_List.f ⟨#[100, 44, 117]⟩ = some ([⟨#[100]⟩, ⟨#[117]⟩], none) := by
  have hd : ¬ dupS [⟨#[100]⟩, ⟨#[117]⟩] = true := by
    rw [dup_iff]
    exact fun h => h (by decide)
  unfold value_List.f
  rw [if_pos (by decide)]
  unfold listOf
  rw [parts_du, if_neg (by decide +kernel), if_neg (by decide +kernel), if_neg hd, if_neg (by decide)]
theorem sec_5m : value_Seconds.f ⟨#[53, 109]⟩ = some (300, none) := by decide +kernel
theorem opt_du : value_Options.f 10 ⟨#[100, 44, 117]⟩ ⟨#[100, 117, 114]⟩ = some (3, none) := by
  unfold value_Options.f
  rw [may_dur, list_du]
  decide +kernel
theorem sure_10 : belvederelaw10_sure.f 10 = some true := by
  unfold belvederelaw10_sure.f
  rw [sec_5m, opt_du]
  decide +kernel
theorem sure_k (k : Nat) : belvederelaw10_sure.f (k + 10) = some true := by
  induction k with
  | zero => exact sure_10
  | succ k ih => exact belvederelaw10_sure.mono _ _ ih
end Go.Proofs.YtahjnjlkpbjfnaaGreatDoor.PVal
