/- ValueOptions's mathematics, under the name that the row asks for. -/
import Derived.Test.YtahjnjlkpbjfnaaGreatDoorVaLetM
namespace Go.Proofs.YtahjnjlkpbjfnaaGreatDoor.PVal
open Go Go.RowKit Go.Proofs.YtahjnjlkpbjfnaaGreatDoor.P Go.Proofs.YtahjnjlkpbjfnaaGreatDoorW.PrintWords Go.Proofs.YtahjnjlkpbjfnaaGreatDoorW.PrintLast Go.Proofs.YtahjnjlkpbjfnaaGreatDoorW.PrintMore
theorem wf_le {b : Int} (h : (Lit.int .i64 b).wf = true) : b ≤ 9223372036854775807 := by
  simp [Lit.wf] at h
  omega
theorem law_Options (s L : ByteArray) (b : Int) (hb : b ≤ 9223372036854775807) (k : Nat) (hk : 800000 ≤ k) : belvederelaw10_ValueOptions.f k s L b = some true := by
  unfold belvederelaw10_ValueOptions.f
  by_cases h1 : (s.size : Int) > 300
  · rw [if_pos h1, sure_n _ (by omega)]; rfl
  · rw [if_neg h1]
    by_cases h2 : (L.size : Int) > 100
    · rw [if_pos h2, sure_n _ (by omega)]; rfl
    · rw [if_neg h2, own_opt s L (by omega) (by omega) k (by omega), Option.bind_some, ref_opt s L (by omega) (by omega) k hk, Option.bind_some, own_let b hb L (by omega) k (by omega), Option.bind_some, ref_let b hb L (by omega) k (by omega), Option.bind_some]
      simp only
      rw [if_pos trivial, show belvederelaw10_num.f (optOf s L).2 = some (E (optOf s L).2) from rfl, Option.bind_some, if_pos rfl, if_pos trivial, show belvederelaw10_num.f (letOf b L).2 = some (E (letOf b L).2) from rfl, Option.bind_some, if_pos rfl, sure_n _ (by omega)]
      rfl
end Go.Proofs.YtahjnjlkpbjfnaaGreatDoor.PVal
namespace Go.Proofs.YtahjnjlkpbjfnaaGreatDoor.Pure
open Go.RowKit Go.Proofs.YtahjnjlkpbjfnaaGreatDoor.P
theorem ValueOptions : belvederelaw10_ValueOptions.Pure := fun s L b _ _ hw => ⟨800000, PVal.law_Options s L b (PVal.wf_le hw) 800000 (Nat.le_refl _)⟩
end Go.Proofs.YtahjnjlkpbjfnaaGreatDoor.Pure
