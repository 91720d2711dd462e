/- Plain mathematics of layer 2: the other writing of Put: LebPuts. -/
import Derived.Test.YtfcnmjbmoiacaaaDoorLebT
set_option linter.unusedVariables false
namespace Go.Proofs.YtfcnmjbmoiacaaaDoor.Leb
open Go.RowKit Go.Proofs.YtfcnmjbmoiacaaaDoor.P Go.Proofs.YtfcnmjbmoiacaaaDoorW.PrintWords Go.Proofs.YtfcnmjbmoiacaaaDoorW.PrintLast Go.Proofs.YtfcnmjbmoiacaaaDoorW.PrintMore
theorem number_ev : ∀ (v : Nat) (out : List Int), v < 18446744073709551616 → out.length + (enc v).length < 140737488355328 → Ev (fun k => belvedereref02_Number.l0 k (v : Int) out) (out ++ enc v) := by
  intro v
  induction v using Nat.strongRecOn with
  | _ v ih =>
  intro out hv ho
  by_cases h : v < 128
  · refine ⟨1, fun k hk => ?_⟩
    obtain ⟨m, rfl⟩ : ∃ m, k = m + 1 := ⟨k - 1, by omega⟩
    show belvedereref02_Number.l0 (m + 1) _ _ = _
    have hp := enc_pos v
    rw [belvedereref02_Number.l0, if_neg (by omega), if_pos (by omega), enc_lt h, show (v : Int) % 256 = (v : Int) by omega]
  · have h2 := ho
    rw [enc_ge h, List.length_cons] at h2
    obtain ⟨K, hK⟩ := ih (v / 128) (by omega) (out ++ [((v % 128 + 128 : Nat) : Int)]) (by omega) (by rw [List.length_append, List.length_singleton]; omega)
    refine ⟨K + 1, fun k hk => ?_⟩
    obtain ⟨m, rfl⟩ : ∃ m, k = m + 1 := ⟨k - 1, by omega⟩
    show belvedereref02_Number.l0 (m + 1) _ _ = _
    have e2 : IntKind.u64.wrap (Int.tdiv (v : Int) 128) = ((v / 128 : Nat) : Int) := by
      rw [Int.tdiv_eq_ediv_of_nonneg (by omega), wu64 (by omega) (by omega)]
      omega
    have e3 : (Int.tmod (v : Int) 128 + 128) % 256 = ((v % 128 + 128 : Nat) : Int) := by
      rw [Int.tmod_eq_emod_of_nonneg (by omega)]
      omega
    rw [belvedereref02_Number.l0, if_pos (by omega), if_pos (by omega), e2, e3, enc_ge h]
    have h3 : belvedereref02_Number.l0 m ((v / 128 : Nat) : Int) (out ++ [((v % 128 + 128 : Nat) : Int)]) = some (out ++ [((v % 128 + 128 : Nat) : Int)] ++ enc (v / 128)) := hK m (by omega)
    rw [h3, List.append_assoc, List.singleton_append]
theorem num_ev (v : Nat) (hv : v < 18446744073709551616) : Ev (fun k => belvedereref02_Number.f k (v : Int)) (enc v) :=
  number_ev v [] hv (by have := enc_len10 v hv; rw [List.length_nil]; omega)
end Go.Proofs.YtfcnmjbmoiacaaaDoor.Leb
