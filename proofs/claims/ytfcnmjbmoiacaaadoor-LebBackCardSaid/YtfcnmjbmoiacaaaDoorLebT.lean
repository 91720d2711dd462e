/- Plain mathematics of layer 2: a number's bytes are its own; texts. -/
import Derived.Test.YtfcnmjbmoiacaaaDoorLebB
import Derived.OpenShut
import Derived.Lib.Bytes
set_option linter.unusedVariables false
namespace Go.Proofs.YtfcnmjbmoiacaaaDoor.Leb
open Go.RowKit Go.Proofs.YtfcnmjbmoiacaaaDoor.P Go.Proofs.YtfcnmjbmoiacaaaDoorW.PrintWords Go.Proofs.YtfcnmjbmoiacaaaDoorW.PrintLast Go.Proofs.YtfcnmjbmoiacaaaDoorW.PrintMore

theorem enc_inj (v : Nat) : ∀ w : Nat, enc v = enc w → v = w := by
  induction v using Nat.strongRecOn with
  | _ v ih =>
  intro w h
  by_cases h1 : v < 128
  · by_cases h2 : w < 128
    · rw [enc_lt h1, enc_lt h2] at h
      injection h with h _
      omega
    · rw [enc_lt h1, enc_ge h2] at h
      injection h with h _
      omega
  · by_cases h2 : w < 128
    · rw [enc_ge h1, enc_lt h2] at h
      injection h with h _
      omega
    · rw [enc_ge h1, enc_ge h2] at h
      injection h with h h3
      have := ih (v / 128) (by omega) (w / 128) h3
      omega
theorem enc_mono (v : Nat) : ∀ w : Nat, v ≤ w → (enc v).length ≤ (enc w).length := by
  induction v using Nat.strongRecOn with
  | _ v ih =>
  intro w h
  by_cases h1 : v < 128
  · rw [enc_lt h1]
    exact enc_pos w
  · rw [enc_ge h1, enc_ge (v := w) (by omega), List.length_cons, List.length_cons]
    have := ih (v / 128) (by omega) (w / 128) (by omega)
    omega
theorem u8_inj {a b : Int} (ha : 0 ≤ a ∧ a < 256) (hb : 0 ≤ b ∧ b < 256) (h : UInt8.ofNat a.toNat = UInt8.ofNat b.toNat) : a = b := by
  have h1 := congrArg UInt8.toNat h
  rw [UInt8.toNat_ofNat', UInt8.toNat_ofNat'] at h1
  omega
theorem texts_inj : ∀ (a b : List Int), (∀ x ∈ a, 0 ≤ x ∧ x < 256) → (∀ x ∈ b, 0 ≤ x ∧ x < 256) → (a.map fun n : Int => UInt8.ofNat n.toNat) = (b.map fun n : Int => UInt8.ofNat n.toNat) → a = b
  | [], [], _, _, _ => rfl
  | [], _ :: _, _, _, h => by simp at h
  | _ :: _, [], _, _, h => by simp at h
  | x :: a, y :: b, ha, hb, h => by
    injection h with h1 h2
    rw [u8_inj (ha x (.head _)) (hb y (.head _)) h1, texts_inj a b (fun z hz => ha z (.tail _ hz)) (fun z hz => hb z (.tail _ hz)) h2]
theorem text_list (a : List Int) : (strOfNums a).toList = a.map fun n : Int => UInt8.ofNat n.toNat := Go.Lib.strOfNums_toList a
theorem same_text (v w : Nat) : (((strOfNums (enc v)).toList == (strOfNums (enc w)).toList) == ((v : Int) == (w : Int))) = true := by
  by_cases h : v = w
  · subst h
    simp
  · have h1 : ¬ ((strOfNums (enc v)).toList = (strOfNums (enc w)).toList) := fun e => h (enc_inj v w (texts_inj _ _ (enc_bytes v) (enc_bytes w) (by rw [text_list, text_list] at e; exact e)))
    have h2 : ¬ ((v : Int) = (w : Int)) := by omega
    rw [beq_eq_false_iff_ne.2 h1, beq_eq_false_iff_ne.2 h2]
    rfl

theorem bytes_back (l : List UInt8) : (l.map fun b : UInt8 => (b.toNat : Int)).map (fun n : Int => UInt8.ofNat n.toNat) = l := by
  induction l with
  | nil => rfl
  | cons b l ih => rw [List.map_cons, List.map_cons, ih]; simp
theorem text_more (t : List Int) (a : ByteArray) : (strOfNums (t ++ bytesOf a)).toList = (strOfNums t ++ a).toList := by
  have h : strOfNums (t ++ bytesOf a) = strOfNums t ++ a := by
    apply ByteArray.ext
    apply Array.toList_inj.1
    rw [strOfNums_data, List.map_append, ByteArray.data_append, Array.toList_append, strOfNums_data]
    unfold bytesOf
    rw [bytes_back]
  rw [h]
theorem putText_ev (l : List Int) (a : ByteArray) (ha : a.size ≤ 4000) (hl : l.length ≤ 4000) : Ev (fun k => leb_PutText.f k l a) (l ++ enc a.size ++ bytesOf a) := by
  have h10 := enc_len10 a.size (by omega)
  obtain ⟨K, hK⟩ := put_ev l a.size (by omega) (by omega)
  refine ⟨K, fun k hk => ?_⟩
  show leb_PutText.f k l a = _
  have h1 : leb_Put.f k l (a.size : Int) = some (l ++ enc a.size) := hK k hk
  unfold leb_PutText.f
  rw [wu64 (by omega) (by omega), h1, Option.bind_some, if_pos (by rw [List.length_append]; omega)]
end Go.Proofs.YtfcnmjbmoiacaaaDoor.Leb
