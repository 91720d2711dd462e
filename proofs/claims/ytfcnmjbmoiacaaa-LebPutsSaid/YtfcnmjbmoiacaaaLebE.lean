/- Plain mathematics of layer 2: LebPuts. -/
import Derived.Test.YtfcnmjbmoiacaaaLebD
set_option linter.unusedVariables false
namespace Go.Proofs.Ytfcnmjbmoiacaaa.Leb
open Go.RowKit Go.Proofs.Ytfcnmjbmoiacaaa.P Go.Proofs.YtfcnmjbmoiacaaaW.PrintWords Go.Proofs.YtfcnmjbmoiacaaaW.PrintLast Go.Proofs.YtfcnmjbmoiacaaaW.PrintMore
theorem refPut_ev (l : List Int) (v : Nat) (hv : v < 18446744073709551616) (hl : l.length + 10 < 140737488355328) : Ev (fun k => belvedereref02_Put.f k l (v : Int)) (l ++ enc v) := by
  have h10 := enc_len10 v hv
  obtain ⟨K, hK⟩ := num_ev v hv
  refine ⟨K, fun k hk => ?_⟩
  show belvedereref02_Put.f k l (v : Int) = _
  have h1 : belvedereref02_Number.f k (v : Int) = some (enc v) := hK k hk
  unfold belvedereref02_Put.f
  rw [List.length_nil, List.nil_append, if_pos (by omega), Option.bind_some, h1, Option.bind_some, if_pos (by omega)]
theorem refCode_eq (v : Int) (h0 : -9223372036854775808 ≤ v) (h1 : v ≤ 9223372036854775807) : belvedereref02_Code.f v = some (zig v : Int) := by
  unfold belvedereref02_Code.f zig
  by_cases h : 0 ≤ v
  · rw [if_pos h, if_pos h, wu64 (n := v) (by omega) (by omega), wu64 (by omega) (by omega)]
    congr 1
    omega
  · rw [if_neg (by omega), if_neg h, w64 (n := v + 1) (by omega) (by omega), w64 (by omega) (by omega), wu64 (n := -(v + 1)) (by omega) (by omega), wu64 (n := 2 * -(v + 1)) (by omega) (by omega), wu64 (by omega) (by omega)]
    congr 1
    omega
theorem bytes_back (l : List UInt8) : (l.map fun b : UInt8 => (b.toNat : Int)).map (fun n : Int => UInt8.ofNat n.toNat) = l := by
  induction l with
  | nil => rfl
  | cons b l ih => rw [List.map_cons, List.map_cons, ih]; simp
theorem text_more (t : List Int) (a : ByteArray) : (strOfNums (t ++ bytesOf a)).toList = (strOfNums t ++ a).toList := by
  have h : strOfNums (t ++ bytesOf a) = strOfNums t ++ a := by
    apply ByteArray.ext
    apply Array.toList_inj.1
    rw [strOfNums_data, List.map_append, ByteArray.data_append, Array.toList_append, strOfNums_data]
    unfold bytesOf
    rw [bytes_back]
  rw [h]
theorem putText_ev (l : List Int) (a : ByteArray) (ha : a.size ≤ 4000) (hl : l.length ≤ 4000) : Ev (fun k => leb_PutText.f k l a) (l ++ enc a.size ++ bytesOf a) := by
  have h10 := enc_len10 a.size (by omega)
  obtain ⟨K, hK⟩ := put_ev l a.size (by omega) (by omega)
  refine ⟨K, fun k hk => ?_⟩
  show leb_PutText.f k l a = _
  have h1 : leb_Put.f k l (a.size : Int) = some (l ++ enc a.size) := hK k hk
  unfold leb_PutText.f
  rw [wu64 (by omega) (by omega), h1, Option.bind_some, if_pos (by rw [List.length_append]; omega)]
theorem lebPuts : belvederelaw02_LebPuts.Pure := by
  intro l a1 a2 hl0 hl1 hb ha1 ha2
  have b1 := bounds_u64 ha1
  obtain ⟨v, rfl⟩ : ∃ v : Nat, a1 = (v : Int) := ⟨a1.toNat, by omega⟩
  obtain ⟨K0, p0⟩ := sure_ev
  by_cases c1 : (l.length : Int) > 4000
  · exact ⟨K0, by unfold belvederelaw02_LebPuts.f; rw [if_pos c1, show belvederelaw02_sure.f K0 = some true from p0 _ (Nat.le_refl _)]; rfl⟩
  by_cases c2 : (a2.size : Int) > 4000
  · exact ⟨K0, by unfold belvederelaw02_LebPuts.f; rw [if_neg c1, if_pos c2, show belvederelaw02_sure.f K0 = some true from p0 _ (Nat.le_refl _)]; rfl⟩
  obtain ⟨s, hs⟩ : ∃ s : Int, wrap64 (v : Int) = s := ⟨_, rfl⟩
  have bs : -9223372036854775808 ≤ s ∧ s ≤ 9223372036854775807 := by unfold wrap64 at hs; omega
  have hz := zig_lt bs.1 bs.2
  obtain ⟨K1, p1⟩ := put_ev l v (by omega) (by omega)
  obtain ⟨K2, p2⟩ := refPut_ev l v (by omega) (by omega)
  obtain ⟨K3, p3⟩ := putInt_ev l s bs.1 bs.2 (by omega)
  obtain ⟨K4, p4⟩ := refPut_ev l (zig s) hz (by omega)
  obtain ⟨K5, p5⟩ := putText_ev l a2 (by omega) (by omega)
  obtain ⟨K6, p6⟩ := refPut_ev l a2.size (by omega) (by omega)
  obtain ⟨K, hK⟩ : ∃ K, K = K0 + K1 + K2 + K3 + K4 + K5 + K6 := ⟨_, rfl⟩
  have q0 : belvederelaw02_sure.f K = some true := p0 K (by omega)
  have q1 : leb_Put.f K l (v : Int) = some (l ++ enc v) := p1 K (by omega)
  have q2 : belvedereref02_Put.f K l (v : Int) = some (l ++ enc v) := p2 K (by omega)
  have q3 : leb_PutInt.f K l s = some (l ++ enc (zig s)) := p3 K (by omega)
  have q4 : belvedereref02_Put.f K l (zig s : Int) = some (l ++ enc (zig s)) := p4 K (by omega)
  have q5 : leb_PutText.f K l a2 = some (l ++ enc a2.size ++ bytesOf a2) := p5 K (by omega)
  have q6 : belvedereref02_Put.f K l (a2.size : Int) = some (l ++ enc a2.size) := p6 K (by omega)
  have h10 := enc_len10 a2.size (by omega)
  refine ⟨K, ?_⟩
  unfold belvederelaw02_LebPuts.f
  rw [if_neg c1, if_neg c2, q1, Option.bind_some, q2, Option.bind_some, if_pos rfl, hs, q3, Option.bind_some, refCode_eq s bs.1 bs.2, Option.bind_some, q4, Option.bind_some, if_pos rfl, q5, Option.bind_some, wu64 (by omega) (by omega), q6, Option.bind_some, if_pos (by rw [strOfNums_size, List.length_append]; omega), if_pos (text_more _ _), if_pos rfl, q0]
  rfl
end Go.Proofs.Ytfcnmjbmoiacaaa.Leb
