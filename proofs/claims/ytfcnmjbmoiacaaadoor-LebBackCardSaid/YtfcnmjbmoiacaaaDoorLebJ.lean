/- Plain mathematics of layer 2: LebBack. -/
import Derived.Test.YtfcnmjbmoiacaaaDoorLebI
set_option linter.unusedVariables false
namespace Go.Proofs.YtfcnmjbmoiacaaaDoor.Leb
open Go.RowKit Go.Proofs.YtfcnmjbmoiacaaaDoor.P Go.Proofs.YtfcnmjbmoiacaaaDoorW.PrintWords Go.Proofs.YtfcnmjbmoiacaaaDoorW.PrintLast Go.Proofs.YtfcnmjbmoiacaaaDoorW.PrintMore
theorem spec_enc (v : Nat) (hv : v < 18446744073709551616) (r : List Int) : spec (enc v ++ r) = ((v : Int), r, 0) := by
  have h1 := idx_enc v r
  have h10 := enc_len10 v hv
  have e1 : (enc v ++ r).take (idx (enc v ++ r) + 1) = enc v := by rw [h1, List.take_append_of_le_length (Nat.le_refl _), List.take_length]
  have e2 : (enc v ++ r).drop (idx (enc v ++ r) + 1) = r := by rw [h1, List.drop_left]
  have hl : (enc v ++ r).length = (enc v).length + r.length := List.length_append
  unfold spec
  rw [if_neg (by omega), if_neg (by omega), e1, e2, val_enc, Nat.mod_eq_of_lt hv, if_pos rfl]
def putAll : List Int → List Int
  | [] => []
  | v :: r => enc (zig v) ++ putAll r
def Ints (l : List Int) : Prop := ∀ x ∈ l, -9223372036854775808 ≤ x ∧ x ≤ 9223372036854775807
theorem putAll_len : ∀ l : List Int, Ints l → (putAll l).length ≤ 10 * l.length
  | [], _ => Nat.le_refl _
  | v :: r, h => by
    have h0 := h v (.head _)
    have h1 := enc_len10 (zig v) (zig_lt h0.1 h0.2)
    have h2 := putAll_len r (fun x hx => h x (.tail _ hx))
    rw [putAll, List.length_append, List.length_cons]
    omega
theorem By.append {a b : List Int} (h : By a) (h2 : By b) : By (a ++ b) := fun x hx => (List.mem_append.1 hx).elim (h x) (h2 x)
theorem putAll_by : ∀ l : List Int, By (putAll l)
  | [] => fun x hx => by cases hx
  | v :: r => (show By (enc (zig v)) from enc_bytes _).append (putAll_by r)
theorem bytesOf_by (a : ByteArray) : By (bytesOf a) := by
  intro x hx
  unfold bytesOf at hx
  obtain ⟨b, _, rfl⟩ := List.mem_map.1 hx
  have := b.toNat_lt
  omega
theorem bytesOf_append (a b : ByteArray) : bytesOf (a ++ b) = bytesOf a ++ bytesOf b := by
  unfold bytesOf
  rw [ByteArray.data_append, Array.toList_append, List.map_append]
theorem bytesOf_strOfNums (l : List Int) (h : By l) : bytesOf (strOfNums l) = l := by
  unfold bytesOf
  rw [strOfNums_data, List.map_map]
  have : ∀ r : List Int, By r → r.map ((fun b : UInt8 => (b.toNat : Int)) ∘ fun n : Int => UInt8.ofNat n.toNat) = r := by
    intro r
    induction r with
    | nil => intro _; rfl
    | cons x r ih =>
      intro h
      have h0 := h.head
      rw [List.map_cons, ih h.tail]
      congr 1
      show (((UInt8.ofNat x.toNat).toNat : Nat) : Int) = x
      rw [UInt8.toNat_ofNat']
      omega
  exact this l h
theorem strOfNums_bytesOf (a : ByteArray) : strOfNums (bytesOf a) = a := by
  apply ByteArray.ext
  apply Array.toList_inj.1
  rw [strOfNums_data]
  unfold bytesOf
  rw [bytes_back]
theorem conv_eq (t x : List Int) (ht : By t) (hx : By x) (hl : t.length + x.length ≤ 4000000) : bytesConv.f (strOfNums t ++ strOfNums x) = some (t ++ x) := by
  unfold bytesConv.f
  rw [if_pos (by rw [ByteArray.size_append, strOfNums_size, strOfNums_size]; omega), bytesOf_append, bytesOf_strOfNums t ht, bytesOf_strOfNums x hx]
/-- A text and what is behind it, taken. -/
theorem text_whole (a : ByteArray) (r : List Int) (ha : a.size ≤ 4000) : textSpec (enc a.size ++ bytesOf a ++ r) (a.size : Int) = (a, r, 0) := by
  have hs : spec (enc a.size ++ bytesOf a ++ r) = ((a.size : Int), bytesOf a ++ r, 0) := by rw [List.append_assoc]; exact spec_enc a.size (by omega) _
  have hl : (bytesOf a).length = a.size := bytesOf_length a
  have c0 : ¬ ((0 : Int) ≠ 0) := fun h => h rfl
  have c1 : ¬ ((a.size : Int) < 0) := by omega
  have c2 : ¬ ((a.size : Int) > (a.size : Int)) := by omega
  have c3 : ¬ ((a.size : Int) > ((bytesOf a ++ r).length : Int)) := by rw [List.length_append]; omega
  have e : ((a.size : Int)).toNat = a.size := rfl
  unfold textSpec
  rw [hs]
  show (if (a.size : Int) < 0 then _ else if (0 : Int) ≠ 0 then _ else if (a.size : Int) > (a.size : Int) then _ else if (a.size : Int) > ((bytesOf a ++ r).length : Int) then _ else (strOfNums ((bytesOf a ++ r).take ((a.size : Int)).toNat), (bytesOf a ++ r).drop ((a.size : Int)).toNat, (0 : Int))) = _
  rw [if_neg c1, if_neg c0, if_neg c2, if_neg c3, e, ← hl, List.take_left, List.drop_left, strOfNums_bytesOf]
/-- Cut short by one it ends too soon. -/
theorem text_short (a : ByteArray) (ha : a.size ≤ 4000) : (textSpec ((enc a.size ++ bytesOf a).take ((enc a.size ++ bytesOf a).length - 1)) (a.size : Int)).2.2 = 4 := by
  have hl : (bytesOf a).length = a.size := bytesOf_length a
  have hp := enc_pos a.size
  have c1 : ¬ ((a.size : Int) < 0) := by omega
  by_cases h : a.size = 0
  · have e0 : (enc a.size ++ bytesOf a).take ((enc a.size ++ bytesOf a).length - 1) = [] := by
      have : bytesOf a = [] := List.length_eq_zero_iff.1 (by omega)
      rw [this, h, enc_lt (by omega)]
      rfl
    rw [e0]
    unfold textSpec
    rw [if_neg c1]
    rfl
  · have e0 : (enc a.size ++ bytesOf a).take ((enc a.size ++ bytesOf a).length - 1) = enc a.size ++ (bytesOf a).take (a.size - 1) := by
      rw [List.length_append, hl, show (enc a.size).length + a.size - 1 = (enc a.size).length + (a.size - 1) by omega, List.take_length_add_append]
    have hs : spec (enc a.size ++ (bytesOf a).take (a.size - 1)) = ((a.size : Int), (bytesOf a).take (a.size - 1), 0) := spec_enc a.size (by omega) _
    have c0 : ¬ ((0 : Int) ≠ 0) := fun h => h rfl
    have c2 : ¬ ((a.size : Int) > (a.size : Int)) := by omega
    have c3 : (a.size : Int) > (((bytesOf a).take (a.size - 1)).length : Int) := by rw [List.length_take]; omega
    rw [e0]
    unfold textSpec
    rw [hs]
    show (if (a.size : Int) < 0 then _ else if (0 : Int) ≠ 0 then _ else if (a.size : Int) > (a.size : Int) then _ else if (a.size : Int) > (((bytesOf a).take (a.size - 1)).length : Int) then ((⟨#[]⟩ : ByteArray), ([] : List Int), (4 : Int)) else _).2.2 = 4
    rw [if_neg c1, if_neg c0, if_neg c2, if_pos c3]
theorem last_at (m : Nat) (x0 : List Int) (a : ByteArray) (x2 : List Int) (ha : a.size ≤ 4000) (i : Nat) (hi : ¬ ((i : Int) < (x0.length : Int)))
    (h1 : leb_TakeText.f m (enc a.size ++ bytesOf a ++ x2) (a.size : Int) = some (a, x2, errOf 0))
    (h2 : leb_PutText.f m [] a = some ([] ++ enc a.size ++ bytesOf a)) (t : ByteArray) (r : List Int)
    (h3 : leb_TakeText.f m ((enc a.size ++ bytesOf a).take ((enc a.size ++ bytesOf a).length - 1)) (a.size : Int) = some (t, r, errOf 4)) (hs : belvederelaw02_sure.f m = some true) :
    belvederelaw02_LebBack.l1 (m + 1) x0 a x2 (enc a.size ++ bytesOf a ++ x2) (i : Int) = some true := by
  have hp := enc_pos a.size
  have h10 := enc_len10 a.size (by omega)
  have hl : (bytesOf a).length = a.size := bytesOf_length a
  have hlen : (enc a.size ++ bytesOf a).length = (enc a.size).length + a.size := by rw [List.length_append, hl]
  have e1 : wrap64 (((enc a.size ++ bytesOf a).length : Int) - 1) = (((enc a.size ++ bytesOf a).length - 1 : Nat) : Int) := by rw [w64 (by omega) (by omega)]; omega
  have e2 : ((((enc a.size ++ bytesOf a).length - 1 : Nat) : Int)).toNat = (enc a.size ++ bytesOf a).length - 1 := rfl
  have c1 : (0 : Int) ≤ (((enc a.size ++ bytesOf a).length - 1 : Nat) : Int) := Int.natCast_nonneg _
  have c2 : (((enc a.size ++ bytesOf a).length - 1 : Nat) : Int) ≤ ((enc a.size ++ bytesOf a).length : Int) := by omega
  rw [List.nil_append] at h2
  rw [belvederelaw02_LebBack.l1, if_neg hi, h1, Option.bind_some, if_pos (show (errOf 0).isNone = true from rfl), if_pos rfl, if_pos rfl, h2, Option.bind_some, e1, if_pos c1, if_pos c2, e2, h3, Option.bind_some]
  show ((belvederelaw02_num.f (errOf 4)).bind _) = _
  rw [num_eq, Option.bind_some, if_pos rfl, hs]
  rfl
theorem out_step (x0 : List Int) (hx : Ints x0) (hx0 : x0.length ≤ 200) (a : ByteArray) (x2 : List Int) (ha : a.size ≤ 4000) (h2 : By x2) (hl2 : x2.length ≤ 4000) : ∀ (r : List Int) (i : Nat), x0.drop i = r → i ≤ x0.length →
    Ev (fun k => belvederelaw02_LebBack.l1 k x0 a x2 (putAll r ++ (enc a.size ++ bytesOf a ++ x2)) (i : Int)) true := by
  have h10 := enc_len10 a.size (by omega)
  have hla : (bytesOf a).length = a.size := bytesOf_length a
  have hbt : By (enc a.size ++ bytesOf a ++ x2) := ((show By (enc a.size) from enc_bytes _).append (bytesOf_by a)).append h2
  intro r
  induction r with
  | nil =>
    intro i h hi
    have hlen := congrArg List.length h
    rw [List.length_drop] at hlen
    simp at hlen
    obtain ⟨K0, p0⟩ := sure_ev
    have q1 := takeText_ev (enc a.size ++ bytesOf a ++ x2) hbt (by rw [List.length_append, List.length_append]; omega) (a.size : Int) (by omega)
    rw [text_whole a x2 ha] at q1
    obtain ⟨K1, p1⟩ := q1
    obtain ⟨K2, p2⟩ := putText_ev [] a ha (Nat.zero_le _)
    have q3 := takeText_ev ((enc a.size ++ bytesOf a).take ((enc a.size ++ bytesOf a).length - 1)) (((show By (enc a.size) from enc_bytes _).append (bytesOf_by a)).take _) (by rw [List.length_take, List.length_append]; omega) (a.size : Int) (by omega)
    rw [text_short a ha] at q3
    obtain ⟨K3, p3⟩ := q3
    refine ⟨K0 + K1 + K2 + K3 + 1, fun k hk => ?_⟩
    obtain ⟨m, rfl⟩ : ∃ m, k = m + 1 := ⟨k - 1, by omega⟩
    exact last_at m x0 a x2 ha i (by omega) (p1 m (by omega)) (p2 m (by omega)) _ _ (p3 m (by omega)) (p0 m (by omega))
  | cons b r ih =>
    intro i h hi
    obtain ⟨h1, h3, h4⟩ := rd_drop h
    have hbm : b ∈ x0 := by
      have : b ∈ x0.drop i := by rw [h]; exact .head _
      exact List.mem_of_mem_drop this
    have hb := hx b hbm
    have hz := zig_lt hb.1 hb.2
    have hr : Ints r := fun x hxr => hx x (by have : x ∈ x0.drop i := by rw [h]; exact .tail _ hxr
                                              exact List.mem_of_mem_drop this)
    have hpl := putAll_len r hr
    have hrl := congrArg List.length h
    rw [List.length_drop, List.length_cons] at hrl
    have hz10 := enc_len10 (zig b) hz
    obtain ⟨K1, p1⟩ := ih (i + 1) h4 (by omega)
    have hby : By (putAll (b :: r) ++ (enc a.size ++ bytesOf a ++ x2)) := (putAll_by _).append hbt
    have q2 := take_ev (putAll (b :: r) ++ (enc a.size ++ bytesOf a ++ x2)) hby (by rw [putAll, List.length_append, List.length_append, List.length_append, List.length_append]; omega)
    have hs : spec (putAll (b :: r) ++ (enc a.size ++ bytesOf a ++ x2)) = ((zig b : Int), putAll r ++ (enc a.size ++ bytesOf a ++ x2), 0) := by
      rw [putAll, List.append_assoc]
      exact spec_enc _ hz _
    rw [hs] at q2
    obtain ⟨K2, p2⟩ := q2
    refine ⟨K1 + K2 + 1, fun k hk => ?_⟩
    obtain ⟨m, rfl⟩ : ∃ m, k = m + 1 := ⟨k - 1, by omega⟩
    have g2 := takeInt_at m _ _ _ _ (p2 m (by omega))
    have e1 : Go.bits .xor .i64 (wrap64 ((zig b : Int) / 2)) (wrap64 (-(wrap64 (Go.bits .and .u64 (zig b : Int) 1)))) = b := (unzig_eq (zig b) hz).trans (unzig_zig b)
    show belvederelaw02_LebBack.l1 (m + 1) _ _ _ _ _ = _
    have c1 : (i : Int) < (x0.length : Int) := by omega
    have c2 : (0 : Int) ≤ (i : Int) := Int.natCast_nonneg _
    rw [belvederelaw02_LebBack.l1, if_pos c1, g2, Option.bind_some, if_pos (show (errOf 0).isNone = true from rfl), if_pos c2, h1, if_pos e1, s64 i (by omega)]
    exact p1 m (by omega)
theorem in_step (x0 : List Int) (hx : Ints x0) (hx0 : x0.length ≤ 200) (a : ByteArray) (x2 : List Int) (ha : a.size ≤ 4000) (h2 : By x2) (hl2 : x2.length ≤ 4000)
    (hend : Ev (fun k => belvederelaw02_LebBack.l1 k x0 a x2 (putAll x0 ++ (enc a.size ++ bytesOf a ++ x2)) 0) true) : ∀ (r : List Int) (i : Nat) (b : List Int), x0.drop i = r → i ≤ x0.length → By b → b.length ≤ 10 * i → b ++ putAll r = putAll x0 →
    Ev (fun k => belvederelaw02_LebBack.l0 k x0 a x2 b (i : Int)) true := by
  have h10 := enc_len10 a.size (by omega)
  have hla : (bytesOf a).length = a.size := bytesOf_length a
  intro r
  induction r with
  | nil =>
    intro i b h hi hb hbl hall
    have hlen := congrArg List.length h
    rw [List.length_drop] at hlen
    simp at hlen
    rw [putAll, List.append_nil] at hall
    obtain ⟨K1, p1⟩ := putText_ev b a ha (by omega)
    obtain ⟨K2, p2⟩ := hend
    refine ⟨K1 + K2 + 1, fun k hk => ?_⟩
    obtain ⟨m, rfl⟩ : ∃ m, k = m + 1 := ⟨k - 1, by omega⟩
    have g1 : leb_PutText.f m b a = some (b ++ enc a.size ++ bytesOf a) := p1 m (by omega)
    have g2 : belvederelaw02_LebBack.l1 m x0 a x2 (putAll x0 ++ (enc a.size ++ bytesOf a ++ x2)) 0 = some true := p2 m (by omega)
    have hby : By (b ++ enc a.size ++ bytesOf a) := (hb.append (show By (enc a.size) from enc_bytes _)).append (bytesOf_by a)
    have hbl2 : (b ++ enc a.size ++ bytesOf a).length ≤ 10000 := by rw [List.length_append, List.length_append]; omega
    have hc := conv_eq (b ++ enc a.size ++ bytesOf a) x2 hby h2 (by omega)
    have c1 : ¬ ((i : Int) < (x0.length : Int)) := by omega
    have c2 : (strOfNums (b ++ enc a.size ++ bytesOf a)).size + (strOfNums x2).size ≤ 9223372036854775807 := by rw [strOfNums_size, strOfNums_size]; omega
    show belvederelaw02_LebBack.l0 (m + 1) _ _ _ _ _ = _
    rw [belvederelaw02_LebBack.l0, if_neg c1, g1, Option.bind_some, if_pos c2, hc, Option.bind_some, hall, List.append_assoc, List.append_assoc, ← List.append_assoc (enc a.size)]
    exact g2
  | cons v r ih =>
    intro i b h hi hb hbl hall
    obtain ⟨h1, h3, h4⟩ := rd_drop h
    have hbm : v ∈ x0 := by
      have : v ∈ x0.drop i := by rw [h]; exact .head _
      exact List.mem_of_mem_drop this
    have hv := hx v hbm
    have hz := zig_lt hv.1 hv.2
    have hz10 := enc_len10 (zig v) hz
    obtain ⟨K1, p1⟩ := putInt_ev b v hv.1 hv.2 (by omega)
    obtain ⟨K2, p2⟩ := ih (i + 1) (b ++ enc (zig v)) h4 (by omega) (hb.append (enc_bytes _)) (by rw [List.length_append]; omega) (by rw [List.append_assoc]; exact hall)
    refine ⟨K1 + K2 + 1, fun k hk => ?_⟩
    obtain ⟨m, rfl⟩ : ∃ m, k = m + 1 := ⟨k - 1, by omega⟩
    have g1 : leb_PutInt.f m b v = some (b ++ enc (zig v)) := p1 m (by omega)
    have c1 : (i : Int) < (x0.length : Int) := by omega
    have c2 : (0 : Int) ≤ (i : Int) := Int.natCast_nonneg _
    show belvederelaw02_LebBack.l0 (m + 1) _ _ _ _ _ = _
    rw [belvederelaw02_LebBack.l0, if_pos c1, if_pos c2, h1, g1, Option.bind_some, s64 i (by omega)]
    exact p2 m (by omega)
theorem lebBack : belvederelaw02_LebBack.Pure := by
  intro l a x2 _ _ hw _ _ _ hw2
  have hx : Ints l := fun x hx => bounds_i64 (hw x hx)
  have h2 := by_of hw2
  obtain ⟨K0, p0⟩ := sure_ev
  have hs : belvederelaw02_sure.f K0 = some true := p0 K0 (Nat.le_refl _)
  by_cases c1 : (l.length : Int) > 200
  · exact ⟨K0, by unfold belvederelaw02_LebBack.f; rw [if_pos c1, hs]; rfl⟩
  by_cases c2 : (a.size : Int) > 4000
  · exact ⟨K0, by unfold belvederelaw02_LebBack.f; rw [if_neg c1, if_pos c2, hs]; rfl⟩
  by_cases c3 : (x2.length : Int) > 4000
  · exact ⟨K0, by unfold belvederelaw02_LebBack.f; rw [if_neg c1, if_neg c2, if_pos c3, hs]; rfl⟩
  obtain ⟨K, hK⟩ := in_step l hx (by omega) a x2 (by omega) h2 (by omega) (out_step l hx (by omega) a x2 (by omega) h2 (by omega) l 0 rfl (Nat.zero_le _)) l 0 [] rfl (Nat.zero_le _) (fun x hx => by cases hx) (Nat.zero_le _) rfl
  refine ⟨K, ?_⟩
  unfold belvederelaw02_LebBack.f
  rw [if_neg c1, if_neg c2, if_neg c3]
  exact hK K (Nat.le_refl _)
end Go.Proofs.YtfcnmjbmoiacaaaDoor.Leb
