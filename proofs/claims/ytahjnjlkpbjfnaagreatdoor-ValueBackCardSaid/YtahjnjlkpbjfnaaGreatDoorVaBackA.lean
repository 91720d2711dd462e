/- Plain mathematics of layer 10: the parts of parts joined are these; blanks about the commas change nothing. -/
import Derived.Test.YtahjnjlkpbjfnaaGreatDoorVaListJ
import Derived.Test.YtahjnjlkpbjfnaaGreatDoorVaLetM
set_option linter.unusedVariables false
set_option linter.unusedSimpArgs false
namespace Go.Proofs.YtahjnjlkpbjfnaaGreatDoor.PVal
open Go Go.RowKit Go.Proofs.YtahjnjlkpbjfnaaGreatDoor.P Go.Proofs.YtahjnjlkpbjfnaaGreatDoorW.PrintWords Go.Proofs.YtahjnjlkpbjfnaaGreatDoorW.PrintLast Go.Proofs.YtahjnjlkpbjfnaaGreatDoorW.PrintMore
open Classical
theorem cut_tail (c : UInt8) : ∀ (ps : List (List UInt8)) (p : List UInt8), (∀ q ∈ p :: ps, c ∉ q) → cutAt c [] (p ++ ps.flatMap fun q => c :: q) = p :: ps
  | [], p, h => by
    rw [List.flatMap_nil, List.append_nil, cutAt_one c p [] (h p (by simp)), List.nil_append]
  | q :: r, p, h => by
    rw [List.flatMap_cons, List.cons_append, cutAt_cons c _ p [] (h p (by simp)), List.nil_append, cut_tail c r q (fun x hx => h x (List.mem_cons_of_mem _ hx))]
theorem dw_nil (p : UInt8 → Bool) : ∀ l : List UInt8, List.dropWhile p l = [] ↔ ∀ x ∈ l, p x = true
  | [] => ⟨(fun _ x hx => by cases hx), fun _ => rfl⟩
  | c :: r => by
    by_cases h : p c = true
    · rw [List.dropWhile_cons_of_pos h, dw_nil p r]
      constructor
      · intro q x hx
        rcases List.mem_cons.1 hx with e | e
        · rw [e]; exact h
        · exact q x e
      · exact fun q x hx => q x (List.mem_cons_of_mem _ hx)
    · rw [List.dropWhile_cons_of_neg h]
      constructor
      · intro q; cases q
      · exact fun q => absurd (q c (by simp)) h
theorem tr_nil : ∀ l : List UInt8, rt (lf l) = [] → ∀ c ∈ l, blank c = true := by
  have hr : ∀ m : List UInt8, rt m = [] → ∀ c ∈ m, blank c = true := fun m h c hc => by
    unfold rt at h
    rw [List.reverse_eq_nil_iff, dw_nil] at h
    exact h c (List.mem_reverse.2 hc)
  intro l
  induction l with
  | nil => intro _ c hc; cases hc
  | cons d r ih =>
    intro h c hc
    by_cases hd : blank d = true
    · rw [lf_pos hd] at h
      rcases List.mem_cons.1 hc with q | q
      · rw [q]; exact hd
      · exact ih h c q
    · rw [lf_neg hd] at h
      exact hr _ h c hc
theorem list_back (s : ByteArray) (p : List UInt8) (ps : List (List UInt8)) (l : List ByteArray) (hs : s.data.toList = p ++ ps.flatMap fun q => 44 :: q) (hc : ∀ q ∈ p :: ps, (44 : UInt8) ∉ q) (ht : (p :: ps).map (fun q => rt (lf q)) = l.map (·.data.toList)) (h0 : (⟨#[]⟩ : ByteArray) ∉ l) (hn : l.Nodup) (hz : l.length ≤ 4096) : listOf s = (l, none) := by
  have hp : partsT s = l := by
    unfold partsT partsAt
    rw [hs, cut_tail 44 ps p hc, List.map_map]
    refine (List.map_inj_right (f := fun x : ByteArray => x.data.toList) (fun x y e => ba_inj e)).1 ?_
    rw [List.map_map, ← ht]
    refine List.map_congr_left fun q _ => ?_
    exact trim_l ⟨q.toArray⟩
  have hne : (trimT s).toList ≠ ([] : List UInt8) := by
    rw [toList_l, trim_l]
    intro e
    have hb := tr_nil _ e
    cases l with
    | nil => simp at ht
    | cons x r =>
      simp only [List.map_cons, List.cons.injEq] at ht
      have hpb : ∀ c ∈ p, blank c = true := fun c hc => hb c (by rw [hs]; exact List.mem_append_left _ hc)
      have hpe : rt (lf p) = [] := by
        have : lf p = [] := (dw_nil _ _).2 hpb
        rw [this]; rfl
      rw [hpe] at ht
      exact h0 (by rw [show x = ⟨#[]⟩ from ba_inj (by rw [← ht.1])] ; simp)
  unfold listOf
  rw [if_neg hne, hp, if_neg (fun e => h0 ((Lib.containsS_iff _ _).1 e)), if_neg (fun e => (dup_iff l).1 e hn), if_neg (by omega)]
/-- A part as it may be: not empty, without a comma, without blanks at its ends. -/
theorem good_of {x : ByteArray} (h : ¬ oddT x) : x.data.toList ≠ [] ∧ (44 : UInt8) ∉ x.data.toList ∧ rt (lf x.data.toList) = x.data.toList := by
  unfold oddT at h
  refine ⟨fun e => h (.inl (by rw [toList_l]; exact e)), fun e => h (.inr (.inl e)), ?_⟩
  refine byContradiction fun e => h (.inr (.inr ?_))
  rw [toList_l, toList_l, trim_l]
  exact e
theorem rt_snoc (m : List UInt8) (b : UInt8) (hb : blank b = true) : rt (m ++ [b]) = rt m := by
  unfold rt
  rw [List.reverse_append, List.reverse_singleton, List.singleton_append, List.dropWhile_cons_of_pos hb]
theorem lf_le (l : List UInt8) : (lf l).length ≤ l.length := (List.dropWhile_sublist _).length_le
theorem rt_le (l : List UInt8) : (rt l).length ≤ l.length := by
  unfold rt
  rw [List.length_reverse]
  refine Nat.le_trans (List.dropWhile_sublist _).length_le ?_
  rw [List.length_reverse]
  exact Nat.le_refl _
theorem tr_wrap (m : List UInt8) (a b : UInt8) (ha : blank a = true) (hb : blank b = true) (hm : m ≠ []) (ht : rt (lf m) = m) : rt (lf (a :: (m ++ [b]))) = m := by
  cases m with
  | nil => exact absurd rfl hm
  | cons c r =>
    have hc : ¬ blank c = true := fun q => by
      rw [lf_pos q] at ht
      have h1 := rt_le (lf r)
      have h2 := lf_le r
      rw [ht, List.length_cons] at h1
      omega
    rw [lf_neg hc] at ht
    rw [lf_pos ha, List.cons_append, lf_neg hc, show c :: (r ++ [b]) = (c :: r) ++ [b] from rfl, rt_snoc _ _ hb, ht]
theorem join_flat : ∀ (r : List (List UInt8)) (x : List UInt8), Lib.join (x :: r) [44] = x ++ r.flatMap fun q => 44 :: q
  | [], x => by rw [Lib.join_one, List.flatMap_nil, List.append_nil]
  | y :: r, x => by
    rw [join_cons x (y :: r) 44 (by simp), join_flat r y, List.flatMap_cons, List.cons_append]
/-- Parts joined are a list of these. -/
theorem jn_back (l : List ByteArray) (h0 : l ≠ []) (hg : ∀ x ∈ l, ¬ oddT x) (hn : l.Nodup) (hz : l.length ≤ 4096) : listOf (jn l) = (l, none) := by
  cases l with
  | nil => exact absurd rfl h0
  | cons x r =>
    refine list_back (jn (x :: r)) x.data.toList (r.map (·.data.toList)) (x :: r) ?_ ?_ ?_ ?_ hn hz
    · show Lib.join ((x :: r).map (·.data.toList)) [44] = _
      rw [List.map_cons, join_flat]
    · intro q hq
      rw [show x.data.toList :: r.map (·.data.toList) = (x :: r).map (·.data.toList) from rfl] at hq
      obtain ⟨y, hy, rfl⟩ := List.mem_map.1 hq
      exact (good_of (hg y hy)).2.1
    · rw [show x.data.toList :: r.map (·.data.toList) = (x :: r).map (·.data.toList) from rfl, List.map_map]
      refine List.map_congr_left fun y hy => ?_
      exact (good_of (hg y hy)).2.2
    · intro he
      exact (good_of (hg _ he)).1 rfl
/-- What stands about the commas. -/
def wide : List ByteArray → List UInt8
  | [] => []
  | x :: r => x.data.toList ++ r.flatMap fun y => [32, 44, 9] ++ y.data.toList
theorem wide_end : ∀ r : List ByteArray, (r.flatMap fun y => [32, 44, 9] ++ y.data.toList) ++ [32] = [32] ++ (r.map fun y => (9 : UInt8) :: (y.data.toList ++ [32])).flatMap fun q => 44 :: q
  | [] => rfl
  | y :: r => by
    rw [List.flatMap_cons, List.append_assoc, wide_end r, List.map_cons, List.flatMap_cons]
    simp
theorem wide_back (s : ByteArray) (l : List ByteArray) (hs : s.data.toList = 32 :: (wide l ++ [32])) (h0 : l ≠ []) (hg : ∀ x ∈ l, ¬ oddT x) (hn : l.Nodup) (hz : l.length ≤ 4096) : listOf s = (l, none) := by
  cases l with
  | nil => exact absurd rfl h0
  | cons x r =>
    have hb32 : blank 32 = true := by decide
    have hb9 : blank 9 = true := by decide
    have hd : ∀ (a : UInt8) (y : ByteArray), a ≠ 44 → y ∈ x :: r → (44 : UInt8) ∉ a :: (y.data.toList ++ [32]) := fun a y ha hy q => by
      rcases List.mem_cons.1 q with e | q
      · exact ha e.symm
      · rcases List.mem_append.1 q with q | q
        · exact (good_of (hg y hy)).2.1 q
        · rw [List.mem_singleton] at q; exact absurd q (by decide)
    refine list_back s (32 :: (x.data.toList ++ [32])) (r.map fun y => (9 : UInt8) :: (y.data.toList ++ [32])) (x :: r) ?_ ?_ ?_ ?_ hn hz
    · rw [hs, wide, List.append_assoc, wide_end]
      simp
    · intro q hq
      rcases List.mem_cons.1 hq with e | e
      · rw [e]; exact hd 32 x (by decide) (by simp)
      · obtain ⟨y, hy, rfl⟩ := List.mem_map.1 e
        exact hd 9 y (by decide) (List.mem_cons_of_mem _ hy)
    · rw [List.map_cons, List.map_cons, List.map_map, tr_wrap _ 32 32 hb32 hb32 (good_of (hg x (by simp))).1 (good_of (hg x (by simp))).2.2]
      congr 1
      refine List.map_congr_left fun y hy => ?_
      exact tr_wrap _ 9 32 hb9 hb32 (good_of (hg y (List.mem_cons_of_mem _ hy))).1 (good_of (hg y (List.mem_cons_of_mem _ hy))).2.2
    · intro he
      exact (good_of (hg _ he)).1 rfl
end Go.Proofs.YtahjnjlkpbjfnaaGreatDoor.PVal
