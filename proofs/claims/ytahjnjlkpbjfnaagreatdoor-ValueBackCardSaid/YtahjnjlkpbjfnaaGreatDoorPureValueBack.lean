/- ValueBack's mathematics, under the name that the row asks for. -/
import Derived.Test.YtahjnjlkpbjfnaaGreatDoorVaBackB
import Derived.Test.YtahjnjlkpbjfnaaGreatDoorPx13
set_option linter.unusedVariables false
set_option linter.unusedSimpArgs false
namespace Go.Proofs.YtahjnjlkpbjfnaaGreatDoor.PVal
open Go Go.RowKit Go.Proofs.YtahjnjlkpbjfnaaGreatDoor.P Go.Proofs.YtahjnjlkpbjfnaaGreatDoorW.PrintWords Go.Proofs.YtahjnjlkpbjfnaaGreatDoorW.PrintLast Go.Proofs.YtahjnjlkpbjfnaaGreatDoorW.PrintMore
open Classical
theorem wf_le2 {b : Int} (h : (Lit.int .i64 b).wf = true) : b ≤ 9223372036854775807 := by
  simp [Lit.wf] at h
  omega
theorem isn : (none : Option Int).isNone = true := rfl
/-- The law's end: bits, letters, bits. -/
def tailF (k : Nat) (L : ByteArray) (b : Int) : Option Bool :=
  (value_Letters.f k b L).bind fun bt288 => (if bt288.2.isNone = true then ((value_Options.f k bt288.1 L).bind fun bt291 => (if bt291.2.isNone = true then (if bt291.1 = b then ((belvederelaw10_sure.f k).bind fun t294 => (some t294)) else (none)) else (none))) else ((belvederelaw10_num.f (some (bt288.2.getD 0))).bind fun t295 => (if t295 = 1 then (if bt288.1.toList = ([] : List UInt8) then ((belvederelaw10_sure.f k).bind fun t296 => (some t296)) else (none)) else (none))))
theorem tail_ok (k : Nat) (hk : 2000 ≤ k) (L : ByteArray) (hL : L.size ≤ 1000) (b : Int) (hb : b ≤ 9223372036854775807) : tailF k L b = some true := by
  unfold tailF
  rw [own_let b hb L hL k hk, Option.bind_some]
  by_cases h : (letOf b L).2 = none
  · obtain ⟨h1, h2⟩ := let_back b L h
    rw [if_pos (by rw [h]; rfl), own_opt _ L (by omega) hL k hk, Option.bind_some, h1]
    simp only
    rw [if_pos isn, if_pos trivial, sure_n k (by omega)]
    rfl
  · rw [let_bad b L h]
    show (if (some (1 : Int)).isNone = true then _ else _) = _
    rw [if_neg (by decide), show belvederelaw10_num.f (some ((some (1 : Int)).getD 0)) = some 1 from rfl, Option.bind_some, if_pos rfl, if_pos (by rw [toList_l]), sure_n k (by omega)]
    rfl
theorem wide_snoc (l : List ByteArray) (x : ByteArray) (h : l ≠ []) : wide (l ++ [x]) = wide l ++ [32, 44, 9] ++ x.data.toList := by
  cases l with
  | nil => exact absurd rfl h
  | cons y r => simp [wide, List.flatMap_append]
theorem wide_len : ∀ l : List ByteArray, (∀ x ∈ l, x.size ≤ 100) → (wide l).length ≤ 103 * l.length
  | [], _ => Nat.zero_le _
  | x :: r, h => by
    have hr : ∀ r : List ByteArray, (∀ x ∈ r, x.size ≤ 100) → (r.flatMap fun y => [32, 44, 9] ++ y.data.toList).length ≤ 103 * r.length := by
      intro r
      induction r with
      | nil => intro _; exact Nat.zero_le _
      | cons y r ih =>
        intro h
        have h1 := ih (fun z hz => h z (List.mem_cons_of_mem _ hz))
        have h2 := h y (by simp)
        rw [size_l] at h2
        rw [List.flatMap_cons, List.length_append, List.length_append, List.length_cons]
        simp only [List.length_cons, List.length_nil]
        omega
    have h1 := hr r (fun z hz => h z (List.mem_cons_of_mem _ hz))
    have h2 := h x (by simp)
    rw [size_l] at h2
    rw [wide, List.length_append, List.length_cons]
    omega
theorem back_l1 (l : List ByteArray) (hz : l.length ≤ 60) (hx : ∀ x ∈ l, x.size ≤ 100) (L : ByteArray) (hL : L.size ≤ 100) (b : Int) (hb : b ≤ 9223372036854775807) (h0 : l ≠ []) (hg : ∀ x ∈ l, ¬ oddT x) (hn : l.Nodup) :
    ∀ (rest pre : List ByteArray) (k : Nat), l = pre ++ rest → rest.length + 3000 ≤ k → belvederelaw10_ValueBack.l1 k l L b l none ⟨(wide pre).toArray⟩ (pre.length : Int) = some true := by
  intro rest
  induction rest with
  | nil =>
    intro pre k h hk
    obtain ⟨n, rfl⟩ : ∃ n, k = n + 1 := ⟨k - 1, by omega⟩
    have e : pre = l := by rw [h]; simp
    subst e
    have hwl := wide_len pre hx
    have hsz : (⟨(wide pre).toArray⟩ : ByteArray).size = (wide pre).length := rfl
    have hsz2 : ((⟨#[32]⟩ : ByteArray) ++ ⟨(wide pre).toArray⟩).size = 1 + (wide pre).length := by rw [ByteArray.size_append, hsz]; rfl
    have hs : (((⟨#[32]⟩ : ByteArray) ++ ⟨(wide pre).toArray⟩) ++ ⟨#[32]⟩).data.toList = 32 :: (wide pre ++ [32]) := by
      rw [ByteArray.data_append, ByteArray.data_append, Array.toList_append, Array.toList_append]
      rfl
    have hl := wide_back _ pre hs h0 hg hn (by omega)
    have hzz : (((⟨#[32]⟩ : ByteArray) ++ ⟨(wide pre).toArray⟩) ++ ⟨#[32]⟩).size ≤ 10000 := by rw [size_l, hs, List.length_cons, List.length_append, List.length_singleton]; omega
    have hv : value_List.f (((⟨#[32]⟩ : ByteArray) ++ ⟨(wide pre).toArray⟩) ++ ⟨#[32]⟩) = some (pre, none) := by
      unfold value_List.f
      rw [if_pos (by omega), hl]
    have htx := texts_same pre (by omega) (n - 2000)
    rw [Nat.sub_add_cancel (show 2000 ≤ n by omega)] at htx
    have htl := tail_ok n (by omega) L (by omega) b hb
    rw [belvederelaw10_ValueBack.l1, if_neg (by omega), if_pos (by rw [hsz]; omega), if_pos (by rw [hsz2]; omega), hv, Option.bind_some]
    dsimp only
    rw [if_pos isn, if_pos isn, htx, Option.bind_some, if_pos rfl, Option.bind_some, if_pos rfl]
    exact htl
  | cons x r ih =>
    intro pre k h hk
    rw [List.length_cons] at hk
    obtain ⟨n, rfl⟩ : ∃ n, k = n + 1 := ⟨k - 1, by omega⟩
    have hlen : l.length = pre.length + (r.length + 1) := by rw [h]; simp
    have hrd : rdOf ByteArray.empty l (pre.length : Int) = x := rd_at l pre x r h
    have hxs := hx x (by rw [h]; simp)
    have hwl := wide_len pre (fun y hy => hx y (by rw [h]; exact List.mem_append_left _ hy))
    have hsz : (⟨(wide pre).toArray⟩ : ByteArray).size = (wide pre).length := rfl
    have hi := ih (pre ++ [x]) n (by rw [h]; simp) (by omega)
    rw [List.length_append, List.length_singleton] at hi
    rw [belvederelaw10_ValueBack.l1, if_pos (by omega), hrd, up64 (by omega)]
    by_cases hp : pre = []
    · subst hp
      rw [if_neg (by simp), if_pos (by simp), if_pos (by rw [hsz]; show 0 + _ ≤ _; omega)]
      have e : (⟨(wide []).toArray⟩ : ByteArray) ++ x = ⟨(wide ([] ++ [x])).toArray⟩ := ba_inj (by
        rw [ByteArray.data_append, Array.toList_append]
        simp [wide])
      rw [e]
      exact hi
    · have hpos : 0 < pre.length := List.length_pos_iff.2 hp
      rw [if_pos (by omega), if_pos (by rw [hsz]; omega), if_pos (Int.natCast_nonneg _), if_pos (by rw [ByteArray.size_append, hsz]; show _ + 3 + _ ≤ _; omega)]
      have e : ((⟨(wide pre).toArray⟩ : ByteArray) ++ ⟨#[32, 44, 9]⟩) ++ x = ⟨(wide (pre ++ [x])).toArray⟩ := ba_inj (by
        rw [ByteArray.data_append, ByteArray.data_append, Array.toList_append, Array.toList_append]
        show wide pre ++ [32, 44, 9] ++ x.data.toList = wide (pre ++ [x])
        rw [wide_snoc pre x hp])
      rw [e]
      exact hi
theorem back_l0 (l : List ByteArray) (hz : l.length ≤ 60) (L : ByteArray) (hL : L.size ≤ 100) (b : Int) (hb : b ≤ 9223372036854775807) :
    ∀ (rest pre : List ByteArray) (k : Nat), l = pre ++ rest → (∀ x ∈ pre, x.size ≤ 100) → rest.length + 4000 ≤ k → belvederelaw10_ValueBack.l0 k l L b (pre.length : Int) = some true := by
  intro rest
  induction rest with
  | nil =>
    intro pre k h hx hk
    obtain ⟨n, rfl⟩ : ∃ n, k = n + 1 := ⟨k - 1, by omega⟩
    have e : pre = l := by rw [h]; simp
    subst e
    have hj := val_joined pre (by omega) (fun x hx' => by have := hx x hx'; omega) (n - 200)
    rw [Nat.sub_add_cancel (show 200 ≤ n by omega)] at hj
    rw [belvederelaw10_ValueBack.l0, if_neg (by omega), hj, Option.bind_some]
    have htl := tail_ok n (by omega) L (by omega) b hb
    unfold joinOf
    by_cases h0 : pre = []
    · rw [if_pos h0]
      exact htl
    · rw [if_neg h0]
      by_cases ho : ∃ x ∈ pre, oddT x
      · rw [if_pos ho]
        exact htl
      · rw [if_neg ho]
        by_cases hn : pre.Nodup
        · rw [if_pos hn]
          have hg : ∀ x ∈ pre, ¬ oddT x := fun x hx' q => ho ⟨x, hx', q⟩
          have hl := jn_back pre h0 hg hn (by omega)
          have hjs := jn_size pre (fun x hx' => by have := hx x hx'; omega)
          have hv : value_List.f (jn pre) = some (pre, none) := by
            unfold value_List.f
            rw [if_pos (by omega), hl]
          show (if (none : Option Int).isNone = true then _ else _) = _
          rw [if_pos isn]
          dsimp only
          rw [hv, Option.bind_some]
          exact back_l1 pre hz hx L hL b hb h0 hg hn pre [] n (by simp) (by omega)
        · rw [if_neg hn]
          exact htl
  | cons x r ih =>
    intro pre k h hx hk
    rw [List.length_cons] at hk
    obtain ⟨n, rfl⟩ : ∃ n, k = n + 1 := ⟨k - 1, by omega⟩
    have hlen : l.length = pre.length + (r.length + 1) := by rw [h]; simp
    have hrd : rdOf ByteArray.empty l (pre.length : Int) = x := rd_at l pre x r h
    rw [belvederelaw10_ValueBack.l0, if_pos (by omega), if_pos (Int.natCast_nonneg _), hrd]
    by_cases hs : (x.size : Int) > 100
    · rw [if_pos hs, sure_n _ (by omega)]; rfl
    · rw [if_neg hs, up64 (by omega)]
      have := ih (pre ++ [x]) n (by rw [h]; simp) (fun y hy => by
        rcases List.mem_append.1 hy with q | q
        · exact hx y q
        · rw [List.mem_singleton] at q; rw [q]; omega) (by omega)
      rw [List.length_append, List.length_singleton] at this
      exact this
theorem law_Back (l : List ByteArray) (L : ByteArray) (b : Int) (hb : b ≤ 9223372036854775807) (k : Nat) (hk : 5000 ≤ k) : belvederelaw10_ValueBack.f k l L b = some true := by
  unfold belvederelaw10_ValueBack.f
  by_cases h1 : (l.length : Int) > 60
  · rw [if_pos h1, sure_n _ (by omega)]; rfl
  · rw [if_neg h1]
    by_cases h2 : (L.size : Int) > 100
    · rw [if_pos h2, sure_n _ (by omega)]; rfl
    · rw [if_neg h2]
      exact back_l0 l (by omega) L (by omega) b hb l [] k (by simp) (fun x hx => by cases hx) (by omega)
end Go.Proofs.YtahjnjlkpbjfnaaGreatDoor.PVal
namespace Go.Proofs.YtahjnjlkpbjfnaaGreatDoor.Pure
open Go.RowKit Go.Proofs.YtahjnjlkpbjfnaaGreatDoor.P
theorem ValueBack : belvederelaw10_ValueBack.Pure := fun l L b _ _ hw => ⟨5000, PVal.law_Back l L b (PVal.wf_le2 hw) 5000 (Nat.le_refl _)⟩
end Go.Proofs.YtahjnjlkpbjfnaaGreatDoor.Pure
