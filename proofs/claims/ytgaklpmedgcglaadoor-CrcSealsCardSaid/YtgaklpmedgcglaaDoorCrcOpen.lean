/- The contract of crc.Open. -/
import Derived.Test.YtgaklpmedgcglaaDoorCrcSeal
import Derived.Test.YtgaklpmedgcglaaDoorCloneB
import Derived.Deep.RegionHeld3
import Derived.Laws.Cover3
namespace Go.Proofs.YtgaklpmedgcglaaDoor.P
open Go.RowKit Go.Proofs.YtgaklpmedgcglaaDoorW.PrintWords Go.Proofs.YtgaklpmedgcglaaDoorW.PrintLast Go.Proofs.YtgaklpmedgcglaaDoorW.PrintMore
attribute [local go_sem] max2_int min2_int max_two min_two max_three min_three max_four min_four
set_option linter.unusedVariables false
set_option linter.unusedSimpArgs false
theorem arr4 (a : Option Addr) (c : Nat) (W : World) : (Instr.arrayAt 44 (.slice a 4 c)).run Tryd.prog W = .ok (.pointer a) W := run_arrayAt W 44 5 4 a 4 c Tryd.underlying44 (Nat.le_refl _)
attribute [local go_sem] arr4
def eqB (x0 x1 x2 x3 y0 y1 y2 y3 : Int) : Bool := x0 == y0 && (x1 == y1 && (x2 == y2 && x3 == y3))
theorem eq1 (x y : Int) (W : World) : (Op.equalIn 9999 5 (.int .u8 x) (.int .u8 y)).run Tryd.prog W = .ok (x == y) W := run_equalIn_int W 9998 5 .u8 .u8 x y Tryd.underlying5
theorem eq4 (x0 x1 x2 x3 y0 y1 y2 y3 : Int) (W : World) : (Op.equalIn 10000 44 (.agg #[.int .u8 x0, .int .u8 x1, .int .u8 x2, .int .u8 x3]) (.agg #[.int .u8 y0, .int .u8 y1, .int .u8 y2, .int .u8 y3])).run Tryd.prog W = .ok (eqB x0 x1 x2 x3 y0 y1 y2 y3) W := by
  unfold eqB
  rw [show (10000 : Nat) = 9999 + 1 from rfl, Op.equalIn]
  simp only [Sem.run_bind, go_sem]
  simp [go_sem]
  rw [show List.range' 0 4 = [0, 1, 2, 3] from rfl]
  by_cases h0 : x0 = y0 <;> by_cases h1 : x1 = y1 <;> by_cases h2 : x2 = y2 <;> by_cases h3 : x3 = y3 <;> simp [eq1, go_sem, h0, h1, h2, h3]
attribute [local go_sem] eq4
def crc_Open.f (l0 : List Int) : Option (List Int × Option Int) := if l0.length < 140737488355328 then (if l0.length < 4 then some ([], some 4) else if l0.drop (l0.length - 4) = laidB (moreZ 0 (l0.take (l0.length - 4))) then some (l0.take (l0.length - 4), none) else some ([], some 6)) else none
theorem open_short (A0 : Option Addr) (c0 : Nat) (l0 : List Int) (w : World) (hl : l0.length < 4) :
    Calls Tryd.prog 14 #[.slice A0 l0.length c0] w fun e w' => e = .returned (.tuple #[.slice none 0 0, .iface 43 (.int .i64 4)]) ∧ Below w.heap.size w w' := by
  have e0 : wrap64 ((l0.length : Int) - 4) = (l0.length : Int) - 4 := by unfold wrap64; omega
  have d0 : decide (wrap64 ((l0.length : Int) - 4) < 0) = true := decide_eq_true (by omega)
  have HB := Aside0.mk (Below.refl w.heap.size w)
  clear e0 hl
  go_enter Tryd.func14, Tryd.ntmps14
  go_wp2
  go_ret2
  exact ⟨rfl, by repeat (first | (with_reducible first | exact HB.out | apply below_alloc | apply pw_below_drewN | apply below_drew1) | exact HB.out)⟩
theorem open_long (ad : Addr) (c0 : Nat) (l0 : List Int) (w : World) (q : Nat) (hq : l0.length = q + 4) (hl : l0.length < 140737488355328) (hr0 : Kd.C (Kd.int .u8) w (some ad) l0.length l0) (hc0 : l0.length ≤ c0) (hG : GL w)
    (s x0 x1 x2 x3 : Int) (hs : moreZ 0 (l0.take q) = s) (hx0 : l0.getD (q + 0) 0 = x0) (hx1 : l0.getD (q + 1) 0 = x1) (hx2 : l0.getD (q + 2) 0 = x2) (hx3 : l0.getD (q + 3) 0 = x3) :
    Calls Tryd.prog 14 #[.slice (some ad) l0.length c0] w fun e w' => (∃ v0_ : Value, e = .returned (.tuple #[v0_, errW (if eqB x0 x1 x2 x3 (s % 256) (s / 256 % 256) (s / 65536 % 256) (s / 16777216 % 256) = true then none else some 6)]) ∧ Kd.R (Kd.int .u8) 5 w' w.heap.size (fun _ => True) v0_ (if eqB x0 x1 x2 x3 (s % 256) (s / 256 % 256) (s / 65536 % 256) (s / 16777216 % 256) = true then l0.take q else [])) ∧ Below w.heap.size w w' := by
  have e0 : wrap64 ((l0.length : Int) - 4) = (q : Int) := by unfold wrap64; omega
  have d0 : decide ((q : Int) < 0) = false := decide_eq_false (by omega)
  have hcell : ∀ W, Below w.heap.size w W → ∀ j : Nat, j < 4 → W.cell? (ad.add (q + j)) = some (.int .u8 (l0.getD (q + j) 0)) := by
    intro W hb j hj
    obtain ⟨ad1, e1, h1⟩ := Kd.at_int (Kd.C_below hr0 hb) ((q + j : Nat) : Int) (Int.natCast_nonneg _) (by omega)
    cases e1
    exact h1
  have hsp : (ad.add q).spot = none := World.cell?_spot (hcell w (Below.refl _ _) 0 (by decide))
  obtain ⟨pb, hpb⟩ : ∃ x, (ad.add q).block = x := ⟨_, rfl⟩
  obtain ⟨po, hpo⟩ : ∃ x, (ad.add q).off = x := ⟨_, rfl⟩
  have hp : ad.add q = ⟨pb, po, none⟩ := by
    rw [← hpb, ← hpo, ← hsp]
  have hadd : ∀ j : Nat, ad.add (q + j) = ⟨pb, po + j, none⟩ := by
    intro j
    by_cases hj : j = 0
    · subst hj; exact hp
    · have e1 : (ad.add q).block = ad.block := by unfold Addr.add; split <;> rfl
      have e2 : (ad.add q).off = ad.off + q := by unfold Addr.add; split <;> simp_all
      unfold Addr.add
      rw [if_neg (by omega), ← hpb, ← hpo, e1, e2, Nat.add_assoc]
  have hsum : ∀ W, Below w.heap.size w W → Calls Tryd.prog 11 #[.slice (some ad) q c0] W fun e w' => e = .returned (.int .u32 s) ∧ Drawn0 W w' := by
    intro W hb
    have hlen : (l0.take q).length = q := by rw [List.length_take]; omega
    have h := crc_SumH.calls (some ad) c0 (l0.take q) W (Kd.C_take (m := q) (Kd.C_below hr0 hb) (by omega)) (by omega) (by omega) (hG.below hb)
    rw [hlen, hs] at h
    exact h
  have hS : ∀ W, Below w.heap.size w W → (Below w.heap.size w W ∧ W.cell? ⟨pb, po, none⟩ = some (.int .u8 x0) ∧ W.cell? ⟨pb, po + 1, none⟩ = some (.int .u8 x1) ∧ W.cell? ⟨pb, po + 2, none⟩ = some (.int .u8 x2) ∧ W.cell? ⟨pb, po + 3, none⟩ = some (.int .u8 x3)) :=
    fun W hb => ⟨hb, hx0 ▸ hadd 0 ▸ hcell W hb 0 (by decide), hx1 ▸ hadd 1 ▸ hcell W hb 1 (by decide), hx2 ▸ hadd 2 ▸ hcell W hb 2 (by decide), hx3 ▸ hadd 3 ▸ hcell W hb 3 (by decide)⟩
  have hlen : (l0.take q).length = q := by rw [List.length_take]; omega
  have hclone : ∀ W, Below w.heap.size w W → Calls Tryd.prog 20 #[.slice (some ad) q c0] W fun e w' => ∃ v0_ : Value, e = .returned (v0_) ∧ Kd.R (Kd.int .u8) 5 w' W.heap.size (fun _ => True) v0_ (l0.take q) ∧ Below W.heap.size W w' := by
    intro W hb
    have h := slices_Clone_byte_byte.calls (some ad) c0 (l0.take q) (l0.take q) W (Kd.C_take (m := q) (Kd.C_below hr0 hb) (by omega)) (by omega) (by unfold slices_Clone_byte_byte.f; rw [if_pos (by omega)])
    rw [hlen] at h
    exact h
  have HClone := Aside0.mk hclone
  have HS := Aside0.mk hS
  have HSum := Aside0.mk hsum
  have HB := Aside0.mk (Below.refl w.heap.size w)
  have g1 : 4 ≤ l0.length := by omega
  have g2 : l0.length - q = 4 := by omega
  have g3 : q ≤ l0.length := by omega
  have g4 : q ≤ c0 := by omega
  have g5 : ¬ (c0 = q) := by omega
  have i1 : (0 : Int) ≤ (q : Int) := Int.natCast_nonneg _
  have i2 : (q : Int) ≤ (l0.length : Int) := by omega
  have i3 : (q : Int) ≤ (c0 : Int) := by omega
  have i4 : (l0.length : Int) ≤ (c0 : Int) := by omega
  have HQ := Aside0.mk hq
  have HL := Aside0.mk hl
  clear hx0 hx1 hx2 hx3 hs hlen hclone hadd hpb hpo hsp hcell hsum hS hr0 hG hq hl
  go_enter Tryd.func14, Tryd.ntmps14
  go_wp2
  go_region_held3 (fun W => Below w.heap.size w W ∧ W.cell? ⟨pb, po, none⟩ = some (.int .u8 x0) ∧ W.cell? ⟨pb, po + 1, none⟩ = some (.int .u8 x1) ∧ W.cell? ⟨pb, po + 2, none⟩ = some (.int .u8 x2) ∧ W.cell? ⟨pb, po + 3, none⟩ = some (.int .u8 x3)) (exact HS.out _ (by repeat (first | exact Below.refl _ _ | assumption | (exact And.left (by assumption)) | apply below_alloc | apply pw_below_drewN | apply below_drew1 | (refine below_step ?_ (by assumption))))) (first | (go_at_call 11; refine (HSum.out _ (by first | assumption | exact And.left (by assumption))).mono ?_; rintro e w' ⟨rfl, ⟨m, rfl⟩⟩) | (go_at_call 19; refine (crc_laid.calls _ _).mono ?_; rintro e w' ⟨rfl, hb⟩))
  all_goals (obtain ⟨HBw, -⟩ := ‹Below w.heap.size w _ ∧ _›; clear HB; have HB := Aside0.mk HBw; clear HBw)
  all_goals (try clear g1 g2 g3 g5 i1 i4 HS HSum hp)
  all_goals (cases hE : eqB x0 x1 x2 x3 (s % 256) (s / 256 % 256) (s / 65536 % 256) (s / 16777216 % 256))
  all_goals (first | (go_wp2_with (first | ((with_reducible refine gate_callee (f := 20) rfl ?_); refine goesL_ (some 28) rfl rfl Tryd.func20 (by kernel_rfl) rfl #[.slice (some ad) q c0] rfl (by (try simp only [List.map_toArray, List.map_cons, List.map_nil]); first | done | rfl) ?_; (refine (HClone.out _ (by repeat (first | (with_reducible first | exact HB.out | apply below_alloc | apply pw_below_drewN | apply below_drew1) | exact HB.out))).mono ?_); rintro e w5 ⟨v28, rfl, ho0, hb⟩; refine ⟨_, rfl, ?_⟩; have n0_ := Aside0.mk (Kd.R_lower ho0 (below_size (by repeat (first | (with_reducible first | exact HB.out | apply below_alloc | apply pw_below_drewN | apply below_drew1) | exact HB.out)))); have n1_ := Aside0.mk (below_step (by repeat (first | (with_reducible first | exact HB.out | apply below_alloc | apply pw_below_drewN | apply below_drew1) | exact HB.out)) hb); clear HB; have HO := n0_; have HB := n1_; clear n0_ n1_ hb ho0))))
  all_goals go_ret2
  all_goals (first | exact ⟨⟨_, rfl, HO.out⟩, by repeat (first | (with_reducible first | exact HB.out | apply below_alloc | apply pw_below_drewN | apply below_drew1) | exact HB.out)⟩ | exact ⟨⟨_, rfl, Kd.R_nil _ _ _ _ _⟩, by repeat (first | (with_reducible first | exact HB.out | apply below_alloc | apply pw_below_drewN | apply below_drew1) | exact HB.out)⟩)
theorem eqB_iff (x0 x1 x2 x3 y0 y1 y2 y3 : Int) : eqB x0 x1 x2 x3 y0 y1 y2 y3 = true ↔ [x0, x1, x2, x3] = [y0, y1, y2, y3] := by
  unfold eqB
  simp
theorem last_four (l : List Int) (q : Nat) (h : l.length = q + 4) : l.drop q = [l.getD (q + 0) 0, l.getD (q + 1) 0, l.getD (q + 2) 0, l.getD (q + 3) 0] := by
  apply List.ext_getElem
  · rw [List.length_drop]; simp; omega
  · intro j h1 h2
    have hj : j = 0 ∨ j = 1 ∨ j = 2 ∨ j = 3 := by simp at h2; omega
    have g : ∀ i : Nat, i < 4 → l.getD (q + i) 0 = l[q + i]?.getD 0 := fun _ _ => rfl
    rw [List.getElem_drop]
    rcases hj with rfl | rfl | rfl | rfl <;> simp <;> rw [List.getElem?_eq_getElem (by omega)] <;> rfl
theorem crc_Open.calls (A0 : Option Addr) (c0 : Nat) (l0 : List Int) (r1 : List Int) (r2 : Option Int) (w : World) (hr0 : Kd.C (Kd.int .u8) w A0 l0.length l0) (hc0 : l0.length ≤ c0) (h : crc_Open.f l0 = some (r1, r2)) (hG : GL w) :
    Calls Tryd.prog 14 #[.slice A0 l0.length c0] w fun e w' => ∃ v0_ : Value, e = .returned (.tuple #[v0_, errW r2]) ∧ Kd.R (Kd.int .u8) 5 w' w.heap.size (fun _ => True) v0_ r1 ∧ Below w.heap.size w w' := by
  unfold crc_Open.f at h
  by_cases hl : l0.length < 140737488355328
  · rw [if_pos hl] at h
    by_cases h4 : l0.length < 4
    · rw [if_pos h4] at h
      injection h with h
      injection h with h1 h2
      subst h1 h2
      exact (open_short A0 c0 l0 w h4).mono fun e w' ⟨he, hb⟩ => ⟨_, he, Kd.R_nil _ _ _ _ _, hb⟩
    · rw [if_neg h4] at h
      obtain ⟨q, hq⟩ : ∃ q, l0.length = q + 4 := ⟨l0.length - 4, by omega⟩
      have e4 : l0.length - 4 = q := by omega
      rw [e4] at h
      obtain ⟨ad, rfl, _⟩ := hr0.2.2 (by omega)
      have hO := open_long ad c0 l0 w q hq hl hr0 hc0 hG (moreZ 0 (l0.take q)) _ _ _ _ rfl rfl rfl rfl rfl
      have hi := (eqB_iff (l0.getD (q + 0) 0) (l0.getD (q + 1) 0) (l0.getD (q + 2) 0) (l0.getD (q + 3) 0) (moreZ 0 (l0.take q) % 256) (moreZ 0 (l0.take q) / 256 % 256) (moreZ 0 (l0.take q) / 65536 % 256) (moreZ 0 (l0.take q) / 16777216 % 256))
      rw [← last_four l0 q hq] at hi
      change _ ↔ l0.drop q = laidB (moreZ 0 (l0.take q)) at hi
      by_cases hE : l0.drop q = laidB (moreZ 0 (l0.take q))
      · rw [if_pos hE] at h
        injection h with h
        injection h with h1 h2
        subst h1 h2
        rw [if_pos (hi.2 hE), if_pos (hi.2 hE)] at hO
        exact hO.mono fun e w' ⟨⟨v, he, hr⟩, hb⟩ => ⟨v, he, hr, hb⟩
      · rw [if_neg hE] at h
        injection h with h
        injection h with h1 h2
        subst h1 h2
        rw [if_neg (fun e => hE (hi.1 e)), if_neg (fun e => hE (hi.1 e))] at hO
        exact hO.mono fun e w' ⟨⟨v, he, hr⟩, hb⟩ => ⟨v, he, hr, hb⟩
  · rw [if_neg hl] at h
    cases h
end Go.Proofs.YtgaklpmedgcglaaDoor.P
