/- Opening what a row hands over: a value of any type that the print knows, read as the kind that the walks want. -/
import Derived.Test.YtdakfmldbddokaaGreatDoorWWords
import Derived.OpenShut
import Derived.Deep.Slices
import Derived.ChangeArms
import Derived.ChangeMaps5
set_option linter.unusedVariables false
namespace Go.Proofs.YtdakfmldbddokaaGreatDoorW.PrintWords
open Go.RowKit Go.ChangeShapes Go.WideShapes
namespace Kd
section
variable {H : Type} {enc : TypeId × Value → H} {P : Program} {w : World} {base : Nat} {spare : Nat → Bool} {held : Bool} {α β : Type}
def Opens (enc : TypeId × Value → H) (P : Program) (w : World) (base : Nat) (spare : Nat → Bool) (held : Bool) (t : TypeId) (d : Kd α) (good : α → Prop) : Prop :=
  ∀ fuel cs x, DataW.trod enc P w base spare held fuel t cs = some x → ∃ a, d.K w a cs ∧ good a
theorem opens_int {t : TypeId} {k : IntKind} (ht : P.underlying t = some (.int k)) : Opens enc P w base spare held t (Kd.int k) (fun n => (Lit.int k n).wf = true) := by
  intro fuel cs x h
  obtain ⟨n, rfl, _, hw⟩ := DataW.trod_int ht h
  exact ⟨n, rfl, hw⟩
theorem opens_bool {t : TypeId} (ht : P.underlying t = some .bool) : Opens enc P w base spare held t Kd.bool (fun _ => True) := by
  intro fuel cs x h
  cases fuel with
  | zero => simp [DataW.trod] at h
  | succ n =>
    rw [DataW.trod_step] at h
    unfold DataW.trodStep at h
    rw [ht] at h
    split at h <;> simp_all
    rename_i b_
    cases b_ with
    | false => exact .inl rfl
    | true => exact .inr rfl
theorem opens_string {t : TypeId} (ht : P.underlying t = some .string) : Opens enc P w base spare held t Kd.string (fun s => s.size ≤ maxLen) := by
  intro fuel cs x h
  cases fuel with
  | zero => simp [DataW.trod] at h
  | succ n =>
    rw [DataW.trod_step] at h
    unfold DataW.trodStep at h
    rw [ht] at h
    split at h <;> simp_all
    exact ⟨_, rfl, h.1⟩
theorem choose_list {Q : Nat → α → Prop} : ∀ n, (∀ i, i < n → ∃ y, Q i y) → ∃ l : List α, l.length = n ∧ ∀ i y, l[i]? = some y → Q i y := by
  intro n
  induction n with
  | zero => intro _; exact ⟨[], rfl, fun i y h => by simp at h⟩
  | succ n ih =>
    intro h
    obtain ⟨l, hl, hq⟩ := ih (fun i hi => h i (by omega))
    obtain ⟨y, hy⟩ := h n (by omega)
    refine ⟨l ++ [y], by simp [hl], fun i z hz => ?_⟩
    by_cases hi : i < n
    · rw [List.getElem?_append_left (by omega)] at hz; exact hq i z hz
    · rw [List.getElem?_append_right (by omega), hl] at hz
      by_cases hi2 : i = n
      · subst hi2; simp at hz; exact hz ▸ hy
      · have : i - n = (i - n - 1) + 1 := by omega
        rw [this] at hz; simp at hz
theorem opens_slice {t e : TypeId} {d : Kd α} {g : α → Prop} (ht : P.underlying t = some (.slice e)) (hs : P.cellsOf e = d.sz) (he : Opens enc P w base spare held e d g) :
    Opens enc P w base spare held t (Kd.slice e d) (fun l => l.length ≤ maxLen ∧ ∀ x ∈ l, g x) := by
  intro fuel cs x h
  rcases Go.Deep.open_slice ht h with ⟨rfl, _⟩ | ⟨a, len, cap, m, n, D, Pl, rfl, hb, hl, hm, hmm, _, hi⟩
  · exact ⟨[], ⟨none, 0, rfl, Nat.le_refl _, rfl, Nat.zero_le _, fun h => absurd h (by simp)⟩, Nat.zero_le _, fun x hx => by cases hx⟩
  · have hlm : len ≤ m := by rw [hmm]; split <;> omega
    obtain ⟨l, hll, hq⟩ := choose_list (Q := fun i y => ∃ c, c.length = d.sz ∧ d.K w y c ∧ g y ∧ ∀ j u, c[j]? = some u → w.cell? (a.add (i * d.sz + j)) = some u) len (fun i hil => by
      obtain ⟨cs', hc, ht'⟩ := hi i (by omega)
      obtain ⟨y, hk, hg⟩ := he _ _ _ ht'
      obtain ⟨_, hcl, hat⟩ := World.cells?_some hc
      refine ⟨y, cs', by rw [hcl, hs], hk, hg, fun j u hu => ?_⟩
      have hj : j < P.cellsOf e := by rw [← hcl]; exact (List.getElem?_eq_some_iff.1 hu).1
      rw [← Go.Deep.add_add, ← hs, hat j hj, hu])
    subst hll
    refine ⟨l, ⟨some a, cap, rfl, hl, rfl, ?_, fun _ => ⟨a, rfl, fun j p hp => ?_⟩⟩, Nat.le_trans hl hm, fun x hx => ?_⟩
    · unfold maxLen at hm; omega
    · obtain ⟨c, h1, h2, _, h3⟩ := hq j p hp; exact ⟨c, h1, h2, h3⟩
    · obtain ⟨j, hj, rfl⟩ := List.mem_iff_getElem.1 hx
      obtain ⟨c, _, _, h3, _⟩ := hq j _ (List.getElem?_eq_getElem hj)
      exact h3
/-- Parts in line: types and where they begin. -/
def OpensF (enc : TypeId × Value → H) (P : Program) (w : World) (base : Nat) (spare : Nat → Bool) (held : Bool) (fs : List (TypeId × Nat)) (off : Nat) (d : Kd α) (good : α → Prop) : Prop :=
  ∀ n (cs : List Value), off + d.sz ≤ cs.length → (∀ (i : Nat) (f : TypeId × Nat), fs[i]? = some f → ∃ y, DataW.trod enc P w base spare held n f.1 ((cs.drop f.2).take (P.cellsOf f.1)) = some y) → ∃ a, d.K w a ((cs.drop off).take d.sz) ∧ good a
theorem opensF_one {t : TypeId} {off : Nat} {d : Kd α} {g : α → Prop} (hs : P.cellsOf t = d.sz) (h : Opens enc P w base spare held t d g) : OpensF enc P w base spare held [(t, off)] off d g := by
  intro n cs hl hf
  obtain ⟨y, hy⟩ := hf 0 _ rfl
  rw [hs] at hy
  exact h _ _ _ hy
theorem opensF_cons {t : TypeId} {off : Nat} {d : Kd α} {d2 : Kd β} {g : α → Prop} {g2 : β → Prop} {fs : List (TypeId × Nat)} (hs : P.cellsOf t = d.sz) (h : Opens enc P w base spare held t d g) (h2 : OpensF enc P w base spare held fs (off + d.sz) d2 g2) :
    OpensF enc P w base spare held ((t, off) :: fs) off (Kd.pair d d2) (fun a => g a.1 ∧ g2 a.2) := by
  intro n cs hl hf
  have hl' : off + (d.sz + d2.sz) ≤ cs.length := hl
  obtain ⟨y, hy⟩ := hf 0 _ rfl
  rw [hs] at hy
  obtain ⟨a, ka, ga⟩ := h _ _ _ hy
  obtain ⟨b, kb, gb⟩ := h2 n cs (by omega) (fun i f hi => hf (i + 1) f hi)
  refine ⟨(a, b), ⟨_, _, ?_, ka, kb⟩, ga, gb⟩
  show (cs.drop off).take (d.sz + d2.sz) = _
  rw [List.take_add, List.drop_drop]
theorem opens_struct {t : TypeId} {fs : Array Field} {d : Kd α} {g : α → Prop} (hu : P.underlying t = some (.struct fs)) (hs : P.cellsOf t = d.sz) (f : β → α) (mk : α → β) (hmk : ∀ a, f (mk a) = a)
    (h : OpensF enc P w base spare held (fs.toList.map fun q => (q.type, q.offset)) 0 d g) : Opens enc P w base spare held t (Kd.iso d f) (fun x => g (f x)) := by
  intro fuel cs x hx
  obtain ⟨xs, n, _, _, hl, hxl, hf⟩ := DataW.trod_struct hu hx
  obtain ⟨a, ka, ga⟩ := h n cs (by omega) (fun i q hq => by
    rw [List.getElem?_map, Option.map_eq_some_iff] at hq
    obtain ⟨q0, hq0, rfl⟩ := hq
    have hq1 : fs[i]? = some q0 := by simpa using hq0
    have hi : i < xs.length := by rw [hxl]; exact (Array.getElem?_eq_some_iff.1 hq1).1
    exact ⟨_, (hf i q0 hq1).trans (List.getElem?_eq_getElem hi)⟩)
  rw [List.drop_zero, List.take_of_length_le (by omega)] at ka
  exact ⟨mk a, by show d.K w (f (mk a)) cs; rw [hmk]; exact ka, by show g (f (mk a)); rw [hmk]; exact ga⟩
theorem opens_array {t e : TypeId} {m : Nat} {d : Kd α} {g : α → Prop} (hu : P.underlying t = some (.array m e)) (hs : P.cellsOf t = d.sz) (f : β → α) (mk : α → β) (hmk : ∀ a, f (mk a) = a)
    (h : OpensF enc P w base spare held ((List.range m).map fun i => (e, i * P.cellsOf e)) 0 d g) : Opens enc P w base spare held t (Kd.iso d f) (fun x => g (f x)) := by
  intro fuel cs x hx
  cases fuel with
  | zero => simp [DataW.trod] at hx
  | succ n =>
    rw [DataW.trod_step] at hx
    unfold DataW.trodStep at hx
    simp only [hu] at hx
    split at hx
    case isFalse => cases hx
    case isTrue hl =>
    obtain ⟨ys, hy, _⟩ := Option.map_eq_some_iff.1 hx
    obtain ⟨a, ka, ga⟩ := h n cs (by omega) (fun i q hq => by
      rw [List.getElem?_map, Option.map_eq_some_iff] at hq
      obtain ⟨q0, hq0, rfl⟩ := hq
      have hlen : ys.length = m := by simpa using mapM_some_length hy
      have hi : i < m := by
        have := (List.getElem?_eq_some_iff.1 hq0).1
        simpa using this
      have e0 : q0 = i := by
        rw [List.getElem?_range hi] at hq0
        exact (Option.some.inj hq0).symm
      subst e0
      have h1 := mapM_some_get hy q0 q0 (by rw [List.getElem?_range hi])
      exact ⟨_, h1.trans (List.getElem?_eq_getElem (by rw [hlen]; exact hi))⟩)
    rw [List.drop_zero, List.take_of_length_le (by omega)] at ka
    exact ⟨mk a, by show d.K w (f (mk a)) cs; rw [hmk]; exact ka, by show g (f (mk a)); rw [hmk]; exact ga⟩
theorem opens_trod {t : TypeId} {d : Kd α} {g : α → Prop} (h : Opens enc P w base spare held t d g) {v : Value} {D : DataW H} {ps : List MemPlace} (hd : DataW.Trod enc P w base spare held t v D ps) : ∃ a, d.K w a v.cells.toList ∧ g a := by
  obtain ⟨fuel, hf⟩ := hd
  exact h _ _ _ hf
theorem okWide_array {t e : TypeId} {m : Nat} (hu : P.underlying t = some (.array m e)) {r : Reach} {b0 : Nat} {v : Value} (h : Value.okWide P w r b0 t v) : ∃ cs : Array Value, v = .agg cs := by
  simp only [Value.okWide, hu] at h
  obtain ⟨cs, h1, _⟩ := h
  exact ⟨cs, h1⟩
end
end Kd
end Go.Proofs.YtdakfmldbddokaaGreatDoorW.PrintWords
