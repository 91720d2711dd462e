/- Opening what a row hands over: a value of any type that the print knows, read as the kind that the walks want. -/
import Derived.Test.YtdakfmldbddokaaGreatDoorWWords
import Derived.OpenShut
import Derived.Deep.Slices
import Derived.ChangeArms
import Derived.ChangeMaps5
set_option linter.unusedVariables false
namespace Go.Proofs.YtdakfmldbddokaaGreatDoorW.PrintWords
open Go.RowKit Go.ChangeShapes Go.WideShapes
namespace Kd
section
variable {H : Type} {enc : TypeId × Value → H} {P : Program} {w : World} {base : Nat} {spare : Nat → Bool} {held : Bool} {α β : Type}
def Opens (enc : TypeId × Value → H) (P : Program) (w : World) (base : Nat) (spare : Nat → Bool) (held : Bool) (t : TypeId) (d : Kd α) (good : α → Prop) : Prop :=
 ∀ fuel cs x, DataW.trod enc P w base spare held fuel t cs = some x → ∃ a, d.K w a cs ∧ good a
theorem opens_int {t : TypeId} {k : IntKind} (ht : P.underlying t = some (.int k)) : Opens enc P w base spare held t (Kd.int k) (fun n => (Lit.int k n).wf = true) := by
 intro fuel cs x h
 obtain ⟨n, rfl, _, hw⟩ := DataW.trod_int ht h
 exact ⟨n, rfl, hw⟩
theorem opens_string {t : TypeId} (ht : P.underlying t = some .string) : Opens enc P w base spare held t Kd.string (fun s => s.size ≤ maxLen) := by
 intro fuel cs x h
 cases fuel with
 | zero => simp [DataW.trod] at h
 | succ n =>
  rw [DataW.trod_step] at h
  unfold DataW.trodStep at h
  rw [ht] at h
  split at h <;> simp_all
  exact ⟨_, rfl, h.1⟩
/-- Parts in line: types and where they begin. -/
def OpensF (enc : TypeId × Value → H) (P : Program) (w : World) (base : Nat) (spare : Nat → Bool) (held : Bool) (fs : List (TypeId × Nat)) (off : Nat) (d : Kd α) (good : α → Prop) : Prop :=
 ∀ n (cs : List Value), off + d.sz ≤ cs.length → (∀ (i : Nat) (f : TypeId × Nat), fs[i]? = some f → ∃ y, DataW.trod enc P w base spare held n f.1 ((cs.drop f.2).take (P.cellsOf f.1)) = some y) → ∃ a, d.K w a ((cs.drop off).take d.sz) ∧ good a
theorem opensF_one {t : TypeId} {off : Nat} {d : Kd α} {g : α → Prop} (hs : P.cellsOf t = d.sz) (h : Opens enc P w base spare held t d g) : OpensF enc P w base spare held [(t, off)] off d g := by
 intro n cs hl hf
 obtain ⟨y, hy⟩ := hf 0 _ rfl
 rw [hs] at hy
 exact h _ _ _ hy
theorem opensF_cons {t : TypeId} {off : Nat} {d : Kd α} {d2 : Kd β} {g : α → Prop} {g2 : β → Prop} {fs : List (TypeId × Nat)} (hs : P.cellsOf t = d.sz) (h : Opens enc P w base spare held t d g) (h2 : OpensF enc P w base spare held fs (off + d.sz) d2 g2) :
  OpensF enc P w base spare held ((t, off) :: fs) off (Kd.pair d d2) (fun a => g a.1 ∧ g2 a.2) := by
 intro n cs hl hf
 have hl' : off + (d.sz + d2.sz) ≤ cs.length := hl
 obtain ⟨y, hy⟩ := hf 0 _ rfl
 rw [hs] at hy
 obtain ⟨a, ka, ga⟩ := h _ _ _ hy
 obtain ⟨b, kb, gb⟩ := h2 n cs (by omega) (fun i f hi => hf (i + 1) f hi)
 refine ⟨(a, b), ⟨_, _, ?_, ka, kb⟩, ga, gb⟩
 show (cs.drop off).take (d.sz + d2.sz) = _
 rw [List.take_add, List.drop_drop]
theorem opens_struct {t : TypeId} {fs : Array Field} {d : Kd α} {g : α → Prop} (hu : P.underlying t = some (.struct fs)) (hs : P.cellsOf t = d.sz) (f : β → α) (mk : α → β) (hmk : ∀ a, f (mk a) = a)
  (h : OpensF enc P w base spare held (fs.toList.map fun q => (q.type, q.offset)) 0 d g) : Opens enc P w base spare held t (Kd.iso d f) (fun x => g (f x)) := by
 intro fuel cs x hx
 obtain ⟨xs, n, _, _, hl, hxl, hf⟩ := DataW.trod_struct hu hx
 obtain ⟨a, ka, ga⟩ := h n cs (by omega) (fun i q hq => by
  rw [List.getElem?_map, Option.map_eq_some_iff] at hq
  obtain ⟨q0, hq0, rfl⟩ := hq
  have hq1 : fs[i]? = some q0 := by simpa using hq0
  have hi : i < xs.length := by rw [hxl]; exact (Array.getElem?_eq_some_iff.1 hq1).1
  exact ⟨_, (hf i q0 hq1).trans (List.getElem?_eq_getElem hi)⟩)
 rw [List.drop_zero, List.take_of_length_le (by omega)] at ka
 exact ⟨mk a, by show d.K w (f (mk a)) cs; rw [hmk]; exact ka, by show g (f (mk a)); rw [hmk]; exact ga⟩
theorem opens_array {t e : TypeId} {m : Nat} {d : Kd α} {g : α → Prop} (hu : P.underlying t = some (.array m e)) (hs : P.cellsOf t = d.sz) (f : β → α) (mk : α → β) (hmk : ∀ a, f (mk a) = a)
  (h : OpensF enc P w base spare held ((List.range m).map fun i => (e, i * P.cellsOf e)) 0 d g) : Opens enc P w base spare held t (Kd.iso d f) (fun x => g (f x)) := by
 intro fuel cs x hx
 cases fuel with
 | zero => simp [DataW.trod] at hx
 | succ n =>
  rw [DataW.trod_step] at hx
  unfold DataW.trodStep at hx
  simp only [hu] at hx
  split at hx
  case isFalse => cases hx
  case isTrue hl =>
  obtain ⟨ys, hy, _⟩ := Option.map_eq_some_iff.1 hx
  obtain ⟨a, ka, ga⟩ := h n cs (by omega) (fun i q hq => by
   rw [List.getElem?_map, Option.map_eq_some_iff] at hq
   obtain ⟨q0, hq0, rfl⟩ := hq
   have hlen : ys.length = m := by simpa using mapM_some_length hy
   have hi : i < m := by
    have := (List.getElem?_eq_some_iff.1 hq0).1
    simpa using this
   have e0 : q0 = i := by
    rw [List.getElem?_range hi] at hq0
    exact (Option.some.inj hq0).symm
   subst e0
   have h1 := mapM_some_get hy q0 q0 (by rw [List.getElem?_range hi])
   exact ⟨_, h1.trans (List.getElem?_eq_getElem (by rw [hlen]; exact hi))⟩)
  rw [List.drop_zero, List.take_of_length_le (by omega)] at ka
  exact ⟨mk a, by show d.K w (f (mk a)) cs; rw [hmk]; exact ka, by show g (f (mk a)); rw [hmk]; exact ga⟩
theorem opens_trod {t : TypeId} {d : Kd α} {g : α → Prop} (h : Opens enc P w base spare held t d g) {v : Value} {D : DataW H} {ps : List MemPlace} (hd : DataW.Trod enc P w base spare held t v D ps) : ∃ a, d.K w a v.cells.toList ∧ g a := by
 obtain ⟨fuel, hf⟩ := hd
 exact h _ _ _ hf
end
end Kd
end Go.Proofs.YtdakfmldbddokaaGreatDoorW.PrintWords
