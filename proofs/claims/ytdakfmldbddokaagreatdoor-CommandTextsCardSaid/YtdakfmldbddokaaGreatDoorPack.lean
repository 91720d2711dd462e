/- Short words for the printed walks: what tools/pack.py writes in place of long ones. -/
import Derived.Test.YtdakfmldbddokaaGreatDoorMine
import Derived.Test.YtdakfmldbddokaaGreatDoorWLast
import Derived.Test.YtdakfmldbddokaaGreatDoorWMore
set_option linter.unusedVariables false
namespace Go.Proofs.YtdakfmldbddokaaGreatDoor
open Go.RowKit Go.Proofs.YtdakfmldbddokaaGreatDoorW.PrintWords Go.Proofs.YtdakfmldbddokaaGreatDoorW.PrintLast Go.Proofs.YtdakfmldbddokaaGreatDoorW.PrintMore
abbrev Y : Bool := true
abbrev O : Bool := false
/-- Flags: first so many that are true. -/
def fl (a b : Nat) : Array Bool := (List.replicate a true ++ List.replicate b false).toArray
/-- Short names of kit lemmas. -/
theorem XA : type_of% @below_alloc := @below_alloc
theorem XN : type_of% @pw_below_drewN := @pw_below_drewN
theorem XD : type_of% @below_drew1 := @below_drew1
theorem XS : type_of% @below_set := @below_set
theorem YA : type_of% @blk_alloc := @blk_alloc
theorem YN : type_of% @blk_drewN := @blk_drewN
theorem YD : type_of% @blk_drew := @blk_drew
theorem YB : type_of% @blk_below := @blk_below
theorem XZ : type_of% @below_size := @below_size
theorem XT : type_of% @below_step := @below_step
theorem As : type_of% @Aside0.mk := @Aside0.mk
theorem dT : type_of% @of_decide_eq_true := @of_decide_eq_true
theorem dY : type_of% @decide_eq_true := @decide_eq_true
theorem dN : type_of% @decide_eq_false := @decide_eq_false
theorem RA : type_of% @Kd.R_alloc := @Kd.R_alloc
theorem RN : type_of% @Kd.R_drewN := @Kd.R_drewN
theorem RD : type_of% @Kd.R_drew := @Kd.R_drew
theorem RF : type_of% @Kd.R_far := @Kd.R_far
theorem RB : type_of% @Kd.R_below := @Kd.R_below
theorem RR : type_of% @Kd.R_reads' := @Kd.R_reads'
theorem RM : type_of% @Kd.R_mono := @Kd.R_mono
theorem BL : type_of% @World.block_lt_of_cell? := @World.block_lt_of_cell?
theorem bE {α β : Type _} {b : β} {o : Option α} {f : α → Option β} (h : o.bind f = some b) : ∃ a, o = some a ∧ f a = some b := Option.bind_eq_some_iff.mp h
theorem no0 : (none : Option Int).isNone = true := rfl
theorem z0 {α : Type _} (l : List α) (i : Nat) (a : α) : l.toArray.setIfInBounds i a = (l.set i a).toArray := by simp
theorem z1 {α : Type _} (x : α) (xs : List α) (a : α) : (x :: xs).set 0 a = a :: xs := by simp
theorem z2 {α : Type _} (x : α) (xs : List α) (n : Nat) (a : α) : (x :: xs).set (n + 1) a = x :: xs.set n a := by simp
theorem bc {w : World} {g : Nat} {t : TypeId} {cs : Array Value} {v : Value} (h : w.heap[g]? = some (.cells cs t (0, 0))) (i : Nat) (e : cs[i]? = some v) : w.cell? ⟨g, i, none⟩ = some v := (blk_cell h i).trans e
theorem blk_to {w : World} {g : Nat} {t : TypeId} {cs cs' : Array Value} (h : w.heap[g]? = some (.cells cs t (0, 0))) (e : cs = cs') : w.heap[g]? = some (.cells cs' t (0, 0)) := e ▸ h
/-- Steps that the walks take again and again, each under a short name. -/
theorem bk {P Q : Prop} (h0 : P) (h : P → Q := by intro h0_; (with_reducible repeat (first | refine YN ?_ _ | refine YD ?_ | refine YA ?_ _)); exact h0_) : Q := h h0
theorem be {P Q : Prop} (h0 : P) (h : P → Q := by intro h0_; repeat (first | (with_reducible first | exact h0_ | apply XA | apply XN | apply XD | refine XS ?_ (Aside0.out (by assumption))) | exact h0_)) : Q := h h0
theorem ro {P Q : Prop} (h0 : P) (h : P → Q := by intro h0_; (with_reducible repeat (first | apply RA | apply RN | apply RD)); exact h0_) : Q := h h0
theorem gz {w W : World} {g : Nat} (hg : g = W.heap.size) (h : Below w.heap.size w W) : w.heap.size ≤ g := hg ▸ XZ h
theorem nl {w : World} {g g2 : Nat} {o : Obj} (hg : g2 = w.heap.size) (h : w.heap[g]? = some o) : g ≠ g2 := hg ▸ Nat.ne_of_lt (blk_lt h)
theorem ng {w : World} {g g2 : Nat} {o : Obj} (hg : g2 = w.heap.size) (h : w.heap[g]? = some o) : g2 ≠ g := hg ▸ Nat.ne_of_gt (blk_lt h)
theorem sa {P : Prop} (h : P := by (try simp only [List.map_toArray, List.map_cons, List.map_nil]); first | done | rfl | (simp only [List.length_drop, List.length_take]; rfl)) : P := h
theorem kr {P : Prop} (h : P := by kernel_rfl) : P := h
theorem sw {P : Prop} (h : P := by first | rfl | (simp; done) | (simp [*]; done) | (simp; unfold wrap64; omega)) : P := h
theorem hy {P : Prop} (h : P := by first | (with_reducible assumption) | assumption) : P := h
theorem cz8 {w : World} {g : Nat} {t : TypeId} {c0 c1 c2 c3 c4 c5 c6 c7 : Value} (h : w.heap[g]? = some (.cells #[c0, c1, c2, c3, c4, c5, c6, c7] t (0, 0))) : w.cell? ⟨g, 0, none⟩ = some c0 ∧ w.cell? ⟨g, 1, none⟩ = some c1 ∧ w.cell? ⟨g, 2, none⟩ = some c2 ∧ w.cell? ⟨g, 3, none⟩ = some c3 ∧ w.cell? ⟨g, 4, none⟩ = some c4 ∧ w.cell? ⟨g, 5, none⟩ = some c5 ∧ w.cell? ⟨g, 6, none⟩ = some c6 ∧ w.cell? ⟨g, 7, none⟩ = some c7 ∧ w.frozen? ⟨g, 0, none⟩ = false ∧ w.frozen? ⟨g, 1, none⟩ = false ∧ w.frozen? ⟨g, 2, none⟩ = false ∧ w.frozen? ⟨g, 3, none⟩ = false ∧ w.frozen? ⟨g, 4, none⟩ = false ∧ w.frozen? ⟨g, 5, none⟩ = false ∧ w.frozen? ⟨g, 6, none⟩ = false ∧ w.frozen? ⟨g, 7, none⟩ = false := ⟨(blk_cell h 0).trans rfl, (blk_cell h 1).trans rfl, (blk_cell h 2).trans rfl, (blk_cell h 3).trans rfl, (blk_cell h 4).trans rfl, (blk_cell h 5).trans rfl, (blk_cell h 6).trans rfl, (blk_cell h 7).trans rfl, blk_frozen h 0, blk_frozen h 1, blk_frozen h 2, blk_frozen h 3, blk_frozen h 4, blk_frozen h 5, blk_frozen h 6, blk_frozen h 7⟩
end Go.Proofs.YtdakfmldbddokaaGreatDoor
