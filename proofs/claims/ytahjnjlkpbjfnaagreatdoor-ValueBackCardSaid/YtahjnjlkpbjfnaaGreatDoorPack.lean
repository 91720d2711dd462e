/- Short words for the printed walks: what tools/pack.py writes in place of long ones. -/
import Derived.Test.YtahjnjlkpbjfnaaGreatDoorMine
import Derived.Test.YtahjnjlkpbjfnaaGreatDoorWLast
import Derived.Test.YtahjnjlkpbjfnaaGreatDoorWMore
set_option linter.unusedVariables false
namespace Go.Proofs.YtahjnjlkpbjfnaaGreatDoor
open Go.RowKit Go.Proofs.YtahjnjlkpbjfnaaGreatDoorW.PrintWords Go.Proofs.YtahjnjlkpbjfnaaGreatDoorW.PrintLast Go.Proofs.YtahjnjlkpbjfnaaGreatDoorW.PrintMore
abbrev Y : Bool := true
abbrev O : Bool := false
/-- Flags: first so many that are true. -/
def fl (a b : Nat) : Array Bool := (List.replicate a true ++ List.replicate b false).toArray
/-- Short names of kit lemmas. -/
theorem XA : type_of% @below_alloc := @below_alloc
theorem XN : type_of% @pw_below_drewN := @pw_below_drewN
theorem XD : type_of% @below_drew1 := @below_drew1
theorem XS : type_of% @below_set := @below_set
theorem YA : type_of% @blk_alloc := @blk_alloc
theorem YN : type_of% @blk_drewN := @blk_drewN
theorem YD : type_of% @blk_drew := @blk_drew
theorem XZ : type_of% @below_size := @below_size
theorem XT : type_of% @below_step := @below_step
theorem As : type_of% @Aside0.mk := @Aside0.mk
theorem dT : type_of% @of_decide_eq_true := @of_decide_eq_true
theorem dY : type_of% @decide_eq_true := @decide_eq_true
theorem dN : type_of% @decide_eq_false := @decide_eq_false
theorem RA : type_of% @Kd.R_alloc := @Kd.R_alloc
theorem RN : type_of% @Kd.R_drewN := @Kd.R_drewN
theorem RD : type_of% @Kd.R_drew := @Kd.R_drew
theorem RB : type_of% @Kd.R_below := @Kd.R_below
theorem RR : type_of% @Kd.R_reads' := @Kd.R_reads'
theorem BL : type_of% @World.block_lt_of_cell? := @World.block_lt_of_cell?
theorem bE {α β : Type _} {b : β} {o : Option α} {f : α → Option β} (h : o.bind f = some b) : ∃ a, o = some a ∧ f a = some b := Option.bind_eq_some_iff.mp h
theorem no0 : (none : Option Int).isNone = true := rfl
theorem z0 {α : Type _} (l : List α) (i : Nat) (a : α) : l.toArray.setIfInBounds i a = (l.set i a).toArray := by simp
theorem z1 {α : Type _} (x : α) (xs : List α) (a : α) : (x :: xs).set 0 a = a :: xs := by simp
theorem z2 {α : Type _} (x : α) (xs : List α) (n : Nat) (a : α) : (x :: xs).set (n + 1) a = x :: xs.set n a := by simp
/-- Steps that the walks take again and again, each under a short name. -/
theorem bk {P Q : Prop} (h0 : P) (h : P → Q := by intro h0_; (with_reducible repeat (first | refine YN ?_ _ | refine YD ?_ | refine YA ?_ _)); exact h0_) : Q := h h0
theorem be {P Q : Prop} (h0 : P) (h : P → Q := by intro h0_; repeat (first | (with_reducible first | exact h0_ | apply XA | apply XN | apply XD | refine XS ?_ (Aside0.out (by assumption))) | exact h0_)) : Q := h h0
theorem ro {P Q : Prop} (h0 : P) (h : P → Q := by intro h0_; (with_reducible repeat (first | apply RA | apply RN | apply RD)); exact h0_) : Q := h h0
theorem sa {P : Prop} (h : P := by (try simp only [List.map_toArray, List.map_cons, List.map_nil]); first | done | rfl | (simp only [List.length_drop, List.length_take]; rfl)) : P := h
theorem kr {P : Prop} (h : P := by kernel_rfl) : P := h
theorem sw {P : Prop} (h : P := by first | rfl | (simp; done) | (simp [*]; done) | (simp; unfold wrap64; omega)) : P := h
theorem hy {P : Prop} (h : P := by first | (with_reducible assumption) | assumption) : P := h
end Go.Proofs.YtahjnjlkpbjfnaaGreatDoor
