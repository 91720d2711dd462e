/- The sort's parts at bytes, told by the library's plain functions. -/
import Derived.Test.YtahjnjlkpbjfnaaGreatDoorVaSortQ
import Derived.RangeFuncBox
import Derived.Test.YtahjnjlkpbjfnaaGreatDoorRuShelf
import Derived.RangeFuncNested
import Derived.Laws.Bits64
import Derived.Laws.Bits64b
import Derived.Sort.AssemblyPlain
import Derived.Deep.Cut
set_option linter.unusedVariables false
set_option linter.unusedSimpArgs false
namespace Go.Proofs.YtahjnjlkpbjfnaaGreatDoor.P
open Go Go.RowKit Go.Shelf Go.Proofs.YtahjnjlkpbjfnaaGreatDoorW.PrintWords Go.Proofs.YtahjnjlkpbjfnaaGreatDoorW.PrintLast Go.Proofs.YtahjnjlkpbjfnaaGreatDoorW.PrintMore
/-- A row of bytes that holds these numbers, in a world that is the older one and more. -/
def St (A : World) (g n cap : Nat) (d : Array Int) (w : World) : Prop := (∃ ok, Kz.R (Kd.int .u8) 5 w A.heap.size ok (.slice (some ⟨g, 0, none⟩) n cap) d.toList) ∧ Below A.heap.size A w
section
variable {A : World} {g n cap : Nat} {d : Array Int} {w : World}
theorem St.len (h : St A g n cap d w) : d.size = n := by
  obtain ⟨⟨ok, hR⟩, _⟩ := h
  have := (Kz.R_at hR).1
  simpa using this.symm
theorem St.lt (h : St A g n cap d w) : g < w.heap.size ∧ A.heap.size ≤ g ∧ A.heap.size ≤ w.heap.size := by
  obtain ⟨⟨ok, hR⟩, hb⟩ := h
  obtain ⟨_, h1, cur, fr, h2, _⟩ := Kz.R_at hR
  exact ⟨(Array.getElem?_eq_some_iff.1 h2).1, h1, hb.size⟩
theorem St.below (h : St A g n cap d w) {w' : World} (hb : Below w.heap.size w w') : St A g n cap d w' := by
  have hl := h.lt
  obtain ⟨⟨ok, hR⟩, hB⟩ := h
  exact ⟨⟨ok, Kz.R_below hR hb⟩, hB.trans (hb.mono hl.2.2)⟩
theorem St.drewN (h : St A g n cap d w) (q : Nat) : St A g n cap d (w.drewN q) := h.below (pw_below_drewN (Below.refl _ _) q)
theorem St.cell (h : St A g n cap d w) (i : Nat) (hi : i < n) : w.cell? ⟨g, i, none⟩ = some (.int .u8 d[i]!) := by
  have hl := h.len
  obtain ⟨⟨ok, hR⟩, _⟩ := h
  have := (Kz.R_cells hR i (by simp; omega)).1
  rw [this, getElem!_pos d i (by omega)]
  simp
theorem ins_st (h : St A g n cap d w) (a b : Nat) (hab : a ≤ b) (hb : b ≤ n) (hn : n ≤ 100000) :
    Calls Tryz.prog 103 #[.slice (some ⟨g, 0, none⟩) n cap, .int .i64 a, .int .i64 b] w fun e w' => e = .returned (.tuple #[]) ∧ St A g n cap (Sort.insertionSort Sort.ltInt d a b) w' := by
  have hl := h.len
  obtain ⟨⟨ok, hR⟩, hB⟩ := h
  obtain ⟨k, hk⟩ := PSim.ins_f a b d hab (by omega) (by omega)
  refine (slices_insertionSortOrdered_byte.calls k ok _ _ _ _ _ A w hB hR hk).mono ?_
  rintro e w' ⟨rfl, hy, hb2, _⟩
  exact ⟨rfl, ⟨_, hy⟩, hb2⟩
theorem rev_st (h : St A g n cap d w) (a b : Nat) (hab : a < b) (hb : b ≤ n) (hn : n ≤ 100000) :
    Calls Tryz.prog 107 #[.slice (some ⟨g, 0, none⟩) n cap, .int .i64 a, .int .i64 b] w fun e w' => e = .returned (.tuple #[]) ∧ St A g n cap (Sort.reverseRange d a b) w' := by
  have hl := h.len
  obtain ⟨⟨ok, hR⟩, hB⟩ := h
  obtain ⟨k, hk⟩ := PSim.rev_f d a b hab (by omega) (by omega)
  refine (slices_reverseRangeOrdered_byte.calls k ok _ _ _ _ _ A w hB hR hk).mono ?_
  rintro e w' ⟨rfl, hy, hb2, _⟩
  exact ⟨rfl, ⟨_, hy⟩, hb2⟩
theorem peq_st (h : St A g n cap d w) (a b pivot : Nat) (hap : a ≤ pivot) (hpb : pivot < b) (hb : b ≤ n) (hn : n ≤ 100000) :
    Calls Tryz.prog 110 #[.slice (some ⟨g, 0, none⟩) n cap, .int .i64 a, .int .i64 b, .int .i64 pivot] w fun e w' => e = .returned (.int .i64 ((Sort.partitionEqual Sort.ltInt d a b pivot).1 : Int)) ∧ St A g n cap (Sort.partitionEqual Sort.ltInt d a b pivot).2 w' := by
  have hl := h.len
  obtain ⟨⟨ok, hR⟩, hB⟩ := h
  obtain ⟨k, hk⟩ := PSim.peq_f a b pivot d hap hpb (by omega) (by omega)
  refine (slices_partitionEqualOrdered_byte.calls k ok _ _ _ _ _ _ _ A w hB hR hk).mono ?_
  rintro e w' ⟨rfl, hy, hb2, _⟩
  exact ⟨rfl, ⟨_, hy⟩, hb2⟩
theorem prt_st (h : St A g n cap d w) (a b pivot : Nat) (hap : a ≤ pivot) (hpb : pivot < b) (hb : b ≤ n) (hn : n ≤ 100000) :
    Calls Tryz.prog 111 #[.slice (some ⟨g, 0, none⟩) n cap, .int .i64 a, .int .i64 b, .int .i64 pivot] w fun e w' => e = .returned (.tuple #[.int .i64 ((Sort.partition Sort.ltInt d a b pivot).1 : Int), .bool (Sort.partition Sort.ltInt d a b pivot).2.1]) ∧ St A g n cap (Sort.partition Sort.ltInt d a b pivot).2.2 w' := by
  have hl := h.len
  obtain ⟨⟨ok, hR⟩, hB⟩ := h
  obtain ⟨k, hk⟩ := PSim.prt_f a b pivot d hap hpb (by omega) (by omega)
  refine (slices_partitionOrdered_byte.calls k ok _ _ _ _ _ _ _ _ A w hB hR hk).mono ?_
  rintro e w' ⟨rfl, hy, hb2, _⟩
  exact ⟨rfl, ⟨_, hy⟩, hb2⟩
theorem par_st (h : St A g n cap d w) (a b : Nat) (hab : a < b) (hb : b ≤ n) (hn : n ≤ 100000) (h50 : b - a < 50) :
    Calls Tryz.prog 108 #[.slice (some ⟨g, 0, none⟩) n cap, .int .i64 a, .int .i64 b] w fun e w' => ∃ r : Bool, e = .returned (.bool r) ∧ (r = true → Sort.SortedIn Sort.ltInt a b d) ∧ St A g n cap d w' := by
  have hl := h.len
  have hst := h
  obtain ⟨⟨ok, hR⟩, hB⟩ := h
  obtain ⟨k, r, hk, hr⟩ := PSim.par_f a b d hab (by omega) (by omega) h50
  obtain ⟨_, hc, hC⟩ := Kz.R_reads' hR
  have := slices_partialInsertionSortOrdered_byte.calls k (some ⟨g, 0, none⟩) cap d.toList a b r w hC (by rw [← (Kz.R_at hR).1]; exact hc) hk
  rw [show d.toList.length = n by simpa using hl] at this
  refine this.mono ?_
  rintro e w' ⟨rfl, hb2⟩
  exact ⟨r, rfl, hr, hst.below hb2⟩
end
end Go.Proofs.YtahjnjlkpbjfnaaGreatDoor.P

/- The choice of a pivot, of a row of 8 to 49 bytes: which place it names; the row stays. -/
set_option linter.unusedVariables false
set_option linter.unusedSimpArgs false
namespace Go.Proofs.YtahjnjlkpbjfnaaGreatDoor.P
open Go Go.RowKit Go.Shelf Go.Proofs.YtahjnjlkpbjfnaaGreatDoorW.PrintWords Go.Proofs.YtahjnjlkpbjfnaaGreatDoorW.PrintLast Go.Proofs.YtahjnjlkpbjfnaaGreatDoorW.PrintMore
theorem less_walk (x y : Int) (w : World) : Calls Tryz.prog 109 #[.int .u8 x, .int .u8 y] w fun e w' => e = .returned (.bool (decide (x < y))) ∧ Drawn0 w w' :=
  cmp_Less_byte.calls x y _ w (by unfold cmp_Less_byte.f cmp_isNaN_byte.f; rw [Option.bind_some, if_neg (by simp)])
set_option maxRecDepth 100000 in
set_option maxHeartbeats 4000000 in
theorem order2_walk (g n cap p : Nat) (a b : Nat) (x y s : Int) (w : World) (ha : a < n) (hb : b < n) (hn : n ≤ 100000) (hx : w.cell? ⟨g, a, none⟩ = some (.int .u8 x)) (hy : w.cell? ⟨g, b, none⟩ = some (.int .u8 y)) (hp : Boxed w p 3 (.int .i64 s)) (hg : g ≠ p) :
    Calls Tryz.prog 144 #[.slice (some ⟨g, 0, none⟩) n cap, .int .i64 a, .int .i64 b, .pointer (some ⟨p, 0, none⟩)] w fun e w' =>
      if y < x then e = .returned (.tuple #[.int .i64 b, .int .i64 a]) ∧ ∃ q, w' = (w.drewN q).setCell ⟨p, 0, none⟩ (.int .i64 (wrap64 (s + 1))) else e = .returned (.tuple #[.int .i64 a, .int .i64 b]) ∧ ∃ q, w' = w.drewN q := by
  have hL := fun W => less_walk y x W
  have hx1 : w.drew.cell? ⟨g, a, none⟩ = some (.int .u8 x) := hx
  have hy1 : w.drew.cell? ⟨g, b, none⟩ = some (.int .u8 y) := hy
  by_cases h : y < x
  · rw [decide_eq_true h] at hL
    simp only [if_pos h]
    go_enter Tryz.func144, Tryz.ntmps144
    go_wp2
    go_region_with (go_at_call 109; refine (hL _).mono ?_; rintro e w' ⟨rfl, nd, rfl⟩)
    all_goals
      have hc : (w.drewN (1 + nd)).cell? ⟨p, 0, none⟩ = some (.int .i64 s) := hp.cell
      have hf : (w.drewN (1 + nd)).frozen? ⟨p, 0, none⟩ = false := hp.frozen
      go_wp2
      first | go_ret2 | go_ret
      exact ⟨rfl, _, rfl⟩
  · rw [decide_eq_false h] at hL
    simp only [if_neg h]
    go_enter Tryz.func144, Tryz.ntmps144
    go_wp2
    go_region_with (go_at_call 109; refine (hL _).mono ?_; rintro e w' ⟨rfl, nd, rfl⟩)
    all_goals
      go_wp2
      first | go_ret2 | go_ret
      exact ⟨rfl, _, rfl⟩
/-- What the two places look like behind order2, and how many turns there were. -/
def ord2 (l : List Int) (a b : Nat) (s : Int) : Nat × Nat × Int := if rd l (b : Int) < rd l (a : Int) then (b, a, wrap64 (s + 1)) else (a, b, s)
theorem ord2_lt {l : List Int} {a b n : Nat} {s : Int} (ha : a < n) (hb : b < n) : (ord2 l a b s).1 < n ∧ (ord2 l a b s).2.1 < n := by
  unfold ord2
  split
  · exact ⟨hb, ha⟩
  · exact ⟨ha, hb⟩
theorem order2_z (base : Nat) (g n cap p : Nat) (a b : Nat) (s : Int) (ok : Nat → Prop) (l : List Int) (w : World) (ha : a < n) (hb : b < n) (hn : n ≤ 100000) (hR : Kz.R (Kd.int .u8) 5 w base ok (.slice (some ⟨g, 0, none⟩) n cap) l) (hp : Boxed w p 3 (.int .i64 s)) (hg : g ≠ p) :
    Calls Tryz.prog 144 #[.slice (some ⟨g, 0, none⟩) n cap, .int .i64 a, .int .i64 b, .pointer (some ⟨p, 0, none⟩)] w fun e w' =>
      e = .returned (.tuple #[.int .i64 ((ord2 l a b s).1 : Int), .int .i64 ((ord2 l a b s).2.1 : Int)]) ∧ Boxed w' p 3 (.int .i64 (ord2 l a b s).2.2) ∧ (∃ q, w' = w.drewN q ∨ w' = (w.drewN q).setCell ⟨p, 0, none⟩ (.int .i64 (wrap64 (s + 1)))) := by
  have hl := (Kz.R_at hR).1
  have hc := fun (j : Nat) (hj : j < l.length) => (Kz.R_cells hR j hj).1
  have hr : ∀ (j : Nat) (hj : j < l.length), rd l (j : Int) = l[j] := fun j hj => by unfold rd; rw [Int.toNat_natCast, List.getD_eq_getElem?_getD, List.getElem?_eq_getElem hj]; rfl
  refine (order2_walk g n cap p a b l[a] l[b] s w ha hb hn (hc a (by omega)) (hc b (by omega)) hp hg).mono ?_
  intro e w' h
  unfold ord2
  rw [hr a (by omega), hr b (by omega)]
  by_cases hlt : l[b] < l[a]
  · rw [if_pos hlt] at h
    obtain ⟨rfl, q, rfl⟩ := h
    rw [if_pos hlt]
    exact ⟨rfl, (show Boxed (w.drewN q) p 3 (.int .i64 s) from hp).set _, q, .inr rfl⟩
  · rw [if_neg hlt] at h
    obtain ⟨rfl, q, rfl⟩ := h
    rw [if_neg hlt]
    exact ⟨rfl, hp, q, .inl rfl⟩
/-- What a call that only reads the row leaves: the row and the box as they are told, nothing else turned but the box. -/
def Turned (p : Nat) (w w' : World) : Prop := w'.os = w.os ∧ w'.tape = w.tape ∧ w'.output = w.output ∧ w.heap.size ≤ w'.heap.size ∧ ∀ k, k < w.heap.size → k ≠ p → w'.heap[k]? = w.heap[k]?
theorem Turned.refl (p : Nat) (w : World) : Turned p w w := ⟨rfl, rfl, rfl, Nat.le_refl _, fun _ _ _ => rfl⟩
theorem Turned.trans {p : Nat} {A B C : World} (h : Turned p A B) (k : Turned p B C) : Turned p A C :=
  ⟨k.1.trans h.1, k.2.1.trans h.2.1, k.2.2.1.trans h.2.2.1, Nat.le_trans h.2.2.2.1 k.2.2.2.1, fun j hj hn => (k.2.2.2.2 j (Nat.lt_of_lt_of_le hj h.2.2.2.1) hn).trans (h.2.2.2.2 j hj hn)⟩
theorem turned_q {p : Nat} {w w' : World} {v : Value} (h : ∃ q, w' = w.drewN q ∨ w' = (w.drewN q).setCell ⟨p, 0, none⟩ v) : Turned p w w' := by
  obtain ⟨q, rfl | rfl⟩ := h
  · exact ⟨rfl, rfl, rfl, Nat.le_refl _, fun _ _ _ => rfl⟩
  · exact ⟨rfl, rfl, rfl, by simp [World.setCell, World.drewN], fun k _ hn => (Below.heap_setCell _ _ _ k hn)⟩
/-- order2, told by where its answers lie. -/
theorem order2_in (base g n cap p a b : Nat) (s : Int) (ok : Nat → Prop) (l : List Int) (w : World) (ha : a < n) (hb : b < n) (hn : n ≤ 100000) (hR : Kz.R (Kd.int .u8) 5 w base ok (.slice (some ⟨g, 0, none⟩) n cap) l) (hp : Boxed w p 3 (.int .i64 s)) (hg : g ≠ p) :
    Calls Tryz.prog 144 #[.slice (some ⟨g, 0, none⟩) n cap, .int .i64 a, .int .i64 b, .pointer (some ⟨p, 0, none⟩)] w fun e w' =>
      ∃ (a' b' : Nat) (s' : Int), e = .returned (.tuple #[.int .i64 (a' : Int), .int .i64 (b' : Int)]) ∧ ((a' = a ∧ b' = b) ∨ (a' = b ∧ b' = a)) ∧ Boxed w' p 3 (.int .i64 s') ∧ Turned p w w' := by
  refine (order2_z base g n cap p a b s ok l w ha hb hn hR hp hg).mono ?_
  rintro e w' ⟨rfl, hb', hq⟩
  refine ⟨_, _, _, rfl, ?_, hb', turned_q hq⟩
  unfold ord2
  split
  · exact .inr ⟨rfl, rfl⟩
  · exact .inl ⟨rfl, rfl⟩
theorem z_turned {p base g n cap : Nat} {ok : Nat → Prop} {l : List Int} {w w' : World} (hR : Kz.R (Kd.int .u8) 5 w base ok (.slice (some ⟨g, 0, none⟩) n cap) l) (hg : g ≠ p) (h : Turned p w w') : Kz.R (Kd.int .u8) 5 w' base ok (.slice (some ⟨g, 0, none⟩) n cap) l := by
  obtain ⟨h0, g', cap', cur, fr, he, hb, hgg, r⟩ := hR
  simp only [Value.slice.injEq, Option.some.injEq, Addr.mk.injEq] at he
  obtain ⟨⟨rfl, _⟩, rfl, rfl⟩ := he
  exact ⟨h0, g, cap, cur, fr, rfl, hb, (h.2.2.2.2 g (Array.getElem?_eq_some_iff.1 hgg).1 hg).trans hgg, r⟩
set_option maxRecDepth 100000 in
set_option maxHeartbeats 4000000 in
/-- The median of three places is one of these. -/
theorem median_in (base g n cap p a b c : Nat) (s : Int) (ok : Nat → Prop) (l : List Int) (w : World) (ha : a < n) (hb : b < n) (hc : c < n) (hn : n ≤ 100000) (hR : Kz.R (Kd.int .u8) 5 w base ok (.slice (some ⟨g, 0, none⟩) n cap) l) (hp : Boxed w p 3 (.int .i64 s)) (hg : g ≠ p) :
    Calls Tryz.prog 130 #[.slice (some ⟨g, 0, none⟩) n cap, .int .i64 a, .int .i64 b, .int .i64 c, .pointer (some ⟨p, 0, none⟩)] w fun e w' =>
      ∃ (m : Nat) (s' : Int), e = .returned (.int .i64 (m : Int)) ∧ (m = a ∨ m = b ∨ m = c) ∧ Boxed w' p 3 (.int .i64 s') ∧ Turned p w w' := by
  have h1 := order2_in base g n cap p a b s ok l w ha hb hn hR hp hg
  have hO : ∀ (x y : Nat) (s1 : Int) (W : World), x < n → y < n → Boxed W p 3 (.int .i64 s1) → Turned p w W → Calls Tryz.prog 144 #[.slice (some ⟨g, 0, none⟩) n cap, .int .i64 x, .int .i64 y, .pointer (some ⟨p, 0, none⟩)] W fun e w' => ∃ (a' b' : Nat) (s' : Int), e = .returned (.tuple #[.int .i64 (a' : Int), .int .i64 (b' : Int)]) ∧ ((a' = x ∧ b' = y) ∨ (a' = y ∧ b' = x)) ∧ Boxed w' p 3 (.int .i64 s') ∧ Turned p W w' := fun x y s1 W hx hy hb1 ht => order2_in base g n cap p x y s1 ok l W hx hy hn (z_turned hR hg ht) hb1 hg
  go_enter Tryz.func130, Tryz.ntmps130
  go_wp2_with (first
    | (go_at_call 144; refine h1.mono ?_; clear h1; rintro e w1 ⟨a1, b1, s1, rfl, hab, hb1, ht1⟩; have la : a1 < n := (by omega); have lb1 : b1 < n := (by omega); have h2 := hO b1 c s1 w1 lb1 hc hb1 ht1; clear hb1 lb1)
    | (go_at_call 144; refine h2.mono ?_; clear h2; rintro e w2 ⟨b2, c2, s2, rfl, hbc, hb2, ht2⟩; have lb2 : b2 < n := (by omega); have ht3 := ht1.trans ht2; have h3 := hO a1 b2 s2 w2 la lb2 hb2 ht3; clear hb2)
    | (go_at_call 144; refine h3.mono ?_; clear h3; rintro e w3 ⟨a3, b3, s3, rfl, hab3, hb3, ht4⟩))
  go_ret
  exact ⟨b3, s3, rfl, by omega, hb3, ht3.trans ht4⟩
end Go.Proofs.YtahjnjlkpbjfnaaGreatDoor.P

/- The choice of a pivot, of a row of 8 to 49 bytes: it names a place of the row; the row stays. -/
set_option linter.unusedVariables false
set_option linter.unusedSimpArgs false
namespace Go.Proofs.YtahjnjlkpbjfnaaGreatDoor.P
open Go Go.RowKit Go.Shelf Go.Proofs.YtahjnjlkpbjfnaaGreatDoorW.PrintWords Go.Proofs.YtahjnjlkpbjfnaaGreatDoorW.PrintLast Go.Proofs.YtahjnjlkpbjfnaaGreatDoorW.PrintMore
theorem below_turned {p : Nat} {w w1 w' : World} (h : Below p w w1) (hp : p < w1.heap.size) (ht : Turned p w1 w') : Below p w w' := by
  refine h.trans ⟨ht.1, ht.2.1, ht.2.2.1, ht.2.2.2.1, fun k hk => ht.2.2.2.2 k (by omega) (by omega)⟩
set_option maxRecDepth 100000 in
set_option maxHeartbeats 4000000 in
theorem pivot_in (base g n cap a b : Nat) (ok : Nat → Prop) (l : List Int) (w : World) (hab : a + 8 ≤ b) (hab2 : b < a + 50) (hb : b ≤ n) (hn : n ≤ 100000) (hR : Kz.R (Kd.int .u8) 5 w base ok (.slice (some ⟨g, 0, none⟩) n cap) l) (hg : g < w.heap.size) :
    Calls Tryz.prog 106 #[.slice (some ⟨g, 0, none⟩) n cap, .int .i64 a, .int .i64 b] w fun e w' =>
      ∃ (m : Nat) (hint : Int), e = .returned (.tuple #[.int .i64 (m : Int), .int .i64 hint]) ∧ (hint = 0 ∨ hint = 1 ∨ hint = 2) ∧ a ≤ m ∧ m < b ∧ Below w.heap.size w w' := by
  obtain ⟨I, hI⟩ : ∃ I : Nat, I = a + (b - a) / 4 * 1 := ⟨_, rfl⟩
  obtain ⟨J, hJ⟩ : ∃ J : Nat, J = a + (b - a) / 4 * 2 := ⟨_, rfl⟩
  obtain ⟨K, hK⟩ : ∃ K : Nat, K = a + (b - a) / 4 * 3 := ⟨_, rfl⟩
  have eI : ((a : Int) + ((b : Int) - (a : Int)) / 4) = (I : Int) := by omega
  have eJ : ((a : Int) + ((b : Int) - (a : Int)) / 4 * 2) = (J : Int) := by omega
  have eK : ((a : Int) + ((b : Int) - (a : Int)) / 4 * 3) = (K : Int) := by omega
  have hio : a ≤ I ∧ I < b ∧ a ≤ J ∧ J < b ∧ a ≤ K ∧ K < b := by omega
  have hM := median_in base g n cap w.heap.size I J K 0 ok l _ (by omega) (by omega) (by omega) hn (Kz.R_alloc hR (.cells #[.int .i64 0] 3)) (Boxed.new w 3 (.int .i64 0)) (by omega)
  have hA := below_alloc (Below.refl w.heap.size w) (.cells #[.int .i64 0] 3)
  have hz : w.heap.size < (w.alloc (.cells #[.int .i64 0] 3)).heap.size := by rw [World.size_alloc]; omega
  have hC : ∀ w', Turned w.heap.size (w.alloc (.cells #[.int .i64 0] 3)) w' → Below w.heap.size w w' := fun w' ht => below_turned hA hz ht
  have hio2 : ∀ m : Nat, (m = I ∨ m = J ∨ m = K) → a ≤ m ∧ m < b := fun m hm => by omega
  have h50 : ¬ 50 ≤ (b : Int) - (a : Int) := by omega
  have h8 : 8 ≤ (b : Int) - (a : Int) := by omega
  clear hR hI hJ hK hio hA hz hg
  go_enter Tryz.func106, Tryz.ntmps106
  go_wp2_with (first | (go_at_call 130; refine hM.mono ?_; rintro e w' ⟨m, s', rfl, hm, hbx, ht⟩; have hcs := hbx.cell; replace hm := hio2 m hm; replace ht := hC w' ht; clear hbx))
  all_goals
    go_ret2
    first
      | exact ⟨m, _, rfl, .inl rfl, hm.1, hm.2, ht⟩
      | exact ⟨m, _, rfl, .inr (.inl rfl), hm.1, hm.2, ht⟩
      | exact ⟨m, _, rfl, .inr (.inr rfl), hm.1, hm.2, ht⟩
end Go.Proofs.YtahjnjlkpbjfnaaGreatDoor.P

/- Patterns broken, of 13 to 16 bytes: three places are turned with others; the bytes stay the same ones. -/
set_option linter.unusedVariables false
set_option linter.unusedSimpArgs false
namespace Go.Proofs.YtahjnjlkpbjfnaaGreatDoor.P
open Go Go.RowKit Go.Shelf Go.Proofs.YtahjnjlkpbjfnaaGreatDoorW.PrintWords Go.Proofs.YtahjnjlkpbjfnaaGreatDoorW.PrintLast Go.Proofs.YtahjnjlkpbjfnaaGreatDoorW.PrintMore
theorem set_set (w : World) (p : Nat) (v v' : Value) : (w.setCell ⟨p, 0, none⟩ v).setCell ⟨p, 0, none⟩ v' = w.setCell ⟨p, 0, none⟩ v' := by
  unfold World.setCell
  congr 1
  apply Array.ext_getElem?
  intro k
  simp only [Array.getElem?_modify]
  by_cases hk : p = k
  · simp only [hk, if_true]
    cases w.heap[k]? with
    | none => rfl
    | some o => cases o <;> simp
  · simp [hk]
set_option maxHeartbeats 1000000 in
set_option maxRecDepth 100000 in
/-- The next of the numbers drawn: any; it stands in its box. -/
theorem next_walk (p X : Nat) (hX : X < 18446744073709551616) (w : World) (hb : Boxed w p 173 (.int .u64 X)) :
    Calls Tryz.prog 128 #[.pointer (some ⟨p, 0, none⟩)] w fun e w' => ∃ Y : Nat, Y < 18446744073709551616 ∧ e = .returned (.int .u64 (Y : Int)) ∧ w' = (w.setCell ⟨p, 0, none⟩ (.int .u64 (Y : Int))).drewN 3 := by
  obtain ⟨A, hA⟩ : ∃ A : Nat, A = X ^^^ (X * 8192 % 18446744073709551616) := ⟨_, rfl⟩
  obtain ⟨B, hB⟩ : ∃ B : Nat, B = A ^^^ (A / 128) := ⟨_, rfl⟩
  obtain ⟨C, hC⟩ : ∃ C : Nat, C = B ^^^ (B * 131072 % 18446744073709551616) := ⟨_, rfl⟩
  have lA : A < 18446744073709551616 := by rw [hA]; exact Nat.xor_lt_two_pow (n := 64) (by omega) (by omega)
  have lB : B < 18446744073709551616 := by rw [hB]; exact Nat.xor_lt_two_pow (n := 64) (by omega) (by omega)
  have lC : C < 18446744073709551616 := by rw [hC]; exact Nat.xor_lt_two_pow (n := 64) (by omega) (by omega)
  have e1 : bits .xor .u64 (X : Int) (IntKind.u64.wrap ((X : Int) * 8192)) = (A : Int) := by
    rw [IntKind.wrap_u64, show ((X : Int) * 8192 % 18446744073709551616) = ((X * 8192 % 18446744073709551616 : Nat) : Int) by omega, bits_xor_u64_nat _ _ hX (by omega), hA]
  have e2 : bits .xor .u64 (A : Int) ((A : Int) / 128) = (B : Int) := by
    rw [show ((A : Int) / 128) = ((A / 128 : Nat) : Int) by omega, bits_xor_u64_nat _ _ lA (by omega), hB]
  have e3 : bits .xor .u64 (B : Int) (IntKind.u64.wrap ((B : Int) * 131072)) = (C : Int) := by
    rw [IntKind.wrap_u64, show ((B : Int) * 131072 % 18446744073709551616) = ((B * 131072 % 18446744073709551616 : Nat) : Int) by omega, bits_xor_u64_nat _ _ lB (by omega), hC]
  have hss : ∀ v v', (w.setCell ⟨p, 0, none⟩ v).setCell ⟨p, 0, none⟩ v' = w.setCell ⟨p, 0, none⟩ v' := set_set w p
  have hc := hb.cell
  have hf := hb.frozen
  clear hA hB hC hb
  go_enter Tryz.func128, Tryz.ntmps128
  go_wp2
  go_region
  all_goals go_wp2
  all_goals go_region
  all_goals go_wp2
  all_goals go_region
  all_goals go_wp2
  go_ret
  exact ⟨C, lC, rfl, rfl⟩
theorem np_13 (w : World) : Calls Tryz.prog 127 #[.int .i64 13] w fun e w' => e = .returned (.int .u64 16) ∧ w' = w := by
  have hLen : ∀ w, Calls Tryz.prog 83 #[.int .u64 13] w fun e w' => e = .returned (.int .i64 4) ∧ w' = w := fun w => Tryz.bits_Len 13 w (by decide) (by decide)
  go_enter Tryz.func127, Tryz.ntmps127
  go_wp2_with (first | (go_at_call 83; refine (hLen _).mono ?_; rintro e w' ⟨rfl, rfl⟩))
  go_ret
  exact ⟨rfl, rfl⟩
theorem np_14 (w : World) : Calls Tryz.prog 127 #[.int .i64 14] w fun e w' => e = .returned (.int .u64 16) ∧ w' = w := by
  have hLen : ∀ w, Calls Tryz.prog 83 #[.int .u64 14] w fun e w' => e = .returned (.int .i64 4) ∧ w' = w := fun w => Tryz.bits_Len 14 w (by decide) (by decide)
  go_enter Tryz.func127, Tryz.ntmps127
  go_wp2_with (first | (go_at_call 83; refine (hLen _).mono ?_; rintro e w' ⟨rfl, rfl⟩))
  go_ret
  exact ⟨rfl, rfl⟩
theorem np_15 (w : World) : Calls Tryz.prog 127 #[.int .i64 15] w fun e w' => e = .returned (.int .u64 16) ∧ w' = w := by
  have hLen : ∀ w, Calls Tryz.prog 83 #[.int .u64 15] w fun e w' => e = .returned (.int .i64 4) ∧ w' = w := fun w => Tryz.bits_Len 15 w (by decide) (by decide)
  go_enter Tryz.func127, Tryz.ntmps127
  go_wp2_with (first | (go_at_call 83; refine (hLen _).mono ?_; rintro e w' ⟨rfl, rfl⟩))
  go_ret
  exact ⟨rfl, rfl⟩
theorem np_16 (w : World) : Calls Tryz.prog 127 #[.int .i64 16] w fun e w' => e = .returned (.int .u64 32) ∧ w' = w := by
  have hLen : ∀ w, Calls Tryz.prog 83 #[.int .u64 16] w fun e w' => e = .returned (.int .i64 5) ∧ w' = w := fun w => Tryz.bits_Len 16 w (by decide) (by decide)
  go_enter Tryz.func127, Tryz.ntmps127
  go_wp2_with (first | (go_at_call 83; refine (hLen _).mono ?_; rintro e w' ⟨rfl, rfl⟩))
  go_ret
  exact ⟨rfl, rfl⟩
theorem np_any (L : Nat) (h1 : 13 ≤ L) (h2 : L ≤ 16) : ∃ M : Nat, 1 ≤ M ∧ M ≤ 2 * L ∧ ∀ w, Calls Tryz.prog 127 #[.int .i64 (L : Int)] w fun e w' => e = .returned (.int .u64 (M : Int)) ∧ w' = w := by
  have : L = 13 ∨ L = 14 ∨ L = 15 ∨ L = 16 := by omega
  rcases this with rfl | rfl | rfl | rfl
  · exact ⟨16, by decide, by decide, np_13⟩
  · exact ⟨16, by decide, by decide, np_14⟩
  · exact ⟨16, by decide, by decide, np_15⟩
  · exact ⟨32, by decide, by decide, np_16⟩
theorem st_step {A wr : World} {g n cap p X Y i j q : Nat} {d : Array Int} (hS : St A g n cap d wr) (hx : Boxed wr p 173 (.int .u64 X)) (hpg : g ≠ p) (hpA : A.heap.size ≤ p) (hi : i < n) (hj : j < n) :
    St A g n cap (Sort.swp d i j) ((((wr.setCell ⟨p, 0, none⟩ (.int .u64 (Y : Int))).drewN q).setCell ⟨g, i, none⟩ (.int .u8 d[j]!)).setCell ⟨g, j, none⟩ (.int .u8 d[i]!)) ∧ Boxed ((((wr.setCell ⟨p, 0, none⟩ (.int .u64 (Y : Int))).drewN q).setCell ⟨g, i, none⟩ (.int .u8 d[j]!)).setCell ⟨g, j, none⟩ (.int .u8 d[i]!)) p 173 (.int .u64 Y) := by
  have hlt := hS.lt
  obtain ⟨⟨ok, hR⟩, hB⟩ := hS
  have ht : Turned p wr ((wr.setCell ⟨p, 0, none⟩ (.int .u64 (Y : Int))).drewN q) := ⟨rfl, rfl, rfl, by simp [World.setCell, World.drewN], fun k _ hn => (Below.heap_setCell _ _ _ k hn)⟩
  have hR1 := z_turned hR hpg ht
  have hR2 := Kz.R_putn (Kz.R_putn hR1 (i : Int) d[j]!) (j : Int) d[i]!
  rw [Int.toNat_natCast, Int.toNat_natCast, PSim.set_swp d i j _ _ rfl rfl] at hR2
  refine ⟨⟨⟨ok, hR2⟩, ((pw_below_drewN (hB.setCell (p := ⟨p, 0, none⟩) hpA _) q).setCell (p := ⟨g, i, none⟩) hlt.2.1 _).setCell (p := ⟨g, j, none⟩) hlt.2.1 _⟩, ?_⟩
  have h0 : Boxed ((wr.setCell ⟨p, 0, none⟩ (.int .u64 (Y : Int))).drewN q) p 173 (.int .u64 Y) := hx.set _
  exact ((Below.heap_setCell _ _ _ p (fun e => hpg e.symm)).trans (Below.heap_setCell _ _ _ p (fun e => hpg e.symm))).trans h0
end Go.Proofs.YtahjnjlkpbjfnaaGreatDoor.P

/- Patterns broken: the loop of three rounds. -/
set_option linter.unusedVariables false
set_option linter.unusedSimpArgs false
namespace Go.Proofs.YtahjnjlkpbjfnaaGreatDoor.P
open Go Go.RowKit Go.Shelf Go.Proofs.YtahjnjlkpbjfnaaGreatDoorW.PrintWords Go.Proofs.YtahjnjlkpbjfnaaGreatDoorW.PrintLast Go.Proofs.YtahjnjlkpbjfnaaGreatDoorW.PrintMore
/-- A fact that the walk does not read. -/
structure Hid1 (p : Prop) : Prop where
  out : p
theorem St.frozen {A w : World} {g n cap : Nat} {d : Array Int} (h : St A g n cap d w) (i : Nat) (hi : i < n) : w.frozen? ⟨g, i, none⟩ = false := by
  have hl := h.len
  obtain ⟨⟨ok, hR⟩, _⟩ := h
  exact (Kz.R_cells hR i (by simp; omega)).2
theorem st_next {A wr w1 : World} {g n cap p X Y : Nat} {d : Array Int} (hS : St A g n cap d wr) (hx : Boxed wr p 173 (.int .u64 X)) (hpg : g ≠ p) (hpA : A.heap.size ≤ p) (hw : w1 = (wr.setCell ⟨p, 0, none⟩ (.int .u64 (Y : Int))).drewN 3) : St A g n cap d w1 ∧ Boxed w1 p 173 (.int .u64 Y) := by
  subst hw
  obtain ⟨⟨ok, hR⟩, hB⟩ := hS
  have ht : Turned p wr ((wr.setCell ⟨p, 0, none⟩ (.int .u64 (Y : Int))).drewN 3) := ⟨rfl, rfl, rfl, by simp [World.setCell, World.drewN], fun k _ hn => (Below.heap_setCell _ _ _ k hn)⟩
  exact ⟨⟨⟨ok, z_turned hR hpg ht⟩, pw_below_drewN (hB.setCell (p := ⟨p, 0, none⟩) hpA _) 3⟩, (hx.set _ : Boxed (wr.setCell ⟨p, 0, none⟩ (.int .u64 (Y : Int))) p _ _)⟩
theorem st_swp {A w1 : World} {g n cap p Y : Nat} {d : Array Int} (hS : St A g n cap d w1) (hx : Boxed w1 p 173 (.int .u64 Y)) (hpg : g ≠ p) (i j q : Nat) (x y : Int) (ex : x = d[j]!) (ey : y = d[i]!) :
    St A g n cap (Sort.swp d i j) (((w1.drewN q).setCell ⟨g, i, none⟩ (.int .u8 x)).setCell ⟨g, j, none⟩ (.int .u8 y)) ∧ Boxed (((w1.drewN q).setCell ⟨g, i, none⟩ (.int .u8 x)).setCell ⟨g, j, none⟩ (.int .u8 y)) p 173 (.int .u64 Y) := by
  subst ex ey
  have hlt := hS.lt
  obtain ⟨⟨ok, hR⟩, hB⟩ := hS
  have hR2 := Kz.R_putn (Kz.R_putn (Kz.R_drewN hR q) (i : Int) d[j]!) (j : Int) d[i]!
  rw [Int.toNat_natCast, Int.toNat_natCast, PSim.set_swp d i j _ _ rfl rfl] at hR2
  refine ⟨⟨⟨ok, hR2⟩, ((pw_below_drewN hB q).setCell (p := ⟨g, i, none⟩) hlt.2.1 _).setCell (p := ⟨g, j, none⟩) hlt.2.1 _⟩, ?_⟩
  exact ((Below.heap_setCell _ _ _ p (fun e => hpg e.symm)).trans (Below.heap_setCell _ _ _ p (fun e => hpg e.symm))).trans (show Boxed (w1.drewN q) p _ _ from hx)
set_option maxHeartbeats 4000000 in
set_option maxRecDepth 100000 in
theorem brk_go (A : World) (g n cap a L : Nat) (d : Array Int) (w : World) (hS : St A g n cap d w) (h1 : 13 ≤ L) (h2 : L ≤ 16) (hb : a + L ≤ n) (hn : n ≤ 100000) :
    Calls Tryz.prog 105 #[.slice (some ⟨g, 0, none⟩) n cap, .int .i64 a, .int .i64 ((a + L : Nat) : Int)] w fun e w' => e = .returned (.tuple #[]) ∧ ∃ d' : Array Int, Sort.PermIn a (a + L) d d' ∧ St A g n cap d' w' := by
  obtain ⟨M, hM1, hM2, hNP⟩ := np_any L h1 h2
  have hlt := hS.lt
  have hlen := hS.len
  have hg : g < w.heap.size := hlt.1
  have hpA : A.heap.size ≤ w.heap.size := hlt.2.2
  have hS1 : Hid1 (St A g n cap d (w.alloc (.cells #[.int .u64 (L : Int)] 173))) := ⟨hS.below (below_alloc (Below.refl _ _) _)⟩
  have hX1 : Hid1 (Boxed (w.alloc (.cells #[.int .u64 (L : Int)] 173)) w.heap.size 173 (.int .u64 (L : Int))) := ⟨Boxed.new _ _ _⟩
  clear hS hlt
  go_enter Tryz.func105, Tryz.ntmps105
  go_wp2_with (first | (go_at_call 127; rw [show ((a : Int) + (L : Int) - (a : Int)) = (L : Int) by omega]; refine (hNP _).mono ?_; rintro e w' ⟨rfl, rfl⟩))
  go_loopw [9] (fun vi wr => ∃ (t X : Nat) (dk : Array Int), vi = .int .i64 ((a + L / 4 * 2 - 1 + t : Nat) : Int) ∧ t ≤ 3 ∧ X < 18446744073709551616 ∧ Hid1 (Sort.PermIn a (a + L) d dk) ∧ Hid1 (St A g n cap dk wr) ∧ Hid1 (Boxed wr w.heap.size 173 (.int .u64 (X : Int)))) (fun vi _ => a + L / 4 * 2 + 3 - (intOf vi).toNat)
  case atStart => exact ⟨0, L, d, by congr 1; omega, by omega, by omega, ⟨Sort.permIn_refl d a (a + L)⟩, hS1, hX1⟩
  case round =>
    obtain ⟨t, X, dk, rfl, ht, hX, hP, hSk, hXk⟩ := hrel
    have hNext := next_walk w.heap.size X hX wr hXk.out
    go_wp2_with (first | (go_at_call 128; refine hNext.mono ?_; rintro e w1 ⟨Y, hY, rfl, hw1⟩; have hS1' := Hid1.mk (st_next hSk.out hXk.out (by omega) hpA hw1).1; have hX1' := Hid1.mk (st_next hSk.out hXk.out (by omega) hpA hw1).2; clear hw1; obtain ⟨O, hO⟩ : ∃ O : Nat, O = Y &&& (M - 1) := ⟨_, rfl⟩; have lO : O ≤ M - 1 := (by rw [hO]; exact Nat.and_le_right); have eAnd : bits .and .u64 (Y : Int) ((M : Int) - 1) = (O : Int) := (by rw [show ((M : Int) - 1) = ((M - 1 : Nat) : Int) by omega, bits_and_u64_nat _ _ hY (by omega), hO]); clear hO))
    · have hLO : L ≤ O := by omega
      obtain ⟨I, hI⟩ : ∃ I : Nat, a + L / 4 * 2 - 1 + t = I := ⟨_, rfl⟩
      obtain ⟨J, hJ⟩ : ∃ J : Nat, a + (O - L) = J := ⟨_, rfl⟩
      obtain ⟨x, hx⟩ : ∃ x : Int, dk[I]! = x := ⟨_, rfl⟩
      obtain ⟨y, hy⟩ : ∃ y : Int, dk[J]! = y := ⟨_, rfl⟩
      have cI : w1.cell? ⟨g, a + L / 4 * 2 - 1 + t, none⟩ = some (.int .u8 x) := by rw [hI, ← hx]; exact hS1'.out.cell I (by omega)
      have cJ : w1.cell? ⟨g, a + (O - L), none⟩ = some (.int .u8 y) := by rw [hJ, ← hy]; exact hS1'.out.cell J (by omega)
      have fI : w1.frozen? ⟨g, a + L / 4 * 2 - 1 + t, none⟩ = false := by rw [hI]; exact hS1'.out.frozen I (by omega)
      have fJ : w1.frozen? ⟨g, a + (O - L), none⟩ = false := by rw [hJ]; exact hS1'.out.frozen J (by omega)
      have HI := Hid1.mk hI
      have HJ := Hid1.mk hJ
      have HX := Hid1.mk hx.symm
      have HY := Hid1.mk hy.symm
      clear hI hJ hx hy
      by_cases hEq : a + L / 4 * 2 - 1 + t = a + (O - L)
      all_goals
        go_region
        all_goals go_wp2
        go_roundw
        case rel =>
          have hI := HI.out
          have hJ := HJ.out
          have hl := hSk.out.len
          have hs := st_swp hS1'.out hX1'.out (by omega) I J 1 y x HY.out HX.out
          rw [← hI, ← hJ] at hs
          refine ⟨t + 1, Y, Sort.swp dk I J, by first | rfl | (congr 1 <;> omega), by omega, hY, ⟨Sort.permIn_trans _ _ _ _ _ hP.out (Sort.swp_permIn dk a (a + L) _ _ (by omega) (by omega) (by omega) (by omega) (by omega))⟩, ⟨?_⟩, ⟨?_⟩⟩
          · rw [← hI, ← hJ]; first | exact hs.1 | (have hxy : x = y := (by rw [HX.out, HY.out, show I = J by omega]); rw [hxy] at hs; rw [hEq] at hs ⊢; exact hs.1)
          · first | exact hs.2 | (have hxy : x = y := (by rw [HX.out, HY.out, show I = J by omega]); rw [hxy] at hs; rw [hEq] at hs; exact hs.2)
        case measure => simp [intOf]; omega
    · have hLO : ¬ L ≤ O := by omega
      obtain ⟨I, hI⟩ : ∃ I : Nat, a + L / 4 * 2 - 1 + t = I := ⟨_, rfl⟩
      obtain ⟨J, hJ⟩ : ∃ J : Nat, a + O = J := ⟨_, rfl⟩
      obtain ⟨x, hx⟩ : ∃ x : Int, dk[I]! = x := ⟨_, rfl⟩
      obtain ⟨y, hy⟩ : ∃ y : Int, dk[J]! = y := ⟨_, rfl⟩
      have cI : w1.cell? ⟨g, a + L / 4 * 2 - 1 + t, none⟩ = some (.int .u8 x) := by rw [hI, ← hx]; exact hS1'.out.cell I (by omega)
      have cJ : w1.cell? ⟨g, a + O, none⟩ = some (.int .u8 y) := by rw [hJ, ← hy]; exact hS1'.out.cell J (by omega)
      have fI : w1.frozen? ⟨g, a + L / 4 * 2 - 1 + t, none⟩ = false := by rw [hI]; exact hS1'.out.frozen I (by omega)
      have fJ : w1.frozen? ⟨g, a + O, none⟩ = false := by rw [hJ]; exact hS1'.out.frozen J (by omega)
      have HI := Hid1.mk hI
      have HJ := Hid1.mk hJ
      have HX := Hid1.mk hx.symm
      have HY := Hid1.mk hy.symm
      clear hI hJ hx hy
      by_cases hEq : a + L / 4 * 2 - 1 + t = a + O
      all_goals
        go_region
        all_goals go_wp2
        go_roundw
        case rel =>
          have hI := HI.out
          have hJ := HJ.out
          have hl := hSk.out.len
          have hs := st_swp hS1'.out hX1'.out (by omega) I J 1 y x HY.out HX.out
          rw [← hI, ← hJ] at hs
          refine ⟨t + 1, Y, Sort.swp dk I J, by first | rfl | (congr 1 <;> omega), by omega, hY, ⟨Sort.permIn_trans _ _ _ _ _ hP.out (Sort.swp_permIn dk a (a + L) _ _ (by omega) (by omega) (by omega) (by omega) (by omega))⟩, ⟨?_⟩, ⟨?_⟩⟩
          · rw [← hI, ← hJ]; first | exact hs.1 | (have hxy : x = y := (by rw [HX.out, HY.out, show I = J by omega]); rw [hxy] at hs; rw [hEq] at hs ⊢; exact hs.1)
          · first | exact hs.2 | (have hxy : x = y := (by rw [HX.out, HY.out, show I = J by omega]); rw [hxy] at hs; rw [hEq] at hs; exact hs.2)
        case measure => simp [intOf]; omega
    · obtain rfl : t = 3 := by omega
      go_end0
      exact ⟨rfl, dk, hP.out, hSk.out⟩
end Go.Proofs.YtahjnjlkpbjfnaaGreatDoor.P

/- The sort of at most twelve bytes; the pivot, told by its row. -/
set_option linter.unusedVariables false
set_option linter.unusedSimpArgs false
namespace Go.Proofs.YtahjnjlkpbjfnaaGreatDoor.P
open Go Go.RowKit Go.Shelf Go.Proofs.YtahjnjlkpbjfnaaGreatDoorW.PrintWords Go.Proofs.YtahjnjlkpbjfnaaGreatDoorW.PrintLast Go.Proofs.YtahjnjlkpbjfnaaGreatDoorW.PrintMore
theorem piv_st {A w : World} {g n cap : Nat} {d : Array Int} (h : St A g n cap d w) (a b : Nat) (hab : a + 8 ≤ b) (hab2 : b < a + 50) (hb : b ≤ n) (hn : n ≤ 100000) :
    Calls Tryz.prog 106 #[.slice (some ⟨g, 0, none⟩) n cap, .int .i64 a, .int .i64 b] w fun e w' => ∃ (m : Nat) (hint : Int), e = .returned (.tuple #[.int .i64 (m : Int), .int .i64 hint]) ∧ (hint = 0 ∨ hint = 1 ∨ hint = 2) ∧ a ≤ m ∧ m < b ∧ Hid1 (St A g n cap d w') := by
  have hlt := h.lt
  have hst := h
  obtain ⟨⟨ok, hR⟩, hB⟩ := h
  refine (pivot_in A.heap.size g n cap a b ok d.toList w hab hab2 hb hn hR hlt.1).mono ?_
  rintro e w' ⟨m, hint, rfl, hh, h1, h2, hb2⟩
  exact ⟨m, hint, rfl, hh, h1, h2, ⟨hst.below hb2⟩⟩
set_option maxHeartbeats 1000000 in
theorem nan_same (x : Int) (w : World) : Calls Tryz.prog 131 #[.int .u8 x] w fun e w' => e = .returned (.bool false) ∧ w' = w := by
  go_enter Tryz.func131, Tryz.ntmps131
  go_wp2
  go_ret
  exact ⟨by simp, rfl⟩
set_option maxHeartbeats 1000000 in
theorem less_same (x y : Int) (w : World) : Calls Tryz.prog 109 #[.int .u8 x, .int .u8 y] w fun e w' => e = .returned (.bool (decide (x < y))) ∧ w' = w := by
  go_enter Tryz.func109, Tryz.ntmps109
  go_wp2_with (go_at_call 131; refine (nan_same _ _).mono ?_; rintro e w' ⟨rfl, rfl⟩)
  go_ret
  exact ⟨rfl, rfl⟩
set_option maxHeartbeats 4000000 in
set_option maxRecDepth 100000 in
theorem pdq_small {A w : World} {g n cap : Nat} {d : Array Int} (h : St A g n cap d w) (a b lim : Nat) (hab : a ≤ b) (h12 : b - a ≤ 12) (hb : b ≤ n) (hn : n ≤ 100000) :
    Calls Tryz.prog 82 #[.slice (some ⟨g, 0, none⟩) n cap, .int .i64 a, .int .i64 b, .int .i64 lim] w fun e w' => e = .returned (.tuple #[]) ∧ ∃ d' : Array Int, Sort.PermIn a b d d' ∧ Sort.SortedIn Sort.ltInt a b d' ∧ St A g n cap d' w' := by
  have hc := ins_st h a b hab hb hn
  have hp := Sort.insertionSort_holds Sort.swo_ltInt d a b hab (by rw [h.len]; exact hb)
  have h12z : (b : Int) - (a : Int) ≤ 12 := by omega
  generalize Sort.insertionSort Sort.ltInt d a b = d' at hc hp
  have HP := Hid1.mk hp
  clear hp h
  go_enter Tryz.func82, Tryz.ntmps82
  go_wp2
  go_loopg [1, 2, 3, 8, 9] 1 (fun k s1 s2 s3 s8 s9 wr => s1 = .int .i64 (a : Int) ∧ s2 = .int .i64 (b : Int) ∧ s3 = .int .i64 (lim : Int) ∧ s8 = .bool true ∧ s9 = .bool true ∧ wr = w)
  case atStart => exact ⟨rfl, rfl, rfl, rfl, rfl, rfl⟩
  case round =>
    obtain ⟨rfl, rfl, rfl, rfl, rfl, rfl⟩ := hrel
    go_wp2_with (go_at_call 103; refine hc.mono ?_; rintro e w1 ⟨rfl, hw1⟩)
    (try simp only [Exit.inBlock, Exit.then]); refine bodyPost_ret (results_none rfl _ _ _) rfl ?_
    exact ⟨rfl, d', HP.out.1, HP.out.2, hw1⟩
end Go.Proofs.YtahjnjlkpbjfnaaGreatDoor.P

/- The sort of 13 to 16 bytes: the same ones, sorted. -/
set_option linter.unusedVariables false
set_option linter.unusedSimpArgs false
namespace Go.Proofs.YtahjnjlkpbjfnaaGreatDoor.P
open Go Go.RowKit Go.Shelf Go.Proofs.YtahjnjlkpbjfnaaGreatDoorW.PrintWords Go.Proofs.YtahjnjlkpbjfnaaGreatDoorW.PrintLast Go.Proofs.YtahjnjlkpbjfnaaGreatDoorW.PrintMore
/-- Whatever sorts the part that is left sorts the whole. -/
def Fin16 (d : Array Int) (n : Nat) (dk : Array Int) (a b : Nat) : Prop := ∀ R, Sort.PermIn a b dk R → Sort.SortedIn Sort.ltInt a b R → Sort.PermIn 0 n d R ∧ Sort.SortedIn Sort.ltInt 0 n R
theorem fin_perm {d dk d1 : Array Int} {n a b : Nat} (h : Fin16 d n dk a b) (hp : Sort.PermIn a b dk d1) : Fin16 d n d1 a b := fun R hR hs => h R (Sort.permIn_trans _ _ _ a b hp hR) hs
theorem below_perm {dk d1 : Array Int} {a b : Nat} (h : Sort.Below Sort.ltInt a b dk) (hb : b ≤ dk.size) (hp : Sort.PermIn a b dk d1) : Sort.Below Sort.ltInt a b d1 := h.perm hb hp
set_option maxHeartbeats 16000000 in
set_option maxRecDepth 1000000 in
theorem pdq_16 {A w : World} {g n cap : Nat} {d : Array Int} (h : St A g n cap d w) (lim0 : Nat) (hl0 : n ≤ lim0 + 11) (hl1 : lim0 ≤ 1000) (hn : n ≤ 16) :
    Calls Tryz.prog 82 #[.slice (some ⟨g, 0, none⟩) n cap, .int .i64 0, .int .i64 n, .int .i64 lim0] w fun e w' => e = .returned (.tuple #[]) ∧ ∃ d' : Array Int, (Sort.PermIn 0 n d d' ∧ Sort.SortedIn Sort.ltInt 0 n d') ∧ St A g n cap d' w' := by
  have HS0 := Hid1.mk h
  have hlen := h.len
  clear h
  go_enter Tryz.func82, Tryz.ntmps82
  go_wp2
  go_loopg [1, 2, 3, 8, 9] n (fun k s1 s2 s3 s8 s9 wr => ∃ (a' b' lim : Nat) (wb wp : Bool) (dk : Array Int), s1 = .int .i64 (a' : Int) ∧ s2 = .int .i64 (b' : Int) ∧ s3 = .int .i64 (lim : Int) ∧ s8 = .bool wb ∧ s9 = .bool wp ∧
    a' ≤ b' ∧ b' ≤ n ∧ b' - a' ≤ k ∧ k ≤ n ∧ b' - a' ≤ lim + 11 ∧ lim ≤ 1000 ∧ Hid1 (St A g n cap dk wr) ∧ Hid1 (Sort.Below Sort.ltInt a' b' dk) ∧ Hid1 (Fin16 d n dk a' b'))
  case atStart => exact ⟨0, n, lim0, true, true, d, rfl, rfl, rfl, rfl, rfl, by omega, by omega, by omega, by omega, by omega, hl1, HS0, ⟨.inl rfl⟩, ⟨fun R hR hs => ⟨hR, hs⟩⟩⟩
  case round =>
    obtain ⟨a', b', lim, wb, wp, dk, rfl, rfl, rfl, rfl, rfl, hab', hb', hk, hkn, hll, hlu, hS, hBel, hF⟩ := hrel
    clear HS0
    by_cases h12 : b' - a' ≤ 12
    · have h12z : (b' : Int) - (a' : Int) ≤ 12 := by omega
      have hc := ins_st hS.out a' b' hab' hb' (by omega)
      have hp := hF.out _ (Sort.insertionSort_holds Sort.swo_ltInt dk a' b' hab' (by rw [hS.out.len]; exact hb')).1 (Sort.insertionSort_holds Sort.swo_ltInt dk a' b' hab' (by rw [hS.out.len]; exact hb')).2
      generalize Sort.insertionSort Sort.ltInt dk a' b' = d' at hc hp
      have HP := Hid1.mk hp
      clear hp
      go_wp2_with (go_at_call 103; refine hc.mono ?_; rintro e w1 ⟨rfl, hw1⟩)
      (try simp only [Exit.inBlock, Exit.then]); refine bodyPost_ret (results_none rfl _ _ _) rfl ?_
      exact ⟨rfl, d', HP.out, hw1⟩
    · have h12z : ¬ ((b' : Int) - (a' : Int) ≤ 12) := by omega
      have hl0z : ¬ ((lim : Int) = 0) := by omega
      go_upto_if 35 with fail
      go_cut [3] from 19 (fun s3 wc => ∃ (lim1 : Nat) (d1 : Array Int), s3 = .int .i64 (lim1 : Int) ∧ b' - a' ≤ lim1 + 12 ∧ lim1 ≤ 1000 ∧ Hid1 (Sort.PermIn a' b' dk d1) ∧ Hid1 (St A g n cap d1 wc))
      case first =>
        cases wb
        · have hc := brk_go A g n cap a' (b' - a') dk wr hS.out (by omega) (by omega) (by omega) (by omega)
          rw [show a' + (b' - a') = b' by omega] at hc
          go_wp2_with (go_at_call 105; refine hc.mono ?_; rintro e w1 ⟨rfl, d1, hp1, hw1⟩)
          go_meet
          case rel => exact ⟨lim - 1, d1, by congr 1; omega, by omega, by omega, ⟨hp1⟩, ⟨hw1⟩⟩
        · go_wp2_with fail
          go_meet
          case rel => exact ⟨lim, dk, rfl, by omega, by omega, ⟨Sort.permIn_refl dk a' b'⟩, hS⟩
      case rest =>
        obtain ⟨lim1, d1, rfl, hll1, hlu1, hP1, hS1⟩ := hcut
        have hF1 := Hid1.mk (fin_perm hF.out hP1.out)
        have hB1 := Hid1.mk (below_perm hBel.out (by rw [hS.out.len]; exact hb') hP1.out)
        clear hF hBel hP1 hS
        have hc17 := piv_st hS1.out a' b' (by omega) (by omega) hb' (by omega)
        go_upto_if 50 with (go_at_call 106; refine hc17.mono ?_; rintro e w2 ⟨m, hint, rfl, hh, hm1, hm2, hS2⟩)
        clear hc17 hS1
        go_cut [11, 12] from 19 (fun s11 s12 wc => ∃ (pv : Nat) (hi : Int) (d2 : Array Int), s11 = .int .i64 (pv : Int) ∧ s12 = .int .i64 hi ∧ (hi = 0 ∨ hi = 1) ∧ a' ≤ pv ∧ pv < b' ∧ Hid1 (Sort.PermIn a' b' d1 d2) ∧ Hid1 (St A g n cap d2 wc))
        case first =>
          rcases hh with rfl | rfl | rfl
          · go_wp2_with fail
            go_meet
            case rel => exact ⟨m, 0, d1, rfl, rfl, .inl rfl, hm1, hm2, ⟨Sort.permIn_refl d1 a' b'⟩, hS2⟩
          · go_wp2_with fail
            go_meet
            case rel => exact ⟨m, 1, d1, rfl, rfl, .inr rfl, hm1, hm2, ⟨Sort.permIn_refl d1 a' b'⟩, hS2⟩
          · have hc18 := rev_st hS2.out a' b' (by omega) hb' (by omega)
            have hp18 := Sort.reverseRange_holds d1 a' b' hab' (by rw [hS2.out.len]; exact hb')
            generalize Sort.reverseRange d1 a' b' = d2 at hc18 hp18
            go_wp2_with (go_at_call 107; refine hc18.mono ?_; rintro e w3 ⟨rfl, hw3⟩)
            go_meet
            case rel => exact ⟨b' - 1 - (m - a'), 1, d2, by congr 1; omega, rfl, .inr rfl, by omega, by omega, ⟨hp18⟩, ⟨hw3⟩⟩
        case rest =>
          obtain ⟨pv, hi, d2, rfl, rfl, hhi, hp1, hp2, hP2, hS3⟩ := hcut
          have hlen1 := hS2.out.len
          have hF2 := Hid1.mk (fin_perm hF1.out hP2.out)
          have hB2 := Hid1.mk (below_perm hB1.out (by rw [hlen1]; exact hb') hP2.out)
          clear hF1 hB1 hP2 hS2 hh hm1 hm2 hlen1
          go_upto_region 15 with fail
          go_cut [12, 68] from 19 (fun s12 s68 wx => s12 = .int .i64 hi ∧ (∃ c : Bool, s68 = .bool c) ∧ wx = wc)
          case first =>
            rcases hhi with rfl | rfl <;> cases wb <;> cases wp <;>
              (go_wp2_with fail
               go_meet
               exact ⟨rfl, ⟨_, rfl⟩, rfl⟩)
          case rest =>
            obtain ⟨rfl, ⟨c, rfl⟩, rfl⟩ := hcut
            go_upto_if 68 with fail
            go_cut [] from 19 (fun wx => Hid1 (St A g n cap d2 wx))
            case first =>
              cases c
              · go_wp2_with fail
                go_meet
                case rel => exact hS3
              · have hc19 := par_st hS3.out a' b' (by omega) hb' (by omega) (by omega)
                go_wp2_with (go_at_call 108; refine hc19.mono ?_; rintro e w4 ⟨r, rfl, hr, hw4⟩)
                all_goals first
                  | (go_meet
                     exact ⟨hw4⟩)
                  | ((try simp only [Exit.inBlock, Exit.then]); refine bodyPost_ret (results_none rfl _ _ _) rfl ?_
                     exact ⟨rfl, d2, hF2.out d2 (Sort.permIn_refl d2 a' b') (hr (by assumption)), hw4⟩)
            case rest =>
              clear hS3
              have hS5 := hcut
              clear hcut
              go_upto_region 17 with fail
              go_cut [87] from 19 (fun s87 wx => ∃ c : Bool, s87 = .bool c ∧ (c = true → 0 < a' ∧ Sort.ltInt d2[a' - 1]! d2[pv]! = false) ∧ Hid1 (St A g n cap d2 wx))
              case first =>
                rcases Nat.eq_zero_or_pos a' with ha0 | ha0
                · have ha0z : decide ((a' : Int) > 0) = false := decide_eq_false (by omega)
                  go_big_quiet (first | (go_at_call 109; refine Calls.quiet_of_same (less_same _ _ _)))
                  go_wp2_with fail
                  go_meet
                  case rel => exact ⟨_, rfl, fun h => (by cases h), ⟨hS5.out.drewN _⟩⟩
                · have ha0z : (a' : Int) > 0 := by omega
                  obtain ⟨x, hx⟩ : ∃ x : Int, d2[a' - 1]! = x := ⟨_, rfl⟩
                  obtain ⟨y, hy⟩ : ∃ y : Int, d2[pv]! = y := ⟨_, rfl⟩
                  have cI : wc.cell? ⟨g, a' - 1, none⟩ = some (.int .u8 x) := by rw [← hx]; exact hS5.out.cell (a' - 1) (by omega)
                  have cJ : wc.cell? ⟨g, pv, none⟩ = some (.int .u8 y) := by rw [← hy]; exact hS5.out.cell pv (by omega)
                  have HX := Hid1.mk hx
                  have HY := Hid1.mk hy
                  clear hx hy
                  go_big_quiet (first | (go_at_call 109; refine Calls.quiet_of_same (less_same _ _ _)))
                  go_wp2_with fail
                  go_meet
                  case rel => exact ⟨_, rfl, fun h => ⟨ha0, by rw [HX.out, HY.out]; simpa [Sort.ltInt] using h⟩, ⟨hS5.out.drewN _⟩⟩
              case rest =>
                obtain ⟨c87, rfl, hc87, hS6⟩ := hcut
                clear hS5
                have hlen2 := hS6.out.len
                cases c87
                · obtain ⟨mid, ap, d4, hx⟩ : ∃ mid ap d4, Sort.partition Sort.ltInt d2 a' b' pv = (mid, ap, d4) := ⟨_, _, _, rfl⟩
                  obtain ⟨r1, r2, r3, r4, r5, r6, r7⟩ := Sort.round_part Sort.swo_ltInt (Sort.partition_holds Sort.ltInt) hp1 hp2 (show b' ≤ d2.size by omega) hB2.out hx
                  have hc22 := prt_st hS6.out a' b' pv hp1 hp2 hb' (by omega)
                  rw [hx] at hc22
                  have R4 := Hid1.mk r4
                  have R5 := Hid1.mk r5
                  have R6 := Hid1.mk r6
                  have R7 := Hid1.mk r7
                  clear hx r4 r5 r6 r7 hc87
                  go_upto_if 113 with (go_at_call 111; refine hc22.mono ?_; rintro e w7 ⟨rfl, hw7⟩)
                  by_cases h4 : mid - a' < b' - mid
                  · have h4z : (mid : Int) - (a' : Int) < (b' : Int) - (mid : Int) := by omega
                    have hih := pdq_small hw7 a' mid lim1 (by omega) (by omega) (by omega) (by omega)
                    go_wp2_with (go_at_call 82; refine hih.mono ?_; rintro e w8 ⟨rfl, d5, hp5, hs5, hw8⟩)
                    go_roundg (b' - (mid + 1))
                    case measure => omega
                    case rel =>
                      have hr := R6.out d5 hp5 hs5
                      exact ⟨mid + 1, b', lim1, _, ap, d5, by first | rfl | (congr 1; omega), rfl, rfl, rfl, rfl, by omega, hb', Nat.le_refl _, by omega, by omega, hlu1, ⟨hw8⟩, ⟨hr.1⟩, ⟨fun R hR hs => hF2.out R (hr.2 R hR hs).1 (hr.2 R hR hs).2⟩⟩
                  · have h4z : ¬ ((mid : Int) - (a' : Int) < (b' : Int) - (mid : Int)) := by omega
                    have hih := pdq_small hw7 (mid + 1) b' lim1 (by omega) (by omega) (by omega) (by omega)
                    go_wp2_with (go_at_call 82; refine hih.mono ?_; rintro e w8 ⟨rfl, d5, hp5, hs5, hw8⟩)
                    go_roundg (mid - a')
                    case measure => omega
                    case rel =>
                      have hr := R7.out d5 hp5 hs5
                      exact ⟨a', mid, lim1, _, ap, d5, rfl, rfl, rfl, rfl, rfl, r1, by omega, Nat.le_refl _, by omega, by omega, hlu1, ⟨hw8⟩, ⟨hr.1⟩, ⟨fun R hR hs => hF2.out R (hr.2 R hR hs).1 (hr.2 R hR hs).2⟩⟩
                · obtain ⟨hpos, hnl⟩ := hc87 rfl
                  obtain ⟨mid, d4, hx⟩ : ∃ mid d4, Sort.partitionEqual Sort.ltInt d2 a' b' pv = (mid, d4) := ⟨_, _, rfl⟩
                  obtain ⟨r1, r2, r3, r4, r5⟩ := Sort.round_eq Sort.swo_ltInt (Sort.partitionEqual_holds Sort.ltInt) hpos hp1 hp2 (show b' ≤ d2.size by omega) hB2.out hnl hx
                  have hc21 := peq_st hS6.out a' b' pv hp1 hp2 hb' (by omega)
                  rw [hx] at hc21
                  have R4 := Hid1.mk r4
                  have R5 := Hid1.mk r5
                  clear hx r4 r5 hc87 hnl
                  go_wp2_with (go_at_call 110; refine hc21.mono ?_; rintro e w7 ⟨rfl, hw7⟩)
                  go_roundg (b' - mid)
                  case measure => omega
                  case rel =>
                    exact ⟨mid, b', lim1, wb, wp, d4, rfl, rfl, rfl, rfl, rfl, r2, hb', Nat.le_refl _, by omega, by omega, hlu1, ⟨hw7⟩, R4, ⟨fun R hR hs => hF2.out R (R5.out R hR hs).1 (R5.out R hR hs).2⟩⟩
end Go.Proofs.YtahjnjlkpbjfnaaGreatDoor.P
