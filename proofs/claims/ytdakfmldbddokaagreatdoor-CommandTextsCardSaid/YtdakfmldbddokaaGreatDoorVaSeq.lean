/- A loop over an iterator that keeps what is left of its text in a cell of its own: one law for the loop, whose body goes on to the end. -/
import Derived.RangeFuncNested
import Derived.RangeFuncBound
import Derived.RangeFuncCalls
import Derived.RangeFuncLeaves
import Derived.RangeFuncBox
import Derived.Shelf.Abstract
import Derived.Shelf.RegionOpen
import Derived.WalkKit
import Derived.OwnWalkIn
import Derived.TacticsInMore
import Derived.LoopNIn
import Derived.LoopIn
import Derived.Lib.IndexBytes
import Derived.Lib.SplitLaws
import Derived.Test.YtdakfmldbddokaaGreatDoorRuShelf
import Derived.Maps.AppendAt
import Derived.Sort.OwnSorted
namespace Go.Proofs.YtdakfmldbddokaaGreatDoor.P
open Go Go.RowKit
/-- What lies outside the heap is the same. -/
def SameOut (A B : World) : Prop := B.os = A.os ∧ B.tape = A.tape ∧ B.output = A.output
/-- A step of the iterator's own: of the blocks that were there only b may turn. -/
def ItStep (b : Nat) (A B : World) : Prop := SameOut A B ∧ A.heap.size ≤ B.heap.size ∧ ∀ (j : Nat) (o : Obj), j ≠ b → A.heap[j]? = some o → B.heap[j]? = some o
/-- The blocks of K lie as they lay. -/
def KeepB (K : Nat → Prop) (A B : World) : Prop := A.heap.size ≤ B.heap.size ∧ ∀ (j : Nat) (o : Obj), K j → A.heap[j]? = some o → B.heap[j]? = some o
theorem KeepB.trans {K : Nat → Prop} {A B C : World} (h : KeepB K A B) (k : KeepB K B C) : KeepB K A C := ⟨Nat.le_trans h.1 k.1, fun j o hj e => k.2 j o hj (h.2 j o hj e)⟩
theorem KeepB.refl (K : Nat → Prop) (A : World) : KeepB K A A := ⟨Nat.le_refl _, fun _ _ _ e => e⟩
theorem KeepB.weak {K K' : Nat → Prop} {A B : World} (h : KeepB K A B) (hk : ∀ j, K' j → K j) : KeepB K' A B := ⟨h.1, fun j o hj e => h.2 j o (hk j hj) e⟩
theorem keepB_put {K : Nat → Prop} {A : World} (l : Nat) (o : Obj) (h : ¬ K l) : KeepB K A (A.putObj l o) :=
 ⟨by simp [World.putObj], fun j o' hj e => (World.putObj_heap_other (fun q => h (by rw [← q]; exact hj))).trans e⟩
/-- An iterator value that hands the texts xs to yield, one by one; its state is block b; the blocks of K must lie as they lay. -/
def SeqB (F : Fence) (n : Nat) (P : Program) (gf : Nat) (lb : Array Value) (b : Nat) (K : Nat → Prop) (xs : List ByteArray) (W : World) : Prop :=
 ∀ (l : Nat) (J : Nat → World → Prop), (∀ i A B, J i A → ItStep b A B → J i B) →
  (∀ i x W1, xs[i]? = some x → J i W1 → YieldAt F (n - 1) P l #[.string x] W1 fun e W' => e = .returned (.bool true) ∧ J (i + 1) W' ∧ KeepB K W1 W') →
  J 0 W → CallsIn F n P gf (#[.func (.yield l) #[] #[]] ++ lb) W fun e W' => (∃ v, e = .returned v) ∧ J xs.length W'
/-- What a round's body owes: it goes on, the blocks of K lie as they lay, and I. -/
def goesOn (K : Nat → Prop) (I : World → Prop) (W : World) : Exit → Act → World → Prop
 | .normal, _, W' => KeepB K W W' ∧ I W'
 | _, _, _ => False
theorem range_st {F : Fence} {n : Nat} {P : Program} {g : Operand} {ps : Array Tmp} {assign body : Code} {Q : Exit → Act → World → Prop} {a : Act} {w : World}
  (hro : F.round = none) (h1 : 1 ≤ n) {gf : Nat} {lb : Array Value} (hg : a.eval g = .func (.func gf) #[] lb) (hF : F.fn gf) (eg : ∀ args w, (callFunc gf args).run P w = .ok (.enter gf args) w)
  (b : Nat) (K : Nat → Prop) (xs : List ByteArray) (hb : b < w.heap.size) (hK : ∀ j, K j → j < w.heap.size) (hps : ps.size = 1)
  (hseq : ∀ W, (∀ (j : Nat) (o : Obj), w.heap[j]? = some o → W.heap[j]? = some o) → SeqB F (n - 1) P gf lb b K xs W)
  (I : Nat → World → Prop) (hI : ∀ i A B, I i A → SameOut A B → A.heap.size ≤ B.heap.size → (∀ (j : Nat) (o : Obj), j ≠ b → j ≠ w.heap.size → j ≠ w.heap.size + 1 → A.heap[j]? = some o → B.heap[j]? = some o) → I i B) (h0 : I 0 w)
  (a₁ : ByteArray → Act)
  (hassign : ∀ (l : Nat) (x : ByteArray) (W : World) (C : Act → World → Prop), C (a₁ x) W → assign.wpIn (F.inRound l) (n - 1 - 1) P (Exit.then C (fun _ _ _ => False)) { tmps := (ps.zip #[.string x]).foldl (fun t (p, v) => t.setIfInBounds p v) a.tmps, defers := [] } W)
  (hbody : ∀ (l i : Nat) (x : ByteArray) (W : World), xs[i]? = some x → I i W → w.heap.size + 2 ≤ W.heap.size → body.wpIn (F.inRound l) (n - 1 - 1) P (goesOn (fun j => K j ∨ j = w.heap.size ∨ j = w.heap.size + 1) (I (i + 1)) W) (a₁ x) W)
  (hdone : ∀ (W : World), I xs.length W → W.heap[w.heap.size]? = some (.deferred (some [])) → Q .normal { a with defers := { target := .collected w.heap.size, args := #[] } :: a.defers } W) :
  (Code.rangeFunc g ps assign body).wpIn F n P Q a w := by
 refine wpIn_rangeFunc fun fn hfn => ?_
 rw [hro]
 obtain ⟨D, hD⟩ : ∃ D, D = w.heap.size := ⟨_, rfl⟩
 obtain ⟨rc, hrc⟩ : ∃ rc : LoopState → Option Code → Loop, rc = fun st pe => { state := st, pending := pe, fn, tmps := a.tmps, params := ps, assign, body, defers := w.heap.size } := ⟨_, rfl⟩
 obtain ⟨W1, hW1⟩ : ∃ W1, (w.alloc (.deferred (some []))).alloc (.loop (rc .ready none)) = W1 := ⟨_, rfl⟩
 have hold : ∀ (j : Nat) (o : Obj), w.heap[j]? = some o → W1.heap[j]? = some o := fun j o e => by
  have hj : j < w.heap.size := (Array.getElem?_eq_some_iff.1 e).1
  rw [← hW1, Below.heap_alloc _ _ _ (by simp; omega), Below.heap_alloc _ _ _ hj]; exact e
 have hl1 : W1.heap[D + 1]? = some (.loop (rc .ready none)) := by
  have := World.alloc_heap_new (w.alloc (.deferred (some []))) (.loop (rc .ready none))
  rw [World.size_alloc, hW1, ← hD] at this; exact this
 have hd1 : W1.heap[D]? = some (.deferred (some [])) := by
  rw [← hW1, hD]; exact (Below.heap_alloc _ _ _ (by simp)).trans (World.alloc_heap_new w _)
 have hs1 : w.heap.size ≤ W1.heap.size := by rw [← hW1]; simp; omega
 refine ⟨D + 1, [{ target := .collected w.heap.size, args := #[] }], W1, { target := .fn (.func gf) lb, args := #[.func (.yield (D + 1)) #[] #[]] }, W1, gf, #[.func (.yield (D + 1)) #[] #[]] ++ lb, W1, ?_, ?_, ?_, ?_, fun _ => h1, ?_⟩
 ·rw [← hW1, hrc, hD]; exact run_enterLoop_outer _ _ _ _ _
 ·simp only [resolve, hg]; simp [go_sem]
 ·intro f' hf'; simp [Target.leads] at hf'; subst hf'; exact hF
 ·simp [invoke, go_sem, eg]
 -- the record's turns leave I
 have hput : ∀ i A (l : Nat) (o : Obj), l = D ∨ l = D + 1 → I i A → I i (A.putObj l o) := fun i A l o hl h =>
  hI i A _ h ⟨rfl, rfl, rfl⟩ (by simp [World.putObj]) fun j o' _ q1 q2 e => (World.putObj_heap_other (by rcases hl with rfl | rfl <;> omega)).trans e
 refine (hseq W1 hold (D + 1) (fun i W => I i W ∧ W.heap[D + 1]? = some (.loop (rc .ready none)) ∧ W.heap[D]? = some (.deferred (some []))) ?_ ?_ ⟨hI 0 w W1 h0 (by rw [← hW1]; exact ⟨rfl, rfl, rfl⟩) hs1 fun j o _ _ _ e => hold j o e, hl1, hd1⟩).mono ?_
 ·rintro i A B ⟨hi, hl, hd⟩ hst
  exact ⟨hI i A B hi hst.1 hst.2.1 fun j o q _ _ e => hst.2.2 j o q e, hst.2.2 _ _ (by omega) hl, hst.2.2 _ _ (by omega) hd⟩
 ·rintro i x W hx ⟨hi, hl, hd⟩
  have hlt : D + 1 < W.heap.size := (Array.getElem?_eq_some_iff.1 hl).1
  have hy := run_yield (P := P) (args := #[.string x]) hl (by rw [hrc, hps]; rfl)
  rw [hrc] at hy
  refine ⟨fn, _, assign, body, hy, roundIn_of_wpIn hfn (hassign _ x W _ ⟨_, run_beginRound hl (by rw [hrc]), ?_⟩)⟩
  obtain ⟨V, hV⟩ : ∃ V, W.putObj (D + 1) (.loop { rc .ready none with state := .busy }) = V := ⟨_, rfl⟩
  rw [hV]
  have hlV : V.heap[D + 1]? = some (.loop { rc .ready none with state := .busy }) := by rw [← hV]; exact World.putObj_heap_same hlt
  have hdV : V.heap[D]? = some (.deferred (some [])) := by rw [← hV]; exact (World.putObj_heap_other (by omega)).trans hd
  have hkV : KeepB K W V := by rw [← hV]; exact keepB_put _ _ (fun h => by have := hK _ h; omega)
  have hsV : w.heap.size + 2 ≤ V.heap.size := by have := hkV.1; omega
  have hiV : I i V := by rw [← hV]; exact hput i W _ _ (.inr rfl) hi
  refine wpIn_mono (hbody _ i x V hx hiV hsV) ?_
  rintro e a3 W3 hp
  cases e with
  | normal =>
   obtain ⟨hk3, hi3⟩ := hp
   have hl3 := hk3.2 _ _ (.inr (.inr (by rw [hD]))) hlV
   have hd3 := hk3.2 _ _ (.inr (.inl hD)) hdV
   have hr := run_endRound (P := P) none hl3
   rw [hrc] at hr
   refine ⟨_, _, hr, rfl, ⟨hput _ _ _ _ (.inr rfl) hi3, ?_, (World.putObj_heap_other (by omega)).trans hd3⟩, ?_⟩
   ·rw [hrc]; exact World.putObj_heap_same (Array.getElem?_eq_some_iff.1 hl3).1
   ·exact (hkV.trans (hk3.weak fun j h => .inl h)).trans (keepB_put _ _ (fun h => by have := hK _ h; omega))
  | ret => exact hp.elim
  | exit id => exact hp.elim
  | goto t => exact hp.elim
  | panic ch => exact hp.elim
  | outgrown => exact hp.elim
 ·rintro e W2 ⟨⟨v, rfl⟩, hi, hl, hd⟩
  have hr := run_endLoop (P := P) hl (by rw [hrc]; simp)
  rw [hrc] at hr
  refine ⟨none, _, hr, hdone _ (hput _ _ _ _ (.inr rfl) hi) ?_⟩
  rw [← hD]; exact (World.putObj_heap_other (by omega)).trans hd
end Go.Proofs.YtdakfmldbddokaaGreatDoor.P

/- The iterators of layer 10: strings.SplitSeq at a sign, slices.Values at texts: their contracts. -/
set_option linter.unusedVariables false
set_option linter.unusedSimpArgs false
namespace Go.Proofs.YtdakfmldbddokaaGreatDoor.P
open Go Go.RowKit Go.Shelf
attribute [local go_sem] Oper.semAt_some
theorem ix_notin (c : UInt8) : ∀ s : List UInt8, c ∉ s → Lib.indexByte s c = -1 := by
 intro s h
 induction s with
 | nil => rfl
 | cons b l ih =>
  have hb : ¬ b = c := fun e => h (by rw [e]; simp)
  have hl := ih (fun e => h (List.mem_cons_of_mem _ e))
  rw [Lib.indexByte, if_neg (by simpa using hb), hl]
  rfl
theorem ix_at (c : UInt8) (r : List UInt8) : ∀ a : List UInt8, c ∉ a → Lib.indexByte (a ++ c :: r) c = (a.length : Int) := by
 intro a h
 induction a with
 | nil => rw [List.nil_append, Lib.indexByte, if_pos (by simp)]; rfl
 | cons b l ih =>
  have hb : ¬ b = c := fun e => h (by rw [e]; simp)
  have hl := ih (fun e => h (List.mem_cons_of_mem _ e))
  rw [List.cons_append, Lib.indexByte, if_neg (by simpa using hb), hl, if_neg (by simp), List.length_cons]
  omega
theorem first_at (c : UInt8) : ∀ l : List UInt8, c ∈ l → ∃ a r, l = a ++ c :: r ∧ c ∉ a
 | [], h => by cases h
 | d :: l, h => by
  by_cases g : d = c
  ·exact ⟨[], l, by rw [g]; rfl, by simp⟩
  ·have hl : c ∈ l := by
    rcases List.mem_cons.1 h with e | e
    ·exact absurd e.symm g
    ·exact e
   obtain ⟨a, r, e, hn⟩ := first_at c l hl
   refine ⟨d :: a, r, by rw [e]; rfl, fun hm => ?_⟩
   rcases List.mem_cons.1 hm with e2 | e2
   ·exact g e2.symm
   ·exact hn e2
/-- The parts of a text, at a sign. -/
def cutAt (c : UInt8) : List UInt8 → List UInt8 → List (List UInt8)
 | acc, [] => [acc]
 | acc, d :: r => if d = c then acc :: cutAt c [] r else cutAt c (acc ++ [d]) r
theorem cutAt_one (c : UInt8) : ∀ (l acc : List UInt8), c ∉ l → cutAt c acc l = [acc ++ l]
 | [], acc, _ => by simp [cutAt]
 | d :: l, acc, h => by
  have hd : ¬ d = c := fun e => h (by rw [e]; simp)
  rw [cutAt, if_neg hd, cutAt_one c l _ (fun e => h (List.mem_cons_of_mem _ e))]
  simp
theorem cutAt_cons (c : UInt8) (r : List UInt8) : ∀ (a acc : List UInt8), c ∉ a → cutAt c acc (a ++ c :: r) = (acc ++ a) :: cutAt c [] r
 | [], acc, _ => by simp [cutAt]
 | d :: a, acc, h => by
  have hd : ¬ d = c := fun e => h (by rw [e]; simp)
  rw [List.cons_append, cutAt, if_neg hd, cutAt_cons c r a _ (fun e => h (List.mem_cons_of_mem _ e))]
  simp
/-- .. as texts. -/
def partsAt (c : UInt8) (s : ByteArray) : List ByteArray := (cutAt c [] s.data.toList).map fun l => ⟨l.toArray⟩
theorem parts_one (c : UInt8) (s : ByteArray) (h : c ∉ s.data.toList) : partsAt c s = [s] := by
 unfold partsAt
 rw [cutAt_one c _ _ h]
 simp
theorem parts_cons (c : UInt8) (s : ByteArray) (a r : List UInt8) (e : s.data.toList = a ++ c :: r) (h : c ∉ a) :
  partsAt c s = s.extract 0 a.length :: partsAt c (s.extract (a.length + 1) s.size) ∧ a.length + 1 ≤ s.size ∧ Lib.indexByte s.data.toList c = (a.length : Int) := by
 have hz : s.size = a.length + 1 + r.length := by
  show s.data.size = _
  rw [← Array.length_toList, e]; simp; omega
 have e1 : (s.extract 0 a.length).data.toList = a := by
  rw [ByteArray.data_extract, Array.toList_extract, List.extract_eq_take_drop, e]; simp
 have e2 : (s.extract (a.length + 1) s.size).data.toList = r := by
  rw [ByteArray.data_extract, Array.toList_extract, List.extract_eq_take_drop, e, hz, show a ++ c :: r = (a ++ [c]) ++ r by simp, show a.length + 1 = (a ++ [c]).length by simp, List.drop_left]
  simp
 refine ⟨?_, by omega, by rw [e]; exact ix_at c r a h⟩
 unfold partsAt
 rw [e2, e, cutAt_cons c r a [] h]
 simp only [List.map_cons, List.nil_append]
 rw [show (⟨a.toArray⟩ : ByteArray) = s.extract 0 a.length from by
  apply ByteArray.ext
  show a.toArray = (s.extract 0 a.length).data
  exact (congrArg List.toArray e1.symm).trans (Array.toArray_toList ..)]
/-- How much is left to come, as the box tells. -/
def leftOf (b : Nat) (W : World) : Nat := match W.cell? ⟨b, 0, none⟩ with
 | some (.string t) => t.size
 | _ => 0
theorem leftOf_eq {b : Nat} {W : World} {t : ByteArray} (h : W.cell? ⟨b, 0, none⟩ = some (.string t)) : leftOf b W = t.size := by unfold leftOf; rw [h]
theorem boxed_keep {K : Nat → Prop} {A B : World} {j : Nat} {t : TypeId} {v : Value} (h : Boxed A j t v) (hk : KeepB K A B) (hj : K j) : Boxed B j t v := hk.2 j _ hj h
set_option maxRecDepth 100000 in
set_option maxHeartbeats 4000000 in
/-- strings.SplitSeq's iterator. -/
theorem split1_seq (n : Nat) (hn : 1 ≤ n) (c : UInt8) (s : ByteArray) (hbig : s.size < 9223372036854775807) (b bs bv : Nat) (h12 : b ≠ bs) (h13 : b ≠ bv) (W : World)
  (hs : Boxed W bs 9 (.string ⟨#[c]⟩)) (hb : Boxed W b 9 (.string s)) (hv : Boxed W bv 3 (.int .i64 0)) :
  SeqB Fence.wide n Tryz.prog 150 #[.pointer (some ⟨bs, 0, none⟩), .pointer (some ⟨b, 0, none⟩), .pointer (some ⟨bv, 0, none⟩)] b (fun j => j = b ∨ j = bs ∨ j = bv) (partsAt c s) W := by
 intro l J hJ hY h0
 have cs := hs.cell
 have cb := hb.cell
 have cv := hv.cell
 refine callsIn_of_wp Tryz.func150 rfl trivial ?_ rfl
 simp only [Tryz.ntmps150, List.size_toArray, List.length_cons, List.length_nil, Nat.reduceAdd, Nat.reduceSub, Array.replicate_succ, Array.replicate_zero, List.push_toArray, List.append_toArray, List.nil_append, List.cons_append]
 gi_wp2
 gi_loopw [7] (fun _ wr => ∃ (k : Nat) (t : ByteArray), Boxed wr b 9 (.string t) ∧ t.size ≤ s.size ∧ Boxed wr bs 9 (.string ⟨#[c]⟩) ∧ Boxed wr bv 3 (.int .i64 0) ∧ (partsAt c s).drop k = partsAt c t ∧ J k wr) (fun _ wr => leftOf b wr)
 case atStart => exact ⟨0, s, hb, Nat.le_refl _, hs, hv, rfl, h0⟩
 case round =>
  obtain ⟨k, t, hb, hsz, hs, hv, hd, hJk⟩ := hrel
  have cs := hs.cell
  have cb := hb.cell
  have cv := hv.cell
  have fb := hb.frozen
  by_cases hc : c ∈ t.data.toList
  ·obtain ⟨a, r, e, hn⟩ := first_at c _ hc
   obtain ⟨e1, e2, e3⟩ := parts_cons c t a r e hn
   rw [e1] at hd
   have hx : (partsAt c s)[k]? = some (t.extract 0 a.length) := by rw [← List.head?_drop, hd]; rfl
   have hI := Tryz.strings_Index_one t c wr
   rw [e3] at hI
   have hY1 := hY k _ wr hx hJk
   obtain ⟨fn, tmps, assign, body, hy, hR⟩ := hY1
   have hz : t.size < 9223372036854775807 := Nat.lt_of_le_of_lt hsz hbig
   have w1 : wrap64 (a.length : Int) = (a.length : Int) := by unfold wrap64; omega
   have w2 : wrap64 ((a.length : Int) + 1) = ((a.length + 1 : Nat) : Int) := by unfold wrap64; omega
   have l1 : a.length ≤ t.size := by omega
   have l2 : a.length + 1 ≤ t.size := e2
   gi_wp2_with (refine ⟨trivial, ?_⟩; gi_at_call 58; refine (callsIn_wide.2 hI).mono ?_; rintro e w' ⟨rfl, rfl⟩)
   refine hR.mono ?_
   rintro e W3 ⟨rfl, hJ3, hk3⟩
   have hb3 := boxed_keep hb hk3 (.inl rfl)
   have hs3 := boxed_keep hs hk3 (.inr (.inl rfl))
   have hv3 := boxed_keep hv hk3 (.inr (.inr rfl))
   clear hy hR
   have cs := hs3.cell
   have cb := hb3.cell
   have fb := hb3.frozen
   gi_wp2
   go_roundw
   case rel =>
    refine ⟨k + 1, t.extract (a.length + 1) t.size, hb3.set _, ?_, (Below.heap_setCell _ _ _ bs (fun e => h12 e.symm)).trans hs3, (Below.heap_setCell _ _ _ bv (fun e => h13 e.symm)).trans hv3, by rw [← List.tail_drop, hd]; rfl, hJ _ _ _ hJ3 ⟨⟨rfl, rfl, rfl⟩, (KeepsWalks.setCell ..).size, fun j o hj e => (Below.heap_setCell _ _ _ j hj).trans e⟩⟩
    rw [ByteArray.size_extract]; omega
   case measure =>
    rw [leftOf_eq (hb3.set _).cell, leftOf_eq hb.cell, ByteArray.size_extract]; omega
  ·obtain e1 := parts_one c t hc
   rw [e1] at hd
   have hx : (partsAt c s)[k]? = some t := by rw [← List.head?_drop, hd]; rfl
   have hlen : (partsAt c s).length = k + 1 := by
    have h5 := congrArg List.length hd
    rw [List.length_drop] at h5
    simp at h5
    omega
   have hI := Tryz.strings_Index_one t c wr
   rw [ix_notin c _ hc] at hI
   have hY1 := hY k _ wr hx hJk
   obtain ⟨fn, tmps, assign, body, hy, hR⟩ := hY1
   gi_wp2_with (refine ⟨trivial, ?_⟩; gi_at_call 58; refine (callsIn_wide.2 hI).mono ?_; rintro e w' ⟨rfl, rfl⟩)
   refine hR.mono ?_
   rintro e W3 ⟨rfl, hJ3, hk3⟩
   gi_wp2
   go_end0
   exact ⟨⟨_, rfl⟩, by rw [hlen]; exact hJ3⟩
set_option maxRecDepth 100000 in
set_option maxHeartbeats 4000000 in
/-- slices.Values's iterator, over texts. -/
theorem values1_seq (n : Nat) (hn : 1 ≤ n) (xs : List ByteArray) (Bs b off cap : Nat) (hreach : xs.length * 16 ≤ 140737488351232) (row : Obj) (W : World)
  (hs : Boxed W Bs 47 (.slice (some ⟨b, off, none⟩) xs.length cap)) (hrow : W.heap[b]? = some row) (hc : ∀ V : World, V.heap[b]? = some row → ∀ j x, xs[j]? = some x → V.cell? ⟨b, off + j, none⟩ = some (.string x)) :
  SeqB Fence.wide n Tryz.prog 153 #[.pointer (some ⟨Bs, 0, none⟩)] Bs (fun j => j = Bs ∨ j = b) xs W := by
 intro l J hJ hY h0
 have cs := hs.cell
 refine callsIn_of_wp Tryz.func153 rfl trivial ?_ rfl
 simp only [Tryz.ntmps153, List.size_toArray, List.length_cons, List.length_nil, Nat.reduceAdd, Nat.reduceSub, Array.replicate_succ, Array.replicate_zero, List.push_toArray, List.append_toArray, List.nil_append, List.cons_append]
 gi_wp2
 gi_loopw [7] (fun i wr => ∃ k : Nat, k ≤ xs.length ∧ i = .int .i64 k ∧ J k wr ∧ wr.heap[b]? = some row) (fun i _ => xs.length - (intOf i).toNat)
 case atStart => exact ⟨0, Nat.zero_le _, rfl, h0, hrow⟩
 case round =>
  obtain ⟨k, hk, rfl, hJk, hr⟩ := hrel
  by_cases hlt : k < xs.length
  ·have hx : xs[k]? = some xs[k] := List.getElem?_eq_getElem hlt
   obtain ⟨fn, tmps, assign, body, hy, hR⟩ := hY k _ wr hx hJk
   have hcx := hc wr hr k _ hx
   gi_wp2
   refine hR.mono ?_
   rintro e W3 ⟨rfl, hJ3, hk3⟩
   gi_wp2
   go_roundw
   case rel => exact ⟨k + 1, by omega, by simp, hJ3, hk3.2 b _ (.inr rfl) hr⟩
   case measure => simp [intOf]; omega
  ·obtain rfl : k = xs.length := by omega
   gi_wp2
   go_end0
   exact ⟨⟨_, rfl⟩, hJk⟩
set_option maxRecDepth 100000 in
set_option maxHeartbeats 4000000 in
/-- .. over none. -/
theorem values1_none (n : Nat) (hn : 1 ≤ n) (Bs : Nat) (a : Option Addr) (cap : Nat) (W : World) (hs : Boxed W Bs 47 (.slice a 0 cap)) :
  SeqB Fence.wide n Tryz.prog 153 #[.pointer (some ⟨Bs, 0, none⟩)] Bs (fun j => j = Bs) [] W := by
 intro l J hJ hY h0
 have cs := hs.cell
 refine callsIn_of_wp Tryz.func153 rfl trivial ?_ rfl
 simp only [Tryz.ntmps153, List.size_toArray, List.length_cons, List.length_nil, Nat.reduceAdd, Nat.reduceSub, Array.replicate_succ, Array.replicate_zero, List.push_toArray, List.append_toArray, List.nil_append, List.cons_append]
 gi_wp2
 gi_loopw [7] (fun i wr => i = .int .i64 0 ∧ J 0 wr) (fun _ _ => 0)
 case atStart => exact ⟨rfl, h0⟩
 case round =>
  obtain ⟨rfl, hJs⟩ := hrel
  gi_wp2
  go_end0
  exact ⟨⟨_, rfl⟩, hJs⟩
end Go.Proofs.YtdakfmldbddokaaGreatDoor.P

/- Loops of layer 10 that collect what an iterator gives: slices.AppendSeq, Collect, Sorted; strings.SplitSeq. -/
set_option linter.unusedVariables false
set_option linter.unusedSimpArgs false
namespace Go.Proofs.YtdakfmldbddokaaGreatDoor.P
open Go Go.RowKit Go.Shelf Go.Sort Go.Maps
attribute [local go_sem] Oper.semAt_some
theorem ownsRow_same {W W' : World} {base : Nat} {e : TypeId} {size : Nat} {v : Value} {k : Nat} {xs : List Value} (h : W.ownsRow base e size v k xs) (hk : ∀ (j : Nat) (o : Obj), base ≤ j → W.heap[j]? = some o → W'.heap[j]? = some o) : W'.ownsRow base e size v k xs := by
 refine ⟨h.1, ?_⟩
 rcases h.2 with hn | ⟨g, cap, cur, rfl, hb, hgg, rest⟩
 ·exact .inl hn
 ·exact .inr ⟨g, cap, cur, rfl, hb, hk g _ hb hgg, rest⟩
theorem appended2 {W w1 : World} {n₀ base B : Nat} {t e : TypeId} {size : Nat} {v v' : Value} {k m : Nat} {xs ys : List Value} {tmp : Obj} (hv : Boxed W B t v) (hte : t ≠ e) (hrow : W.ownsRow base e size v k xs) (h0 : n₀ ≤ W.heap.size) (hB : n₀ ≤ B) (h0b : n₀ ≤ base)
  (hown' : w1.ownsRow base e size v' m ys) (hgrow : (W.alloc tmp).grownBy w1 v.ownBlock) (K : Nat → Prop) (hK : ∀ j, K j → j ≠ B ∧ j < base) :
  Boxed w1 B t v ∧ Boxed (w1.setCell ⟨B, 0, none⟩ v') B t v' ∧ (w1.setCell ⟨B, 0, none⟩ v').ownsRow base e size v' m ys ∧ KeepB K W (w1.setCell ⟨B, 0, none⟩ v') ∧ Below n₀ W (w1.setCell ⟨B, 0, none⟩ v') := by
 have hv1 : Boxed w1 B t v := (hv.alloc tmp).kept hgrow (hv.not_row hte hrow)
 have hob : ∀ j, v.ownBlock = some j → base ≤ j := fun j ej => by
  rcases hrow.2 with ⟨rfl, _⟩ | ⟨g, cap, cur, rfl, hb, _⟩
  ·simp [Value.ownBlock] at ej
  ·obtain rfl : g = j := by simpa [Value.ownBlock] using ej
   exact hb
 refine ⟨hv1, hv1.set v', hown'.kept (grownBy_setCell' w1 B v') (.inr (hv1.not_row hte hown').symm), ⟨?_, fun j o hj e => ?_⟩, ?_⟩
 ·have := hgrow.size
  have h2 := (KeepsWalks.setCell w1 ⟨B, 0, none⟩ v').size
  simp at this; omega
 ·have hlt : j < W.heap.size := (Array.getElem?_eq_some_iff.1 e).1
  have hjk := hK j hj
  refine (Below.heap_setCell _ _ _ j hjk.1).trans ((hgrow.block j (by simp; omega) fun q => ?_).trans ((Below.heap_alloc _ _ _ hlt).trans e))
  have := hob j q.symm
  omega
 ·exact (((Below.refl n₀ W).alloc h0 tmp).grown hgrow (by simp; omega) fun j ej => Nat.le_trans h0b (hob j ej)).setCell (p := ⟨B, 0, none⟩) hB v'
theorem below_putObj {n₀ : Nat} {A W : World} (h : Below n₀ A W) {l : Nat} (hl : n₀ ≤ l) (o : Obj) : Below n₀ A (W.putObj l o) :=
 h.trans ⟨rfl, rfl, rfl, by simp [World.putObj], fun k hk => World.putObj_heap_other (by omega)⟩
theorem below_same {n₀ b d1 d2 : Nat} {w A B : World} (h : Below n₀ w A) (ho : SameOut A B) (hs : A.heap.size ≤ B.heap.size) (hn : n₀ ≤ w.heap.size) (hb : n₀ ≤ b) (h1 : n₀ ≤ d1) (h2 : n₀ ≤ d2) (hk : ∀ (j : Nat) (o : Obj), j ≠ b → j ≠ d1 → j ≠ d2 → A.heap[j]? = some o → B.heap[j]? = some o) : Below n₀ w B := by
 refine h.trans ⟨ho.1, ho.2.1, ho.2.2, hs, fun k hk' => ?_⟩
 have hlt : k < A.heap.size := by have := h.size; omega
 rw [hk k _ (by omega) (by omega) (by omega) (Array.getElem?_eq_getElem hlt), Array.getElem?_eq_getElem hlt]
theorem info_str : (Tryz.prog.info? 9).map (fun i => (i.zero, i.size, i.bytes)) = some (some (.string ⟨#[]⟩), 1, 16) := by kernel_rfl
theorem enters (g : Nat) (fn : Func) (h : Tryz.prog.funcs[g]? = some fn) (hb : fn.body.isSome = true) (hn : ¬ fn.name = "runtime.NumGoroutine") : ∀ args w, (callFunc g args).run Tryz.prog w = .ok (.enter g args) w := by
 intro args w
 obtain ⟨c, hc⟩ := Option.isSome_iff_exists.1 hb
 simp [callFunc, h, hc, go_sem, hn]
set_option maxRecDepth 100000 in
set_option maxHeartbeats 4000000 in
/-- slices.AppendSeq to none, against an iterator value that keeps the contract. -/
theorem appendSeq_walk (n₀ : Nat) (w : World) (gf : Nat) (lb : Array Value) (b : Nat) (K : Nat → Prop) (xs : List ByteArray) (hlen : xs.length ≤ maxLen) (hbytes : xs.length * 16 ≤ 140737488355328) (h0 : n₀ ≤ w.heap.size) (hb0 : n₀ ≤ b) (hb : b < w.heap.size) (hK : ∀ j, K j → j < w.heap.size)
  (eg : ∀ args w, (callFunc gf args).run Tryz.prog w = .ok (.enter gf args) w)
  (hseq : ∀ m W, 1 ≤ m → (∀ (j : Nat) (o : Obj), w.heap[j]? = some o → W.heap[j]? = some o) → SeqB Fence.wide m Tryz.prog gf lb b K xs W) :
  Calls Tryz.prog 159 #[.slice none 0 0, .func (.func gf) #[] lb] w fun e W' => ∃ v, e = .returned v ∧ W'.ownsRow (w.heap.size + 3) 9 1 v xs.length (xs.map Value.string) ∧ Below n₀ w W' := by
 obtain ⟨i0, hi, hz0, hz1, hz2⟩ := info_parts info_str
 refine (callsIn_wide (n := 4)).1 ?_
 refine callsIn_of_wp_marks Tryz.func159 rfl trivial ?_ rfl
 simp only [Tryz.ntmps159, List.size_toArray, List.length_cons, List.length_nil, Nat.reduceAdd, Nat.reduceSub, Array.replicate_succ, Array.replicate_zero, List.push_toArray, List.append_toArray, List.nil_append, List.cons_append]
 gi_wp2
 have bS := Boxed.new w 47 (.slice none 0 0)
 have hB0 : Below n₀ w (w.alloc (.cells #[.slice none 0 0] 47)) := (Below.refl _ w).alloc h0 _
 have hsz : (w.alloc (.cells #[.slice none 0 0] 47)).heap.size = w.heap.size + 1 := World.size_alloc _ _
 have hext : ∀ (j : Nat) (o : Obj), w.heap[j]? = some o → (w.alloc (.cells #[.slice none 0 0] 47)).heap[j]? = some o := fun j o e => (Below.heap_alloc _ _ _ (Array.getElem?_eq_some_iff.1 e).1).trans e
 obtain ⟨W0, hW0⟩ : ∃ W0, w.alloc (.cells #[.slice none 0 0] 47) = W0 := ⟨_, rfl⟩
 rw [hW0] at bS hB0 hsz hext ⊢
 refine range_st rfl (by decide) (gf := gf) (lb := lb) rfl trivial eg b K xs (by omega) (fun j hj => by have := hK j hj; omega) rfl (fun W hW => hseq _ W (by decide) fun j o e => hW j o (hext j o e))
  (fun i W => (∃ v, Boxed W w.heap.size 47 v ∧ W.ownsRow (w.heap.size + 3) 9 1 v i ((xs.take i).map Value.string)) ∧ Below n₀ w W) ?hI ⟨⟨_, bS, World.ownsRow_nil ..⟩, hB0⟩
  (fun x => { tmps := #[.slice none 0 0, .func (.func gf) #[] lb, .pointer (some ⟨w.heap.size, 0, none⟩), undef, .slice none 0 0, .string x, .func (.func gf) #[] lb, .string x, undef, undef, undef, undef, undef], defers := [] }) ?assign ?body ?done
 case hI =>
  rintro i A B ⟨⟨v, hv, hr⟩, hB⟩ ho hs hk
  rw [hsz] at hk
  exact ⟨⟨v, hk _ _ (by omega) (by omega) (by omega) hv, ownsRow_same hr fun j o hj e => hk j o (by omega) (by omega) (by omega) e⟩, below_same hB ho hs h0 hb0 (by omega) (by omega) hk⟩
 case assign =>
  intro l x W C hC
  gi_wp2
  exact hC
 case body =>
  rintro l i x W hx ⟨⟨v, hv, hrow⟩, hB⟩ hsW
  have hc := hv.cell
  have hil : i < xs.length := (List.getElem?_eq_some_iff.1 hx).1
  gi_wp2_with (gi_at_builtin; refine wpListIn_append_own _ rfl _ _ 47 rfl (w.heap.size + 3) 9 i0 (.string ⟨#[]⟩) 1 16 Tryz.underlying47 hi hz0 hz1 hz2 rfl (by decide) _ _ _ rfl (hrow.alloc _) ⟨W.heap.size, 0, none⟩ 1 1 [.string x] rfl rfl (cell_one_new _ _ _) (by simp [Value.oneCell']) (by omega) (by omega) (by simp; omega) ?_; intro v' w1 hown' hgrow _; obtain ⟨g', cap', rfl⟩ := ownsRow_succ hown'; obtain ⟨hv1, hv2, hr2, hk2, hb2⟩ := appended2 (n₀ := n₀) hv (by decide) hrow (by omega) (by omega) (by omega) hown' hgrow (fun j => K j ∨ j = W0.heap.size ∨ j = W0.heap.size + 1) (by rintro j (h | h | h); (have := hK j h; omega); omega; omega); have hc1 := hv1.cell; have hf1 := hv1.frozen)
  refine ⟨hk2, ⟨_, hv2, ?_⟩, hB.trans hb2⟩
  rw [List.take_add_one, hx]
  simpa using hr2
 case done =>
  rintro W ⟨⟨v, hv, hrow⟩, hB⟩ hK2
  have hc := hv.cell
  gi_wp2
  refine ⟨by simp, .inl ⟨_, _, rfl, run_takeDeferred hK2, ?_⟩⟩
  exact ⟨_, results_tmp rfl _ _ _, v, rfl, by rw [List.take_length] at hrow; exact ownsRow_putObj hrow _ hK2 rfl, below_putObj hB (by omega) _⟩
/-- .. Collect. -/
theorem collect_walk (n₀ : Nat) (w : World) (gf : Nat) (lb : Array Value) (b : Nat) (K : Nat → Prop) (xs : List ByteArray) (hlen : xs.length ≤ maxLen) (hbytes : xs.length * 16 ≤ 140737488355328) (h0 : n₀ ≤ w.heap.size) (hb0 : n₀ ≤ b) (hb : b < w.heap.size) (hK : ∀ j, K j → j < w.heap.size)
  (eg : ∀ args w, (callFunc gf args).run Tryz.prog w = .ok (.enter gf args) w)
  (hseq : ∀ m W, 1 ≤ m → (∀ (j : Nat) (o : Obj), w.heap[j]? = some o → W.heap[j]? = some o) → SeqB Fence.wide m Tryz.prog gf lb b K xs W) :
  Calls Tryz.prog 151 #[.func (.func gf) #[] lb] w fun e W' => ∃ v, e = .returned v ∧ W'.ownsRow (w.heap.size + 3) 9 1 v xs.length (xs.map Value.string) ∧ Below n₀ w W' := by
 have hA := appendSeq_walk n₀ w gf lb b K xs hlen hbytes h0 hb0 hb hK eg hseq
 go_enter Tryz.func151, Tryz.ntmps151
 go_wp2_with (go_at_call 159; refine hA.mono ?_; rintro e w' ⟨v, rfl, hr, hb⟩)
 go_ret
 exact ⟨v, rfl, hr, hb⟩
/-- What a list of texts looks like, sorted. -/
def sortedOf (xs : List ByteArray) : List (List UInt8) := (xs.map (·.data.toList)).mergeSort fun x y => decide (x ≤ y)
theorem enc_map (xs : List ByteArray) : xs.map Value.string = (xs.map (·.data.toList)).map encStr := by
 rw [List.map_map]
 refine List.map_congr_left fun x _ => ?_
 show Value.string x = Value.string ⟨x.data.toList.toArray⟩
 rw [Array.toArray_toList]
/-- .. Sorted. -/
theorem sorted_walk (n₀ : Nat) (w : World) (gf : Nat) (lb : Array Value) (b : Nat) (K : Nat → Prop) (xs : List ByteArray) (hlen : xs.length ≤ maxLen) (hbytes : xs.length * 16 ≤ 140737488355328) (h0 : n₀ ≤ w.heap.size) (hb0 : n₀ ≤ b) (hb : b < w.heap.size) (hK : ∀ j, K j → j < w.heap.size)
  (eg : ∀ args w, (callFunc gf args).run Tryz.prog w = .ok (.enter gf args) w)
  (hseq : ∀ m W, 1 ≤ m → (∀ (j : Nat) (o : Obj), w.heap[j]? = some o → W.heap[j]? = some o) → SeqB Fence.wide m Tryz.prog gf lb b K xs W) :
  Calls Tryz.prog 131 #[.func (.func gf) #[] lb] w fun e W' => ∃ v, e = .returned v ∧ W'.ownsRow (w.heap.size + 3) 9 1 v xs.length ((sortedOf xs).map encStr) ∧ Below n₀ w W' := by
 have hC := collect_walk n₀ w gf lb b K xs hlen hbytes h0 hb0 hb hK eg hseq
 go_enter Tryz.func131, Tryz.ntmps131
 go_wp2_with (go_at_call 151; refine hC.mono ?_; rintro e W ⟨v, rfl, hrow, hb⟩)
 rcases hrow.2 with ⟨rfl, hz⟩ | ⟨gb, cap, cur, rfl, hbase, hgb, r1, r2, r3, r4⟩
 ·have hss : xs = [] := List.eq_nil_of_length_eq_zero hz
  subst hss
  go_wp2_with (go_at_call 152; refine (Tryz.slices_Sort_string_none none 0 W).mono ?_; rintro e w' ⟨rfl, rfl⟩)
  go_ret
  exact ⟨.slice none 0 0, rfl, by simpa [sortedOf] using hrow, hb⟩
 ·rw [enc_map] at r4
  have hH : Holds encStr W gb 0 (xs.map (·.data.toList)).toArray := holds_of_block hgb (by rw [Nat.mul_one] at r4; simpa using r4)
  have hgl : gb < W.heap.size := (Array.getElem?_eq_some_iff.1 hgb).1
  have cS := Tryz.slices_Sort_string gb 0 cap (xs.map (·.data.toList)) W hH hgl (by rw [List.length_map]; omega)
  rw [List.length_map] at cS
  go_wp2_with (go_at_call 152; refine cS.mono ?_; rintro e w' ⟨rfl, nn, os, rfl⟩)
  go_ret
  have hl : (sortedOf xs).length = (xs.map (·.data.toList)).length := List.length_mergeSort ..
  have hs := ownsRow_sorted (n := nn) (os := os) hl hbase hgb (by rw [List.length_map]; exact r1) r2 r3
  rw [List.length_map] at hs
  refine ⟨_, rfl, hs, hb.grown (grownBy_sorted _) (Nat.le_trans h0 hb.size) (fun j hj => by cases hj; omega)⟩
/-- slices.Values. -/
theorem values_walk (sv : Value) (hsv : ∃ a n c, sv = .slice a n c) (w : World) :
  Calls Tryz.prog 132 #[sv] w fun e w' => e = .returned (.func (.func 153) #[] #[.pointer (some ⟨w.heap.size, 0, none⟩)]) ∧ w' = w.alloc (.cells #[sv] 47) := by
 obtain ⟨a, n, c, rfl⟩ := hsv
 go_enter Tryz.func132, Tryz.ntmps132
 go_wp2
 go_ret
 exact ⟨rfl, rfl⟩
/-- strings.SplitSeq. -/
theorem splitSeq_walk (s sep : ByteArray) (w : World) :
  Calls Tryz.prog 129 #[.string s, .string sep, .int .i64 0] w fun e w' => e = .returned (.func (.func 150) #[] #[.pointer (some ⟨w.heap.size + 1, 0, none⟩), .pointer (some ⟨w.heap.size, 0, none⟩), .pointer (some ⟨w.heap.size + 2, 0, none⟩)]) ∧ w' = ((w.alloc (.cells #[.string s] 9)).alloc (.cells #[.string sep] 9)).alloc (.cells #[.int .i64 0] 3) := by
 go_enter Tryz.func129, Tryz.ntmps129
 go_wp2
 go_ret
 exact ⟨by simp, rfl⟩
theorem SplitSeq_walk (s sep : ByteArray) (w : World) :
  Calls Tryz.prog 91 #[.string s, .string sep] w fun e w' => e = .returned (.func (.func 150) #[] #[.pointer (some ⟨w.heap.size + 1, 0, none⟩), .pointer (some ⟨w.heap.size, 0, none⟩), .pointer (some ⟨w.heap.size + 2, 0, none⟩)]) ∧ w' = ((w.alloc (.cells #[.string s] 9)).alloc (.cells #[.string sep] 9)).alloc (.cells #[.int .i64 0] 3) := by
 have hS := splitSeq_walk s sep w
 go_enter Tryz.func91, Tryz.ntmps91
 go_wp2_with (go_at_call 129; refine hS.mono ?_; rintro e w' ⟨rfl, rfl⟩)
 go_ret
 exact ⟨rfl, rfl⟩
end Go.Proofs.YtdakfmldbddokaaGreatDoor.P
