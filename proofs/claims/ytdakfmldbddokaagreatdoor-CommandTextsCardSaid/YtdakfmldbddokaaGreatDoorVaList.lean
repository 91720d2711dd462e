/- The contract of List. -/
import Derived.Test.YtdakfmldbddokaaGreatDoorVaRep
set_option linter.unusedVariables false
set_option linter.unusedSimpArgs false
namespace Go.Proofs.YtdakfmldbddokaaGreatDoor.P
open Go Go.RowKit Go.Shelf Go.Sort Go.Maps Go.Proofs.YtdakfmldbddokaaGreatDoorW.PrintWords Go.Proofs.YtdakfmldbddokaaGreatDoorW.PrintLast Go.Proofs.YtdakfmldbddokaaGreatDoorW.PrintMore
attribute [local go_sem] Oper.semAt_some
def trimT (s : ByteArray) : ByteArray := trimB s ⟨#[32, 9]⟩
def partsT (s : ByteArray) : List ByteArray := (partsAt 44 s).map trimT
/-- What List answers. -/
def listOf (s : ByteArray) : List ByteArray × Option Int :=
 if (trimT s).toList = ([] : List UInt8) then ([], some 13)
 else if Lib.containsS (partsT s) ⟨#[]⟩ = true then ([], some 3)
 else if dupS (partsT s) = true then ([], some 7)
 else if 4096 < (partsT s).length then ([], some 2)
 else (partsT s, none)
def vLst.f (a0 : ByteArray) : Option (List ByteArray × Option Int) := if a0.size ≤ 4398046511103 then some (listOf a0) else none
theorem trim_calls (s : ByteArray) (hs : s.size ≤ 9223372036854775807) (w : World) : Calls Tryz.prog 90 #[.string s, .string ⟨#[32, 9]⟩] w fun e w' => e = .returned (.string (trimT s)) ∧ Below w.heap.size w w' :=
 strings_Trim.calls s ⟨#[32, 9]⟩ _ w (by unfold strings_Trim.f; rw [if_pos ⟨hs, by decide, by decide⟩]; rfl)
theorem cutAt_len (c : UInt8) : ∀ (l acc : List UInt8), (cutAt c acc l).length ≤ l.length + 1
 | [], acc => by simp [cutAt]
 | d :: r, acc => by
  unfold cutAt
  split
  ·have := cutAt_len c r []; simp; omega
  ·have := cutAt_len c r (acc ++ [d]); simp; omega
theorem parts_len (c : UInt8) (s : ByteArray) : (partsAt c s).length ≤ s.size + 1 := by
 have h := cutAt_len c s.data.toList []
 unfold partsAt
 rw [List.length_map]
 exact h
theorem cutAt_size (c : UInt8) : ∀ (l acc : List UInt8), ∀ p ∈ cutAt c acc l, p.length ≤ acc.length + l.length
 | [], acc, p, hp => by simp [cutAt] at hp; subst hp; simp
 | d :: r, acc, p, hp => by
  unfold cutAt at hp
  split at hp
  ·rcases List.mem_cons.1 hp with rfl | h
   ·omega
   ·have := cutAt_size c r [] p h; simp at this; simp; omega
  ·have := cutAt_size c r (acc ++ [d]) p hp; simp at this; simp; omega
theorem parts_size (c : UInt8) (s : ByteArray) : ∀ p ∈ partsAt c s, p.size ≤ s.size := by
 intro p hp
 obtain ⟨l, hl, rfl⟩ := List.mem_map.1 hp
 have := cutAt_size c s.data.toList [] l hl
 have e : (⟨l.toArray⟩ : ByteArray).size = l.length := rfl
 have e2 : s.data.toList.length = s.size := Array.length_toList
 rw [e]; simp at this ⊢; omega
theorem operIn_append_own {F : Fence} {n : Nat} {P : Program} {w : World} {o : Oper} {a : Act} {K : Act → World → Prop} {Q : Exit → Act → World → Prop}
  (s x : Operand) (t : TypeId) (hop : o.op = Op.call { callee := Callee.builtin Builtin.append, args := #[s, x], argTypes := #[t, t] })
  (base : Nat) (e : TypeId) (i : TypeInfo) (z : Value) (size bytes : Nat) (h1 : P.underlying t = some (.slice e)) (h2 : P.info? e = some i) (h3 : i.zero = some z) (h4 : i.size = size) (h5 : i.bytes = bytes) (h6 : z.cells.size = size) (h7 : 0 < size)
  (v : Value) (k : Nat) (xs : List Value) (hs : a.eval s = v) (hown : w.ownsRow base e size v k xs) (ad : Addr) (m c : Nat) (news : List Value) (hx : a.eval x = .slice (some ad) m c) (hn : news.length = m * size)
  (hc : ∀ j u, news[j]? = some u → w.cell? (ad.add j) = some u) (h1c : ∀ u ∈ news, u.oneCell' = true) (b1 : k + m ≤ maxLen) (b2 : (k + m) * bytes ≤ 140737488355328) (b3 : base ≤ w.heap.size)
  (hK : ∀ v' w', w'.ownsRow base e size v' (k + m) (xs ++ news) → w.grownBy w' v.ownBlock → K (a.put o.dst v') w') : Oper.wpIn F n P o a w K Q := by
 obtain ⟨v', w', hrun, r1, r2, _⟩ := run_append_own (P := P) w base t o.type e i z size bytes h1 h2 h3 h4 h5 h6 h7 v k xs hown ad m c news hn hc h1c b1 b2 b3
 unfold Oper.wpIn
 refine ⟨?_, ?_⟩
 ·simp [Oper.about, hop, resolve, Target.leads, Sem.run_pure]
 ·rw [Oper.semAt_plain F _ _ (by rw [hop]; intro c hc'; cases hc')]
  simp [execOp, hop, resolve, invoke, builtin, hs, hx, hrun, Result.andThen]
  exact hK _ _ r1 r2
theorem keepB_trim {K : Nat → Prop} {W w' w4 : World} (hb : Below W.heap.size W w') (hk : KeepB K w' w4) (hlt : ∀ j, K j → j < W.heap.size) : KeepB K W w4 :=
 ⟨Nat.le_trans hb.size hk.1, fun j o hj e => hk.2 j o hj ((hb.block j (hlt j hj)).trans e)⟩
theorem below_trim {n₀ : Nat} {w W w' : World} (hB : Below n₀ w W) (hb : Below W.heap.size W w') (h : n₀ ≤ W.heap.size) : Below n₀ w w' :=
 hB.trans ⟨hb.os, hb.tape, hb.output, hb.size, fun k hk => hb.block k (by omega)⟩
set_option maxRecDepth 100000 in
set_option maxHeartbeats 4000000 in
theorem list_none (a0 : ByteArray) (w : World) (hs : a0.size ≤ 4398046511103) (he : (trimT a0).toList = ([] : List UInt8)) :
  Calls Tryz.prog 66 #[.string a0] w fun e w' => e = .returned (.tuple #[.slice none 0 0, errW (some 13)]) ∧ Below w.heap.size w w' := by
 have hT := trim_calls a0 (by omega) w
 refine (callsIn_wide (n := 6)).1 ?_
 refine callsIn_of_wp_marks Tryz.func66 rfl trivial ?_ rfl
 simp only [Tryz.ntmps66, List.size_toArray, List.length_cons, List.length_nil, Nat.reduceAdd, Nat.reduceSub, Array.replicate_succ, Array.replicate_zero, List.push_toArray, List.append_toArray, List.nil_append, List.cons_append]
 gi_wp2_with (refine ⟨trivial, ?_⟩; gi_at_call 90; refine (callsIn_wide.2 hT).mono ?_; rintro e w' ⟨rfl, hb⟩)
 exact ⟨_, results_tmp2 rfl _ _ _, rfl, hb⟩
theorem cutAt_ne (c : UInt8) : ∀ (l acc : List UInt8), (cutAt c acc l).length ≠ 0
 | [], acc => by simp [cutAt]
 | d :: r, acc => by
  unfold cutAt
  split
  ·simp
  ·exact cutAt_ne c r _
theorem parts_ne (c : UInt8) (s : ByteArray) : (partsAt c s).length ≠ 0 := by
 unfold partsAt
 rw [List.length_map]
 exact cutAt_ne c _ _
theorem own_lower {w : World} {b b' : Nat} {e : TypeId} {size n : Nat} {v : Value} {cs : List Value} (h : w.ownsRow b e size v n cs) (hb : b' ≤ b) : w.ownsRow b' e size v n cs := by
 refine ⟨h.1, ?_⟩
 rcases h.2 with hn | ⟨g, cap, cur, rfl, hg, r⟩
 ·exact .inl hn
 ·exact .inr ⟨g, cap, cur, rfl, Nat.le_trans hb hg, r⟩
set_option maxRecDepth 100000 in
set_option maxHeartbeats 8000000 in
theorem list_some (a0 : ByteArray) (w : World) (hs : a0.size ≤ 4398046511103) (he : (trimT a0).toList ≠ ([] : List UInt8)) :
  Calls Tryz.prog 66 #[.string a0] w fun e w' => ∃ v0_ : Value, e = .returned (.tuple #[v0_, errW (listOf a0).2]) ∧ Kd.R Kd.string 9 w' w.heap.size (fun _ => True) v0_ (listOf a0).1 ∧ Below w.heap.size w w' := by
 obtain ⟨i0, hi, hz0, hz1, hz2⟩ := info_parts info_str
 have hT := trim_calls a0 (by omega) w
 have he' : ((trimT a0).toList == ([] : List UInt8)) = false := beq_eq_false_iff_ne.mpr he
 have hpl := parts_len 44 a0
 have hps := parts_size 44 a0
 have hmax : maxLen = 9223372036854775807 := rfl
 refine (callsIn_wide (n := 6)).1 ?_
 refine callsIn_of_wp_marks Tryz.func66 rfl trivial ?_ rfl
 simp only [Tryz.ntmps66, List.size_toArray, List.length_cons, List.length_nil, Nat.reduceAdd, Nat.reduceSub, Array.replicate_succ, Array.replicate_zero, List.push_toArray, List.append_toArray, List.nil_append, List.cons_append]
 gi_wp2_with (first | (refine ⟨trivial, ?_⟩; gi_at_call 90; refine (callsIn_wide.2 hT).mono ?_; rintro e w1 ⟨rfl, hb1⟩) | (refine ⟨trivial, ?_⟩; gi_at_call 91; refine (callsIn_wide.2 (SplitSeq_walk _ _ _)).mono ?_; rintro e w2 ⟨rfl, rfl⟩))
 have sz1 : (w1.alloc (.cells #[.slice none 0 0] 47)).heap.size = w1.heap.size + 1 := World.size_alloc _ _
 have sz2 : ((w1.alloc (.cells #[.slice none 0 0] 47)).alloc (.cells #[.string a0] 9)).heap.size = w1.heap.size + 2 := by rw [World.size_alloc, sz1]
 have sz3 : (((w1.alloc (.cells #[.slice none 0 0] 47)).alloc (.cells #[.string a0] 9)).alloc (.cells #[.string ⟨#[44]⟩] 9)).heap.size = w1.heap.size + 3 := by rw [World.size_alloc, sz2]
 have sz4 : ((((w1.alloc (.cells #[.slice none 0 0] 47)).alloc (.cells #[.string a0] 9)).alloc (.cells #[.string ⟨#[44]⟩] 9)).alloc (.cells #[.int .i64 0] 3)).heap.size = w1.heap.size + 4 := by rw [World.size_alloc, sz3]
 have bL := (((Boxed.new w1 47 (.slice none 0 0)).alloc (.cells #[.string a0] 9)).alloc (.cells #[.string ⟨#[44]⟩] 9)).alloc (.cells #[.int .i64 0] 3)
 have bS := ((Boxed.new (w1.alloc (.cells #[.slice none 0 0] 47)) 9 (.string a0)).alloc (.cells #[.string ⟨#[44]⟩] 9)).alloc (.cells #[.int .i64 0] 3)
 have bP := (Boxed.new ((w1.alloc (.cells #[.slice none 0 0] 47)).alloc (.cells #[.string a0] 9)) 9 (.string ⟨#[44]⟩)).alloc (.cells #[.int .i64 0] 3)
 have bV := Boxed.new (((w1.alloc (.cells #[.slice none 0 0] 47)).alloc (.cells #[.string a0] 9)).alloc (.cells #[.string ⟨#[44]⟩] 9)) 3 (.int .i64 0)
 rw [sz1] at bS
 rw [sz2] at bP
 rw [sz3] at bV
 have hle := hb1.size
 have hB0 : Below w.heap.size w ((((w1.alloc (.cells #[.slice none 0 0] 47)).alloc (.cells #[.string a0] 9)).alloc (.cells #[.string ⟨#[44]⟩] 9)).alloc (.cells #[.int .i64 0] 3)) :=
  (((hb1.alloc hle _).alloc (by omega) _).alloc (by omega) _).alloc (by omega) _
 obtain ⟨W0, hW0⟩ : ∃ W0, (((w1.alloc (.cells #[.slice none 0 0] 47)).alloc (.cells #[.string a0] 9)).alloc (.cells #[.string ⟨#[44]⟩] 9)).alloc (.cells #[.int .i64 0] 3) = W0 := ⟨_, rfl⟩
 rw [hW0] at bL bS bP bV hB0 sz4 ⊢
 obtain ⟨m, hm⟩ : ∃ m, w1.heap.size = m := ⟨_, rfl⟩
 rw [hm] at bL bS bP bV sz4 hle ⊢
 clear hW0 sz1 sz2 sz3 hb1 hT
 refine range_st rfl (by decide) (gf := 150) (lb := #[.pointer (some ⟨m + 2, 0, none⟩), .pointer (some ⟨m + 1, 0, none⟩), .pointer (some ⟨m + 3, 0, none⟩)]) rfl trivial
  (enters 150 Tryz.f150 Tryz.func150 rfl (by decide)) (m + 1) (fun j => j = m + 1 ∨ j = m + 2 ∨ j = m + 3) (partsAt 44 a0) (by omega) (fun j hj => by omega) rfl
  (fun W hW => split1_seq _ (by decide) 44 a0 (by omega) (m + 1) (m + 2) (m + 3) (by omega) (by omega) W (hW _ _ bP) (hW _ _ bS) (hW _ _ bV))
  (fun i W => (∃ v, Boxed W m 47 v ∧ W.ownsRow (m + 6) 9 1 v i (((partsT a0).take i).map Value.string)) ∧ Below w.heap.size w W) ?hI ⟨⟨_, bL, World.ownsRow_nil ..⟩, hB0⟩
  (fun x => { tmps := #[.string a0, undef, .slice none 0 0, .nilIface, .pointer (some ⟨m, 0, none⟩), .string x, .string a0, .string (trimT a0), .bool false, undef, .string a0,
     .func (.func 150) #[] #[.pointer (some ⟨m + 2, 0, none⟩), .pointer (some ⟨m + 1, 0, none⟩), .pointer (some ⟨m + 3, 0, none⟩)],
     .string x, undef, undef, undef, undef, undef, undef, undef, undef, undef, undef, undef, undef, undef, undef, undef, undef, undef, undef, undef], defers := [] }) ?assign ?body ?done
 case hI =>
  rintro i A B ⟨⟨v, hv, hr⟩, hB⟩ ho hs hk
  rw [sz4] at hk
  exact ⟨⟨v, hk _ _ (by omega) (by omega) (by omega) hv, ownsRow_same hr fun j o hj e => hk j o (by omega) (by omega) (by omega) e⟩, below_same hB ho hs (Nat.le_refl _) (by omega) (by omega) (by omega) hk⟩
 case assign =>
  intro l x W C hC
  gi_wp2
  exact hC
 case body =>
  rintro l i x W hx ⟨⟨v, hv, hrow⟩, hB⟩ hsW
  have hc := hv.cell
  have hil : i < (partsAt 44 a0).length := (List.getElem?_eq_some_iff.1 hx).1
  have hxs : x.size ≤ a0.size := hps x (List.mem_of_getElem? hx)
  have hT := fun V => trim_calls x (by omega) V
  have hd : 1 ≤ 6 - 1 - 1 := by decide
  have hmx : Tryz.prog.follows .mixedOrders = true := by kernel_rfl
  have hmlt : m < W.heap.size := hv.lt
  have hlt3 : ∀ j, ((j = m + 1 ∨ j = m + 2 ∨ j = m + 3) ∨ j = W0.heap.size ∨ j = W0.heap.size + 1) → j < W.heap.size := by rintro j (h | h | h) <;> omega
  have hrow3 : ∀ {w4 : World} {u : Value}, w4.ownsRow (m + 6) 9 1 u (i + 1) (((partsT a0).take i).map Value.string ++ [.string (trimT x)]) → w4.ownsRow (m + 6) 9 1 u (i + 1) (((partsT a0).take (i + 1)).map Value.string) := fun h => by
   rw [List.take_add_one, show (partsT a0)[i]? = some (trimT x) by unfold partsT; rw [List.getElem?_map, hx]; rfl]
   simpa using h
  gi_wp2
  refine wpIn_region_any (by assumption) ?_
  change wpAnyIn _ _ _ _ _ _ _ _ _ (World.drew _)
  refine wpAnyIn_ready (rs := [0, 1]) (by kernel_rfl) (by simp) ?_
  refine AllReadyIn.cons rfl (fun K hK => ?_) (AllReadyIn.cons rfl (fun K hK => ?_) AllReadyIn.nil)
  ·go_simp
   refine hK _ _ ?_
   clear hK K
   refine wpAnyIn_ready (rs := [1]) (by kernel_rfl) (by simp) ?_
   refine AllReadyIn.cons rfl (fun K hK => ?_) AllReadyIn.nil
   ·go_simp
    refine hK _ _ ?_
    clear hK K
    refine wpAnyIn_ready (rs := [2]) (by kernel_rfl) (by simp) ?_
    refine AllReadyIn.cons rfl (fun K hK => ?_) AllReadyIn.nil
    ·go_simp
     gi_wp2_with (refine ⟨trivial, ?_⟩; gi_at_call 90; refine (CallsIn.inRound l (callsIn_wide.2 (hT _))).mono ?_; rintro e w' ⟨rfl, hbd⟩; have hb : Below W.heap.size W w' := ⟨hbd.os, hbd.tape, hbd.output, hbd.size, fun k hk => hbd.block k hk⟩; clear hbd; have hv' : Boxed w' m 47 v := (hb.block m hmlt).trans hv; have hrow' : w'.ownsRow (m + 6) 9 1 v i (((partsT a0).take i).map Value.string) := ownsRow_same hrow (fun j o _ e => (hb.block j (Array.getElem?_eq_some_iff.1 e).1).trans e); have hc' := hv'.cell; have hbs := hb.size; have hc2 := (hv'.alloc (.cells #[.string (trimT x)] 9)).cell)
     refine wpAnyIn_ready (rs := [3]) (by kernel_rfl) (by simp) ?_
     refine AllReadyIn.cons rfl (fun K hK => ?_) AllReadyIn.nil
     ·go_simp
      refine hK _ _ ?_
      clear hK K
      refine wpAnyIn_ready (rs := [4]) (by kernel_rfl) (by simp) ?_
      refine AllReadyIn.cons rfl (fun K hK => ?_) AllReadyIn.nil
      ·rw [if_pos (by kernel_rfl)]
       refine operIn_append_own _ _ 47 rfl (m + 6) 9 i0 (.string ⟨#[]⟩) 1 16 Tryz.underlying47 hi hz0 hz1 hz2 rfl (by decide) _ _ _ rfl (hrow'.alloc _) ⟨w'.heap.size, 0, none⟩ 1 1 [.string (trimT x)] rfl rfl (cell_one_new _ _ _) (by simp [Value.oneCell']) (by omega) (by omega) (by rw [World.size_alloc]; omega) ?_
       intro v2 w3 hown' hgrow
       obtain ⟨g', cap', rfl⟩ := ownsRow_succ hown'
       obtain ⟨hv1, hv2, hr2, hk2, hb2⟩ := appended2 (n₀ := w.heap.size) hv' (by decide) hrow' (by omega) (by omega) (by omega) hown' hgrow (fun j => (j = m + 1 ∨ j = m + 2 ∨ j = m + 3) ∨ j = W0.heap.size ∨ j = W0.heap.size + 1) (by rintro j (h | h | h) <;> omega)
       have hc1 := hv1.cell
       have hf1 := hv1.frozen
       refine hK _ _ ?_
       clear hK K
       refine wpAnyIn_ready (rs := [5]) (by kernel_rfl) (by simp) ?_
       refine AllReadyIn.cons rfl (fun K hK => ?_) AllReadyIn.nil
       ·go_simp
        refine hK _ _ ?_
        clear hK K
        refine wpAnyIn_done (by kernel_rfl) ?_ _
        exact ⟨keepB_trim hb hk2 (fun j hj => by have := hlt3 j hj; omega), ⟨_, hv2, hrow3 hr2⟩, (below_trim hB hb (by omega)).trans hb2⟩
  ·go_simp
   refine hK _ _ ?_
   clear hK K
   refine wpAnyIn_ready (rs := [0, 2]) (by kernel_rfl) (by simp) ?_
   refine AllReadyIn.cons rfl (fun K hK => ?_) (AllReadyIn.cons rfl (fun K hK => ?_) AllReadyIn.nil)
   ·go_simp
    refine hK _ _ ?_
    clear hK K
    refine wpAnyIn_ready (rs := [2]) (by kernel_rfl) (by simp) ?_
    refine AllReadyIn.cons rfl (fun K hK => ?_) AllReadyIn.nil
    ·go_simp
     gi_wp2_with (refine ⟨trivial, ?_⟩; gi_at_call 90; refine (CallsIn.inRound l (callsIn_wide.2 (hT _))).mono ?_; rintro e w' ⟨rfl, hbd⟩; have hb : Below W.heap.size W w' := ⟨hbd.os, hbd.tape, hbd.output, hbd.size, fun k hk => hbd.block k hk⟩; clear hbd; have hv' : Boxed w' m 47 v := (hb.block m hmlt).trans hv; have hrow' : w'.ownsRow (m + 6) 9 1 v i (((partsT a0).take i).map Value.string) := ownsRow_same hrow (fun j o _ e => (hb.block j (Array.getElem?_eq_some_iff.1 e).1).trans e); have hc' := hv'.cell; have hbs := hb.size; have hc2 := (hv'.alloc (.cells #[.string (trimT x)] 9)).cell)
     refine wpAnyIn_ready (rs := [3]) (by kernel_rfl) (by simp) ?_
     refine AllReadyIn.cons rfl (fun K hK => ?_) AllReadyIn.nil
     ·go_simp
      refine hK _ _ ?_
      clear hK K
      refine wpAnyIn_ready (rs := [4]) (by kernel_rfl) (by simp) ?_
      refine AllReadyIn.cons rfl (fun K hK => ?_) AllReadyIn.nil
      ·rw [if_pos (by kernel_rfl)]
       refine operIn_append_own _ _ 47 rfl (m + 6) 9 i0 (.string ⟨#[]⟩) 1 16 Tryz.underlying47 hi hz0 hz1 hz2 rfl (by decide) _ _ _ rfl (hrow'.alloc _) ⟨w'.heap.size, 0, none⟩ 1 1 [.string (trimT x)] rfl rfl (cell_one_new _ _ _) (by simp [Value.oneCell']) (by omega) (by omega) (by rw [World.size_alloc]; omega) ?_
       intro v2 w3 hown' hgrow
       obtain ⟨g', cap', rfl⟩ := ownsRow_succ hown'
       obtain ⟨hv1, hv2, hr2, hk2, hb2⟩ := appended2 (n₀ := w.heap.size) hv' (by decide) hrow' (by omega) (by omega) (by omega) hown' hgrow (fun j => (j = m + 1 ∨ j = m + 2 ∨ j = m + 3) ∨ j = W0.heap.size ∨ j = W0.heap.size + 1) (by rintro j (h | h | h) <;> omega)
       have hc1 := hv1.cell
       have hf1 := hv1.frozen
       refine hK _ _ ?_
       clear hK K
       refine wpAnyIn_ready (rs := [5]) (by kernel_rfl) (by simp) ?_
       refine AllReadyIn.cons rfl (fun K hK => ?_) AllReadyIn.nil
       ·go_simp
        refine hK _ _ ?_
        clear hK K
        refine wpAnyIn_done (by kernel_rfl) ?_ _
        exact ⟨keepB_trim hb hk2 (fun j hj => by have := hlt3 j hj; omega), ⟨_, hv2, hrow3 hr2⟩, (below_trim hB hb (by omega)).trans hb2⟩
   ·go_simp
    gi_wp2_with (refine ⟨trivial, ?_⟩; gi_at_call 90; refine (CallsIn.inRound l (callsIn_wide.2 (hT _))).mono ?_; rintro e w' ⟨rfl, hbd⟩; have hb : Below W.heap.size W w' := ⟨hbd.os, hbd.tape, hbd.output, hbd.size, fun k hk => hbd.block k hk⟩; clear hbd; have hv' : Boxed w' m 47 v := (hb.block m hmlt).trans hv; have hrow' : w'.ownsRow (m + 6) 9 1 v i (((partsT a0).take i).map Value.string) := ownsRow_same hrow (fun j o _ e => (hb.block j (Array.getElem?_eq_some_iff.1 e).1).trans e); have hc' := hv'.cell; have hbs := hb.size; have hc2 := (hv'.alloc (.cells #[.string (trimT x)] 9)).cell)
    refine wpAnyIn_ready (rs := [0, 3]) (by kernel_rfl) (by simp) ?_
    refine AllReadyIn.cons rfl (fun K hK => ?_) (AllReadyIn.cons rfl (fun K hK => ?_) AllReadyIn.nil)
    ·go_simp
     refine hK _ _ ?_
     clear hK K
     refine wpAnyIn_ready (rs := [3]) (by kernel_rfl) (by simp) ?_
     refine AllReadyIn.cons rfl (fun K hK => ?_) AllReadyIn.nil
     ·go_simp
      refine hK _ _ ?_
      clear hK K
      refine wpAnyIn_ready (rs := [4]) (by kernel_rfl) (by simp) ?_
      refine AllReadyIn.cons rfl (fun K hK => ?_) AllReadyIn.nil
      ·rw [if_pos (by kernel_rfl)]
       refine operIn_append_own _ _ 47 rfl (m + 6) 9 i0 (.string ⟨#[]⟩) 1 16 Tryz.underlying47 hi hz0 hz1 hz2 rfl (by decide) _ _ _ rfl (hrow'.alloc _) ⟨w'.heap.size, 0, none⟩ 1 1 [.string (trimT x)] rfl rfl (cell_one_new _ _ _) (by simp [Value.oneCell']) (by omega) (by omega) (by rw [World.size_alloc]; omega) ?_
       intro v2 w3 hown' hgrow
       obtain ⟨g', cap', rfl⟩ := ownsRow_succ hown'
       obtain ⟨hv1, hv2, hr2, hk2, hb2⟩ := appended2 (n₀ := w.heap.size) hv' (by decide) hrow' (by omega) (by omega) (by omega) hown' hgrow (fun j => (j = m + 1 ∨ j = m + 2 ∨ j = m + 3) ∨ j = W0.heap.size ∨ j = W0.heap.size + 1) (by rintro j (h | h | h) <;> omega)
       have hc1 := hv1.cell
       have hf1 := hv1.frozen
       refine hK _ _ ?_
       clear hK K
       refine wpAnyIn_ready (rs := [5]) (by kernel_rfl) (by simp) ?_
       refine AllReadyIn.cons rfl (fun K hK => ?_) AllReadyIn.nil
       ·go_simp
        refine hK _ _ ?_
        clear hK K
        refine wpAnyIn_done (by kernel_rfl) ?_ _
        exact ⟨keepB_trim hb hk2 (fun j hj => by have := hlt3 j hj; omega), ⟨_, hv2, hrow3 hr2⟩, (below_trim hB hb (by omega)).trans hb2⟩
    ·go_simp
     refine hK _ _ ?_
     clear hK K
     refine wpAnyIn_ready (rs := [0]) (by kernel_rfl) (by simp) ?_
     refine AllReadyIn.cons rfl (fun K hK => ?_) AllReadyIn.nil
     ·go_simp
      refine hK _ _ ?_
      clear hK K
      refine wpAnyIn_ready (rs := [4]) (by kernel_rfl) (by simp) ?_
      refine AllReadyIn.cons rfl (fun K hK => ?_) AllReadyIn.nil
      ·rw [if_pos (by kernel_rfl)]
       refine operIn_append_own _ _ 47 rfl (m + 6) 9 i0 (.string ⟨#[]⟩) 1 16 Tryz.underlying47 hi hz0 hz1 hz2 rfl (by decide) _ _ _ rfl (hrow'.alloc _) ⟨w'.heap.size, 0, none⟩ 1 1 [.string (trimT x)] rfl rfl (cell_one_new _ _ _) (by simp [Value.oneCell']) (by omega) (by omega) (by rw [World.size_alloc]; omega) ?_
       intro v2 w3 hown' hgrow
       obtain ⟨g', cap', rfl⟩ := ownsRow_succ hown'
       obtain ⟨hv1, hv2, hr2, hk2, hb2⟩ := appended2 (n₀ := w.heap.size) hv' (by decide) hrow' (by omega) (by omega) (by omega) hown' hgrow (fun j => (j = m + 1 ∨ j = m + 2 ∨ j = m + 3) ∨ j = W0.heap.size ∨ j = W0.heap.size + 1) (by rintro j (h | h | h) <;> omega)
       have hc1 := hv1.cell
       have hf1 := hv1.frozen
       refine hK _ _ ?_
       clear hK K
       refine wpAnyIn_ready (rs := [5]) (by kernel_rfl) (by simp) ?_
       refine AllReadyIn.cons rfl (fun K hK => ?_) AllReadyIn.nil
       ·go_simp
        refine hK _ _ ?_
        clear hK K
        refine wpAnyIn_done (by kernel_rfl) ?_ _
        exact ⟨keepB_trim hb hk2 (fun j hj => by have := hlt3 j hj; omega), ⟨_, hv2, hrow3 hr2⟩, (below_trim hB hb (by omega)).trans hb2⟩
 case done =>
  rintro W ⟨⟨v, hv, hrow⟩, hB⟩ hK2
  rw [sz4] at hK2
  have hpt : (partsT a0).length = (partsAt 44 a0).length := by unfold partsT; rw [List.length_map]
  rw [← hpt, List.take_length] at hrow
  have hln : (partsT a0).length ≤ 4398046511104 := by omega
  have hne : (partsT a0).length ≠ 0 := by rw [hpt]; exact parts_ne 44 a0
  clear hpt
  have hDlt : m + 4 < W.heap.size := (Array.getElem?_eq_some_iff.1 hK2).1
  rcases hrow.2 with ⟨rfl, h0⟩ | ⟨g, cap, cur, rfl, hbase, hgb, r1, r2, r3, r4⟩
  ·exact absurd h0 hne
  have hc := hv.cell
  have hR : Kd.R Kd.string 9 W w.heap.size (fun _ => True) (.slice (some ⟨g, 0, none⟩) (partsT a0).length cap) (partsT a0) := Kd.R_of_own (enc := Value.string) (own_lower hrow (by omega)) (fun _ _ => trivial)
  obtain ⟨_, _, hKC⟩ := Kd.R_reads' hR
  have hcell : ∀ j, j < (partsT a0).length → W.cell? ⟨g, 0 + j, none⟩ = some (.string ((partsT a0).getD j ByteArray.empty)) := fun j hj => by
   have h := (Kd.R_cell ByteArray.empty hR (j : Int) (by omega) (by omega)).1
   rw [Nat.zero_add]
   simpa [rdOf] using h
  have hC := Tryz.slices_Contains_string g 0 (partsT a0).length cap (partsT a0) ⟨#[]⟩ W (Nat.le_refl _) (by omega) hcell
  have hRep := vRep.calls (some ⟨g, 0, none⟩) cap (partsT a0) (dupS (partsT a0)) W hKC r1 (by unfold vRep.f; rw [if_pos hln])
  rw [List.take_length] at hC
  have hlo : listOf a0 = if Lib.containsS (partsT a0) ⟨#[]⟩ = true then ([], some 3) else if dupS (partsT a0) = true then ([], some 7) else if 4096 < (partsT a0).length then ([], some 2) else (partsT a0, none) := by unfold listOf; rw [if_neg he]
  clear hcell hKC
  by_cases c1 : Lib.containsS (partsT a0) ⟨#[]⟩ = true
  ·rw [c1] at hC
   have hl1 : listOf a0 = ([], some 3) := by rw [hlo, if_pos c1]
   gi_wp2_with (refine ⟨trivial, ?_⟩; gi_at_call 92; refine (callsIn_wide.2 hC).mono ?_; rintro e w' ⟨rfl, rfl⟩)
   refine ⟨by simp, .inl ⟨_, _, rfl, run_takeDeferred hK2, ?_⟩⟩
   rw [hl1]
   exact ⟨_, results_tmp2 rfl _ _ _, _, rfl, Kd.R_nil _ _ _ _ _, below_putObj hB (by omega) _⟩
  ·have c1' : Lib.containsS (partsT a0) ⟨#[]⟩ = false := by simpa using c1
   rw [c1'] at hC
   rw [if_neg c1] at hlo
   have hrow2 : ∀ {V : World}, Below W.heap.size W V → V.ownsRow (m + 6) 9 1 (.slice (some ⟨g, 0, none⟩) (partsT a0).length cap) (partsT a0).length ((partsT a0).map Value.string) := fun hb => ownsRow_same hrow fun j o _ e => (hb.block j (Array.getElem?_eq_some_iff.1 e).1).trans e
   by_cases c2 : dupS (partsT a0) = true
   ·rw [c2] at hRep
    have hl1 : listOf a0 = ([], some 7) := by rw [hlo, if_pos c2]
    gi_wp2_with (first | (refine ⟨trivial, ?_⟩; gi_at_call 92; refine (callsIn_wide.2 hC).mono ?_; rintro e w' ⟨rfl, rfl⟩) | (refine ⟨trivial, ?_⟩; gi_at_call 93; refine (callsIn_wide.2 hRep).mono ?_; rintro e w2 ⟨rfl, hb2⟩))
    have hK3 : w2.heap[m + 4]? = some (.deferred (some [])) := (hb2.block _ hDlt).trans hK2
    refine ⟨by simp, .inl ⟨_, _, rfl, run_takeDeferred hK3, ?_⟩⟩
    rw [hl1]
    exact ⟨_, results_tmp2 rfl _ _ _, _, rfl, Kd.R_nil _ _ _ _ _, below_putObj (below_trim hB hb2 (by omega)) (by omega) _⟩
   ·have c2' : dupS (partsT a0) = false := by simpa using c2
    rw [c2'] at hRep
    rw [if_neg c2] at hlo
    by_cases c3 : 4096 < (partsT a0).length
    ·have hl1 : listOf a0 = ([], some 2) := by rw [hlo, if_pos c3]
     have d3 : decide ((4096 : Int) < ((partsT a0).length : Int)) = true := decide_eq_true (by omega)
     have d4 : decide (4096 < (partsT a0).length) = true := decide_eq_true c3
     gi_wp2_with (first | (refine ⟨trivial, ?_⟩; gi_at_call 92; refine (callsIn_wide.2 hC).mono ?_; rintro e w' ⟨rfl, rfl⟩) | (refine ⟨trivial, ?_⟩; gi_at_call 93; refine (callsIn_wide.2 hRep).mono ?_; rintro e w2 ⟨rfl, hb2⟩; have hv2 : Boxed w2 m 47 (.slice (some ⟨g, 0, none⟩) (partsT a0).length cap) := (hb2.block _ hv.lt).trans hv; have hc2 := hv2.cell))
     have hK3 : w2.heap[m + 4]? = some (.deferred (some [])) := (hb2.block _ hDlt).trans hK2
     refine ⟨by simp, .inl ⟨_, _, rfl, run_takeDeferred hK3, ?_⟩⟩
     rw [hl1]
     exact ⟨_, results_tmp2 rfl _ _ _, _, rfl, Kd.R_nil _ _ _ _ _, below_putObj (below_trim hB hb2 (by omega)) (by omega) _⟩
    ·have hl1 : listOf a0 = (partsT a0, none) := by rw [hlo, if_neg c3]
     have d3 : decide ((4096 : Int) < ((partsT a0).length : Int)) = false := decide_eq_false (by omega)
     have d4 : decide (4096 < (partsT a0).length) = false := decide_eq_false c3
     gi_wp2_with (first | (refine ⟨trivial, ?_⟩; gi_at_call 92; refine (callsIn_wide.2 hC).mono ?_; rintro e w' ⟨rfl, rfl⟩) | (refine ⟨trivial, ?_⟩; gi_at_call 93; refine (callsIn_wide.2 hRep).mono ?_; rintro e w2 ⟨rfl, hb2⟩; have hv2 : Boxed w2 m 47 (.slice (some ⟨g, 0, none⟩) (partsT a0).length cap) := (hb2.block _ hv.lt).trans hv; have hc2 := hv2.cell))
     have hK3 : w2.heap[m + 4]? = some (.deferred (some [])) := (hb2.block _ hDlt).trans hK2
     refine ⟨by simp, .inl ⟨_, _, rfl, run_takeDeferred hK3, ?_⟩⟩
     rw [hl1]
     exact ⟨_, results_tmp2 rfl _ _ _, _, rfl, Kd.R_of_own (enc := Value.string) (own_lower (ownsRow_putObj (hrow2 hb2) _ hK3 rfl) (by omega)) (fun _ _ => trivial), below_putObj (below_trim hB hb2 (by omega)) (by omega) _⟩
theorem vLst.calls (a0 : ByteArray) (r1 : List ByteArray) (r2 : Option Int) (w : World) (h : vLst.f a0 = some (r1, r2)) :
  Calls Tryz.prog 66 #[.string a0] w fun e w' => ∃ v0_ : Value, e = .returned (.tuple #[v0_, errW r2]) ∧ Kd.R Kd.string 9 w' w.heap.size (fun _ => True) v0_ r1 ∧ Below w.heap.size w w' := by
 unfold vLst.f at h
 split at h
 case isFalse => cases h
 case isTrue hs =>
  have e := Option.some.inj h
  have e1 : r1 = (listOf a0).1 := by rw [e]
  have e2 : r2 = (listOf a0).2 := by rw [e]
  rw [e1, e2]
  by_cases he : (trimT a0).toList = ([] : List UInt8)
  ·refine (list_none a0 w hs he).mono ?_
   rintro e w' ⟨rfl, hb⟩
   have hlo : listOf a0 = ([], some 13) := by unfold listOf; rw [if_pos he]
   rw [hlo]
   exact ⟨_, rfl, Kd.R_nil _ _ _ _ _, hb⟩
  ·exact list_some a0 w hs he
end Go.Proofs.YtdakfmldbddokaaGreatDoor.P
