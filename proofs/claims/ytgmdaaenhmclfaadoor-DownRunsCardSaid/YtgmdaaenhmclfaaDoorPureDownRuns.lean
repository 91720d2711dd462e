/- The law of DownRuns, in plain lists: whatever is added, cancelled, started and passes, the program's list is the document's, and so are the depths. -/
import Derived.Test.YtgmdaaenhmclfaaDoorPx15
import Derived.Test.YtgmdaaenhmclfaaDoorDnRunsB
set_option linter.unusedVariables false
set_option linter.unusedSimpArgs false
namespace Go.Proofs.YtgmdaaenhmclfaaDoor.Dn
open Go.RowKit Go.Proofs.YtgmdaaenhmclfaaDoor.P Go.Proofs.YtgmdaaenhmclfaaDoorW.PrintWords Go.Proofs.YtgmdaaenhmclfaaDoorW.PrintLast Go.Proofs.YtgmdaaenhmclfaaDoorW.PrintMore
theorem num_n : w18_num.f none = some 0 := rfl
theorem num_s (c : Int) : w18_num.f (some c) = some c := rfl
theorem depth_ev {nx nx' : Int} {l : List S47} (h : Beg nx nx' l) (o t : Int) : Ev (fun k => dDp.f k nx l o t) (count o t l : Int) := ⟨l.length + 3, fun k hk => depth_beg h hk o t⟩
theorem same_loop {l : List S47} (hl : l.length ≤ 4096) (nx : Int) : ∀ r i : Nat, i + r = l.length → Ev (fun k => w18_sameDowns.l0 k (i : Int) nx l nx (cl l)) true := by
  intro r
  induction r with
  | zero =>
    intro i hi
    exact Ev.succ (g := fun _ => some true) (fun k => by rw [w18_sameDowns.l0, if_neg (by omega)]) (Ev.const _)
  | succ r ih =>
    intro i hi
    have hlt : i < l.length := by omega
    refine Ev.succ (g := fun k => w18_sameDowns.l0 k (((i + 1 : Nat)) : Int) nx l nx (cl l)) (fun k => ?_) (ih (i + 1) (by omega))
    rw [w18_sameDowns.l0, if_pos (by omega), if_pos (by omega), cl_len, if_pos (by omega), rdT hlt, rd30 hlt, if_neg (by simp [cv]), succ_w hlt hl]
theorem same_ev {l : List S47} (hl : l.length ≤ 4096) (nx : Int) : Ev (fun k => w18_sameDowns.f k nx l nx (cl l)) true := by
  obtain ⟨K, h⟩ := same_loop hl nx l.length 0 (by omega)
  refine ⟨K, fun k hk => ?_⟩
  show w18_sameDowns.f k nx l nx (cl l) = _
  unfold w18_sameDowns.f
  rw [if_pos rfl, cl_len, if_pos rfl]
  exact h k hk
theorem depths (x0 : List S32) (t i : Int) {nx nx' : Int} {l : List S47} (hb : Beg nx nx' l) (cont : Ev (fun k => wDR.l0 k x0 t (wrap64 (i + 1)) nx l nx (cl l)) true) : ∀ r j : Nat, j + r = 4 → Ev (fun k => wDR.l1 k x0 t i (j : Int) nx l nx (cl l)) true := by
  intro r
  induction r with
  | zero =>
    intro j hj
    exact Ev.succ (fun k => by rw [wDR.l1, if_neg (by omega)]) cont
  | succ r ih =>
    intro j hj
    obtain ⟨K1, h1⟩ := depth_ev hb (j : Int) t
    obtain ⟨K2, h2⟩ := rdepth hb (j : Int) t
    obtain ⟨K3, h3⟩ := ih (j + 1) (by omega)
    refine ⟨K1 + K2 + K3 + 1, fun k hk => ?_⟩
    obtain ⟨m, rfl⟩ : ∃ m, k = m + 1 := ⟨k - 1, by omega⟩
    have f1 : dDp.f m nx l (j : Int) t = _ := h1 m (by omega)
    have f2 : r18_Depth.f m nx (cl l) (j : Int) t = _ := h2 m (by omega)
    show wDR.l1 (m + 1) x0 t i (j : Int) nx l nx (cl l) = _
    rw [wDR.l1, if_pos (by omega), f1, Option.bind_some, f2, Option.bind_some, if_pos rfl, show wrap64 ((j : Int) + 1) = ((j + 1 : Nat) : Int) by rw [w64 (by omega) (by omega)]; omega]
    exact h3 m (by omega)
theorem after (x0 : List S32) (t i : Int) {nx nx' : Int} {l : List S47} (hb : Beg nx nx' l) (cont : Ev (fun k => wDR.l0 k x0 t (wrap64 (i + 1)) nx l nx (cl l)) true) : Ev (fun k => wDR.j2 k x0 t i nx l nx (cl l)) true := by
  obtain ⟨K1, h1⟩ := same_ev hb.ok.len nx
  obtain ⟨K2, h2⟩ := depths x0 t i hb cont 4 0 rfl
  refine ⟨K1 + K2 + 1, fun k hk => ?_⟩
  obtain ⟨m, rfl⟩ : ∃ m, k = m + 1 := ⟨k - 1, by omega⟩
  have f1 : w18_sameDowns.f m nx l nx (cl l) = _ := h1 m (by omega)
  show wDR.j2 (m + 1) x0 t i nx l nx (cl l) = _
  rw [wDR.j2, f1, Option.bind_some, if_pos rfl]
  exact h2 m (by omega)
theorem act1 {x0 : List S32} {i nx nx' t : Int} {l : List S47} (hb : Beg nx nx' l) (hx : nx' ≤ 61) (hl : l.length ≤ 60) (z : S30) (ht : 0 ≤ t ∧ t ≤ 1000)
    (go : ∀ (nx1 nx1' : Int) (l1 : List S47), Beg nx1 nx1' l1 → nx1' ≤ nx' + 1 → l1.length ≤ l.length + 1 → Ev (fun k => wDR.j2 k x0 t i nx1 l1 nx1 (cl l1)) true)
    (x42 : Int) (b : Bool) (y0 y9 : Int) : Ev (fun k => wDR.j1 k x0 t i x42 b nx l nx (cl l) y0 z.f0 z.f1 z.f2 z.f3 z.f4 z.f5 z.f6 z.f7 y9) true := by
  have ho := hb.ok
  have htt : 0 ≤ t ∧ t ≤ 4611686018427387904 := ⟨ht.1, by omega⟩
  by_cases hbt : b = true
  · obtain ⟨K2, h2⟩ := rprob hb z.f1 htt
    have hst := probZ_sts z.f1 htt ho.ok
    obtain ⟨K3, h3⟩ := go nx' nx' (probZ z.f1 t l) (.of (okL_sts htt ho hst)) (by omega) (by rw [sts_len hst]; omega)
    refine ⟨K2 + K3 + l.length + 4, fun k hk => ?_⟩
    obtain ⟨m, rfl⟩ : ∃ m, k = m + 1 := ⟨k - 1, by omega⟩
    have f2 : rPb.f m nx (cl l) z.f1 t = _ := h2 m (by omega)
    show wDR.j1 (m + 1) x0 t i x42 b nx l nx (cl l) y0 z.f0 z.f1 z.f2 z.f3 z.f4 z.f5 z.f6 z.f7 y9 = _
    rw [wDR.j1, if_pos hbt, problem_beg hb z.f1 htt (by omega), Option.bind_some, f2, Option.bind_some]
    exact h3 m (by omega)
  by_cases h6 : x42 = 6
  · obtain ⟨K2, h2⟩ := rpass hb htt
    have hpl : (passZ t l).length ≤ l.length := by
      have h1 := (passL_sub t (chainZ t l (passF t l (fun _ => 0))) (fun _ => 0)).length_le
      rw [sts_len (chain_sts t l _ ho.ok)] at h1
      exact h1
    obtain ⟨K3, h3⟩ := go nx' nx' (passZ t l) (.of (okL_sub (okL_sts htt ho (chain_sts t l _ ho.ok)) (passL_sub t _ _))) (by omega) (by omega)
    refine ⟨K2 + K3 + l.length + 4, fun k hk => ?_⟩
    obtain ⟨m, rfl⟩ : ∃ m, k = m + 1 := ⟨k - 1, by omega⟩
    have f2 : r18_Pass.f m nx (cl l) t = _ := h2 m (by omega)
    show wDR.j1 (m + 1) x0 t i x42 b nx l nx (cl l) y0 z.f0 z.f1 z.f2 z.f3 z.f4 z.f5 z.f6 z.f7 y9 = _
    rw [wDR.j1, if_neg hbt, if_pos h6, pass_beg hb htt (by omega), Option.bind_some, f2, Option.bind_some]
    exact h3 m (by omega)
  rcases add_both hb (by omega) (by omega) ⟨z.f0, z.f1, z.f2, z.f3, z.f4, z.f5, z.f6, z.f7⟩ with ⟨c, hc, ⟨K1, h1⟩, ⟨K2, h2⟩⟩ | ⟨hd, ⟨K1, h1⟩, ⟨K2, h2⟩⟩
  · obtain ⟨K3, h3⟩ := go nx nx' l hb (by omega) (by omega)
    refine ⟨K1 + K2 + K3 + 1, fun k hk => ?_⟩
    obtain ⟨m, rfl⟩ : ∃ m, k = m + 1 := ⟨k - 1, by omega⟩
    have f1 : down_Add.f m nx l z.f0 z.f1 z.f2 z.f3 z.f4 z.f5 z.f6 z.f7 = _ := h1 m (by omega)
    have f2 : r18_Add.f m nx (cl l) z.f0 z.f1 z.f2 z.f3 z.f4 z.f5 z.f6 z.f7 = _ := h2 m (by omega)
    show wDR.j1 (m + 1) x0 t i x42 b nx l nx (cl l) y0 z.f0 z.f1 z.f2 z.f3 z.f4 z.f5 z.f6 z.f7 y9 = _
    rw [wDR.j1, if_neg hbt, if_neg h6, f1, Option.bind_some, f2, Option.bind_some, num_s, Option.bind_some, if_pos rfl, if_pos rfl, if_neg hc]
    exact h3 m (by omega)
  · obtain ⟨K3, h3⟩ := go (nx' + 1) (nx' + 1) (l ++ [⟨nx', z.f1, z.f2, z.f3, z.f4, z.f5, z.f6, -1⟩]) (.of (okL_add ho (by omega) (by omega) hd rfl)) (by omega) (by simp)
    refine ⟨K1 + K2 + K3 + 1, fun k hk => ?_⟩
    obtain ⟨m, rfl⟩ : ∃ m, k = m + 1 := ⟨k - 1, by omega⟩
    have f1 : down_Add.f m nx l z.f0 z.f1 z.f2 z.f3 z.f4 z.f5 z.f6 z.f7 = _ := h1 m (by omega)
    have f2 : r18_Add.f m nx (cl l) z.f0 z.f1 z.f2 z.f3 z.f4 z.f5 z.f6 z.f7 = _ := h2 m (by omega)
    show wDR.j1 (m + 1) x0 t i x42 b nx l nx (cl l) y0 z.f0 z.f1 z.f2 z.f3 z.f4 z.f5 z.f6 z.f7 y9 = _
    rw [wDR.j1, if_neg hbt, if_neg h6, f1, Option.bind_some, f2, Option.bind_some, num_n, Option.bind_some, if_pos rfl, if_pos rfl, if_pos rfl]
    exact h3 m (by omega)
theorem act {x0 : List S32} {t0 i nx nx' t : Int} {l : List S47} (hb : Beg nx nx' l) (hx : nx' ≤ 61) (hl : l.length ≤ 60) (hi : 0 ≤ i) (hi1 : i < (x0.length : Int)) (hi2 : i < 60)
    (hw : -9223372036854775808 ≤ (rd_T32 x0 i).f1.f0 ∧ (rd_T32 x0 i).f1.f0 ≤ 9223372036854775807) (het : mx t0 (Int.tmod (rd_T32 x0 i).f2 1000) = t) (ht : 0 ≤ t ∧ t ≤ 1000)
    (cont : ∀ (nx1 nx1' : Int) (l1 : List S47), Beg nx1 nx1' l1 → nx1' ≤ nx' + 1 → l1.length ≤ l.length + 1 → Ev (fun k => wDR.l0 k x0 t (wrap64 (i + 1)) nx1 l1 nx1 (cl l1)) true) :
    Ev (fun k => wDR.l0 k x0 t0 i nx l nx (cl l)) true := by
  have ho := hb.ok
  have go : ∀ (nx1 nx1' : Int) (l1 : List S47), Beg nx1 nx1' l1 → nx1' ≤ nx' + 1 → l1.length ≤ l.length + 1 → Ev (fun k => wDR.j2 k x0 t i nx1 l1 nx1 (cl l1)) true := fun nx1 nx1' l1 h1 h2 h3 => after x0 t i h1 (cont nx1 nx1' l1 h1 h2 h3)
  by_cases h3 : wrap64 (Int.tmod (IntKind.u64.wrap (rd_T32 x0 i).f0) 7) = 3
  · rcases cancel_both hb hw.1 hw.2 with ⟨⟨K1, h1⟩, ⟨K2, h2⟩⟩ | ⟨j, hj, ⟨K1, h1⟩, ⟨K2, h2⟩⟩
    · obtain ⟨K3, h4⟩ := go nx nx' l hb (by omega) (by omega)
      refine ⟨K1 + K2 + K3 + 1, fun k hk => ?_⟩
      obtain ⟨m, rfl⟩ : ∃ m, k = m + 1 := ⟨k - 1, by omega⟩
      have f1 : down_Cancel.f m nx l (rd_T32 x0 i).f1.f0 = _ := h1 m (by omega)
      have f2 : r18_Cancel.f m nx (cl l) (rd_T32 x0 i).f1.f0 = _ := h2 m (by omega)
      show wDR.l0 (m + 1) x0 t0 i nx l nx (cl l) = _
      rw [wDR.l0, if_pos hi1, if_pos hi2, if_pos hi, if_pos h3, f1, Option.bind_some, f2, Option.bind_some, num_s, Option.bind_some, if_pos rfl, if_neg (show ¬ (8 : Int) = 0 by decide), het]
      exact h4 m (by omega)
    · obtain ⟨K3, h4⟩ := go nx' nx' (l.eraseIdx j) (.of (okL_sub ho (List.eraseIdx_sublist _ _))) (by omega) (by have := (List.eraseIdx_sublist l j).length_le; omega)
      refine ⟨K1 + K2 + K3 + 1, fun k hk => ?_⟩
      obtain ⟨m, rfl⟩ : ∃ m, k = m + 1 := ⟨k - 1, by omega⟩
      have f1 : down_Cancel.f m nx l (rd_T32 x0 i).f1.f0 = _ := h1 m (by omega)
      have f2 : r18_Cancel.f m nx (cl l) (rd_T32 x0 i).f1.f0 = _ := h2 m (by omega)
      show wDR.l0 (m + 1) x0 t0 i nx l nx (cl l) = _
      rw [wDR.l0, if_pos hi1, if_pos hi2, if_pos hi, if_pos h3, f1, Option.bind_some, f2, Option.bind_some, num_n, Option.bind_some, if_pos rfl, if_pos rfl, het]
      exact h4 m (by omega)
  have a1 := fun b => act1 hb hx hl (rd_T32 x0 i).f1 ht go (wrap64 (Int.tmod (IntKind.u64.wrap (rd_T32 x0 i).f0) 7)) b (rd_T32 x0 i).f0 (rd_T32 x0 i).f2
  obtain ⟨K1, h1⟩ := a1 (wrap64 (Int.tmod (IntKind.u64.wrap (rd_T32 x0 i).f0) 7) == 4)
  obtain ⟨K2, h2⟩ := a1 (wrap64 (Int.tmod (IntKind.u64.wrap (rd_T32 x0 i).f0) 7) == 5)
  refine ⟨K1 + K2 + 1, fun k hk => ?_⟩
  obtain ⟨m, rfl⟩ : ∃ m, k = m + 1 := ⟨k - 1, by omega⟩
  show wDR.l0 (m + 1) x0 t0 i nx l nx (cl l) = _
  rw [wDR.l0, if_pos hi1, if_pos hi2, if_pos hi, if_neg h3, het]
  split
  · exact h1 m (by omega)
  · exact h2 m (by omega)
theorem tmod_1000 (a : Int) : -1000 < Int.tmod a 1000 ∧ Int.tmod a 1000 < 1000 := by
  by_cases h : 0 ≤ a
  · rw [Int.tmod_eq_emod_of_nonneg h]; omega
  · obtain ⟨n, rfl⟩ : ∃ n : Nat, a = -(n : Int) := ⟨a.natAbs, by omega⟩
    rw [Int.neg_tmod, Int.tmod_eq_emod_of_nonneg (Int.natCast_nonneg n)]
    omega
theorem wf_bounds {n : Int} (h : (Lit.int .i64 n).wf = true) : -9223372036854775808 ≤ n ∧ n ≤ 9223372036854775807 := by
  simp only [Lit.wf, IntKind.min, IntKind.max, IntKind.signed, IntKind.bits, Bool.and_eq_true, decide_eq_true_eq, if_true] at h
  omega
theorem runs_loop (x0 : List S32) (hwf : ∀ x ∈ x0, (Lit.int .i64 x.f1.f0).wf = true) : ∀ (r i : Nat), i + r = min x0.length 60 → ∀ (t nx nx' : Int) (l : List S47), Beg nx nx' l → nx' ≤ (i : Int) + 1 → l.length ≤ i → 0 ≤ t ∧ t ≤ 1000 →
    Ev (fun k => wDR.l0 k x0 t (i : Int) nx l nx (cl l)) true := by
  intro r
  induction r with
  | zero =>
    intro i h t nx nx' l hb hx hl ht
    refine ⟨20, fun k hk => ?_⟩
    obtain ⟨m, rfl⟩ : ∃ m, k = m + 1 := ⟨k - 1, by omega⟩
    show wDR.l0 (m + 1) x0 t (i : Int) nx l nx (cl l) = _
    rw [wDR.l0]
    by_cases h1 : (i : Int) < (x0.length : Int)
    · rw [if_pos h1, if_neg (by omega), sure_ok (by omega)]; rfl
    · rw [if_neg h1, sure_ok (by omega)]; rfl
  | succ r ih =>
    intro i h t nx nx' l hb hx hl ht
    have hm := tmod_1000 (rd_T32 x0 (i : Int)).f2
    have ht' : 0 ≤ mx t (Int.tmod (rd_T32 x0 (i : Int)).f2 1000) ∧ mx t (Int.tmod (rd_T32 x0 (i : Int)).f2 1000) ≤ 1000 := by unfold mx; split <;> omega
    have hmem : rd_T32 x0 (i : Int) ∈ x0 := by
      have hlt : i < x0.length := by omega
      rw [show rd_T32 x0 (i : Int) = x0[i] by simp [rd_T32, hlt]]
      exact List.getElem_mem hlt
    refine act hb (by omega) (by omega) (by omega) (by omega) (by omega) (wf_bounds (hwf _ hmem)) rfl ht' (fun nx1 nx1' l1 hb1 hx1 hl1 => ?_)
    have e := ih (i + 1) (by omega) (mx t (Int.tmod (rd_T32 x0 (i : Int)).f2 1000)) nx1 nx1' l1 hb1 (by omega) (by omega) ht'
    rw [show wrap64 ((i : Int) + 1) = ((i + 1 : Nat) : Int) by rw [w64 (by omega) (by omega)]; omega]
    exact e
theorem runs_ok : wDR.Pure := by
  intro l0 h
  obtain ⟨K, hK⟩ := runs_loop l0 (fun x hx => (h.2 x hx).2.1.1) (min l0.length 60) 0 (by omega) 0 0 1 [] Beg.zero (by decide) (Nat.le_refl _) ⟨by decide, by decide⟩
  exact ⟨K, hK K (Nat.le_refl _)⟩
end Go.Proofs.YtgmdaaenhmclfaaDoor.Dn
namespace Go.Proofs.YtgmdaaenhmclfaaDoor.Pure
open Go.RowKit Go.Proofs.YtgmdaaenhmclfaaDoor.P
theorem DownRuns : wDR.Pure := Dn.runs_ok
end Go.Proofs.YtgmdaaenhmclfaaDoor.Pure
