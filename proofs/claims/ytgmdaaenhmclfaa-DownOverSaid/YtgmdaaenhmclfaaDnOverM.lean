/- The mathematics of DownOver. -/
import Derived.Test.YtgmdaaenhmclfaaPx8
import Derived.Test.YtgmdaaenhmclfaaDnB
set_option linter.unusedVariables false
set_option linter.unusedSimpArgs false
namespace Go.Proofs.Ytgmdaaenhmclfaa.Dn
open Go.RowKit Go.Proofs.Ytgmdaaenhmclfaa.P Go.Proofs.YtgmdaaenhmclfaaW.PrintWords Go.Proofs.YtgmdaaenhmclfaaW.PrintLast
/-! Passing twice at one time. -/
theorem passL_idem (t : Int) : ∀ (l : List S31) (f : Int → Int), passL t (passL t l f) f = passL t l f
  | [], _ => rfl
  | d :: r, f => by
    by_cases h : overZ t f d = true
    · have e : passL t (d :: r) f = passL t r f := by rw [passL, if_pos h]
      rw [e]
      exact passL_idem t r f
    · have e : passL t (d :: r) f = d :: passL t r (setOne f d.f0) := by rw [passL, if_neg h]
      rw [e, passL, if_neg h, passL_idem t r]
theorem passF_spec (t : Int) (x : Int) : ∀ (l : List S31) (f : Int → Int), passF t l f x ≠ 0 ↔ f x ≠ 0 ∨ ∃ e ∈ l, e.f4 = true ∧ e.f2 ≤ t ∧ e.f0 = x
  | [], f => by simp [passF]
  | d :: r, f => by
    unfold passF
    by_cases h : d.f4 = true ∧ d.f2 ≤ t
    · rw [if_pos h, passF_spec t x r]
      unfold setOne
      by_cases hx : x = d.f0
      · rw [if_pos hx]
        exact ⟨fun _ => .inr ⟨d, .head _, h.1, h.2, hx.symm⟩, fun _ => .inl (by decide)⟩
      · rw [if_neg hx]
        constructor
        · rintro (h1 | ⟨e, he, h1⟩)
          · exact .inl h1
          · exact .inr ⟨e, .tail _ he, h1⟩
        · rintro (h1 | ⟨e, he, h1⟩)
          · exact .inl h1
          · rcases List.mem_cons.mp he with rfl | he
            · exact absurd h1.2.2.symm hx
            · exact .inr ⟨e, he, h1⟩
    · rw [if_neg h, passF_spec t x r]
      constructor
      · rintro (h1 | ⟨e, he, h1⟩)
        · exact .inl h1
        · exact .inr ⟨e, .tail _ he, h1⟩
      · rintro (h1 | ⟨e, he, h1⟩)
        · exact .inl h1
        · rcases List.mem_cons.mp he with rfl | he
          · exact absurd ⟨h1.1, h1.2.1⟩ h
          · exact .inr ⟨e, he, h1⟩
theorem chain_left {t : Int} (ht : 0 ≤ t) : ∀ (l : List S31) (f : Int → Int), ∀ d ∈ chainZ t l f, d.f6 ≠ 0 → d.f7 = -1 → f d.f6 = 0
  | [], _, d, hd, _, _ => by cases hd
  | e :: r, f, d, hd, h6, h7 => by
    unfold chainZ at hd
    by_cases g6 : e.f6 = 0
    · rw [if_pos g6] at hd
      rcases List.mem_cons.mp hd with rfl | hd
      · exact absurd g6 h6
      · exact chain_left ht r f d hd h6 h7
    rw [if_neg g6] at hd
    by_cases g7 : e.f7 = -1
    rotate_left 1
    · rw [if_neg g7] at hd
      rcases List.mem_cons.mp hd with rfl | hd
      · exact absurd h7 g7
      · exact chain_left ht r f d hd h6 h7
    rw [if_pos g7] at hd
    by_cases gf : f e.f6 = 0
    · rw [if_pos gf] at hd
      rcases List.mem_cons.mp hd with rfl | hd
      · exact gf
      · exact chain_left ht r f d hd h6 h7
    · rw [if_neg gf] at hd
      rcases List.mem_cons.mp hd with rfl | hd
      · have h7' : t = -1 := h7
        omega
      · have h := chain_left ht r _ d hd h6 h7
        unfold setOne at h
        by_cases hx : d.f6 = e.f0
        · rw [if_pos hx] at h; cases h
        · rw [if_neg hx] at h; exact h
theorem chain_noop (t : Int) : ∀ (l : List S31) (f : Int → Int), (∀ d ∈ l, d.f6 ≠ 0 → d.f7 = -1 → f d.f6 = 0) → chainZ t l f = l
  | [], _, _ => rfl
  | e :: r, f, h => by
    have hr := chain_noop t r f (fun d hd => h d (.tail _ hd))
    unfold chainZ
    by_cases g6 : e.f6 = 0
    · rw [if_pos g6, hr]
    rw [if_neg g6]
    by_cases g7 : e.f7 = -1
    · rw [if_pos g7, if_pos (h e (.head _) g6 g7), hr]
    · rw [if_neg g7, hr]
theorem pass_twice {nx t : Int} (ht : 0 ≤ t) {l : List S31} (h : OkL nx l) : passZ t (passZ t l) = passZ t l := by
  have hs := chain_sts t l (passF t l (fun _ => 0)) h.ok
  have e : chainZ t (passZ t l) (passF t (passZ t l) (fun _ => 0)) = passZ t l := by
    refine chain_noop t _ _ (fun d hd h6 h7 => ?_)
    have hm : d ∈ chainZ t l (passF t l (fun _ => 0)) := (passL_sub t _ _).subset hd
    have hF := chain_left ht l _ d hm h6 h7
    by_cases hz : passF t (passZ t l) (fun _ => 0) d.f6 = 0
    · exact hz
    exfalso
    rcases (passF_spec t d.f6 (passZ t l) (fun _ => 0)).mp hz with h1 | ⟨x, hx, h4, h2, h0⟩
    · exact h1 rfl
    · have hxm : x ∈ chainZ t l (passF t l (fun _ => 0)) := (passL_sub t _ _).subset hx
      obtain ⟨y, hy, hst⟩ := sts_mem hs x hxm
      rcases hst with rfl | ⟨g4, _, rfl⟩
      · exact (passF_spec t d.f6 l (fun _ => 0)).mpr (.inr ⟨x, hy, h4, h2, h0⟩) hF
      · have g : y.f4 = true := h4
        rw [g4] at g
        cases g
  show passL t (chainZ t (passZ t l) (passF t (passZ t l) (fun _ => 0))) (fun _ => 0) = passZ t l
  rw [e]
  exact passL_idem t _ _
theorem pass_ok {nx t : Int} (ht : 0 ≤ t ∧ t ≤ 4611686018427387904) {l : List S31} (h : OkL nx l) : OkL nx (passZ t l) :=
  okL_sub (okL_sts ht h (chain_sts t l _ h.ok)) (passL_sub t _ _)
theorem pass_mem {nx t : Int} {l : List S31} (h : OkL nx l) : ∀ d' ∈ passZ t l, ∃ d ∈ l, St t d d' := fun d' hd => sts_mem (chain_sts t l _ h.ok) d' ((passL_sub t _ _).subset hd)
theorem pass_len {nx t : Int} {l : List S31} (h : OkL nx l) : (passZ t l).length ≤ l.length := by
  have h1 := (passL_sub t (chainZ t l (passF t l (fun _ => 0))) (fun _ => 0)).length_le
  rw [sts_len (chain_sts t l _ h.ok)] at h1
  exact h1
theorem pass_more {nx t : Int} {l : List S31} (h : OkL nx l) (o : Int) : count o t l ≤ count o t (passZ t l) := by
  unfold passZ
  rw [count_pass]
  exact count_sts o t (chain_sts t l _ h.ok)
/-! What was written down of the starts. -/
theorem rd_set (s : List Int) (n : Nat) (hn : n < s.length) (v : Int) (j : Nat) : rd (s.set n v) (j : Int) = if j = n then v else rd s (j : Int) := by
  unfold rd
  by_cases h : j = n
  · subst h; simp [hn]
  · rw [if_neg h]
    simp [List.getElem?_set, Ne.symm h]
structure Fits (s : List Int) (nx : Int) (l : List S31) : Prop where
  len : s.length = 70
  at_ : ∀ d ∈ l, rd s d.f0 = d.f7
  new : ∀ j : Nat, nx ≤ (j : Int) → j < 70 → rd s (j : Int) = -1
structure May (s : List Int) (nx : Int) (l : List S31) : Prop where
  len : s.length = 70
  at_ : ∀ d ∈ l, rd s d.f0 = -1 ∨ rd s d.f0 = d.f7
  new : ∀ j : Nat, nx ≤ (j : Int) → j < 70 → rd s (j : Int) = -1
theorem loop4 (x0 : List S40) (t i nx nx' : Int) {l : List S31} (ho : OkL nx' l) (hx : nx' ≤ 62) (hi : 0 ≤ i ∧ i ≤ 100) (kk : Nat) (hcont : ∀ s', Fits s' nx' l → lawDO.l1 kk x0 s' t (i + 1) nx l = some true) :
    ∀ (r a : Nat) (s : List Int), a + r = l.length → May s nx' l → (∀ (j : Nat) (hj : j < l.length), j < a → rd s l[j].f0 = l[j].f7) → lawDO.l4 (kk + r + 1) x0 s t i (a : Int) nx l = some true := by
  have hlen := ho.len
  intro r
  induction r with
  | zero =>
    intro a s h hm hd
    rw [lawDO.l4, if_neg (by omega), w64 (by omega) (by omega)]
    refine hcont s ⟨hm.len, fun d hmem => ?_, hm.new⟩
    obtain ⟨j, hj, rfl⟩ := List.mem_iff_getElem.mp hmem
    exact hd j hj (by omega)
  | succ r ih =>
    intro a s h hm hd
    have hlt : a < l.length := by omega
    have hb := ho.bd _ (List.getElem_mem hlt)
    have hml := hm.len
    obtain ⟨n, hn⟩ := Int.eq_ofNat_of_zero_le (show 0 ≤ l[a].f0 by omega)
    have hn' : l[a].f0 = (n : Int) := hn
    have hn70 : n < 70 := by omega
    have e1 : wrap64 ((a : Int) + 1) = ((a + 1 : Nat) : Int) := by rw [w64 (by omega) (by omega)]; omega
    have nxt : lawDO.l4 (kk + r + 1) x0 (s.set n l[a].f7) t i ((a + 1 : Nat) : Int) nx l = some true := by
      refine ih (a + 1) _ (by omega) ⟨by rw [List.length_set]; exact hml, fun d hmem => ?_, fun j hj hj2 => ?_⟩ (fun j hj hja => ?_)
      · have hbd := ho.bd d hmem
        obtain ⟨q, hq⟩ := Int.eq_ofNat_of_zero_le (show 0 ≤ d.f0 by omega)
        have hq' : d.f0 = (q : Int) := hq
        have hat := hm.at_ d hmem
        rw [hq'] at hat ⊢
        rw [rd_set s n (by omega)]
        by_cases hqn : q = n
        · rw [if_pos hqn]
          obtain ⟨j, hj, rfl⟩ := List.mem_iff_getElem.mp hmem
          have : j = a := by
            rcases Nat.lt_trichotomy j a with h1 | h1 | h1
            · have := pw_lt ho.pw h1 hlt; omega
            · exact h1
            · have := pw_lt ho.pw h1 hj; omega
          subst this
          exact .inr rfl
        · rw [if_neg hqn]; exact hat
      · rw [rd_set s n (by omega), if_neg (by omega)]
        exact hm.new j hj hj2
      · have hbd := ho.bd _ (List.getElem_mem hj)
        obtain ⟨q, hq⟩ := Int.eq_ofNat_of_zero_le (show 0 ≤ l[j].f0 by omega)
        have hq' : l[j].f0 = (q : Int) := hq
        rw [hq', rd_set s n (by omega)]
        by_cases hqn : q = n
        · rw [if_pos hqn]
          have : j = a := by
            rcases Nat.lt_trichotomy j a with h1 | h1 | h1
            · have := pw_lt ho.pw h1 hlt; omega
            · exact h1
            · have := pw_lt ho.pw h1 hj; omega
          subst this
          rfl
        · rw [if_neg hqn]
          have := hd j hj (by
            rcases Nat.lt_or_ge j a with h1 | h1
            · exact h1
            · exfalso
              have : j = a := by omega
              subst this
              omega)
          rw [hq'] at this
          exact this
    rw [show kk + (r + 1) + 1 = (kk + r + 1) + 1 by omega, lawDO.l4, if_pos (by omega), if_pos (by omega), rdT hlt, if_neg (by omega), if_neg (by omega), if_pos (by omega), if_pos (by omega), e1]
    have et : (l[a].f0 : Int).toNat = n := by omega
    rw [et]
    by_cases hc : rd s l[a].f0 ≥ 0
    · rw [if_pos hc, if_pos (by
        rcases hm.at_ _ (List.getElem_mem hlt) with h1 | h1
        · omega
        · exact h1.symm)]
      exact nxt
    · rw [if_neg hc]
      exact nxt
theorem after (x0 : List S40) (t i nx nx' : Int) {l : List S31} (hb : Beg nx nx' l) (hx : nx' ≤ 62) (hi : 0 ≤ i ∧ i ≤ 100) (kk : Nat) (hkk : 10 ≤ kk) (hcont : ∀ s', Fits s' nx' l → lawDO.l1 kk x0 s' t (i + 1) nx l = some true) (s : List Int) (hs : May s nx' l) :
    lawDO.j5 (kk + l.length + 2) x0 s t i nx l = some true := by
  rw [show kk + l.length + 2 = (kk + l.length + 1) + 1 by omega, lawDO.j5]
  unfold down_Check.f
  rw [begun_beg hb (by omega), Option.bind_some, Option.bind_some, if_pos (show (none : Option Int).isNone = true from rfl)]
  have h := loop4 x0 t i nx nx' hb.ok hx hi kk hcont l.length 0 s (by omega) hs (fun j hj h => absurd h (Nat.not_lt_zero _))
  exact h
theorem tmod_1000 (a : Int) : -1000 < Int.tmod a 1000 ∧ Int.tmod a 1000 < 1000 := by
  by_cases h : 0 ≤ a
  · rw [Int.tmod_eq_emod_of_nonneg h]; omega
  · obtain ⟨n, rfl⟩ : ∃ n : Nat, a = -(n : Int) := ⟨a.natAbs, by omega⟩
    rw [Int.neg_tmod, Int.tmod_eq_emod_of_nonneg (Int.natCast_nonneg n)]
    omega
theorem w01 : wrap64 ((0 : Int) + 1) = 1 := by unfold wrap64; decide
theorem w12 : wrap64 ((1 : Int) + 1) = 2 := by unfold wrap64; decide
theorem w23 : wrap64 ((2 : Int) + 1) = 3 := by unfold wrap64; decide
theorem w34 : wrap64 ((3 : Int) + 1) = 4 := by unfold wrap64; decide
/-- The act that lets time pass. -/
theorem passes (x0 : List S40) (t i nx nx' : Int) {l : List S31} (hb : Beg nx nx' l) (ht : 0 ≤ t ∧ t ≤ 1000) (kk : Nat) (hkk : l.length + 10 ≤ kk) (s : List Int) (hcont : lawDO.j5 kk x0 s t i nx' (passZ t l) = some true) :
    lawDO.l2 (kk + 10) x0 s t i 0 nx l 0 0 0 0 = some true := by
  have ho := hb.ok
  have htt : 0 ≤ t ∧ t ≤ 4611686018427387904 := ⟨ht.1, by omega⟩
  have hl := pass_len (t := t) ho
  have hp := pass_ok htt ho
  have hbp := Beg.of hp
  have c0 := pass_more (t := t) ho 0
  have c1 := pass_more (t := t) ho 1
  have c2 := pass_more (t := t) ho 2
  have c3 := pass_more (t := t) ho 3
  rw [lawDO.l2, if_pos (by decide), depth_beg hb (by omega), Option.bind_some, if_pos rfl, w01]
  rw [lawDO.l2, if_pos (by decide), depth_beg hb (by omega), Option.bind_some, if_neg (by decide), if_pos rfl, w12]
  rw [lawDO.l2, if_pos (by decide), depth_beg hb (by omega), Option.bind_some, if_neg (by decide), if_neg (by decide), if_pos rfl, w23]
  rw [lawDO.l2, if_pos (by decide), depth_beg hb (by omega), Option.bind_some, if_neg (by decide), if_neg (by decide), if_neg (by decide), if_pos rfl, w34]
  rw [lawDO.l2, if_neg (by decide), pass_beg hb htt (by omega), Option.bind_some]
  rw [lawDO.l3, if_pos (by decide), depth_beg hbp (by omega), Option.bind_some, if_pos rfl, if_neg (by omega), w01]
  rw [lawDO.l3, if_pos (by decide), depth_beg hbp (by omega), Option.bind_some, if_neg (by decide), if_pos rfl, if_neg (by omega), w12]
  rw [lawDO.l3, if_pos (by decide), depth_beg hbp (by omega), Option.bind_some, if_neg (by decide), if_neg (by decide), if_pos rfl, if_neg (by omega), w23]
  rw [lawDO.l3, if_pos (by decide), depth_beg hbp (by omega), Option.bind_some, if_neg (by decide), if_neg (by decide), if_neg (by decide), if_pos rfl, if_neg (by omega), w34]
  rw [lawDO.l3, if_neg (by decide), pass_beg hbp htt (by omega), Option.bind_some]
  show (if ((passZ t (passZ t l)).length : Int) = ((passZ t l).length : Int) then _ else _) = _
  rw [pass_twice ht.1 ho, if_pos rfl]
  exact hcont
theorem act (x0 : List S40) (t i nx nx' : Int) {l : List S31} (hb : Beg nx nx' l) (hx : nx' ≤ 61) (hl : l.length ≤ 60) (ht : 0 ≤ t ∧ t ≤ 1000) (hi : 0 ≤ i ∧ i ≤ 100) (kk : Nat) (hkk : 100 ≤ kk) (s : List Int) (hs : Fits s nx' l)
    (hcont : ∀ (K nx1 nx1' : Int) (l1 : List S31) (s' : List Int), True → ∀ m, kk ≤ m → Beg nx1 nx1' l1 → nx1' ≤ nx' + 1 → l1.length ≤ l.length + 1 → Fits s' nx1' l1 → lawDO.l1 m x0 s' t (i + 1) nx1 l1 = some true)
    (x48 : Int) (b : Bool) (z : S38) (y1 y2 : Int) : lawDO.j2 (kk + 80) x0 s t i x48 b nx l y1 z.f0 z.f1 z.f2 z.f3 z.f4 z.f5 z.f6 z.f7 y2 = some true := by
  have ho := hb.ok
  have htt : 0 ≤ t ∧ t ≤ 4611686018427387904 := ⟨ht.1, by omega⟩
  have hold : May s nx' l := ⟨hs.len, fun d hd => .inr (hs.at_ d hd), hs.new⟩
  have viaSt : ∀ l1 : List S31, (∀ d' ∈ l1, ∃ d ∈ l, St t d d') → May s nx' l1 := fun l1 hm => ⟨hs.len, fun d' hd' => by
    obtain ⟨d, hd, hst⟩ := hm d' hd'
    have := hs.at_ d hd
    rw [st_id hst, this]
    rcases hst with rfl | ⟨_, h7, _⟩
    · exact .inr rfl
    · exact .inl h7, hs.new⟩
  have go : ∀ (m : Nat) (nx1 nx1' : Int) (l1 : List S31), Beg nx1 nx1' l1 → nx1' ≤ nx' + 1 → l1.length ≤ l.length + 1 → May s nx1' l1 → kk + l1.length + 2 ≤ m → lawDO.j5 m x0 s t i nx1 l1 = some true := by
    intro m nx1 nx1' l1 hb1 hx1 hl1 hm1 hk
    have h := after x0 t i nx1 nx1' hb1 (by omega) hi (m - l1.length - 2) (by omega) (fun s' hf => hcont 0 nx1 nx1' l1 s' trivial _ (by omega) hb1 hx1 hl1 hf) s hm1
    rw [show m - l1.length - 2 + l1.length + 2 = m by omega] at h
    exact h
  rw [show kk + 80 = (kk + 79) + 1 by omega, lawDO.j2]
  by_cases hbt : b = true
  · rw [if_pos hbt, problem_beg hb z.f1 htt (by omega), Option.bind_some]
    have hst := probZ_sts z.f1 htt ho.ok
    exact go _ nx' nx' _ (.of (okL_sts htt ho hst)) (by omega) (by rw [sts_len hst]; omega) (viaSt _ (sts_mem hst)) (by rw [sts_len hst]; omega)
  rw [if_neg hbt]
  by_cases h6 : x48 = 6
  · rw [if_pos h6, show kk + 79 = (kk + 69) + 10 by omega]
    refine passes x0 t i nx nx' hb ht (kk + 69) (by omega) s ?_
    have hpl := pass_len (t := t) ho
    exact go _ nx' nx' _ (.of (pass_ok htt ho)) (by omega) (by omega) (viaSt _ (pass_mem ho)) (by omega)
  rw [if_neg h6]
  rcases add_beg hb (by omega) (by omega) ⟨z.f0, z.f1, z.f2, z.f3, z.f4, z.f5, z.f6, z.f7⟩ (k := kk + 79) (by omega) with ⟨a, b', c, e, he⟩ | ⟨hd, he⟩
  · simp only at he
    rw [he, Option.bind_some]
    show (if (some e).isNone = true then _ else _) = _
    rw [if_neg (show ¬ (some e).isNone = true from Bool.false_ne_true)]
    exact go _ nx nx' _ hb (by omega) (by omega) hold (by omega)
  · simp only at he
    rw [he, Option.bind_some, if_pos (show (none : Option Int).isNone = true from rfl)]
    have hok := okL_add ho (by omega) (by omega) hd rfl
    refine go _ (nx' + 1) (nx' + 1) _ (.of hok) (by omega) (by simp) ⟨hs.len, fun d hm => ?_, fun j hj hj2 => hs.new j (by omega) hj2⟩ (by simp; omega)
    rcases List.mem_append.mp hm with hm | hm
    · exact .inr (hs.at_ d hm)
    · obtain rfl : d = _ := List.mem_singleton.mp hm
      have h1 := ho.n1
      obtain ⟨q, hq⟩ := Int.eq_ofNat_of_zero_le (show 0 ≤ nx' by omega)
      have hq' : nx' = (q : Int) := hq
      refine .inl ?_
      show rd s nx' = -1
      rw [hq']
      exact hs.new q (by omega) (by omega)
theorem loop1o (x0 : List S40) : ∀ (r i : Nat), i + r = min x0.length 60 → ∀ (K : Nat) (t nx nx' : Int) (l : List S31) (s : List Int), Beg nx nx' l → nx' ≤ (i : Int) + 1 → l.length ≤ i → 0 ≤ t ∧ t ≤ 1000 → Fits s nx' l →
    lawDO.l1 (K + 81 * r + 200) x0 s t (i : Int) nx l = some true := by
  intro r
  induction r with
  | zero =>
    intro i h K t nx nx' l s hb hx hl ht hs
    rw [show K + 81 * 0 + 200 = (K + 199) + 1 by omega, lawDO.l1]
    by_cases h1 : (i : Int) < (x0.length : Int)
    · rw [if_pos h1, if_neg (by omega), sure_ok (by omega)]; rfl
    · rw [if_neg h1, sure_ok (by omega)]; rfl
  | succ r ih =>
    intro i h K t nx nx' l s hb hx hl ht hs
    have hm := tmod_1000 (rd_T40 x0 (i : Int)).f2
    have ht' : 0 ≤ mx t (Int.tmod (rd_T40 x0 (i : Int)).f2 1000) ∧ mx t (Int.tmod (rd_T40 x0 (i : Int)).f2 1000) ≤ 1000 := by unfold mx; split <;> omega
    rw [show K + 81 * (r + 1) + 200 = (K + 81 * r + 200 + 80) + 1 by omega, lawDO.l1, if_pos (by omega), if_pos (by omega), if_pos (by omega)]
    have go := fun (b : Bool) => act x0 (mx t (Int.tmod (rd_T40 x0 (i : Int)).f2 1000)) (i : Int) nx nx' hb (by omega) (by omega) ht' ⟨by omega, by omega⟩ (K + 81 * r + 200) (by omega) s hs (fun _ nx1 nx1' l1 s' _ m hmk hb1 hx1 hl1 hf => by
      have h2 := ih (i + 1) (by omega) (m - 81 * r - 200) (mx t (Int.tmod (rd_T40 x0 (i : Int)).f2 1000)) nx1 nx1' l1 s' hb1 (by omega) (by omega) ht' hf
      rw [show m - 81 * r - 200 + 81 * r + 200 = m by omega, show ((i + 1 : Nat) : Int) = (i : Int) + 1 by omega] at h2
      exact h2) (wrap64 (Int.tmod (IntKind.u64.wrap ((rd_T40 x0 (i : Int)).f0)) 7)) b (rd_T40 x0 (i : Int)).f1 (rd_T40 x0 (i : Int)).f0 (rd_T40 x0 (i : Int)).f2
    split
    · exact go _
    · exact go _
theorem loop0o (x0 : List S40) : ∀ (r i : Nat) (s : List Int), i + r = 70 → s = List.replicate i (-1) → lawDO.l0 (81 * 60 + 200 + r + 1) x0 s (i : Int) 0 = some true := by
  intro r
  induction r with
  | zero =>
    intro i s h hs
    rw [lawDO.l0, if_neg (by omega)]
    have h2 := loop1o x0 (min x0.length 60) 0 (by omega) (81 * 60 - 81 * min x0.length 60) 0 0 1 [] s Beg.zero (by decide) (Nat.le_refl _) ⟨by decide, by decide⟩ ⟨by rw [hs]; simp; omega, fun d hd => (by cases hd), fun j hj hj2 => by
      rw [hs]; unfold rd; simp [List.getElem?_replicate]; rw [if_pos (by omega)]; rfl⟩
    rw [show 81 * 60 - 81 * min x0.length 60 + 81 * min x0.length 60 + 200 = 81 * 60 + 200 + 0 by omega] at h2
    exact h2
  | succ r ih =>
    intro i s h hs
    have e1 : wrap64 ((i : Int) + 1) = ((i + 1 : Nat) : Int) := by rw [w64 (by omega) (by omega)]; omega
    rw [show 81 * 60 + 200 + (r + 1) + 1 = (81 * 60 + 200 + r + 1) + 1 by omega, lawDO.l0, if_pos (by omega), if_pos (by rw [hs, List.length_replicate]; omega), e1]
    exact ih (i + 1) _ (by omega) (by rw [hs, List.replicate_succ'])
theorem over_ok : lawDO.Pure := by
  intro l0 _
  exact ⟨81 * 60 + 200 + 70 + 1, loop0o l0 70 0 [] (by omega) rfl⟩
end Go.Proofs.Ytgmdaaenhmclfaa.Dn
