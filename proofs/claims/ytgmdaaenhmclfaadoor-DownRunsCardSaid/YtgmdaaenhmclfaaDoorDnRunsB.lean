/- The mathematics of DownRuns, second part: Problem, Pass, Depth, Add, Cancel, and the law. -/
import Derived.Test.YtgmdaaenhmclfaaDoorPx13
import Derived.Test.YtgmdaaenhmclfaaDoorPx11
import Derived.Test.YtgmdaaenhmclfaaDoorDnRuns
import Derived.Test.YtgmdaaenhmclfaaDoorPx7
set_option linter.unusedVariables false
set_option linter.unusedSimpArgs false
namespace Go.Proofs.YtgmdaaenhmclfaaDoor.Dn
open Go.RowKit Go.Proofs.YtgmdaaenhmclfaaDoor.P Go.Proofs.YtgmdaaenhmclfaaDoorW.PrintWords Go.Proofs.YtgmdaaenhmclfaaDoorW.PrintLast
theorem Ev.bind {α β : Type} {f : Nat → Option α} {g : Nat → α → Option β} {a : α} {b : β} (h1 : Ev f a) (h2 : Ev (fun k => g k a) b) : Ev (fun k => (f k).bind (g k)) b := by
  obtain ⟨K1, h1⟩ := h1
  obtain ⟨K2, h2⟩ := h2
  refine ⟨K1 + K2, fun k hk => ?_⟩
  show (f k).bind (g k) = _
  rw [h1 k (by omega), Option.bind_some]
  exact h2 k (by omega)
theorem Ev.const {α : Type} (a : α) : Ev (fun _ => some a) a := ⟨0, fun _ _ => rfl⟩
theorem Ev.of {α : Type} {f : Nat → Option α} {r : α} (hm : ∀ k, LeO (f k) (f (k + 1))) {K : Nat} (h : f K = some r) : Ev f r := ⟨K, fun k hk => up hm h hk⟩
theorem Ev.succ {α : Type} {f g : Nat → Option α} {r : α} (e : ∀ k, f (k + 1) = g k) (h : Ev g r) : Ev f r := by
  obtain ⟨K, h⟩ := h
  refine ⟨K + 1, fun k hk => ?_⟩
  obtain ⟨m, rfl⟩ : ∃ m, k = m + 1 := ⟨k - 1, by omega⟩
  rw [e]; exact h m (by omega)
theorem Ev.ite_pos {α : Type} {c : Prop} [Decidable c] {f g : Nat → Option α} {r : α} (hc : c) (h : Ev f r) : Ev (fun k => if c then f k else g k) r := by
  obtain ⟨K, h⟩ := h
  exact ⟨K, fun k hk => by show (if c then f k else g k) = _; rw [if_pos hc]; exact h k hk⟩
theorem Ev.ite_neg {α : Type} {c : Prop} [Decidable c] {f g : Nat → Option α} {r : α} (hc : ¬ c) (h : Ev g r) : Ev (fun k => if c then f k else g k) r := by
  obtain ⟨K, h⟩ := h
  exact ⟨K, fun k hk => by show (if c then f k else g k) = _; rw [if_neg hc]; exact h k hk⟩
theorem kind_ev {d : S47} (h : OkD d) : Ev (fun k => r18_Kind.f k (cv d).f0 (cv d).f1 (cv d).f2 (cv d).f3 (cv d).f4 (cv d).f5 (cv d).f6 (cv d).f7) (kd d) :=
  ⟨2, fun k hk => by rw [show k = (k - 2) + 2 by omega]; exact kind_ok h _⟩
theorem mem_mid {a r : List S47} {d : S47} : d ∈ a ++ d :: r := by simp
theorem lt_mid (a r : List S47) (d : S47) : a.length < (a ++ d :: r).length := by simp
theorem len_mid (a r : List S47) (d : S47) : (a.length : Int) < ((a ++ d :: r).length : Int) := by have := lt_mid a r d; omega
theorem app_mid (a r : List S47) (d : S47) : a ++ d :: r = (a ++ [d]) ++ r := by simp
theorem next_mid {nx : Int} {a r : List S47} {d : S47} (h : OkL nx (a ++ d :: r)) (e : S47) : wrap64 ((a.length : Int) + 1) = ((a ++ [e]).length : Int) := by
  rw [succ_w (lt_mid a r d) h.len, List.length_append]; rfl
theorem rfind_ev {l : List S47} (hl : l.length ≤ 4096) (x : Int) : ∃ p : Int, Ev (fun k => r18_Find.f k (cl l) x) p ∧ ((p = -1 ∧ ∀ j : Nat, (ids l)[j]? ≠ some x) ∨ ∃ j : Nat, p = (j : Int) ∧ (ids l)[j]? = some x) := by
  obtain ⟨p, hp, hp2⟩ := rfind hl x (k := l.length + 1) (Nat.le_refl _)
  exact ⟨p, Ev.of (fun k => r18_Find.mono _ _ _) hp, hp2⟩
/-! Problem. -/
theorem rprob_loop {nx t : Int} (o : Int) (ht : 0 ≤ t ∧ t ≤ 4611686018427387904) (nx' : Int) (L0 : List S30) : ∀ (rest done : List S47) (S : List Bool) (f : Int → Int), OkL nx (done ++ rest) → Rel (ids (done ++ rest)) S f →
    Ev (fun k => rPb.l0 k o t (cl (done ++ rest)) S (done.length : Int) nx' L0) (nx', cl (chainZ t (done ++ probL o t rest) (probF o t rest f))) := by
  intro rest
  induction rest with
  | nil =>
    intro done S f h hR
    refine Ev.succ (g := fun k => (rSt.f k (cl done) t S).bind fun b => some (nx', b.1)) (fun k => ?_) ?_
    · rw [List.append_nil, rPb.l0, cl_len, if_neg (by omega)]
    · rw [List.append_nil] at h hR
      obtain ⟨S', hs⟩ := started_ok ht h hR
      have := Ev.bind (g := fun k b => some (nx', b.1)) hs (Ev.const (nx', cl (chainZ t done f)))
      rw [probL, probF, List.append_nil]
      exact this
  | cons d r ih =>
    intro done S f h hR
    have hd : OkD d := h.ok d mem_mid
    have hat : (ids (done ++ d :: r))[done.length]? = some d.f0 := by simp [ids]
    have keep : ¬ hit o t d → Ev (fun k => rPb.l0 k o t (cl (done ++ d :: r)) S (wrap64 ((done.length : Int) + 1)) nx' L0) (nx', cl (chainZ t (done ++ probL o t (d :: r)) (probF o t (d :: r) f))) := by
      intro hn
      have h2 := ih (done ++ [d]) S f (by rw [← app_mid]; exact h) (by rw [← app_mid]; exact hR)
      rw [probL, if_neg hn, probF, if_neg hn, next_mid h d, app_mid done r d, app_mid done (probL o t r) d]
      exact h2
    refine Ev.succ (g := fun k => (r18_Kind.f k (cv d).f0 (cv d).f1 (cv d).f2 (cv d).f3 (cv d).f4 (cv d).f5 (cv d).f6 (cv d).f7).bind fun t190 => (if t190 = 2 then (if (cv d).f1 = o then (if (cv d).f7 = (-1) then (if (cv d).f2 ≤ t then (if (cv d).f3 > t then (if (done.length : Int) < (S.length : Int) then (rPb.l0 k o t ((cl (done ++ d :: r)).set ((done.length : Int)).toNat (⟨(cv d).f0, (cv d).f1, (cv d).f2, (cv d).f3, (cv d).f4, (cv d).f5, (cv d).f6, t⟩ : S30)) (S.set ((done.length : Int)).toNat true) (wrap64 ((done.length : Int) + 1)) nx' L0) else none) else (rPb.l0 k o t (cl (done ++ d :: r)) S (wrap64 ((done.length : Int) + 1)) nx' L0)) else (rPb.l0 k o t (cl (done ++ d :: r)) S (wrap64 ((done.length : Int) + 1)) nx' L0)) else (rPb.l0 k o t (cl (done ++ d :: r)) S (wrap64 ((done.length : Int) + 1)) nx' L0)) else (rPb.l0 k o t (cl (done ++ d :: r)) S (wrap64 ((done.length : Int) + 1)) nx' L0)) else (rPb.l0 k o t (cl (done ++ d :: r)) S (wrap64 ((done.length : Int) + 1)) nx' L0))) (fun k => ?_) ?_
    · rw [rPb.l0, cl_len, if_pos (len_mid _ _ _), if_pos (by omega), rd30m]
    refine Ev.bind (kind_ev hd) ?_
    by_cases hk2 : kd d = 2
    rotate_left 1
    · refine Ev.ite_neg hk2 (keep (fun hh => hk2 ?_))
      unfold kd
      rw [if_neg (by rw [hh.1]; decide), if_pos hh.2.1]
    refine Ev.ite_pos hk2 ?_
    have hk : d.f4 = false ∧ d.f6 = 0 := by
      unfold kd at hk2
      by_cases h4 : d.f4 = true
      · rw [if_pos h4] at hk2; exact absurd hk2 (by decide)
      · rw [if_neg h4] at hk2
        by_cases h6 : d.f6 = 0
        · exact ⟨by cases hh : d.f4 with | true => exact absurd hh h4 | false => rfl, h6⟩
        · rw [if_neg h6] at hk2; exact absurd hk2 (by decide)
    by_cases h1 : d.f1 = o
    rotate_left 1
    · exact Ev.ite_neg (show ¬ (cv d).f1 = o from h1) (keep (fun hh => h1 hh.2.2.1))
    refine Ev.ite_pos (show (cv d).f1 = o from h1) ?_
    by_cases h7 : d.f7 = -1
    rotate_left 1
    · exact Ev.ite_neg (show ¬ (cv d).f7 = -1 from h7) (keep (fun hh => h7 hh.2.2.2.1))
    refine Ev.ite_pos (show (cv d).f7 = -1 from h7) ?_
    by_cases h2 : d.f2 ≤ t
    rotate_left 1
    · exact Ev.ite_neg (show ¬ (cv d).f2 ≤ t from h2) (keep (fun hh => h2 hh.2.2.2.2.1))
    refine Ev.ite_pos (show (cv d).f2 ≤ t from h2) ?_
    by_cases h3 : d.f3 > t
    rotate_left 1
    · exact Ev.ite_neg (show ¬ (cv d).f3 > t from h3) (keep (fun hh => h3 hh.2.2.2.2.2))
    have hh : hit o t d := ⟨hk.1, hk.2, h1, h7, h2, h3⟩
    refine Ev.ite_pos (show (cv d).f3 > t from h3) (Ev.ite_pos (by rw [hR.len]; simp only [ids, List.length_map]; exact len_mid _ _ _) ?_)
    have e : (cl (done ++ d :: r)).set ((done.length : Int)).toNat (⟨(cv d).f0, (cv d).f1, (cv d).f2, (cv d).f3, (cv d).f4, (cv d).f5, (cv d).f6, t⟩ : S30) = cl ((done ++ [startAt t d]) ++ r) := clset done d (startAt t d) r
    rw [e, show ((done.length : Int)).toNat = done.length by omega, next_mid h (startAt t d), probL, if_pos hh, probF, if_pos hh, app_mid done (probL o t r) (startAt t d)]
    exact ih (done ++ [startAt t d]) _ _ (by rw [← app_mid]; exact okL_st ht h hk.1 h7) (by rw [ids_st]; exact hR.set hat)
theorem rprob {nx nx' t : Int} {l : List S47} (h : Beg nx nx' l) (o : Int) (ht : 0 ≤ t ∧ t ≤ 4611686018427387904) : Ev (fun k => rPb.f k nx (cl l) o t) (nx', cl (probZ o t l)) := by
  have ho := h.ok
  have hl := ho.len
  refine Ev.bind (g := fun k b => (if b.2.2 = true then ((r18_time.f t).bind fun t182 => (rPb.j0 k o t (!t182) b.1 b.2.1)) else (rPb.j0 k o t true b.1 b.2.1))) (own_beg h) ?_
  refine Ev.ite_pos rfl ?_
  rw [rtime_t ht]
  refine Ev.succ (g := fun k => rPb.l0 k o t (cl l) (List.replicate ((l.length : Int)).toNat false) 0 nx' (cl l)) (fun k => ?_) ?_
  · show rPb.j0 (k + 1) o t false nx' (cl l) = _
    rw [rPb.j0, if_neg (by decide), if_pos (by rw [cl_len]; simp only [List.length_nil]; omega), Option.bind_some, List.nil_append, cl_len, if_pos (by omega), if_pos (by omega)]
  · rw [show ((l.length : Int)).toNat = l.length by omega]
    have hz := Rel.zero (ids l)
    rw [show (ids l).length = l.length by simp [ids]] at hz
    exact rprob_loop o ht nx' (cl l) l [] _ _ ho hz
/-! Pass. -/
theorem ends_ok {d : S47} (h : OkD d) : r18_ends.f (cv d).f0 (cv d).f1 (cv d).f2 (cv d).f3 (cv d).f4 (cv d).f5 (cv d).f6 (cv d).f7 = some (spanZ d) := by
  show r18_ends.f d.f0 d.f1 d.f2 d.f3 d.f4 d.f5 d.f6 d.f7 = _
  unfold r18_ends.f spanZ
  by_cases h4 : d.f4 = true
  · rw [if_pos h4, if_pos h4]
  rw [if_neg h4, if_neg h4]
  by_cases h7 : d.f7 = -1
  · rw [if_pos h7, if_pos h7]
  rw [if_neg h7, if_neg h7]
  obtain ⟨a1, a2, a3, a4⟩ : 0 ≤ d.f7 ∧ d.f7 ≤ 4611686018427387904 ∧ 1 ≤ d.f5 ∧ d.f5 ≤ 34560000 := by
    rcases h.kd with ⟨e, _⟩ | ⟨_, _, _, b, c, e | e⟩
    · exact absurd e h4
    · exact absurd e h7
    · exact ⟨e.1, e.2, b, c⟩
  have hw : wrap64 (4611686018427387904 - d.f7) = 4611686018427387904 - d.f7 := w64 (by omega) (by omega)
  unfold r5_Add.f mn
  rw [if_neg (by omega), if_neg (by omega), if_pos (by omega), hw]
  by_cases hc : d.f5 > 4611686018427387904 - d.f7
  · rw [if_pos hc, if_pos hc, show d.f7 + (4611686018427387904 - d.f7) = 4611686018427387904 by omega, w64 (n := 4611686018427387904) (by decide) (by decide)]
    rfl
  · rw [if_neg hc, if_neg hc]; rfl
theorem ends_ev {d : S47} (h : OkD d) : Ev (fun _ => r18_ends.f (cv d).f0 (cv d).f1 (cv d).f2 (cv d).f3 (cv d).f4 (cv d).f5 (cv d).f6 (cv d).f7) (spanZ d) := ⟨0, fun _ _ => ends_ok h⟩
theorem rpass1 {nx t : Int} (nx' : Int) (L0 : List S30) : ∀ (rest done out : List S47) (f : Int → Int), OkL nx (done ++ rest) → out.Sublist done → (∀ x, f x ≠ 0 ↔ ∃ e ∈ out, e.f0 = x) →
    Ev (fun k => r18_Pass.l1 k t (cl (done ++ rest)) (cl out) (done.length : Int) nx' L0) (nx', cl (out ++ passL t rest f)) := by
  intro rest
  induction rest with
  | nil =>
    intro done out f h hs hf
    refine Ev.succ (g := fun _ => some (nx', cl out)) (fun k => ?_) ?_
    · rw [List.append_nil, r18_Pass.l1, cl_len, if_neg (by omega)]
    · rw [passL, List.append_nil]; exact Ev.const _
  | cons d r ih =>
    intro done out f h hs hf
    have hd : OkD d := h.ok d mem_mid
    have hlen := h.len
    have hol : out.length ≤ 4096 := by
      have := hs.length_le
      rw [List.length_append] at hlen
      omega
    have hgo := fun e out' g h1 h2 => ih (done ++ [e]) out' g h1 h2
    have gone : overZ t f d = true → Ev (fun k => r18_Pass.l1 k t (cl (done ++ d :: r)) (cl out) (wrap64 ((done.length : Int) + 1)) nx' L0) (nx', cl (out ++ passL t (d :: r) f)) := by
      intro ho
      have h2 := ih (done ++ [d]) out f (by rw [← app_mid]; exact h) (hs.trans (List.sublist_append_left _ _)) hf
      rw [passL, if_pos ho, next_mid h d, app_mid]
      exact h2
    have stay : overZ t f d = false → Ev (fun k => if (cl out).length < 2199023255552 then r18_Pass.l1 k t (cl (done ++ d :: r)) (cl out ++ [(⟨(cv d).f0, (cv d).f1, (cv d).f2, (cv d).f3, (cv d).f4, (cv d).f5, (cv d).f6, (cv d).f7⟩ : S30)]) (wrap64 ((done.length : Int) + 1)) nx' L0 else none) (nx', cl (out ++ passL t (d :: r) f)) := by
      intro ho
      refine Ev.ite_pos (by rw [cl_len]; omega) ?_
      have h2 := ih (done ++ [d]) (out ++ [d]) (setOne f d.f0) (by rw [← app_mid]; exact h) (hs.append (List.Sublist.refl _)) (fun x => by
        unfold setOne
        by_cases hx : x = d.f0
        · rw [if_pos hx]; exact ⟨fun _ => ⟨d, by simp, hx.symm⟩, fun _ => by decide⟩
        · rw [if_neg hx, hf x]
          constructor
          · rintro ⟨e, he, h3⟩; exact ⟨e, List.mem_append_left _ he, h3⟩
          · rintro ⟨e, he, h3⟩
            rcases List.mem_append.mp he with he | he
            · exact ⟨e, he, h3⟩
            · obtain rfl := List.mem_singleton.mp he
              exact absurd h3.symm hx)
      rw [passL, if_neg (by rw [ho]; decide), next_mid h d, app_mid, app_mid out]
      have e : cl out ++ [(⟨(cv d).f0, (cv d).f1, (cv d).f2, (cv d).f3, (cv d).f4, (cv d).f5, (cv d).f6, (cv d).f7⟩ : S30)] = cl (out ++ [d]) := by simp [cl, cv]
      rw [e]
      exact h2
    refine Ev.succ (g := fun k => (r18_ends.f (cv d).f0 (cv d).f1 (cv d).f2 (cv d).f3 (cv d).f4 (cv d).f5 (cv d).f6 (cv d).f7).bind fun bt => (if bt.2.2 = true then (if bt.2.1 ≤ t then (r18_Pass.l1 k t (cl (done ++ d :: r)) (cl out) (wrap64 ((done.length : Int) + 1)) nx' L0) else (if (cl out).length < 2199023255552 then (r18_Pass.l1 k t (cl (done ++ d :: r)) (cl out ++ [(⟨(cv d).f0, (cv d).f1, (cv d).f2, (cv d).f3, (cv d).f4, (cv d).f5, (cv d).f6, (cv d).f7⟩ : S30)]) (wrap64 ((done.length : Int) + 1)) nx' L0) else none)) else (if (cv d).f3 ≤ t then (r18_Pass.l1 k t (cl (done ++ d :: r)) (cl out) (wrap64 ((done.length : Int) + 1)) nx' L0) else ((r18_Kind.f k (cv d).f0 (cv d).f1 (cv d).f2 (cv d).f3 (cv d).f4 (cv d).f5 (cv d).f6 (cv d).f7).bind fun t234 => (if t234 = 3 then ((r18_Find.f k (cl out) (cv d).f6).bind fun t236 => (if t236 < 0 then (r18_Pass.l1 k t (cl (done ++ d :: r)) (cl out) (wrap64 ((done.length : Int) + 1)) nx' L0) else (if (cl out).length < 2199023255552 then (r18_Pass.l1 k t (cl (done ++ d :: r)) (cl out ++ [(⟨(cv d).f0, (cv d).f1, (cv d).f2, (cv d).f3, (cv d).f4, (cv d).f5, (cv d).f6, (cv d).f7⟩ : S30)]) (wrap64 ((done.length : Int) + 1)) nx' L0) else none))) else (if (cl out).length < 2199023255552 then (r18_Pass.l1 k t (cl (done ++ d :: r)) (cl out ++ [(⟨(cv d).f0, (cv d).f1, (cv d).f2, (cv d).f3, (cv d).f4, (cv d).f5, (cv d).f6, (cv d).f7⟩ : S30)]) (wrap64 ((done.length : Int) + 1)) nx' L0) else none)))))) (fun k => ?_) ?_
    · rw [r18_Pass.l1, cl_len, if_pos (len_mid _ _ _), if_pos (by omega), rd30m]
    refine Ev.bind (ends_ev hd) ?_
    by_cases his : (spanZ d).2.2 = true
    · refine Ev.ite_pos his ?_
      by_cases hto : (spanZ d).2.1 ≤ t
      · exact Ev.ite_pos hto (gone (by unfold overZ overS; rw [if_pos his]; exact decide_eq_true hto))
      · exact Ev.ite_neg hto (stay (by unfold overZ overS; rw [if_pos his]; exact decide_eq_false hto))
    refine Ev.ite_neg his ?_
    by_cases h3 : d.f3 ≤ t
    · exact Ev.ite_pos (show (cv d).f3 ≤ t from h3) (gone (by unfold overZ overS; rw [if_neg his, if_pos h3]))
    refine Ev.ite_neg (show ¬ (cv d).f3 ≤ t from h3) (Ev.bind (kind_ev hd) ?_)
    have h4 : ¬ d.f4 = true := fun e => his (by unfold spanZ; rw [if_pos e])
    have h6n : 0 ≤ d.f6 := by
      rcases hd.kd with ⟨e, _⟩ | ⟨_, e, _⟩
      · exact absurd e h4
      · exact e
    by_cases hk3 : kd d = 3
    rotate_left 1
    · refine Ev.ite_neg hk3 (stay ?_)
      have h60 : d.f6 = 0 := by
        unfold kd at hk3
        rw [if_neg h4] at hk3
        by_cases h6 : d.f6 = 0
        · exact h6
        · rw [if_neg h6] at hk3; exact absurd rfl hk3
      unfold overZ overS
      rw [if_neg his, if_neg h3, if_neg (by omega)]
    have h60 : d.f6 ≠ 0 := by
      intro h6
      unfold kd at hk3
      rw [if_neg h4, if_pos h6] at hk3
      exact absurd hk3 (by decide)
    refine Ev.ite_pos hk3 ?_
    obtain ⟨p, hp, hp2⟩ := rfind_ev hol d.f6
    refine Ev.bind (g := fun k t236 => (if t236 < 0 then (r18_Pass.l1 k t (cl (done ++ d :: r)) (cl out) (wrap64 ((done.length : Int) + 1)) nx' L0) else (if (cl out).length < 2199023255552 then (r18_Pass.l1 k t (cl (done ++ d :: r)) (cl out ++ [(⟨(cv d).f0, (cv d).f1, (cv d).f2, (cv d).f3, (cv d).f4, (cv d).f5, (cv d).f6, (cv d).f7⟩ : S30)]) (wrap64 ((done.length : Int) + 1)) nx' L0) else none))) hp ?_
    have ov : overZ t f d = decide (f d.f6 = 0) := by
      unfold overZ overS
      rw [if_neg his, if_neg h3, if_pos (by omega)]
    rcases hp2 with ⟨rfl, hno⟩ | ⟨j, rfl, hj⟩
    · refine Ev.ite_pos (by decide) (gone ?_)
      rw [ov]
      refine decide_eq_true ?_
      by_cases hz : f d.f6 = 0
      · exact hz
      · obtain ⟨e, he, h5⟩ := (hf d.f6).mp hz
        obtain ⟨j, hj, rfl⟩ := List.mem_iff_getElem.mp he
        exact absurd (by rw [ids_at hj, h5]) (hno j)
    · refine Ev.ite_neg (by omega) (stay ?_)
      rw [ov]
      refine decide_eq_false ((hf d.f6).mpr ?_)
      obtain ⟨hj1, hj2⟩ := List.getElem?_eq_some_iff.mp hj
      have hjl : j < out.length := by simpa [ids] using hj1
      exact ⟨out[j], List.getElem_mem hjl, by have := ids_at hjl; rw [hj] at this; exact (Option.some.inj this).symm⟩
theorem rpass0 {nx t : Int} (ht : 0 ≤ t ∧ t ≤ 4611686018427387904) {l : List S47} (h : OkL nx l) (nx' : Int) : ∀ (rest done : List S47) (S : List Bool) (f : Int → Int), done ++ rest = l → Rel (ids l) S f → (∀ j : Nat, done.length ≤ j → S[j]? ≠ some true) →
    Ev (fun k => r18_Pass.l0 k t S (done.length : Int) nx' (cl l)) (nx', cl (passL t (chainZ t l (passF t rest f)) (fun _ => 0))) := by
  intro rest
  induction rest with
  | nil =>
    intro done S f he hR hS
    rw [List.append_nil] at he
    subst he
    obtain ⟨S', hs⟩ := started_ok ht h hR
    refine Ev.succ (g := fun k => (rSt.f k (cl done) t S).bind fun b => (r18_Pass.l1 k t b.1 ([] : List S30) 0 nx' (cl done))) (fun k => ?_) ?_
    · rw [r18_Pass.l0, cl_len, if_neg (by omega)]
    · refine Ev.bind hs ?_
      have hC := okL_sts ht h (chain_sts t done f h.ok)
      have := rpass1 (t := t) nx' (cl done) (chainZ t done f) [] [] (fun _ => 0) hC (List.Sublist.refl _) (fun x => ⟨fun h => absurd rfl h, fun ⟨_, h, _⟩ => by cases h⟩)
      exact this
  | cons d r ih =>
    intro done S f he hR hS
    subst he
    have hat : (ids (done ++ d :: r))[done.length]? = some d.f0 := by simp [ids]
    have hSl : (done.length : Int) < (S.length : Int) := by rw [hR.len]; simp only [ids, List.length_map]; exact len_mid _ _ _
    have e0 : ((done.length : Int)).toNat = done.length := by omega
    have nxt : ∀ (b : Bool) (g : Int → Int), Rel (ids (done ++ d :: r)) (S.set done.length b) g → passF t (d :: r) f = passF t r g →
        Ev (fun k => if (done.length : Int) < (S.length : Int) then r18_Pass.l0 k t (S.set ((done.length : Int)).toNat b) (wrap64 ((done.length : Int) + 1)) nx' (cl (done ++ d :: r)) else none) (nx', cl (passL t (chainZ t (done ++ d :: r) (passF t (d :: r) f)) (fun _ => 0))) := by
      intro b g hg hp
      refine Ev.ite_pos hSl ?_
      rw [e0, next_mid h d, hp]
      refine ih (done ++ [d]) _ g (by rw [← app_mid]) hg (fun j hj => ?_)
      rw [List.length_append] at hj
      have hj' : done.length + 1 ≤ j := hj
      rw [List.getElem?_set_ne (by omega)]
      exact hS j (by omega)
    refine Ev.succ (g := fun k => (if (cv d).f4 = true then (if (done.length : Int) < (S.length : Int) then (r18_Pass.l0 k t (S.set ((done.length : Int)).toNat (decide ((cv d).f2 ≤ t))) (wrap64 ((done.length : Int) + 1)) nx' (cl (done ++ d :: r))) else none) else (if (done.length : Int) < (S.length : Int) then (r18_Pass.l0 k t (S.set ((done.length : Int)).toNat false) (wrap64 ((done.length : Int) + 1)) nx' (cl (done ++ d :: r))) else none))) (fun k => ?_) ?_
    · rw [r18_Pass.l0, cl_len, if_pos (len_mid _ _ _), if_pos (by omega), rd30m]
    have hn := hS done.length (Nat.le_refl _)
    by_cases h4 : d.f4 = true
    · refine Ev.ite_pos (show (cv d).f4 = true from h4) ?_
      by_cases h2 : d.f2 ≤ t
      · rw [show decide ((cv d).f2 ≤ t) = true from decide_eq_true h2]
        exact nxt true (setOne f d.f0) (hR.set hat) (by rw [passF, if_pos ⟨h4, h2⟩])
      · rw [show decide ((cv d).f2 ≤ t) = false from decide_eq_false h2]
        exact nxt false f (hR.unset hn) (by rw [passF, if_neg (fun e => h2 e.2)])
    · exact Ev.ite_neg (show ¬ (cv d).f4 = true from h4) (nxt false f (hR.unset hn) (by rw [passF, if_neg (fun e => h4 e.1)]))
theorem rpass {nx nx' t : Int} {l : List S47} (h : Beg nx nx' l) (ht : 0 ≤ t ∧ t ≤ 4611686018427387904) : Ev (fun k => r18_Pass.f k nx (cl l) t) (nx', cl (passZ t l)) := by
  have ho := h.ok
  have hl := ho.len
  refine Ev.bind (g := fun k b => (if b.2.2 = true then ((r18_time.f t).bind fun t212 => (r18_Pass.j0 k t (!t212) b.1 b.2.1)) else (r18_Pass.j0 k t true b.1 b.2.1))) (own_beg h) ?_
  refine Ev.ite_pos rfl ?_
  rw [rtime_t ht]
  refine Ev.succ (g := fun k => r18_Pass.l0 k t (List.replicate ((l.length : Int)).toNat false) 0 nx' (cl l)) (fun k => ?_) ?_
  · show r18_Pass.j0 (k + 1) t false nx' (cl l) = _
    rw [r18_Pass.j0, if_neg (by decide), cl_len, if_pos (by omega), if_pos (by omega)]
  · rw [show ((l.length : Int)).toNat = l.length by omega]
    have hz := Rel.zero (ids l)
    rw [show (ids l).length = l.length by simp [ids]] at hz
    exact rpass0 ht ho nx' l [] _ _ rfl hz (fun j _ => by rw [List.getElem?_replicate]; split <;> exact fun e => by cases e)
/-! Depth. -/
theorem rdepth_loop {nx : Int} {l : List S47} (h : OkL nx l) (nx' o t : Int) : ∀ (r i c : Nat), i + r = l.length → c ≤ i → Ev (fun k => r18_Depth.l0 k o t true (c : Int) (i : Int) nx' (cl l)) (((c + count o t (l.drop i) : Nat)) : Int) := by
  have hl := h.len
  intro r
  induction r with
  | zero =>
    intro i c hi hc
    refine Ev.succ (g := fun _ => some (c : Int)) (fun k => ?_) ?_
    · rw [r18_Depth.l0, if_pos rfl, cl_len, if_neg (by omega)]
    · rw [List.drop_of_length_le (by omega)]; exact Ev.const _
  | succ r ih =>
    intro i c hi hc
    have hlt : i < l.length := by omega
    have i1 := ih (i + 1) c (by omega) (by omega)
    have i2 := ih (i + 1) (c + 1) (by omega) (by omega)
    rw [List.drop_eq_getElem_cons hlt, count_cons]
    refine Ev.succ (g := fun k => (r18_ends.f (cv l[i]).f0 (cv l[i]).f1 (cv l[i]).f2 (cv l[i]).f3 (cv l[i]).f4 (cv l[i]).f5 (cv l[i]).f6 (cv l[i]).f7).bind fun bt => (if bt.2.2 = true then (if (cv l[i]).f1 = o then (if bt.1 ≤ t then (if t < bt.2.1 then (r18_Depth.l0 k o t true (((c + 1 : Nat)) : Int) (((i + 1 : Nat)) : Int) nx' (cl l)) else (r18_Depth.l0 k o t true (c : Int) (((i + 1 : Nat)) : Int) nx' (cl l))) else (r18_Depth.l0 k o t true (c : Int) (((i + 1 : Nat)) : Int) nx' (cl l))) else (r18_Depth.l0 k o t true (c : Int) (((i + 1 : Nat)) : Int) nx' (cl l))) else (r18_Depth.l0 k o t true (c : Int) (((i + 1 : Nat)) : Int) nx' (cl l)))) (fun k => ?_) ?_
    · rw [r18_Depth.l0, if_pos rfl, cl_len, if_pos (by omega), if_pos (by omega), rd30 hlt, succ_w hlt hl, succ_w (show c < l.length by omega) hl]
    refine Ev.bind (ends_ev (h.ok _ (List.getElem_mem hlt))) ?_
    have no : inD o t l[i] = false → Ev (fun k => r18_Depth.l0 k o t true (c : Int) (((i + 1 : Nat)) : Int) nx' (cl l)) (((c + ((if inD o t l[i] = true then 1 else 0) + count o t (List.drop (i + 1) l)) : Nat)) : Int) := by
      intro e
      rw [if_neg (by rw [e]; decide), Nat.zero_add]
      exact i1
    by_cases h1 : (spanZ l[i]).2.2 = true
    rotate_left 1
    · exact Ev.ite_neg h1 (no (by simp [inD, h1]))
    refine Ev.ite_pos h1 ?_
    by_cases h2 : l[i].f1 = o
    rotate_left 1
    · exact Ev.ite_neg (show ¬ (cv l[i]).f1 = o from h2) (no (by simp [inD, h2]))
    refine Ev.ite_pos (show (cv l[i]).f1 = o from h2) ?_
    by_cases h3 : (spanZ l[i]).1 ≤ t
    rotate_left 1
    · exact Ev.ite_neg h3 (no (by simp [inD, h3]))
    refine Ev.ite_pos h3 ?_
    by_cases h4 : t < (spanZ l[i]).2.1
    rotate_left 1
    · exact Ev.ite_neg h4 (no (by simp [inD, h4]))
    refine Ev.ite_pos h4 ?_
    rw [if_pos (by simp [inD, h1, h2, h3, h4]), show c + (1 + count o t (List.drop (i + 1) l)) = c + 1 + count o t (List.drop (i + 1) l) by omega]
    exact i2
theorem rdepth {nx nx' : Int} {l : List S47} (h : Beg nx nx' l) (o t : Int) : Ev (fun k => r18_Depth.f k nx (cl l) o t) (count o t l : Int) := by
  refine Ev.bind (g := fun k b => r18_Depth.l0 k o t b.2.2 0 0 b.1 b.2.1) (own_beg h) ?_
  have e := rdepth_loop h.ok nx' o t l.length 0 0 (by omega) (Nat.le_refl _)
  rw [Nat.zero_add, List.drop_zero] at e
  exact e
/-! Finding: the program's, at any number. -/
theorem find_miss {nx : Int} {l : List S47} (h : OkL nx l) {x : Int} (hx : -9223372036854775808 ≤ x) (hx1 : x ≤ 9223372036854775807) (hno : ∀ d ∈ l, d.f0 ≠ x) (k : Nat) : ∀ r a b : Nat, a ≤ b → b ≤ l.length → b - a ≤ r →
    ∃ p : Nat, dF34.l0 (k + r + 1) l x (l.length : Int) (a : Int) (b : Int) = some ((p : Int), false) := by
  have hlen := h.len
  have fin : ∀ (m p : Nat), p ≤ l.length → ∃ p' : Nat, dF34.l0 (m + 1) l x (l.length : Int) (p : Int) (p : Int) = some ((p' : Int), false) := by
    intro m p hp
    refine ⟨p, ?_⟩
    by_cases hpl : p < l.length
    · have hm := List.getElem_mem hpl
      have hb := h.bd _ hm
      have hn2 := h.n2
      have hne := hno _ hm
      rw [dF34.l0, if_neg (by omega), if_pos (by omega), if_pos (by omega), if_pos (by omega), rdT hpl]
      show some ((p : Int), (wrap64 (l[p].f0 - x) == 0)) = _
      have : ¬ wrap64 (l[p].f0 - x) = 0 := by unfold wrap64; omega
      rw [show (wrap64 (l[p].f0 - x) == 0) = false from beq_eq_false_iff_ne.mpr this]
    · rw [dF34.l0, if_neg (by omega), if_neg (by omega)]
  intro r
  induction r with
  | zero =>
    intro a b hab hb hr
    obtain rfl : a = b := by omega
    exact fin (k + 0) a hb
  | succ r ih =>
    intro a b hab hb hr
    by_cases hlt : a < b
    · have hm : (a + b) / 2 < l.length := by omega
      rw [show k + (r + 1) + 1 = (k + r + 1) + 1 by omega, dF34.l0, if_pos (by omega), half (by omega) (by omega), if_pos (by omega), if_pos (by omega), rdT hm]
      show ∃ p : Nat, (if wrap64 (l[(a + b) / 2].f0 - x) < 0 then _ else _) = _
      split
      · rw [show wrap64 ((((a + b) / 2 : Nat) : Int) + 1) = (((a + b) / 2 + 1 : Nat) : Int) by rw [w64 (by omega) (by omega)]; omega]
        exact ih _ _ (by omega) hb (by omega)
      · exact ih _ _ (by omega) (by omega) (by omega)
    · obtain rfl : a = b := by omega
      exact fin (k + (r + 1)) a hb
theorem find_any {nx : Int} {l : List S47} (h : OkL nx l) {x : Int} (hx : -9223372036854775808 ≤ x) (hx1 : x ≤ 9223372036854775807) :
    ∃ (p : Nat) (is : Bool), Ev (fun k => dLF.f k nx l x) ((p : Int), is) ∧ ((is = true ∧ (ids l)[p]? = some x) ∨ (is = false ∧ ∀ j : Nat, (ids l)[j]? ≠ some x)) := by
  by_cases hin : ∃ j : Nat, (ids l)[j]? = some x
  · obtain ⟨j, hj⟩ := hin
    obtain ⟨hj1, _⟩ := List.getElem?_eq_some_iff.mp hj
    have hjl : j < l.length := by simpa [ids] using hj1
    have e : l[j].f0 = x := by have := ids_at hjl; rw [hj] at this; exact (Option.some.inj this).symm
    have hb := h.bd _ (List.getElem_mem hjl)
    have hn2 := h.n2
    obtain ⟨p, is, h1, h2, h3, h4, h5⟩ := find_full h (x := x) (by omega) (by omega) (k := l.length + 1) (Nat.le_refl _)
    refine ⟨p, is, Ev.of (fun k => dLF.mono _ _ _ k) h1, .inl ?_⟩
    have hpj : p = j := by
      rcases Nat.lt_trichotomy p j with h6 | h6 | h6
      · have h7 := h5 p (by omega) (Nat.le_refl _)
        have h8 := pw_lt h.pw h6 hjl
        omega
      · exact h6
      · have := h4 j hjl h6; omega
    subst hpj
    exact ⟨h3.mpr ⟨hjl, e⟩, hj⟩
  · have hno : ∀ d ∈ l, d.f0 ≠ x := fun d hd e => by
      obtain ⟨j, hj, rfl⟩ := List.mem_iff_getElem.mp hd
      exact hin ⟨j, by rw [ids_at hj, e]⟩
    obtain ⟨p, hp⟩ := find_miss h hx hx1 hno 0 l.length 0 l.length (Nat.zero_le _) (Nat.le_refl _) (by omega)
    refine ⟨p, false, Ev.of (fun k => dLF.mono _ _ _ k) (K := 0 + l.length + 1) ?_, .inr ⟨rfl, fun j hj => hin ⟨j, hj⟩⟩⟩
    unfold dLF.f dF34.f
    rw [show (0 : Int) = ((0 : Nat) : Int) from rfl, hp]
    rfl
/-! Add. -/
/-- What is added: the program's, and the document's. -/
theorem add_both {nx nx' : Int} {l : List S47} (h : Beg nx nx' l) (hn : nx' < 2147483648) (hl : l.length < 4096) (d : S47) :
    (∃ c : Int, c ≠ 0 ∧ Ev (fun k => down_Add.f k nx l d.f0 d.f1 d.f2 d.f3 d.f4 d.f5 d.f6 d.f7) (0, [], 0, some c) ∧ Ev (fun k => r18_Add.f k nx (cl l) d.f0 d.f1 d.f2 d.f3 d.f4 d.f5 d.f6 d.f7) (0, [], 0, c)) ∨
    (OkD ⟨nx', d.f1, d.f2, d.f3, d.f4, d.f5, d.f6, -1⟩ ∧ Ev (fun k => down_Add.f k nx l d.f0 d.f1 d.f2 d.f3 d.f4 d.f5 d.f6 d.f7) (nx' + 1, l ++ [⟨nx', d.f1, d.f2, d.f3, d.f4, d.f5, d.f6, -1⟩], nx', none) ∧
      Ev (fun k => r18_Add.f k nx (cl l) d.f0 d.f1 d.f2 d.f3 d.f4 d.f5 d.f6 d.f7) (nx' + 1, cl (l ++ [⟨nx', d.f1, d.f2, d.f3, d.f4, d.f5, d.f6, -1⟩]), nx', 0)) := by
  have ho := h.ok
  have hn1 := ho.n1
  -- what is run ahead of the tests
  have P : ∀ (o : Option Bool → Prop) (r : Int × List S47 × Int × Option Int), Ev (fun k => (down_odd.f k nx' d.f1 d.f2 d.f3 d.f4 d.f5 d.f6 (-1)).bind fun t254 => (if t254 = true then some (0, ([] : List S47), 0, some 1) else ((dLF.f k nx' l d.f6).bind fun bt255 => (if d.f6 > 0 then (down_Add.j0 k (!bt255.2) nx' l nx' d.f1 d.f2 d.f3 d.f4 d.f5 d.f6 (-1)) else (down_Add.j0 k false nx' l nx' d.f1 d.f2 d.f3 d.f4 d.f5 d.f6 (-1)))))) r → Ev (fun k => down_Add.f k nx l d.f0 d.f1 d.f2 d.f3 d.f4 d.f5 d.f6 d.f7) r := by
    intro _ r hr
    obtain ⟨K, hr⟩ := hr
    refine ⟨K + l.length + 3, fun k hk => ?_⟩
    show down_Add.f k nx l d.f0 d.f1 d.f2 d.f3 d.f4 d.f5 d.f6 d.f7 = _
    unfold down_Add.f
    rw [begun_beg h (by omega), Option.bind_some, if_pos (show (none : Option Int).isNone = true from rfl)]
    exact hr k (by omega)
  have P := P (fun _ => True)
  have Q : ∀ (r : Int × List S30 × Int × Int), Ev (fun k => (r18_Kind.f k nx' d.f1 d.f2 d.f3 d.f4 d.f5 d.f6 (-1)).bind fun t269 => r18_Add.j0 k (t269 == 0) nx' d.f1 d.f2 d.f3 d.f4 d.f5 d.f6 (-1) nx' (cl l)) r → Ev (fun k => r18_Add.f k nx (cl l) d.f0 d.f1 d.f2 d.f3 d.f4 d.f5 d.f6 d.f7) r := by
    intro r hr
    refine Ev.bind (g := fun k b => (if b.2.2 = true then ((r18_Kind.f k b.1 d.f1 d.f2 d.f3 d.f4 d.f5 d.f6 (-1)).bind fun t269 => (r18_Add.j0 k (t269 == 0) b.1 d.f1 d.f2 d.f3 d.f4 d.f5 d.f6 (-1) b.1 b.2.1)) else (r18_Add.j0 k true b.1 d.f1 d.f2 d.f3 d.f4 d.f5 d.f6 (-1) b.1 b.2.1))) (own_beg h) ?_
    exact Ev.ite_pos rfl hr
  by_cases hd : OkD ⟨nx', d.f1, d.f2, d.f3, d.f4, d.f5, d.f6, -1⟩
  rotate_left 1
  · refine .inl ⟨1, by decide, P _ ?_, Q _ ?_⟩
    · refine Ev.bind (a := true) ⟨1, fun k hk => ?_⟩ (Ev.ite_pos rfl (Ev.const _))
      have e1 := odd_yes hd (k - 1)
      rw [show k - 1 + 1 = k by omega] at e1
      exact e1
    · refine Ev.bind (a := 0) ⟨2, fun k hk => ?_⟩ ?_
      · have e1 := kind_no hd rfl (k - 2)
        rw [show k - 2 + 2 = k by omega] at e1
        exact e1
      · exact Ev.succ (g := fun _ => some (0, [], 0, 1)) (fun k => by rw [r18_Add.j0, if_pos (by decide)]) (Ev.const _)
  have odd : Ev (fun k => down_odd.f k nx' d.f1 d.f2 d.f3 d.f4 d.f5 d.f6 (-1)) false := ⟨1, fun k hk => by
    have e1 := odd_no hd (k - 1)
    rw [show k - 1 + 1 = k by omega] at e1
    exact e1⟩
  have kin : Ev (fun k => r18_Kind.f k nx' d.f1 d.f2 d.f3 d.f4 d.f5 d.f6 (-1)) (kd ⟨nx', d.f1, d.f2, d.f3, d.f4, d.f5, d.f6, -1⟩) := kind_ev hd
  have hk0 : (kd ⟨nx', d.f1, d.f2, d.f3, d.f4, d.f5, d.f6, -1⟩ == 0) = false := by unfold kd; split; rfl; split <;> rfl
  have htr : 0 ≤ d.f6 ∧ d.f6 ≤ 2147483648 := by
    rcases hd.kd with ⟨_, e, _⟩ | ⟨_, e, f, _⟩
    · have e' : d.f6 = 0 := e
      omega
    · have e' : 0 ≤ d.f6 := e
      have f' : d.f6 < nx' := f
      omega
  obtain ⟨p, is, fnd, fis⟩ := find_any ho (x := d.f6) (by omega) (by omega)
  obtain ⟨q, rf, rfis⟩ := rfind_ev ho.len d.f6
  have bad : d.f6 > 0 → is = false → (∀ j : Nat, (ids l)[j]? ≠ some d.f6) → (∃ c : Int, c ≠ 0 ∧ Ev (fun k => down_Add.f k nx l d.f0 d.f1 d.f2 d.f3 d.f4 d.f5 d.f6 d.f7) (0, [], 0, some c) ∧ Ev (fun k => r18_Add.f k nx (cl l) d.f0 d.f1 d.f2 d.f3 d.f4 d.f5 d.f6 d.f7) (0, [], 0, c)) := by
    intro h6 hi hno
    have hq : q = -1 := by
      rcases rfis with ⟨e, _⟩ | ⟨j, _, hj⟩
      · exact e
      · exact absurd hj (hno j)
    subst hi hq
    refine ⟨8, by decide, P _ ?_, Q _ ?_⟩
    · refine Ev.bind odd (Ev.ite_neg (by decide) (Ev.bind fnd (Ev.ite_pos h6 ?_)))
      exact Ev.succ (g := fun _ => some (0, [], 0, some 8)) (fun k => by rw [down_Add.j0]; exact if_pos rfl) (Ev.const _)
    · refine Ev.bind kin ?_
      have h4 : ¬ d.f4 = true := by
        intro e
        rcases hd.kd with ⟨_, e2, _⟩ | ⟨e2, _⟩
        · have e2' : d.f6 = 0 := e2
          omega
        · have e2' : d.f4 = false := e2
          rw [e] at e2'; cases e2'
      have hk3 : kd ⟨nx', d.f1, d.f2, d.f3, d.f4, d.f5, d.f6, -1⟩ = 3 := by
        unfold kd
        rw [if_neg h4, if_neg (show ¬ d.f6 = 0 by omega)]
      refine Ev.succ (g := fun k => (r18_Kind.f k nx' d.f1 d.f2 d.f3 d.f4 d.f5 d.f6 (-1)).bind fun t270 => (if t270 = 3 then ((r18_Find.f k (cl l) d.f6).bind fun t271 => (r18_Add.j1 k (decide (t271 < 0)) nx' d.f1 d.f2 d.f3 d.f4 d.f5 d.f6 (-1) nx' (cl l))) else (r18_Add.j1 k false nx' d.f1 d.f2 d.f3 d.f4 d.f5 d.f6 (-1) nx' (cl l)))) (fun k => by rw [hk0, r18_Add.j0, if_neg (by decide)]) ?_
      refine Ev.bind kin (Ev.ite_pos hk3 (Ev.bind rf ?_))
      exact Ev.succ (g := fun _ => some (0, [], 0, 8)) (fun k => by rw [r18_Add.j1, if_pos (by decide)]) (Ev.const _)
  have good : (d.f6 > 0 → is = true ∧ ∃ j : Nat, (ids l)[j]? = some d.f6) → (Ev (fun k => down_Add.f k nx l d.f0 d.f1 d.f2 d.f3 d.f4 d.f5 d.f6 d.f7) (nx' + 1, l ++ [⟨nx', d.f1, d.f2, d.f3, d.f4, d.f5, d.f6, -1⟩], nx', none) ∧
      Ev (fun k => r18_Add.f k nx (cl l) d.f0 d.f1 d.f2 d.f3 d.f4 d.f5 d.f6 d.f7) (nx' + 1, cl (l ++ [⟨nx', d.f1, d.f2, d.f3, d.f4, d.f5, d.f6, -1⟩]), nx', 0)) := by
    intro hg
    have fin1 : Ev (fun k => down_Add.j0 k false nx' l nx' d.f1 d.f2 d.f3 d.f4 d.f5 d.f6 (-1)) (nx' + 1, l ++ [⟨nx', d.f1, d.f2, d.f3, d.f4, d.f5, d.f6, -1⟩], nx', none) :=
      Ev.succ (g := fun _ => some (nx' + 1, l ++ [⟨nx', d.f1, d.f2, d.f3, d.f4, d.f5, d.f6, -1⟩], nx', none)) (fun k => by rw [down_Add.j0, if_neg (by decide), if_neg (by omega), if_neg (by omega), if_pos (by omega), w64 (by omega) (by omega)]) (Ev.const _)
    have fin2 : Ev (fun k => r18_Add.j1 k false nx' d.f1 d.f2 d.f3 d.f4 d.f5 d.f6 (-1) nx' (cl l)) (nx' + 1, cl (l ++ [⟨nx', d.f1, d.f2, d.f3, d.f4, d.f5, d.f6, -1⟩]), nx', 0) :=
      Ev.succ (g := fun _ => some (nx' + 1, cl (l ++ [⟨nx', d.f1, d.f2, d.f3, d.f4, d.f5, d.f6, -1⟩]), nx', 0)) (fun k => by
        rw [r18_Add.j1, if_neg (by decide), if_neg (by rw [cl_len]; omega), if_neg (by omega), if_pos (by rw [cl_len]; simp only [List.length_nil]; omega), Option.bind_some, Option.bind_some, List.nil_append, if_pos (by rw [cl_len]; simp only [List.length_cons, List.length_nil]; omega), w64 (by omega) (by omega)]
        simp [cl, cv]) (Ev.const _)
    refine ⟨P _ ?_, Q _ ?_⟩
    · refine Ev.bind odd (Ev.ite_neg (by decide) (Ev.bind fnd ?_))
      by_cases h6 : d.f6 > 0
      · refine Ev.ite_pos h6 ?_
        rw [(hg h6).1]
        exact fin1
      · exact Ev.ite_neg h6 fin1
    · refine Ev.bind kin ?_
      refine Ev.succ (g := fun k => (r18_Kind.f k nx' d.f1 d.f2 d.f3 d.f4 d.f5 d.f6 (-1)).bind fun t270 => (if t270 = 3 then ((r18_Find.f k (cl l) d.f6).bind fun t271 => (r18_Add.j1 k (decide (t271 < 0)) nx' d.f1 d.f2 d.f3 d.f4 d.f5 d.f6 (-1) nx' (cl l))) else (r18_Add.j1 k false nx' d.f1 d.f2 d.f3 d.f4 d.f5 d.f6 (-1) nx' (cl l)))) (fun k => by rw [hk0, r18_Add.j0, if_neg (by decide)]) ?_
      refine Ev.bind kin ?_
      by_cases hk3 : kd ⟨nx', d.f1, d.f2, d.f3, d.f4, d.f5, d.f6, -1⟩ = 3
      · refine Ev.ite_pos hk3 (Ev.bind rf ?_)
        have h6 : d.f6 > 0 := by
          have h60 : d.f6 ≠ 0 := fun e => by
            unfold kd at hk3
            simp only [e, if_true] at hk3
            split at hk3 <;> exact absurd hk3 (by decide)
          omega
        obtain ⟨j, hj⟩ := (hg h6).2
        rcases rfis with ⟨_, hno⟩ | ⟨i, rfl, _⟩
        · exact absurd hj (hno j)
        · rw [decide_eq_false (show ¬ ((i : Int) < 0) by omega)]
          exact fin2
      · exact Ev.ite_neg hk3 fin2
  by_cases h6 : d.f6 > 0
  · rcases fis with ⟨hi, hj⟩ | ⟨hi, hno⟩
    · exact .inr ⟨hd, good (fun _ => ⟨hi, _, hj⟩)⟩
    · exact .inl (bad h6 hi hno)
  · exact .inr ⟨hd, good (fun e => absurd e h6)⟩
/-! Cancel. -/
theorem cancel_both {nx nx' : Int} {l : List S47} (h : Beg nx nx' l) {x : Int} (hx : -9223372036854775808 ≤ x) (hx1 : x ≤ 9223372036854775807) :
    (Ev (fun k => down_Cancel.f k nx l x) (0, [], some 8) ∧ Ev (fun k => r18_Cancel.f k nx (cl l) x) (0, [], 8)) ∨
    ∃ i : Nat, i < l.length ∧ Ev (fun k => down_Cancel.f k nx l x) (nx', l.eraseIdx i, none) ∧ Ev (fun k => r18_Cancel.f k nx (cl l) x) (nx', cl (l.eraseIdx i), 0) := by
  have ho := h.ok
  have hl := ho.len
  have P : ∀ (r : Int × List S47 × Option Int), Ev (fun k => (dLF.f k nx' l x).bind fun b => (if b.2 = true then ((down_Down_19.f l b.1 (wrap64 (b.1 + 1))).bind fun t123 => (some (nx', t123, none))) else (some (0, ([] : List S47), some 8)))) r → Ev (fun k => down_Cancel.f k nx l x) r := by
    intro r hr
    obtain ⟨K, hr⟩ := hr
    refine ⟨K + l.length + 3, fun k hk => ?_⟩
    show down_Cancel.f k nx l x = _
    unfold down_Cancel.f
    rw [begun_beg h (by omega), Option.bind_some, if_pos (show (none : Option Int).isNone = true from rfl)]
    exact hr k (by omega)
  obtain ⟨p, is, fnd, fis⟩ := find_any ho hx hx1
  obtain ⟨q, rf, rfis⟩ := rfind_ev hl x
  rcases fis with ⟨hi, hj⟩ | ⟨hi, hno⟩
  · obtain ⟨hp1, _⟩ := List.getElem?_eq_some_iff.mp hj
    have hp : p < l.length := by simpa [ids] using hp1
    have hq : q = (p : Int) := by
      rcases rfis with ⟨_, hno⟩ | ⟨j, e, hj2⟩
      · exact absurd hj (hno p)
      · rw [e, ids_uniq ho.pw hj2 hj]
    subst hq
    refine .inr ⟨p, hp, P _ ?_, ?_⟩
    · refine Ev.bind fnd (Ev.ite_pos hi ?_)
      have e : down_Down_19.f l (p : Int) (wrap64 ((p : Int) + 1)) = some (l.eraseIdx p) := by
        unfold down_Down_19.f
        rw [succ_w hp hl, if_pos ⟨by omega, by omega, by omega, hl⟩, show ((p : Int)).toNat = p by omega]
      rw [e]
      exact Ev.const _
    · obtain ⟨K1, ho1⟩ := own_beg h
      obtain ⟨K2, hf⟩ := rf
      refine ⟨K1 + K2, fun k hk => ?_⟩
      have e1 : ((p : Int)).toNat = p := by omega
      have e2 : wrap64 ((p : Int) + 1) = ((p + 1 : Nat) : Int) := succ_w hp hl
      have e3 : (((p + 1 : Nat) : Int)).toNat = p + 1 := by omega
      have e4 : ((cl l).take p).length = p := by rw [List.length_take, cl_len]; omega
      have e5 : ((cl l).drop (p + 1)).length = l.length - (p + 1) := by rw [List.length_drop, cl_len]
      have f1 : r18_Own.f k nx (cl l) = _ := ho1 k (by omega)
      have f2 : r18_Find.f k (cl l) x = _ := hf k (by omega)
      show r18_Cancel.f k nx (cl l) x = _
      unfold r18_Cancel.f
      rw [f1, Option.bind_some, if_pos rfl, f2, Option.bind_some, if_neg (by omega), if_pos (by omega), cl_len, if_pos (by omega), e1, Option.bind_some, if_pos (by rw [e4]; simp only [List.length_nil]; omega), Option.bind_some, List.nil_append, e2, if_pos (by omega), if_pos (by omega), e3, Option.bind_some, if_pos (by rw [e4, e5]; omega)]
      rw [show cl (l.eraseIdx p) = (cl l).take p ++ (cl l).drop (p + 1) by rw [List.eraseIdx_eq_take_drop_succ]; simp [cl, List.map_take, List.map_drop]]
  · have hq : q = -1 := by
      rcases rfis with ⟨e, _⟩ | ⟨j, _, hj⟩
      · exact e
      · exact absurd hj (hno j)
    subst hi hq
    refine .inl ⟨P _ (Ev.bind fnd (Ev.ite_neg Bool.false_ne_true (Ev.const _))), ?_⟩
    obtain ⟨K1, ho1⟩ := own_beg h
    obtain ⟨K2, hf⟩ := rf
    refine ⟨K1 + K2, fun k hk => ?_⟩
    have f1 : r18_Own.f k nx (cl l) = _ := ho1 k (by omega)
    have f2 : r18_Find.f k (cl l) x = _ := hf k (by omega)
    show r18_Cancel.f k nx (cl l) x = _
    unfold r18_Cancel.f
    rw [f1, Option.bind_some, if_pos rfl, f2, Option.bind_some, if_pos (by decide)]
end Go.Proofs.YtgmdaaenhmclfaaDoor.Dn
