/- The walk of the law CrcSeals. -/
import Derived.Test.YtgaklpmedgcglaaDoorCrcI
import Derived.Test.YtgaklpmedgcglaaDoorCrcOpen
import Derived.Test.YtgaklpmedgcglaaDoorCrcSure
import Derived.Test.YtgaklpmedgcglaaDoorNumP
import Derived.Test.YtgaklpmedgcglaaDoorWFoot
import Derived.Test.YtgaklpmedgcglaaDoorWMore
import Derived.Deep.DrawnRows
namespace Go.Proofs.YtgaklpmedgcglaaDoor.P
open Go.RowKit Go.Proofs.YtgaklpmedgcglaaDoorW.PrintWords Go.Proofs.YtgaklpmedgcglaaDoorW.PrintLast Go.Proofs.YtgaklpmedgcglaaDoorW.PrintMore
attribute [local go_sem] max2_int min2_int max_two min_two max_three min_three max_four min_four
attribute [local go_sem ↓] Go.wp_at_zero Go.wp_at_succ
set_option linter.unusedVariables false
set_option linter.unusedSimpArgs false
theorem txt (W : World) (A : Option Addr) (n c : Nat) (l : List Int) (h : Kd.C (Kd.int .u8) W A n l) : (convert 22 9 (.slice A n c)).run Tryd.prog W = .ok (.string (strOfNums l)) W :=
  Kd.C_string (P := Tryd.prog) (dst := 9) Tryd.underlying22 Tryd.underlying5 Tryd.underlying9 h
set_option maxHeartbeats 4000000 in
theorem seals_open (A0 : Option Addr) (c0 : Nat) (l0 : List Int) (w : World) (hr0 : Kd.C (Kd.int .u8) w A0 l0.length l0) (hc0 : l0.length ≤ c0) (hl : l0.length ≤ 4000) (hG : GL w)
    (x : List Int) (e : Option Int) (hx : crc_Open.f l0 = some (x, e)) (k : Nat) (hy : belvedereref01_Open.f k l0 = some (x, e.getD 0)) (s : List Int) (hs : crc_Seal.f l0 = some s) (k2 : Nat) (hS : belvedereref01_Seal.f k2 l0 = some s) :
    Calls Tryd.prog 6 #[.slice A0 l0.length c0] w fun e w' => e = .returned (.bool true) ∧ Below w.heap.size w w' := by
  have d0 : decide ((l0.length : Int) > 4000) = false := decide_eq_false (by omega)
  have d1 : decide ((4000 : Int) < (l0.length : Int)) = false := decide_eq_false (by omega)
  have d2 : decide (4000 < l0.length) = false := decide_eq_false (by omega)
  have tb0 := txt w A0 l0.length c0 l0 hr0
  have HTB := Aside0.mk (fun W (hb : Below w.heap.size w W) => txt W A0 l0.length c0 l0 (Kd.C_below hr0 hb))
  have HOpen := Aside0.mk (fun W (hb : Below w.heap.size w W) => crc_Open.calls A0 c0 l0 x e W (Kd.C_below hr0 hb) hc0 hx (hG.below hb))
  have HSeal := Aside0.mk (fun W (hb : Below w.heap.size w W) => crc_Seal.calls A0 c0 l0 s W (Kd.C_below hr0 hb) hc0 hs (hG.below hb))
  have HRSeal := Aside0.mk (fun W (hb : Below w.heap.size w W) => belvedereref01_Seal.calls k2 A0 c0 l0 s W (Kd.C_below hr0 hb) hc0 hS)
  have HROpen := Aside0.mk (fun W (hb : Below w.heap.size w W) => belvedereref01_Open.calls k (fun k_ => k_ < W.heap.size) A0 c0 l0 x (e.getD 0) W (Kd.V_mk hc0 (Kd.C_F (Kd.heap_int .u8) (Kd.C_below hr0 hb))) hy)
  have HNum := Aside0.mk (fun W (hb : Below w.heap.size w W) => belvederelaw01_num.calls e (e.getD 0) W rfl (hG.below hb))
  have HSure := Aside0.mk (fun W (hb : Below w.heap.size w W) => belvederelaw01_sure.calls true W rfl (hG.below hb))
  have HB := Aside0.mk (Below.refl w.heap.size w)
  clear hr0 hc0 hl hG hx hy hs hS
  go_enter Tryd.func6, Tryd.ntmps6
  go_wp2_with (first | ((with_reducible refine gate_callee (f := 14) rfl ?_); refine goesL_ (some 16) rfl rfl Tryd.func14 (by kernel_rfl) rfl #[.slice A0 l0.length c0] rfl (by (try simp only [List.map_toArray, List.map_cons, List.map_nil]); first | done | rfl) ?_; (refine (HOpen.out _ (by repeat (first | (with_reducible first | exact HB.out | apply below_alloc | apply pw_below_drewN | apply below_drew1) | exact HB.out))).mono ?_); rintro e_ w4 ⟨v4, rfl, ho0, hb⟩; refine ⟨_, rfl, ?_⟩; obtain ⟨A4, c4, rfl⟩ := Kd.R_slice ho0; have n1_ := Aside0.mk (below_step (by repeat (first | (with_reducible first | exact HB.out | apply below_alloc | apply pw_below_drewN | apply below_drew1) | exact HB.out)) hb); have H4 := Aside0.mk (Kd.R_reads' ho0).2.2; clear HB; have HB := n1_; clear n1_ hb ho0) | ((with_reducible refine gate_callee (f := 15) rfl ?_); refine goesL_ (some 21) rfl rfl Tryd.func15 (by kernel_rfl) rfl #[.slice A0 l0.length c0] rfl (by (try simp only [List.map_toArray, List.map_cons, List.map_nil]); first | done | rfl) ?_; (refine (HROpen.out _ (by repeat (first | (with_reducible first | exact HB.out | apply below_alloc | apply pw_below_drewN | apply below_drew1) | exact HB.out))).mono ?_); rintro e_ w5 ⟨v5, rfl, ho0, hb⟩; refine ⟨_, rfl, ?_⟩; obtain ⟨A5, c5, rfl⟩ := Kd.V_slice ho0; have n1_ := Aside0.mk (below_step (by repeat (first | (with_reducible first | exact HB.out | apply below_alloc | apply pw_below_drewN | apply below_drew1) | exact HB.out)) hb); have H5 := Aside0.mk (Kd.V_reads' ho0).2.2; have H6 := Aside0.mk (Kd.C_below H4.out hb); clear HB; have HB := n1_; clear n1_ hb ho0))
  have HS := Aside0.mk (fun W (hb : Below w5.heap.size w5 W) => (⟨hb, HTB.out W (below_step HB.out hb), txt W A4 x.length c4 x (Kd.C_below H6.out hb), txt W A5 x.length c5 x (Kd.C_below H5.out hb)⟩ : Below w5.heap.size w5 W ∧ (convert 22 9 (.slice A0 l0.length c0)).run Tryd.prog W = .ok (.string (strOfNums l0)) W ∧ (convert 22 9 (.slice A4 x.length c4)).run Tryd.prog W = .ok (.string (strOfNums x)) W ∧ (convert 22 9 (.slice A5 x.length c5)).run Tryd.prog W = .ok (.string (strOfNums x)) W))
  clear HOpen HROpen H4 H5 H6 HTB tb0 d0 d1 d2
  go_region_with (first | (go_at_call 16; refine (HSeal.out _ (below_step HB.out (by repeat (first | exact Below.refl _ _ | assumption | apply below_alloc | apply pw_below_drewN | apply below_drew1 | (refine below_step ?_ (by assumption)))))).mono ?_; rintro e_ w6 ⟨v6, rfl, ho0, hb6⟩; obtain ⟨A6, c6, rfl⟩ := Kd.R_slice ho0; have HX6 := Aside0.mk (Kd.R_reads' ho0).2.2; have q60 := txt w6 A6 s.length c6 s HX6.out; have q61 := txt w6.drew A6 s.length c6 s (Kd.C_drew HX6.out); clear ho0) | (go_at_call 17; refine (HRSeal.out _ (below_step HB.out (by repeat (first | exact Below.refl _ _ | assumption | apply below_alloc | apply pw_below_drewN | apply below_drew1 | (refine below_step ?_ (by assumption)))))).mono ?_; rintro e_ w7 ⟨v7, rfl, ho0, hb7⟩; obtain ⟨A7, c7, rfl⟩ := Kd.R_slice ho0; have HX7 := Aside0.mk (Kd.R_reads' ho0).2.2; have q70 := txt w7 A7 s.length c7 s HX7.out; have q71 := txt w7.drew A7 s.length c7 s (Kd.C_drew HX7.out); have HX67 : Aside0 (Kd.C (Kd.int .u8) w7 A6 s.length s) := ⟨by first | exact Kd.C_below HX6.out hb7 | exact Kd.C_below (Kd.C_drew HX6.out) hb7⟩; have q62 := txt w7 A6 s.length c6 s HX67.out; have q63 := txt w7.drew A6 s.length c6 s (Kd.C_drew HX67.out); have HB7 : Below w5.heap.size w5 w7 := (by repeat (first | exact Below.refl _ _ | assumption | apply below_alloc | apply pw_below_drewN | apply below_drew1 | (refine below_step ?_ (by assumption)))); have f0 := HS.out w7 (by repeat (first | exact Below.refl _ _ | assumption | apply below_alloc | apply pw_below_drewN | apply below_drew1 | (refine below_step ?_ (by assumption)))); obtain ⟨-, f0a, f0b, f0c⟩ := f0; have f1 := HS.out w7.drew (by repeat (first | exact Below.refl _ _ | assumption | apply below_alloc | apply pw_below_drewN | apply below_drew1 | (refine below_step ?_ (by assumption)))); obtain ⟨-, f1a, f1b, f1c⟩ := f1; have f2 := HS.out w7.drew.drew (by repeat (first | exact Below.refl _ _ | assumption | apply below_alloc | apply pw_below_drewN | apply below_drew1 | (refine below_step ?_ (by assumption)))); obtain ⟨-, f2a, f2b, f2c⟩ := f2; clear ho0) | (go_at_call 18; refine (HNum.out _ (below_step HB.out (by repeat (first | exact Below.refl _ _ | assumption | apply below_alloc | apply pw_below_drewN | apply below_drew1 | (refine below_step ?_ (by assumption)))))).mono ?_; rintro e_ w8 ⟨rfl, hb8⟩; have HB8 : Below w5.heap.size w5 w8 := (by repeat (first | exact Below.refl _ _ | assumption | apply below_alloc | apply pw_below_drewN | apply below_drew1 | (refine below_step ?_ (by assumption)))); obtain ⟨-, h8a, h8b, h8c⟩ := HS.out w8 HB8; obtain ⟨-, i8a, i8b, i8c⟩ := HS.out w8.drew (below_drew1 HB8)) | (go_at_call 10; refine (HSure.out _ (below_step HB.out (by repeat (first | exact Below.refl _ _ | assumption | apply below_alloc | apply pw_below_drewN | apply below_drew1 | (refine below_step ?_ (by assumption)))))).mono ?_; rintro e_ w9 ⟨rfl, hb9⟩; have HB9 : Below w5.heap.size w5 w9 := (by repeat (first | exact Below.refl _ _ | assumption | apply below_alloc | apply pw_below_drewN | apply below_drew1 | (refine below_step ?_ (by assumption))))))
  all_goals go_wp2
  all_goals go_ret
  all_goals exact ⟨rfl, below_step HB.out (by repeat (first | exact Below.refl _ _ | assumption | apply below_alloc | apply pw_below_drewN | apply below_drew1 | (refine below_step ?_ (by assumption))))⟩
theorem seals_long (A0 : Option Addr) (c0 : Nat) (l0 : List Int) (w : World) (hl : ¬ l0.length ≤ 4000) (hm : l0.length ≤ maxLen) (hG : GL w) :
    Calls Tryd.prog 6 #[.slice A0 l0.length c0] w fun e w' => e = .returned (.bool true) ∧ Below w.heap.size w w' := by
  have d0 : decide ((l0.length : Int) > 4000) = true := decide_eq_true (by omega)
  have d1 : decide ((4000 : Int) < (l0.length : Int)) = true := decide_eq_true (by omega)
  have d2 : decide (4000 < l0.length) = true := decide_eq_true (by omega)
  have HSure := Aside0.mk (fun W (hb : Below w.heap.size w W) => belvederelaw01_sure.calls true W rfl (hG.below hb))
  have HB := Aside0.mk (Below.refl w.heap.size w)
  clear hl hG hm
  go_enter Tryd.func6, Tryd.ntmps6
  go_wp2_with (go_at_call 10; refine (HSure.out _ HB.out).mono ?_; rintro e w9 ⟨rfl, hb9⟩; have n1_ := Aside0.mk (below_step HB.out hb9); clear HB; have HB := n1_; clear n1_ hb9)
  go_ret
  exact ⟨rfl, HB.out⟩
theorem belvederelaw01_CrcSeals.walk (a0 : Option Addr) (len0 cap0 : Nat) (z0 : List Int) (w : World) (w0 : (a0 = none ∧ len0 = 0 ∧ cap0 = 0 ∧ z0 = []) ∨ ∃ x, a0 = some x ∧ len0 ≤ cap0 ∧ cap0 ≤ maxLen ∧ z0.length = cap0 ∧ (∀ i, i < z0.length → w.cell? (x.add i) = some (.int .u8 (z0.getD i 0))) ∧ ∀ n ∈ z0, (Lit.int .u8 n).wf = true) (y0 : len0 * 1 ≤ 140737488351232) (hG : GL w) :
    Calls Tryd.prog 6 #[.slice a0 len0 cap0] w fun e w' => e = .returned (.bool true) ∧ Below w.heap.size w w' := by
  obtain ⟨l0, rfl, hr0, hm0, hw0, hc0⟩ := ReadsInt.ofRowC w0
  by_cases hl : l0.length ≤ 4000
  · have hb := Crc.by_of hw0
    obtain ⟨x, e, hx, hy⟩ := Crc.ref_open_ev l0 hl hb
    obtain ⟨k, hk⟩ := Ev.rounds hy
    obtain ⟨k2, hk2⟩ := Ev.rounds (Crc.ref_seal_ev l0 hl hb)
    exact seals_open a0 cap0 l0 w (Kd.C_of_reads (d := (0 : Int)) (h1 := fun _ => rfl) hr0) hc0 hl hG x e hx k hk _ (Crc.seal_f l0 (by omega)) k2 hk2
  · exact seals_long a0 cap0 l0 w hl hm0 hG
end Go.Proofs.YtgaklpmedgcglaaDoor.P
