-- Written by a program of this session (xprint.py, over the kit's print).
import Derived.Test.YtppifefhpjhmaaaPFnMergedx0
import Derived.Test.YtppifefhpjhmaaaPFnMergedx1
import Derived.Test.YtppifefhpjhmaaaPFnMergedx3
import Derived.Test.YtppifefhpjhmaaaPFnMergedx4
import Derived.Test.YtppifefhpjhmaaaPFnMergedx5
import Derived.Test.YtppifefhpjhmaaaPFnMergedx6
namespace Go.Proofs.Ytppifefhpjhmaaa.PFnMerged
open Go.RowKit Go.Proofs.YtppifefhpjhmaaaW.PrintWords Go.Proofs.YtppifefhpjhmaaaW.PrintLast Go.Proofs.YtppifefhpjhmaaaW.PrintMore Go.Proofs.Ytppifefhpjhmaaa.XWords
attribute [local go_sem] max2_int min2_int max_two min_two max_three min_three max_four min_four   -- for this text's walks alone
set_option linter.unusedVariables false
set_option linter.unusedSimpArgs false

attribute [local go_sem high] eqA53
/-! ### laws_FnMerged: function 6 -/
mutual
def laws_FnMerged.j0 : Nat → List Int → List Int → Bool → Option (Bool)
 | 0, _, _, _ => none
 | k + 1, x0, x1, x21 => if x21 = true then (some true) else ((spec_DrawMergeSamples.f k x0).bind fun bt315 => ((spec_DrawMergeSamples.f k x1).bind fun bt321 => ((spec_GoodSamples.f k bt315.1).bind fun t327 => (if t327 = true then ((spec_GoodSamples.f k bt315.2).bind fun t328 => (if t328 = true then ((spec_GoodSamples.f k bt321.1).bind fun t329 => (if t329 = true then (laws_FnMerged.j1 k bt315.1 bt315.2 bt321.1 (decide ((wrap64 ((wrap64 ((bt315.1.length : Int) + (bt315.2.length : Int))) + (bt321.1.length : Int))) > 2000))) else (laws_FnMerged.j1 k bt315.1 bt315.2 bt321.1 true))) else (laws_FnMerged.j1 k bt315.1 bt315.2 bt321.1 true))) else (laws_FnMerged.j1 k bt315.1 bt315.2 bt321.1 true)))))
def laws_FnMerged.j1 : Nat → List (S53) → List (S53) → List (S53) → Bool → Option (Bool)
 | 0, _, _, _, _ => none
 | k + 1, x5, x6, x7, x55 => if x55 = true then (some true) else ((impl_MergeSamples.f k x5 x6).bind fun t330 => ((impl_MergeSamples.f k x5 x5).bind fun t333 => ((laws_zSamples.f k t333 x5).bind fun t336 => (if t336 = true then ((impl_MergeSamples.f k t330 x7).bind fun t337 => ((impl_MergeSamples.f k x6 x7).bind fun t340 => ((impl_MergeSamples.f k x5 t340).bind fun t343 => ((laws_zSamples.f k t337 t343).bind fun t346 => (laws_FnMerged.j2 k x5 x6 t330 (!t346)))))) else (laws_FnMerged.j2 k x5 x6 t330 true)))))
def laws_FnMerged.j2 : Nat → List (S53) → List (S53) → List (S53) → Bool → Option (Bool)
 | 0, _, _, _, _ => none
 | k + 1, x5, x6, x9, x76 => if x76 = true then (some false) else (laws_FnMerged.l0 k x5 x6 x9 x9 (x9.length : Int) 0)
def laws_FnMerged.l0 : Nat → List (S53) → List (S53) → List (S53) → List (S53) → Int → Int → Option (Bool)
 | 0, _, _, _, _, _, _ => none
 | k + 1, x5, x6, x9, x77, x78, x79 => if x79 < x78 then (if 0 ≤ x79 then (if x79 < (x77.length : Int) then ((impl_CutSamples.f k x5 ((rd_T53 x77 x79).f0) ((rd_T53 x77 x79).f0)).bind fun t349 => ((impl_CutSamples.f k x6 ((rd_T53 x77 x79).f0) ((rd_T53 x77 x79).f0)).bind fun t352 => (if (t349.length : Int) > 0 then (if 0 < (t349.length : Int) then (if (!(((rd_T53 t349 0).f0) == ((rd_T53 x77 x79).f0)) || (!(((rd_T53 t349 0).f1) == ((rd_T53 x77 x79).f1)))) = true then (laws_FnMerged.j4 k x5 x6 x9 x77 x78 x79 true) else (if (t349.length : Int) = 0 then (if (t352.length : Int) = 1 then (if 0 < (t352.length : Int) then (laws_FnMerged.j4 k x5 x6 x9 x77 x78 x79 (!(((rd_T53 t352 0).f0) == ((rd_T53 x77 x79).f0)) || (!(((rd_T53 t352 0).f1) == ((rd_T53 x77 x79).f1))))) else (none)) else (laws_FnMerged.j4 k x5 x6 x9 x77 x78 x79 true)) else (laws_FnMerged.j4 k x5 x6 x9 x77 x78 x79 false))) else (none)) else (if (t349.length : Int) = 0 then (if (t352.length : Int) = 1 then (if 0 < (t352.length : Int) then (laws_FnMerged.j4 k x5 x6 x9 x77 x78 x79 (!(((rd_T53 t352 0).f0) == ((rd_T53 x77 x79).f0)) || (!(((rd_T53 t352 0).f1) == ((rd_T53 x77 x79).f1))))) else (none)) else (laws_FnMerged.j4 k x5 x6 x9 x77 x78 x79 true)) else (laws_FnMerged.j4 k x5 x6 x9 x77 x78 x79 false))))) else (none)) else (none)) else (if (x9.length : Int) ≥ (x5.length : Int) then (some (decide ((x9.length : Int) ≥ (x6.length : Int)))) else (some false))
def laws_FnMerged.j4 : Nat → List (S53) → List (S53) → List (S53) → List (S53) → Int → Int → Bool → Option (Bool)
 | 0, _, _, _, _, _, _, _ => none
 | k + 1, x5, x6, x9, x77, x78, x79, x121 => if x121 = true then (some false) else (laws_FnMerged.l0 k x5 x6 x9 x77 x78 (wrap64 (x79 + 1)))
end
def laws_FnMerged.f (k : Nat) (l0 : List Int) (l1 : List Int) : Option (Bool) := if (l0.length : Int) > 1048576 then (laws_FnMerged.j0 k l0 l1 true) else (laws_FnMerged.j0 k l0 l1 (decide ((l1.length : Int) > 1048576)))
theorem laws_FnMerged.mono_l : ∀ k, (∀ y0 y1 y2, LeO (laws_FnMerged.j0 k y0 y1 y2) (laws_FnMerged.j0 (k + 1) y0 y1 y2)) ∧ (∀ y0 y1 y2 y3, LeO (laws_FnMerged.j1 k y0 y1 y2 y3) (laws_FnMerged.j1 (k + 1) y0 y1 y2 y3)) ∧ (∀ y0 y1 y2 y3, LeO (laws_FnMerged.j2 k y0 y1 y2 y3) (laws_FnMerged.j2 (k + 1) y0 y1 y2 y3)) ∧ (∀ y0 y1 y2 y3 y4 y5, LeO (laws_FnMerged.l0 k y0 y1 y2 y3 y4 y5) (laws_FnMerged.l0 (k + 1) y0 y1 y2 y3 y4 y5)) ∧ (∀ y0 y1 y2 y3 y4 y5 y6, LeO (laws_FnMerged.j4 k y0 y1 y2 y3 y4 y5 y6) (laws_FnMerged.j4 (k + 1) y0 y1 y2 y3 y4 y5 y6))
 | 0 => ⟨fun _ _ _ r h => by simp [laws_FnMerged.j0] at h, fun _ _ _ _ r h => by simp [laws_FnMerged.j1] at h, fun _ _ _ _ r h => by simp [laws_FnMerged.j2] at h, fun _ _ _ _ _ _ r h => by simp [laws_FnMerged.l0] at h, fun _ _ _ _ _ _ _ r h => by simp [laws_FnMerged.j4] at h⟩
 | k + 1 => by
  obtain ⟨ih0, ih1, ih2, ih3, ih4⟩ := laws_FnMerged.mono_l k
  refine ⟨?_, ?_, ?_, ?_, ?_⟩
  ·intro y0 y1 y2
   unfold laws_FnMerged.j0
   repeat' first
   | (with_reducible exact ih0 _ _ _)
   | (with_reducible exact ih1 _ _ _ _)
   | (with_reducible exact ih2 _ _ _ _)
   | (with_reducible exact ih3 _ _ _ _ _ _)
   | (with_reducible exact ih4 _ _ _ _ _ _ _)
   | (with_reducible exact impl_CutSamples.mono _ _ _ _)
   | (with_reducible exact impl_MergeSamples.mono _ _ _)
   | (with_reducible exact laws_zSamples.mono _ _ _)
   | (with_reducible exact spec_DrawMergeSamples.mono _ _)
   | (with_reducible exact spec_GoodSamples.mono _ _)
   | (with_reducible exact LeO.refl _)
   | (with_reducible exact LeO.none _)
   | (with_reducible refine LeO.ite ?_ ?_)
   | (with_reducible refine LeO.bind ?_ (fun _ => ?_))
   | exact ih0 _ _ _
   | exact ih1 _ _ _ _
   | exact ih2 _ _ _ _
   | exact ih3 _ _ _ _ _ _
   | exact ih4 _ _ _ _ _ _ _
   | exact impl_CutSamples.mono _ _ _ _
   | exact impl_MergeSamples.mono _ _ _
   | exact laws_zSamples.mono _ _ _
   | exact spec_DrawMergeSamples.mono _ _
   | exact spec_GoodSamples.mono _ _
   | exact LeO.none _
   | refine LeO.ite ?_ ?_
   | refine LeO.bind ?_ (fun _ => ?_)
  ·intro y0 y1 y2 y3
   unfold laws_FnMerged.j1
   repeat' first
   | (with_reducible exact ih0 _ _ _)
   | (with_reducible exact ih1 _ _ _ _)
   | (with_reducible exact ih2 _ _ _ _)
   | (with_reducible exact ih3 _ _ _ _ _ _)
   | (with_reducible exact ih4 _ _ _ _ _ _ _)
   | (with_reducible exact impl_CutSamples.mono _ _ _ _)
   | (with_reducible exact impl_MergeSamples.mono _ _ _)
   | (with_reducible exact laws_zSamples.mono _ _ _)
   | (with_reducible exact spec_DrawMergeSamples.mono _ _)
   | (with_reducible exact spec_GoodSamples.mono _ _)
   | (with_reducible exact LeO.refl _)
   | (with_reducible exact LeO.none _)
   | (with_reducible refine LeO.ite ?_ ?_)
   | (with_reducible refine LeO.bind ?_ (fun _ => ?_))
   | exact ih0 _ _ _
   | exact ih1 _ _ _ _
   | exact ih2 _ _ _ _
   | exact ih3 _ _ _ _ _ _
   | exact ih4 _ _ _ _ _ _ _
   | exact impl_CutSamples.mono _ _ _ _
   | exact impl_MergeSamples.mono _ _ _
   | exact laws_zSamples.mono _ _ _
   | exact spec_DrawMergeSamples.mono _ _
   | exact spec_GoodSamples.mono _ _
   | exact LeO.none _
   | refine LeO.ite ?_ ?_
   | refine LeO.bind ?_ (fun _ => ?_)
  ·intro y0 y1 y2 y3
   unfold laws_FnMerged.j2
   repeat' first
   | (with_reducible exact ih0 _ _ _)
   | (with_reducible exact ih1 _ _ _ _)
   | (with_reducible exact ih2 _ _ _ _)
   | (with_reducible exact ih3 _ _ _ _ _ _)
   | (with_reducible exact ih4 _ _ _ _ _ _ _)
   | (with_reducible exact impl_CutSamples.mono _ _ _ _)
   | (with_reducible exact impl_MergeSamples.mono _ _ _)
   | (with_reducible exact laws_zSamples.mono _ _ _)
   | (with_reducible exact spec_DrawMergeSamples.mono _ _)
   | (with_reducible exact spec_GoodSamples.mono _ _)
   | (with_reducible exact LeO.refl _)
   | (with_reducible exact LeO.none _)
   | (with_reducible refine LeO.ite ?_ ?_)
   | (with_reducible refine LeO.bind ?_ (fun _ => ?_))
   | exact ih0 _ _ _
   | exact ih1 _ _ _ _
   | exact ih2 _ _ _ _
   | exact ih3 _ _ _ _ _ _
   | exact ih4 _ _ _ _ _ _ _
   | exact impl_CutSamples.mono _ _ _ _
   | exact impl_MergeSamples.mono _ _ _
   | exact laws_zSamples.mono _ _ _
   | exact spec_DrawMergeSamples.mono _ _
   | exact spec_GoodSamples.mono _ _
   | exact LeO.none _
   | refine LeO.ite ?_ ?_
   | refine LeO.bind ?_ (fun _ => ?_)
  ·intro y0 y1 y2 y3 y4 y5
   unfold laws_FnMerged.l0
   repeat' first
   | (with_reducible exact ih0 _ _ _)
   | (with_reducible exact ih1 _ _ _ _)
   | (with_reducible exact ih2 _ _ _ _)
   | (with_reducible exact ih3 _ _ _ _ _ _)
   | (with_reducible exact ih4 _ _ _ _ _ _ _)
   | (with_reducible exact impl_CutSamples.mono _ _ _ _)
   | (with_reducible exact impl_MergeSamples.mono _ _ _)
   | (with_reducible exact laws_zSamples.mono _ _ _)
   | (with_reducible exact spec_DrawMergeSamples.mono _ _)
   | (with_reducible exact spec_GoodSamples.mono _ _)
   | (with_reducible exact LeO.refl _)
   | (with_reducible exact LeO.none _)
   | (with_reducible refine LeO.ite ?_ ?_)
   | (with_reducible refine LeO.bind ?_ (fun _ => ?_))
   | exact ih0 _ _ _
   | exact ih1 _ _ _ _
   | exact ih2 _ _ _ _
   | exact ih3 _ _ _ _ _ _
   | exact ih4 _ _ _ _ _ _ _
   | exact impl_CutSamples.mono _ _ _ _
   | exact impl_MergeSamples.mono _ _ _
   | exact laws_zSamples.mono _ _ _
   | exact spec_DrawMergeSamples.mono _ _
   | exact spec_GoodSamples.mono _ _
   | exact LeO.none _
   | refine LeO.ite ?_ ?_
   | refine LeO.bind ?_ (fun _ => ?_)
  ·intro y0 y1 y2 y3 y4 y5 y6
   unfold laws_FnMerged.j4
   repeat' first
   | (with_reducible exact ih0 _ _ _)
   | (with_reducible exact ih1 _ _ _ _)
   | (with_reducible exact ih2 _ _ _ _)
   | (with_reducible exact ih3 _ _ _ _ _ _)
   | (with_reducible exact ih4 _ _ _ _ _ _ _)
   | (with_reducible exact impl_CutSamples.mono _ _ _ _)
   | (with_reducible exact impl_MergeSamples.mono _ _ _)
   | (with_reducible exact laws_zSamples.mono _ _ _)
   | (with_reducible exact spec_DrawMergeSamples.mono _ _)
   | (with_reducible exact spec_GoodSamples.mono _ _)
   | (with_reducible exact LeO.refl _)
   | (with_reducible exact LeO.none _)
   | (with_reducible refine LeO.ite ?_ ?_)
   | (with_reducible refine LeO.bind ?_ (fun _ => ?_))
   | exact ih0 _ _ _
   | exact ih1 _ _ _ _
   | exact ih2 _ _ _ _
   | exact ih3 _ _ _ _ _ _
   | exact ih4 _ _ _ _ _ _ _
   | exact impl_CutSamples.mono _ _ _ _
   | exact impl_MergeSamples.mono _ _ _
   | exact laws_zSamples.mono _ _ _
   | exact spec_DrawMergeSamples.mono _ _
   | exact spec_GoodSamples.mono _ _
   | exact LeO.none _
   | refine LeO.ite ?_ ?_
   | refine LeO.bind ?_ (fun _ => ?_)
theorem laws_FnMerged.mono : ∀ a0 a1 k, LeO (laws_FnMerged.f k a0 a1) (laws_FnMerged.f (k + 1) a0 a1) := by
 intro a0 a1 k
 obtain ⟨ih0, ih1, ih2, ih3, ih4⟩ := laws_FnMerged.mono_l k
 unfold laws_FnMerged.f
 repeat' first
   | (with_reducible exact ih0 _ _ _)
   | (with_reducible exact ih1 _ _ _ _)
   | (with_reducible exact ih2 _ _ _ _)
   | (with_reducible exact ih3 _ _ _ _ _ _)
   | (with_reducible exact ih4 _ _ _ _ _ _ _)
   | (with_reducible exact impl_CutSamples.mono _ _ _ _)
   | (with_reducible exact impl_MergeSamples.mono _ _ _)
   | (with_reducible exact laws_zSamples.mono _ _ _)
   | (with_reducible exact spec_DrawMergeSamples.mono _ _)
   | (with_reducible exact spec_GoodSamples.mono _ _)
   | (with_reducible exact LeO.refl _)
   | (with_reducible exact LeO.none _)
   | (with_reducible refine LeO.ite ?_ ?_)
   | (with_reducible refine LeO.bind ?_ (fun _ => ?_))
   | exact ih0 _ _ _
   | exact ih1 _ _ _ _
   | exact ih2 _ _ _ _
   | exact ih3 _ _ _ _ _ _
   | exact ih4 _ _ _ _ _ _ _
   | exact impl_CutSamples.mono _ _ _ _
   | exact impl_MergeSamples.mono _ _ _
   | exact laws_zSamples.mono _ _ _
   | exact spec_DrawMergeSamples.mono _ _
   | exact spec_GoodSamples.mono _ _
   | exact LeO.none _
   | refine LeO.ite ?_ ?_
   | refine LeO.bind ?_ (fun _ => ?_)
set_option maxHeartbeats 8000000 in
set_option maxRecDepth 100000 in
theorem laws_FnMerged.calls (k : Nat) (A0 : Option Addr) (c0 : Nat) (l0 : List Int) (A1 : Option Addr) (c1 : Nat) (l1 : List Int) (r : Bool) (w : World) (hr0 : Kd.C (Kd.int .u8) w A0 l0.length l0) (hc0 : l0.length ≤ c0) (hr1 : Kd.C (Kd.int .u8) w A1 l1.length l1) (hc1 : l1.length ≤ c1) (h : laws_FnMerged.f k l0 l1 = some r) :
  Calls Try.prog 6 #[.slice A0 l0.length c0, .slice A1 l1.length c1] w fun e w' => e = .returned (.bool r) ∧ Below w.heap.size w w' := by
 have hu53 := Try.underlying53
 have HR0 := Aside0.mk hr0
 have HC0 := Aside0.mk hc0
 clear hr0 hc0
 have HR1 := Aside0.mk hr1
 have HC1 := Aside0.mk hc1
 clear hr1 hc1
 have HB := Aside0.mk (Below.refl w.heap.size w)
 have H : (if (l0.length : Int) > 1048576 then (laws_FnMerged.j0 k l0 l1 true) else (laws_FnMerged.j0 k l0 l1 (decide ((l1.length : Int) > 1048576)))) = some r := h
 clear h
 have HC3 := Aside0.mk H
 clear H
 go_enter Try.func6, Try.ntmps6
 go_upto_region 1 with (fail)
 repeat (go_quiet (fail); go_upto_region 1 with (fail))
 go_cut [21] (fun v21 wc => ∃ (kq : Nat) (x21_2 : Bool), v21 = .bool x21_2 ∧ Aside0 (laws_FnMerged.j0 kq l0 l1 x21_2 = some r) ∧ Aside0 (kq ≤ k) ∧ Aside0 (Below w.heap.size w wc))
 case first =>
  have H := HC3.out
  clear HC3
  by_cases c4 : (l0.length : Int) > 1048576
  ·rw [if_pos c4] at H
   have c4b0 : decide (1048576 < (l0.length : Int)) = true := decide_eq_true c4
   have c4b1 : decide (1048576 < l0.length) = true := decide_eq_true (by omega)
   clear c4
   (first | rw [c4b0] | (simp only [i64_w, i32_w]; rw [c4b0]) | skip)
   have H' := Aside0.mk H
   clear H
   go_wp2
   repeat (go_quiet (fail); try go_wp2)
   go_meet
   case rel => exact ⟨_, (true), (by first | rfl | (simp; done) | (simp [*]; done)), H', ⟨by first | omega | exact Nat.le_refl _⟩, ⟨by repeat (first | (with_reducible first | exact HB.out | apply zA | apply zB | apply zC) | exact HB.out)⟩⟩
  ·rw [if_neg c4] at H
   have c4b0 : decide (1048576 < (l0.length : Int)) = false := decide_eq_false c4
   have c4b1 : decide (1048576 < l0.length) = false := decide_eq_false (by omega)
   clear c4
   (first | rw [c4b0] | (simp only [i64_w, i32_w]; rw [c4b0]) | skip)
   have H' := Aside0.mk H
   clear H
   go_wp2
   repeat (go_quiet (fail); try go_wp2)
   go_meet
   case rel => exact ⟨_, (decide ((l1.length : Int) > 1048576)), (by first | rfl | (simp; done) | (simp [*]; done)), H', ⟨by first | omega | exact Nat.le_refl _⟩, ⟨by repeat (first | (with_reducible first | exact HB.out | apply zA | apply zB | apply zC) | exact HB.out)⟩⟩
 case rest =>
  clear HC3
  try clear c1
  try clear p2
  try clear c4
  try clear c4b0
  try clear c4b1
  obtain ⟨kq, x21_2, rfl, HA, HJ2, HB⟩ := hcut
  cases kq with
  | zero => exact absurd HA.out (by simp [laws_FnMerged.j0])
  | succ kj2 =>
   have H := HA.out
   clear HA
   simp only [laws_FnMerged.j0] at H
   by_cases c5 : x21_2 = true
   ·subst c5
    have H1 : (some true) = some r := by rw [if_pos rfl] at H; exact H
    clear H
    have H := H1
    clear H1
    obtain rfl := Option.some.inj H
    go_wp2
    repeat (go_quiet (fail); try go_wp2)
    go_ret
    exact ⟨by first | rfl | (simp [errW_none, errW_some] <;> rfl) | (simp [*, errW_none, errW_some] <;> rfl), by repeat (first | (with_reducible first | exact HB.out | apply zA | apply zB | apply zC) | exact HB.out)⟩
   ·replace c5 := Bool.eq_false_iff.mpr c5
    subst c5
    have H1 : ((spec_DrawMergeSamples.f kj2 l0).bind fun bt315 => ((spec_DrawMergeSamples.f kj2 l1).bind fun bt321 => ((spec_GoodSamples.f kj2 bt315.1).bind fun t327 => (if t327 = true then ((spec_GoodSamples.f kj2 bt315.2).bind fun t328 => (if t328 = true then ((spec_GoodSamples.f kj2 bt321.1).bind fun t329 => (if t329 = true then (laws_FnMerged.j1 kj2 bt315.1 bt315.2 bt321.1 (decide ((wrap64 ((wrap64 ((bt315.1.length : Int) + (bt315.2.length : Int))) + (bt321.1.length : Int))) > 2000))) else (laws_FnMerged.j1 kj2 bt315.1 bt315.2 bt321.1 true))) else (laws_FnMerged.j1 kj2 bt315.1 bt315.2 bt321.1 true))) else (laws_FnMerged.j1 kj2 bt315.1 bt315.2 bt321.1 true))))) = some r := by rw [if_neg (show ¬ (false = true) by decide)] at H; exact H
    clear H
    have H := H1
    clear H1
    replace H := Option.bind_eq_some_iff.mp H
    obtain ⟨⟨t315, t316⟩, A60, H⟩ := H
    replace H : ((spec_DrawMergeSamples.f kj2 l1).bind fun bt321 => ((spec_GoodSamples.f kj2 t315).bind fun t327 => (if t327 = true then ((spec_GoodSamples.f kj2 t316).bind fun t328 => (if t328 = true then ((spec_GoodSamples.f kj2 bt321.1).bind fun t329 => (if t329 = true then (laws_FnMerged.j1 kj2 t315 t316 bt321.1 (decide ((wrap64 ((wrap64 ((t315.length : Int) + (t316.length : Int))) + (bt321.1.length : Int))) > 2000))) else (laws_FnMerged.j1 kj2 t315 t316 bt321.1 true))) else (laws_FnMerged.j1 kj2 t315 t316 bt321.1 true))) else (laws_FnMerged.j1 kj2 t315 t316 bt321.1 true)))) = some r := H
    have A6 := Aside0.mk A60
    clear A60
    replace H := Option.bind_eq_some_iff.mp H
    obtain ⟨⟨t321, t322⟩, A70, H⟩ := H
    replace H : ((spec_GoodSamples.f kj2 t315).bind fun t327 => (if t327 = true then ((spec_GoodSamples.f kj2 t316).bind fun t328 => (if t328 = true then ((spec_GoodSamples.f kj2 t321).bind fun t329 => (if t329 = true then (laws_FnMerged.j1 kj2 t315 t316 t321 (decide ((wrap64 ((wrap64 ((t315.length : Int) + (t316.length : Int))) + (t321.length : Int))) > 2000))) else (laws_FnMerged.j1 kj2 t315 t316 t321 true))) else (laws_FnMerged.j1 kj2 t315 t316 t321 true))) else (laws_FnMerged.j1 kj2 t315 t316 t321 true))) = some r := H
    have A7 := Aside0.mk A70
    clear A70
    have HC8 := Aside0.mk H
    clear H
    go_upto_region 5 with (first | (go_at_call 23; (with_reducible refine (spec_DrawMergeSamples.calls kj2 _ _ l0 t315 t316 _ ?side1 ?side2 A6.out).mono ?_); (case side1 => repeat (first | exact (Kd.C_below HR0.out HB.out) | (with_reducible refine zJ ?_ _) | (with_reducible refine zK ?_ _) | (with_reducible refine zL ?_))); (case side2 => exact HC0.out); rintro e w9 ⟨v317, v319, rfl, ho0, ho1, hb⟩; have n0_ := Aside0.mk (Kd.R_lower ho0 (zW (by repeat (first | (with_reducible first | exact HB.out | apply zA | apply zB | apply zC) | exact HB.out)))); have n1_ := Aside0.mk (Kd.R_lower ho1 (zW (by repeat (first | (with_reducible first | exact HB.out | apply zA | apply zB | apply zC) | exact HB.out)))); have n2_ := Aside0.mk (below_step (by repeat (first | (with_reducible first | exact HB.out | apply zA | apply zB | apply zC) | exact HB.out)) hb); clear HB; have HO318 := n0_; have HO320 := n1_; have HB := n2_; clear n0_ n1_ n2_; (try clear hb); (try clear hb2); (try clear hk); (try clear hi); (try clear ho0); (try clear ho1)) | (go_at_call 23; (with_reducible refine (spec_DrawMergeSamples.calls kj2 _ _ l1 t321 t322 _ ?side1 ?side2 A7.out).mono ?_); (case side1 => repeat (first | exact (Kd.C_below HR1.out HB.out) | (with_reducible refine zJ ?_ _) | (with_reducible refine zK ?_ _) | (with_reducible refine zL ?_))); (case side2 => exact HC1.out); rintro e w10 ⟨v323, v325, rfl, ho0, ho1, hb⟩; have n0_ := Aside0.mk (Kd.R_mono (Kd.R_told (Kd.R_told (Kd.R_old (by (with_reducible repeat (first | apply zG | apply zH | apply zI)); exact HO318.out) hb) (Kd.R_base ho0)) (Kd.R_base ho1)) (fun _ h_ => h_.1)); have n1_ := Aside0.mk (Kd.R_mono (Kd.R_told (Kd.R_told (Kd.R_old (by (with_reducible repeat (first | apply zG | apply zH | apply zI)); exact HO320.out) hb) (Kd.R_base ho0)) (Kd.R_base ho1)) (fun _ h_ => h_.1)); have n2_ := Aside0.mk (Kd.R_lower (Kd.R_new' (Kd.R_new' ho0 (Kd.R_lt (by (with_reducible repeat (first | apply zG | apply zH | apply zI)); exact HO318.out))) (Kd.R_lt (by (with_reducible repeat (first | apply zG | apply zH | apply zI)); exact HO320.out))) (zW (by repeat (first | (with_reducible first | exact HB.out | apply zA | apply zB | apply zC) | exact HB.out)))); have n3_ := Aside0.mk (Kd.R_lower (Kd.R_new' (Kd.R_new' ho1 (Kd.R_lt (by (with_reducible repeat (first | apply zG | apply zH | apply zI)); exact HO318.out))) (Kd.R_lt (by (with_reducible repeat (first | apply zG | apply zH | apply zI)); exact HO320.out))) (zW (by repeat (first | (with_reducible first | exact HB.out | apply zA | apply zB | apply zC) | exact HB.out)))); have n4_ := Aside0.mk (below_step (by repeat (first | (with_reducible first | exact HB.out | apply zA | apply zB | apply zC) | exact HB.out)) hb); clear HO318; clear HO320; clear HB; have HO318 := n0_; have HO320 := n1_; have HO324 := n2_; have HO326 := n3_; have HB := n4_; clear n0_ n1_ n2_ n3_ n4_; (try clear hb); (try clear hb2); (try clear hk); (try clear hi); (try clear ho0); (try clear ho1)))
    repeat (go_quiet (first | (go_at_call 23; (with_reducible refine (spec_DrawMergeSamples.calls kj2 _ _ l0 t315 t316 _ ?side1 ?side2 A6.out).mono ?_); (case side1 => repeat (first | exact (Kd.C_below HR0.out HB.out) | (with_reducible refine zJ ?_ _) | (with_reducible refine zK ?_ _) | (with_reducible refine zL ?_))); (case side2 => exact HC0.out); rintro e w9 ⟨v317, v319, rfl, ho0, ho1, hb⟩; have n0_ := Aside0.mk (Kd.R_lower ho0 (zW (by repeat (first | (with_reducible first | exact HB.out | apply zA | apply zB | apply zC) | exact HB.out)))); have n1_ := Aside0.mk (Kd.R_lower ho1 (zW (by repeat (first | (with_reducible first | exact HB.out | apply zA | apply zB | apply zC) | exact HB.out)))); have n2_ := Aside0.mk (below_step (by repeat (first | (with_reducible first | exact HB.out | apply zA | apply zB | apply zC) | exact HB.out)) hb); clear HB; have HO318 := n0_; have HO320 := n1_; have HB := n2_; clear n0_ n1_ n2_; (try clear hb); (try clear hb2); (try clear hk); (try clear hi); (try clear ho0); (try clear ho1)) | (go_at_call 23; (with_reducible refine (spec_DrawMergeSamples.calls kj2 _ _ l1 t321 t322 _ ?side1 ?side2 A7.out).mono ?_); (case side1 => repeat (first | exact (Kd.C_below HR1.out HB.out) | (with_reducible refine zJ ?_ _) | (with_reducible refine zK ?_ _) | (with_reducible refine zL ?_))); (case side2 => exact HC1.out); rintro e w10 ⟨v323, v325, rfl, ho0, ho1, hb⟩; have n0_ := Aside0.mk (Kd.R_mono (Kd.R_told (Kd.R_told (Kd.R_old (by (with_reducible repeat (first | apply zG | apply zH | apply zI)); exact HO318.out) hb) (Kd.R_base ho0)) (Kd.R_base ho1)) (fun _ h_ => h_.1)); have n1_ := Aside0.mk (Kd.R_mono (Kd.R_told (Kd.R_told (Kd.R_old (by (with_reducible repeat (first | apply zG | apply zH | apply zI)); exact HO320.out) hb) (Kd.R_base ho0)) (Kd.R_base ho1)) (fun _ h_ => h_.1)); have n2_ := Aside0.mk (Kd.R_lower (Kd.R_new' (Kd.R_new' ho0 (Kd.R_lt (by (with_reducible repeat (first | apply zG | apply zH | apply zI)); exact HO318.out))) (Kd.R_lt (by (with_reducible repeat (first | apply zG | apply zH | apply zI)); exact HO320.out))) (zW (by repeat (first | (with_reducible first | exact HB.out | apply zA | apply zB | apply zC) | exact HB.out)))); have n3_ := Aside0.mk (Kd.R_lower (Kd.R_new' (Kd.R_new' ho1 (Kd.R_lt (by (with_reducible repeat (first | apply zG | apply zH | apply zI)); exact HO318.out))) (Kd.R_lt (by (with_reducible repeat (first | apply zG | apply zH | apply zI)); exact HO320.out))) (zW (by repeat (first | (with_reducible first | exact HB.out | apply zA | apply zB | apply zC) | exact HB.out)))); have n4_ := Aside0.mk (below_step (by repeat (first | (with_reducible first | exact HB.out | apply zA | apply zB | apply zC) | exact HB.out)) hb); clear HO318; clear HO320; clear HB; have HO318 := n0_; have HO320 := n1_; have HO324 := n2_; have HO326 := n3_; have HB := n4_; clear n0_ n1_ n2_ n3_ n4_; (try clear hb); (try clear hb2); (try clear hk); (try clear hi); (try clear ho0); (try clear ho1))); go_upto_region 5 with (first | (go_at_call 23; (with_reducible refine (spec_DrawMergeSamples.calls kj2 _ _ l0 t315 t316 _ ?side1 ?side2 A6.out).mono ?_); (case side1 => repeat (first | exact (Kd.C_below HR0.out HB.out) | (with_reducible refine zJ ?_ _) | (with_reducible refine zK ?_ _) | (with_reducible refine zL ?_))); (case side2 => exact HC0.out); rintro e w9 ⟨v317, v319, rfl, ho0, ho1, hb⟩; have n0_ := Aside0.mk (Kd.R_lower ho0 (zW (by repeat (first | (with_reducible first | exact HB.out | apply zA | apply zB | apply zC) | exact HB.out)))); have n1_ := Aside0.mk (Kd.R_lower ho1 (zW (by repeat (first | (with_reducible first | exact HB.out | apply zA | apply zB | apply zC) | exact HB.out)))); have n2_ := Aside0.mk (below_step (by repeat (first | (with_reducible first | exact HB.out | apply zA | apply zB | apply zC) | exact HB.out)) hb); clear HB; have HO318 := n0_; have HO320 := n1_; have HB := n2_; clear n0_ n1_ n2_; (try clear hb); (try clear hb2); (try clear hk); (try clear hi); (try clear ho0); (try clear ho1)) | (go_at_call 23; (with_reducible refine (spec_DrawMergeSamples.calls kj2 _ _ l1 t321 t322 _ ?side1 ?side2 A7.out).mono ?_); (case side1 => repeat (first | exact (Kd.C_below HR1.out HB.out) | (with_reducible refine zJ ?_ _) | (with_reducible refine zK ?_ _) | (with_reducible refine zL ?_))); (case side2 => exact HC1.out); rintro e w10 ⟨v323, v325, rfl, ho0, ho1, hb⟩; have n0_ := Aside0.mk (Kd.R_mono (Kd.R_told (Kd.R_told (Kd.R_old (by (with_reducible repeat (first | apply zG | apply zH | apply zI)); exact HO318.out) hb) (Kd.R_base ho0)) (Kd.R_base ho1)) (fun _ h_ => h_.1)); have n1_ := Aside0.mk (Kd.R_mono (Kd.R_told (Kd.R_told (Kd.R_old (by (with_reducible repeat (first | apply zG | apply zH | apply zI)); exact HO320.out) hb) (Kd.R_base ho0)) (Kd.R_base ho1)) (fun _ h_ => h_.1)); have n2_ := Aside0.mk (Kd.R_lower (Kd.R_new' (Kd.R_new' ho0 (Kd.R_lt (by (with_reducible repeat (first | apply zG | apply zH | apply zI)); exact HO318.out))) (Kd.R_lt (by (with_reducible repeat (first | apply zG | apply zH | apply zI)); exact HO320.out))) (zW (by repeat (first | (with_reducible first | exact HB.out | apply zA | apply zB | apply zC) | exact HB.out)))); have n3_ := Aside0.mk (Kd.R_lower (Kd.R_new' (Kd.R_new' ho1 (Kd.R_lt (by (with_reducible repeat (first | apply zG | apply zH | apply zI)); exact HO318.out))) (Kd.R_lt (by (with_reducible repeat (first | apply zG | apply zH | apply zI)); exact HO320.out))) (zW (by repeat (first | (with_reducible first | exact HB.out | apply zA | apply zB | apply zC) | exact HB.out)))); have n4_ := Aside0.mk (below_step (by repeat (first | (with_reducible first | exact HB.out | apply zA | apply zB | apply zC) | exact HB.out)) hb); clear HO318; clear HO320; clear HB; have HO318 := n0_; have HO320 := n1_; have HO324 := n2_; have HO326 := n3_; have HB := n4_; clear n0_ n1_ n2_ n3_ n4_; (try clear hb); (try clear hb2); (try clear hk); (try clear hi); (try clear ho0); (try clear ho1))))
    (try simp only [Act.put, zT, zU, zV])
    go_cut [55] (fun v55 wc => ∃ (kq : Nat) (x55_7 : Bool), v55 = .bool x55_7 ∧ Aside0 (laws_FnMerged.j1 kq t315 t316 t321 x55_7 = some r) ∧ Aside0 (kq ≤ kj2) ∧ Aside0 (Kd.R k53 53 wc w.heap.size (fun k_ => some k_ ≠ (v319 : Value).ownBlock ∧ some k_ ≠ (v323 : Value).ownBlock) v317 t315) ∧ Aside0 (Kd.R k53 53 wc w.heap.size (fun k_ => some k_ ≠ (v317 : Value).ownBlock ∧ some k_ ≠ (v323 : Value).ownBlock) v319 t316) ∧ Aside0 (Kd.R k53 53 wc w.heap.size (fun k_ => some k_ ≠ (v317 : Value).ownBlock ∧ some k_ ≠ (v319 : Value).ownBlock) v323 t321) ∧ Aside0 (Below w.heap.size w wc))
    case first =>
     have H := HC8.out
     clear HC8
     replace H := Option.bind_eq_some_iff.mp H
     obtain ⟨t327, A110, H⟩ := H
     replace H : (if t327 = true then ((spec_GoodSamples.f kj2 t316).bind fun t328 => (if t328 = true then ((spec_GoodSamples.f kj2 t321).bind fun t329 => (if t329 = true then (laws_FnMerged.j1 kj2 t315 t316 t321 (decide ((wrap64 ((wrap64 ((t315.length : Int) + (t316.length : Int))) + (t321.length : Int))) > 2000))) else (laws_FnMerged.j1 kj2 t315 t316 t321 true))) else (laws_FnMerged.j1 kj2 t315 t316 t321 true))) else (laws_FnMerged.j1 kj2 t315 t316 t321 true)) = some r := H
     have A11 := Aside0.mk A110
     clear A110
     by_cases c12 : t327 = true
     ·subst c12
      have H1 : ((spec_GoodSamples.f kj2 t316).bind fun t328 => (if t328 = true then ((spec_GoodSamples.f kj2 t321).bind fun t329 => (if t329 = true then (laws_FnMerged.j1 kj2 t315 t316 t321 (decide ((wrap64 ((wrap64 ((t315.length : Int) + (t316.length : Int))) + (t321.length : Int))) > 2000))) else (laws_FnMerged.j1 kj2 t315 t316 t321 true))) else (laws_FnMerged.j1 kj2 t315 t316 t321 true))) = some r := by rw [if_pos rfl] at H; exact H
      clear H
      have H := H1
      clear H1
      replace H := Option.bind_eq_some_iff.mp H
      obtain ⟨t328, A130, H⟩ := H
      replace H : (if t328 = true then ((spec_GoodSamples.f kj2 t321).bind fun t329 => (if t329 = true then (laws_FnMerged.j1 kj2 t315 t316 t321 (decide ((wrap64 ((wrap64 ((t315.length : Int) + (t316.length : Int))) + (t321.length : Int))) > 2000))) else (laws_FnMerged.j1 kj2 t315 t316 t321 true))) else (laws_FnMerged.j1 kj2 t315 t316 t321 true)) = some r := H
      have A13 := Aside0.mk A130
      clear A130
      by_cases c14 : t328 = true
      ·subst c14
       have H1 : ((spec_GoodSamples.f kj2 t321).bind fun t329 => (if t329 = true then (laws_FnMerged.j1 kj2 t315 t316 t321 (decide ((wrap64 ((wrap64 ((t315.length : Int) + (t316.length : Int))) + (t321.length : Int))) > 2000))) else (laws_FnMerged.j1 kj2 t315 t316 t321 true))) = some r := by rw [if_pos rfl] at H; exact H
       clear H
       have H := H1
       clear H1
       replace H := Option.bind_eq_some_iff.mp H
       obtain ⟨t329, A150, H⟩ := H
       replace H : (if t329 = true then (laws_FnMerged.j1 kj2 t315 t316 t321 (decide ((wrap64 ((wrap64 ((t315.length : Int) + (t316.length : Int))) + (t321.length : Int))) > 2000))) else (laws_FnMerged.j1 kj2 t315 t316 t321 true)) = some r := H
       have A15 := Aside0.mk A150
       clear A150
       by_cases c16 : t329 = true
       ·subst c16
        have H1 : (laws_FnMerged.j1 kj2 t315 t316 t321 (decide ((wrap64 ((wrap64 ((t315.length : Int) + (t316.length : Int))) + (t321.length : Int))) > 2000))) = some r := by rw [if_pos rfl] at H; exact H
        clear H
        have H := H1
        clear H1
        have H' := Aside0.mk H
        clear H
        obtain ⟨Ao17, co17, eo17⟩ := Kd.R_slice HO318.out
        subst eo17
        go_wp2_with (first | (go_at_call 24; (with_reducible refine (spec_GoodSamples.calls kj2 _ _ t315 true _ ?side1 ?side2 A11.out).mono ?_); (case side1 => repeat (first | exact (Kd.R_reads' HO318.out).2.2 | (with_reducible refine zJ ?_ _) | (with_reducible refine zK ?_ _) | (with_reducible refine zL ?_))); (case side2 => exact (Kd.R_reads' HO318.out).2.1); rintro e w18 ⟨rfl, hb⟩; have n0_ := Aside0.mk (Kd.R_below (by (with_reducible repeat (first | apply zG | apply zH | apply zI)); exact HO318.out) hb); have n1_ := Aside0.mk (Kd.R_below (by (with_reducible repeat (first | apply zG | apply zH | apply zI)); exact HO320.out) hb); have n2_ := Aside0.mk (Kd.R_below (by (with_reducible repeat (first | apply zG | apply zH | apply zI)); exact HO324.out) hb); have n3_ := Aside0.mk (Kd.R_below (by (with_reducible repeat (first | apply zG | apply zH | apply zI)); exact HO326.out) hb); have n4_ := Aside0.mk (below_step (by repeat (first | (with_reducible first | exact HB.out | apply zA | apply zB | apply zC) | exact HB.out)) hb); clear HO318; clear HO320; clear HO324; clear HO326; clear HB; have HO318 := n0_; have HO320 := n1_; have HO324 := n2_; have HO326 := n3_; have HB := n4_; clear n0_ n1_ n2_ n3_ n4_; (try clear hb); (try clear hb2); (try clear hk); (try clear hi); obtain ⟨Ao19, co19, eo19⟩ := Kd.R_slice HO320.out; subst eo19) | (go_at_call 24; (with_reducible refine (spec_GoodSamples.calls kj2 _ _ t316 true _ ?side1 ?side2 A13.out).mono ?_); (case side1 => repeat (first | exact (Kd.R_reads' HO320.out).2.2 | (with_reducible refine zJ ?_ _) | (with_reducible refine zK ?_ _) | (with_reducible refine zL ?_))); (case side2 => exact (Kd.R_reads' HO320.out).2.1); rintro e w20 ⟨rfl, hb⟩; have n0_ := Aside0.mk (Kd.R_below (by (with_reducible repeat (first | apply zG | apply zH | apply zI)); exact HO318.out) hb); have n1_ := Aside0.mk (Kd.R_below (by (with_reducible repeat (first | apply zG | apply zH | apply zI)); exact HO320.out) hb); have n2_ := Aside0.mk (Kd.R_below (by (with_reducible repeat (first | apply zG | apply zH | apply zI)); exact HO324.out) hb); have n3_ := Aside0.mk (Kd.R_below (by (with_reducible repeat (first | apply zG | apply zH | apply zI)); exact HO326.out) hb); have n4_ := Aside0.mk (below_step (by repeat (first | (with_reducible first | exact HB.out | apply zA | apply zB | apply zC) | exact HB.out)) hb); clear HO318; clear HO320; clear HO324; clear HO326; clear HB; have HO318 := n0_; have HO320 := n1_; have HO324 := n2_; have HO326 := n3_; have HB := n4_; clear n0_ n1_ n2_ n3_ n4_; (try clear hb); (try clear hb2); (try clear hk); (try clear hi); obtain ⟨Ao21, co21, eo21⟩ := Kd.R_slice HO324.out; subst eo21) | (go_at_call 24; (with_reducible refine (spec_GoodSamples.calls kj2 _ _ t321 true _ ?side1 ?side2 A15.out).mono ?_); (case side1 => repeat (first | exact (Kd.R_reads' HO324.out).2.2 | (with_reducible refine zJ ?_ _) | (with_reducible refine zK ?_ _) | (with_reducible refine zL ?_))); (case side2 => exact (Kd.R_reads' HO324.out).2.1); rintro e w22 ⟨rfl, hb⟩; have n0_ := Aside0.mk (Kd.R_below (by (with_reducible repeat (first | apply zG | apply zH | apply zI)); exact HO318.out) hb); have n1_ := Aside0.mk (Kd.R_below (by (with_reducible repeat (first | apply zG | apply zH | apply zI)); exact HO320.out) hb); have n2_ := Aside0.mk (Kd.R_below (by (with_reducible repeat (first | apply zG | apply zH | apply zI)); exact HO324.out) hb); have n3_ := Aside0.mk (Kd.R_below (by (with_reducible repeat (first | apply zG | apply zH | apply zI)); exact HO326.out) hb); have n4_ := Aside0.mk (below_step (by repeat (first | (with_reducible first | exact HB.out | apply zA | apply zB | apply zC) | exact HB.out)) hb); clear HO318; clear HO320; clear HO324; clear HO326; clear HB; have HO318 := n0_; have HO320 := n1_; have HO324 := n2_; have HO326 := n3_; have HB := n4_; clear n0_ n1_ n2_ n3_ n4_; (try clear hb); (try clear hb2); (try clear hk); (try clear hi)))
        repeat (go_quiet (first | (go_at_call 24; (with_reducible refine (spec_GoodSamples.calls kj2 _ _ t315 true _ ?side1 ?side2 A11.out).mono ?_); (case side1 => repeat (first | exact (Kd.R_reads' HO318.out).2.2 | (with_reducible refine zJ ?_ _) | (with_reducible refine zK ?_ _) | (with_reducible refine zL ?_))); (case side2 => exact (Kd.R_reads' HO318.out).2.1); rintro e w18 ⟨rfl, hb⟩; have n0_ := Aside0.mk (Kd.R_below (by (with_reducible repeat (first | apply zG | apply zH | apply zI)); exact HO318.out) hb); have n1_ := Aside0.mk (Kd.R_below (by (with_reducible repeat (first | apply zG | apply zH | apply zI)); exact HO320.out) hb); have n2_ := Aside0.mk (Kd.R_below (by (with_reducible repeat (first | apply zG | apply zH | apply zI)); exact HO324.out) hb); have n3_ := Aside0.mk (Kd.R_below (by (with_reducible repeat (first | apply zG | apply zH | apply zI)); exact HO326.out) hb); have n4_ := Aside0.mk (below_step (by repeat (first | (with_reducible first | exact HB.out | apply zA | apply zB | apply zC) | exact HB.out)) hb); clear HO318; clear HO320; clear HO324; clear HO326; clear HB; have HO318 := n0_; have HO320 := n1_; have HO324 := n2_; have HO326 := n3_; have HB := n4_; clear n0_ n1_ n2_ n3_ n4_; (try clear hb); (try clear hb2); (try clear hk); (try clear hi); obtain ⟨Ao19, co19, eo19⟩ := Kd.R_slice HO320.out; subst eo19) | (go_at_call 24; (with_reducible refine (spec_GoodSamples.calls kj2 _ _ t316 true _ ?side1 ?side2 A13.out).mono ?_); (case side1 => repeat (first | exact (Kd.R_reads' HO320.out).2.2 | (with_reducible refine zJ ?_ _) | (with_reducible refine zK ?_ _) | (with_reducible refine zL ?_))); (case side2 => exact (Kd.R_reads' HO320.out).2.1); rintro e w20 ⟨rfl, hb⟩; have n0_ := Aside0.mk (Kd.R_below (by (with_reducible repeat (first | apply zG | apply zH | apply zI)); exact HO318.out) hb); have n1_ := Aside0.mk (Kd.R_below (by (with_reducible repeat (first | apply zG | apply zH | apply zI)); exact HO320.out) hb); have n2_ := Aside0.mk (Kd.R_below (by (with_reducible repeat (first | apply zG | apply zH | apply zI)); exact HO324.out) hb); have n3_ := Aside0.mk (Kd.R_below (by (with_reducible repeat (first | apply zG | apply zH | apply zI)); exact HO326.out) hb); have n4_ := Aside0.mk (below_step (by repeat (first | (with_reducible first | exact HB.out | apply zA | apply zB | apply zC) | exact HB.out)) hb); clear HO318; clear HO320; clear HO324; clear HO326; clear HB; have HO318 := n0_; have HO320 := n1_; have HO324 := n2_; have HO326 := n3_; have HB := n4_; clear n0_ n1_ n2_ n3_ n4_; (try clear hb); (try clear hb2); (try clear hk); (try clear hi); obtain ⟨Ao21, co21, eo21⟩ := Kd.R_slice HO324.out; subst eo21) | (go_at_call 24; (with_reducible refine (spec_GoodSamples.calls kj2 _ _ t321 true _ ?side1 ?side2 A15.out).mono ?_); (case side1 => repeat (first | exact (Kd.R_reads' HO324.out).2.2 | (with_reducible refine zJ ?_ _) | (with_reducible refine zK ?_ _) | (with_reducible refine zL ?_))); (case side2 => exact (Kd.R_reads' HO324.out).2.1); rintro e w22 ⟨rfl, hb⟩; have n0_ := Aside0.mk (Kd.R_below (by (with_reducible repeat (first | apply zG | apply zH | apply zI)); exact HO318.out) hb); have n1_ := Aside0.mk (Kd.R_below (by (with_reducible repeat (first | apply zG | apply zH | apply zI)); exact HO320.out) hb); have n2_ := Aside0.mk (Kd.R_below (by (with_reducible repeat (first | apply zG | apply zH | apply zI)); exact HO324.out) hb); have n3_ := Aside0.mk (Kd.R_below (by (with_reducible repeat (first | apply zG | apply zH | apply zI)); exact HO326.out) hb); have n4_ := Aside0.mk (below_step (by repeat (first | (with_reducible first | exact HB.out | apply zA | apply zB | apply zC) | exact HB.out)) hb); clear HO318; clear HO320; clear HO324; clear HO326; clear HB; have HO318 := n0_; have HO320 := n1_; have HO324 := n2_; have HO326 := n3_; have HB := n4_; clear n0_ n1_ n2_ n3_ n4_; (try clear hb); (try clear hb2); (try clear hk); (try clear hi))); try go_wp2_with (first | (go_at_call 24; (with_reducible refine (spec_GoodSamples.calls kj2 _ _ t315 true _ ?side1 ?side2 A11.out).mono ?_); (case side1 => repeat (first | exact (Kd.R_reads' HO318.out).2.2 | (with_reducible refine zJ ?_ _) | (with_reducible refine zK ?_ _) | (with_reducible refine zL ?_))); (case side2 => exact (Kd.R_reads' HO318.out).2.1); rintro e w18 ⟨rfl, hb⟩; have n0_ := Aside0.mk (Kd.R_below (by (with_reducible repeat (first | apply zG | apply zH | apply zI)); exact HO318.out) hb); have n1_ := Aside0.mk (Kd.R_below (by (with_reducible repeat (first | apply zG | apply zH | apply zI)); exact HO320.out) hb); have n2_ := Aside0.mk (Kd.R_below (by (with_reducible repeat (first | apply zG | apply zH | apply zI)); exact HO324.out) hb); have n3_ := Aside0.mk (Kd.R_below (by (with_reducible repeat (first | apply zG | apply zH | apply zI)); exact HO326.out) hb); have n4_ := Aside0.mk (below_step (by repeat (first | (with_reducible first | exact HB.out | apply zA | apply zB | apply zC) | exact HB.out)) hb); clear HO318; clear HO320; clear HO324; clear HO326; clear HB; have HO318 := n0_; have HO320 := n1_; have HO324 := n2_; have HO326 := n3_; have HB := n4_; clear n0_ n1_ n2_ n3_ n4_; (try clear hb); (try clear hb2); (try clear hk); (try clear hi); obtain ⟨Ao19, co19, eo19⟩ := Kd.R_slice HO320.out; subst eo19) | (go_at_call 24; (with_reducible refine (spec_GoodSamples.calls kj2 _ _ t316 true _ ?side1 ?side2 A13.out).mono ?_); (case side1 => repeat (first | exact (Kd.R_reads' HO320.out).2.2 | (with_reducible refine zJ ?_ _) | (with_reducible refine zK ?_ _) | (with_reducible refine zL ?_))); (case side2 => exact (Kd.R_reads' HO320.out).2.1); rintro e w20 ⟨rfl, hb⟩; have n0_ := Aside0.mk (Kd.R_below (by (with_reducible repeat (first | apply zG | apply zH | apply zI)); exact HO318.out) hb); have n1_ := Aside0.mk (Kd.R_below (by (with_reducible repeat (first | apply zG | apply zH | apply zI)); exact HO320.out) hb); have n2_ := Aside0.mk (Kd.R_below (by (with_reducible repeat (first | apply zG | apply zH | apply zI)); exact HO324.out) hb); have n3_ := Aside0.mk (Kd.R_below (by (with_reducible repeat (first | apply zG | apply zH | apply zI)); exact HO326.out) hb); have n4_ := Aside0.mk (below_step (by repeat (first | (with_reducible first | exact HB.out | apply zA | apply zB | apply zC) | exact HB.out)) hb); clear HO318; clear HO320; clear HO324; clear HO326; clear HB; have HO318 := n0_; have HO320 := n1_; have HO324 := n2_; have HO326 := n3_; have HB := n4_; clear n0_ n1_ n2_ n3_ n4_; (try clear hb); (try clear hb2); (try clear hk); (try clear hi); obtain ⟨Ao21, co21, eo21⟩ := Kd.R_slice HO324.out; subst eo21) | (go_at_call 24; (with_reducible refine (spec_GoodSamples.calls kj2 _ _ t321 true _ ?side1 ?side2 A15.out).mono ?_); (case side1 => repeat (first | exact (Kd.R_reads' HO324.out).2.2 | (with_reducible refine zJ ?_ _) | (with_reducible refine zK ?_ _) | (with_reducible refine zL ?_))); (case side2 => exact (Kd.R_reads' HO324.out).2.1); rintro e w22 ⟨rfl, hb⟩; have n0_ := Aside0.mk (Kd.R_below (by (with_reducible repeat (first | apply zG | apply zH | apply zI)); exact HO318.out) hb); have n1_ := Aside0.mk (Kd.R_below (by (with_reducible repeat (first | apply zG | apply zH | apply zI)); exact HO320.out) hb); have n2_ := Aside0.mk (Kd.R_below (by (with_reducible repeat (first | apply zG | apply zH | apply zI)); exact HO324.out) hb); have n3_ := Aside0.mk (Kd.R_below (by (with_reducible repeat (first | apply zG | apply zH | apply zI)); exact HO326.out) hb); have n4_ := Aside0.mk (below_step (by repeat (first | (with_reducible first | exact HB.out | apply zA | apply zB | apply zC) | exact HB.out)) hb); clear HO318; clear HO320; clear HO324; clear HO326; clear HB; have HO318 := n0_; have HO320 := n1_; have HO324 := n2_; have HO326 := n3_; have HB := n4_; clear n0_ n1_ n2_ n3_ n4_; (try clear hb); (try clear hb2); (try clear hk); (try clear hi))))
        go_meet
        case rel => exact ⟨_, (decide ((wrap64 ((wrap64 ((t315.length : Int) + (t316.length : Int))) + (t321.length : Int))) > 2000)), (by first | rfl | (simp; done) | (simp [*]; done)), H', ⟨by have := HJ2.out; first | omega | exact Nat.le_refl _⟩, ⟨by (with_reducible repeat (first | apply zG | apply zH | apply zI)); exact Kd.R_mono HO318.out (fun _ hk => ⟨hk.1.1, hk.1.2⟩)⟩, ⟨by (with_reducible repeat (first | apply zG | apply zH | apply zI)); exact Kd.R_mono HO320.out (fun _ hk => ⟨hk.1.1, hk.1.2⟩)⟩, ⟨by (with_reducible repeat (first | apply zG | apply zH | apply zI)); exact Kd.R_mono HO324.out (fun _ hk => ⟨hk.1.2, hk.2⟩)⟩, ⟨by repeat (first | (with_reducible first | exact HB.out | apply zA | apply zB | apply zC) | exact HB.out)⟩⟩
       ·replace c16 := Bool.eq_false_iff.mpr c16
        subst c16
        have H1 : (laws_FnMerged.j1 kj2 t315 t316 t321 true) = some r := by rw [if_neg (show ¬ (false = true) by decide)] at H; exact H
        clear H
        have H := H1
        clear H1
        have H' := Aside0.mk H
        clear H
        obtain ⟨Ao23, co23, eo23⟩ := Kd.R_slice HO318.out
        subst eo23
        go_wp2_with (first | (go_at_call 24; (with_reducible refine (spec_GoodSamples.calls kj2 _ _ t315 true _ ?side1 ?side2 A11.out).mono ?_); (case side1 => repeat (first | exact (Kd.R_reads' HO318.out).2.2 | (with_reducible refine zJ ?_ _) | (with_reducible refine zK ?_ _) | (with_reducible refine zL ?_))); (case side2 => exact (Kd.R_reads' HO318.out).2.1); rintro e w24 ⟨rfl, hb⟩; have n0_ := Aside0.mk (Kd.R_below (by (with_reducible repeat (first | apply zG | apply zH | apply zI)); exact HO318.out) hb); have n1_ := Aside0.mk (Kd.R_below (by (with_reducible repeat (first | apply zG | apply zH | apply zI)); exact HO320.out) hb); have n2_ := Aside0.mk (Kd.R_below (by (with_reducible repeat (first | apply zG | apply zH | apply zI)); exact HO324.out) hb); have n3_ := Aside0.mk (Kd.R_below (by (with_reducible repeat (first | apply zG | apply zH | apply zI)); exact HO326.out) hb); have n4_ := Aside0.mk (below_step (by repeat (first | (with_reducible first | exact HB.out | apply zA | apply zB | apply zC) | exact HB.out)) hb); clear HO318; clear HO320; clear HO324; clear HO326; clear HB; have HO318 := n0_; have HO320 := n1_; have HO324 := n2_; have HO326 := n3_; have HB := n4_; clear n0_ n1_ n2_ n3_ n4_; (try clear hb); (try clear hb2); (try clear hk); (try clear hi); obtain ⟨Ao25, co25, eo25⟩ := Kd.R_slice HO320.out; subst eo25) | (go_at_call 24; (with_reducible refine (spec_GoodSamples.calls kj2 _ _ t316 true _ ?side1 ?side2 A13.out).mono ?_); (case side1 => repeat (first | exact (Kd.R_reads' HO320.out).2.2 | (with_reducible refine zJ ?_ _) | (with_reducible refine zK ?_ _) | (with_reducible refine zL ?_))); (case side2 => exact (Kd.R_reads' HO320.out).2.1); rintro e w26 ⟨rfl, hb⟩; have n0_ := Aside0.mk (Kd.R_below (by (with_reducible repeat (first | apply zG | apply zH | apply zI)); exact HO318.out) hb); have n1_ := Aside0.mk (Kd.R_below (by (with_reducible repeat (first | apply zG | apply zH | apply zI)); exact HO320.out) hb); have n2_ := Aside0.mk (Kd.R_below (by (with_reducible repeat (first | apply zG | apply zH | apply zI)); exact HO324.out) hb); have n3_ := Aside0.mk (Kd.R_below (by (with_reducible repeat (first | apply zG | apply zH | apply zI)); exact HO326.out) hb); have n4_ := Aside0.mk (below_step (by repeat (first | (with_reducible first | exact HB.out | apply zA | apply zB | apply zC) | exact HB.out)) hb); clear HO318; clear HO320; clear HO324; clear HO326; clear HB; have HO318 := n0_; have HO320 := n1_; have HO324 := n2_; have HO326 := n3_; have HB := n4_; clear n0_ n1_ n2_ n3_ n4_; (try clear hb); (try clear hb2); (try clear hk); (try clear hi); obtain ⟨Ao27, co27, eo27⟩ := Kd.R_slice HO324.out; subst eo27) | (go_at_call 24; (with_reducible refine (spec_GoodSamples.calls kj2 _ _ t321 false _ ?side1 ?side2 A15.out).mono ?_); (case side1 => repeat (first | exact (Kd.R_reads' HO324.out).2.2 | (with_reducible refine zJ ?_ _) | (with_reducible refine zK ?_ _) | (with_reducible refine zL ?_))); (case side2 => exact (Kd.R_reads' HO324.out).2.1); rintro e w28 ⟨rfl, hb⟩; have n0_ := Aside0.mk (Kd.R_below (by (with_reducible repeat (first | apply zG | apply zH | apply zI)); exact HO318.out) hb); have n1_ := Aside0.mk (Kd.R_below (by (with_reducible repeat (first | apply zG | apply zH | apply zI)); exact HO320.out) hb); have n2_ := Aside0.mk (Kd.R_below (by (with_reducible repeat (first | apply zG | apply zH | apply zI)); exact HO324.out) hb); have n3_ := Aside0.mk (Kd.R_below (by (with_reducible repeat (first | apply zG | apply zH | apply zI)); exact HO326.out) hb); have n4_ := Aside0.mk (below_step (by repeat (first | (with_reducible first | exact HB.out | apply zA | apply zB | apply zC) | exact HB.out)) hb); clear HO318; clear HO320; clear HO324; clear HO326; clear HB; have HO318 := n0_; have HO320 := n1_; have HO324 := n2_; have HO326 := n3_; have HB := n4_; clear n0_ n1_ n2_ n3_ n4_; (try clear hb); (try clear hb2); (try clear hk); (try clear hi)))
        repeat (go_quiet (first | (go_at_call 24; (with_reducible refine (spec_GoodSamples.calls kj2 _ _ t315 true _ ?side1 ?side2 A11.out).mono ?_); (case side1 => repeat (first | exact (Kd.R_reads' HO318.out).2.2 | (with_reducible refine zJ ?_ _) | (with_reducible refine zK ?_ _) | (with_reducible refine zL ?_))); (case side2 => exact (Kd.R_reads' HO318.out).2.1); rintro e w24 ⟨rfl, hb⟩; have n0_ := Aside0.mk (Kd.R_below (by (with_reducible repeat (first | apply zG | apply zH | apply zI)); exact HO318.out) hb); have n1_ := Aside0.mk (Kd.R_below (by (with_reducible repeat (first | apply zG | apply zH | apply zI)); exact HO320.out) hb); have n2_ := Aside0.mk (Kd.R_below (by (with_reducible repeat (first | apply zG | apply zH | apply zI)); exact HO324.out) hb); have n3_ := Aside0.mk (Kd.R_below (by (with_reducible repeat (first | apply zG | apply zH | apply zI)); exact HO326.out) hb); have n4_ := Aside0.mk (below_step (by repeat (first | (with_reducible first | exact HB.out | apply zA | apply zB | apply zC) | exact HB.out)) hb); clear HO318; clear HO320; clear HO324; clear HO326; clear HB; have HO318 := n0_; have HO320 := n1_; have HO324 := n2_; have HO326 := n3_; have HB := n4_; clear n0_ n1_ n2_ n3_ n4_; (try clear hb); (try clear hb2); (try clear hk); (try clear hi); obtain ⟨Ao25, co25, eo25⟩ := Kd.R_slice HO320.out; subst eo25) | (go_at_call 24; (with_reducible refine (spec_GoodSamples.calls kj2 _ _ t316 true _ ?side1 ?side2 A13.out).mono ?_); (case side1 => repeat (first | exact (Kd.R_reads' HO320.out).2.2 | (with_reducible refine zJ ?_ _) | (with_reducible refine zK ?_ _) | (with_reducible refine zL ?_))); (case side2 => exact (Kd.R_reads' HO320.out).2.1); rintro e w26 ⟨rfl, hb⟩; have n0_ := Aside0.mk (Kd.R_below (by (with_reducible repeat (first | apply zG | apply zH | apply zI)); exact HO318.out) hb); have n1_ := Aside0.mk (Kd.R_below (by (with_reducible repeat (first | apply zG | apply zH | apply zI)); exact HO320.out) hb); have n2_ := Aside0.mk (Kd.R_below (by (with_reducible repeat (first | apply zG | apply zH | apply zI)); exact HO324.out) hb); have n3_ := Aside0.mk (Kd.R_below (by (with_reducible repeat (first | apply zG | apply zH | apply zI)); exact HO326.out) hb); have n4_ := Aside0.mk (below_step (by repeat (first | (with_reducible first | exact HB.out | apply zA | apply zB | apply zC) | exact HB.out)) hb); clear HO318; clear HO320; clear HO324; clear HO326; clear HB; have HO318 := n0_; have HO320 := n1_; have HO324 := n2_; have HO326 := n3_; have HB := n4_; clear n0_ n1_ n2_ n3_ n4_; (try clear hb); (try clear hb2); (try clear hk); (try clear hi); obtain ⟨Ao27, co27, eo27⟩ := Kd.R_slice HO324.out; subst eo27) | (go_at_call 24; (with_reducible refine (spec_GoodSamples.calls kj2 _ _ t321 false _ ?side1 ?side2 A15.out).mono ?_); (case side1 => repeat (first | exact (Kd.R_reads' HO324.out).2.2 | (with_reducible refine zJ ?_ _) | (with_reducible refine zK ?_ _) | (with_reducible refine zL ?_))); (case side2 => exact (Kd.R_reads' HO324.out).2.1); rintro e w28 ⟨rfl, hb⟩; have n0_ := Aside0.mk (Kd.R_below (by (with_reducible repeat (first | apply zG | apply zH | apply zI)); exact HO318.out) hb); have n1_ := Aside0.mk (Kd.R_below (by (with_reducible repeat (first | apply zG | apply zH | apply zI)); exact HO320.out) hb); have n2_ := Aside0.mk (Kd.R_below (by (with_reducible repeat (first | apply zG | apply zH | apply zI)); exact HO324.out) hb); have n3_ := Aside0.mk (Kd.R_below (by (with_reducible repeat (first | apply zG | apply zH | apply zI)); exact HO326.out) hb); have n4_ := Aside0.mk (below_step (by repeat (first | (with_reducible first | exact HB.out | apply zA | apply zB | apply zC) | exact HB.out)) hb); clear HO318; clear HO320; clear HO324; clear HO326; clear HB; have HO318 := n0_; have HO320 := n1_; have HO324 := n2_; have HO326 := n3_; have HB := n4_; clear n0_ n1_ n2_ n3_ n4_; (try clear hb); (try clear hb2); (try clear hk); (try clear hi))); try go_wp2_with (first | (go_at_call 24; (with_reducible refine (spec_GoodSamples.calls kj2 _ _ t315 true _ ?side1 ?side2 A11.out).mono ?_); (case side1 => repeat (first | exact (Kd.R_reads' HO318.out).2.2 | (with_reducible refine zJ ?_ _) | (with_reducible refine zK ?_ _) | (with_reducible refine zL ?_))); (case side2 => exact (Kd.R_reads' HO318.out).2.1); rintro e w24 ⟨rfl, hb⟩; have n0_ := Aside0.mk (Kd.R_below (by (with_reducible repeat (first | apply zG | apply zH | apply zI)); exact HO318.out) hb); have n1_ := Aside0.mk (Kd.R_below (by (with_reducible repeat (first | apply zG | apply zH | apply zI)); exact HO320.out) hb); have n2_ := Aside0.mk (Kd.R_below (by (with_reducible repeat (first | apply zG | apply zH | apply zI)); exact HO324.out) hb); have n3_ := Aside0.mk (Kd.R_below (by (with_reducible repeat (first | apply zG | apply zH | apply zI)); exact HO326.out) hb); have n4_ := Aside0.mk (below_step (by repeat (first | (with_reducible first | exact HB.out | apply zA | apply zB | apply zC) | exact HB.out)) hb); clear HO318; clear HO320; clear HO324; clear HO326; clear HB; have HO318 := n0_; have HO320 := n1_; have HO324 := n2_; have HO326 := n3_; have HB := n4_; clear n0_ n1_ n2_ n3_ n4_; (try clear hb); (try clear hb2); (try clear hk); (try clear hi); obtain ⟨Ao25, co25, eo25⟩ := Kd.R_slice HO320.out; subst eo25) | (go_at_call 24; (with_reducible refine (spec_GoodSamples.calls kj2 _ _ t316 true _ ?side1 ?side2 A13.out).mono ?_); (case side1 => repeat (first | exact (Kd.R_reads' HO320.out).2.2 | (with_reducible refine zJ ?_ _) | (with_reducible refine zK ?_ _) | (with_reducible refine zL ?_))); (case side2 => exact (Kd.R_reads' HO320.out).2.1); rintro e w26 ⟨rfl, hb⟩; have n0_ := Aside0.mk (Kd.R_below (by (with_reducible repeat (first | apply zG | apply zH | apply zI)); exact HO318.out) hb); have n1_ := Aside0.mk (Kd.R_below (by (with_reducible repeat (first | apply zG | apply zH | apply zI)); exact HO320.out) hb); have n2_ := Aside0.mk (Kd.R_below (by (with_reducible repeat (first | apply zG | apply zH | apply zI)); exact HO324.out) hb); have n3_ := Aside0.mk (Kd.R_below (by (with_reducible repeat (first | apply zG | apply zH | apply zI)); exact HO326.out) hb); have n4_ := Aside0.mk (below_step (by repeat (first | (with_reducible first | exact HB.out | apply zA | apply zB | apply zC) | exact HB.out)) hb); clear HO318; clear HO320; clear HO324; clear HO326; clear HB; have HO318 := n0_; have HO320 := n1_; have HO324 := n2_; have HO326 := n3_; have HB := n4_; clear n0_ n1_ n2_ n3_ n4_; (try clear hb); (try clear hb2); (try clear hk); (try clear hi); obtain ⟨Ao27, co27, eo27⟩ := Kd.R_slice HO324.out; subst eo27) | (go_at_call 24; (with_reducible refine (spec_GoodSamples.calls kj2 _ _ t321 false _ ?side1 ?side2 A15.out).mono ?_); (case side1 => repeat (first | exact (Kd.R_reads' HO324.out).2.2 | (with_reducible refine zJ ?_ _) | (with_reducible refine zK ?_ _) | (with_reducible refine zL ?_))); (case side2 => exact (Kd.R_reads' HO324.out).2.1); rintro e w28 ⟨rfl, hb⟩; have n0_ := Aside0.mk (Kd.R_below (by (with_reducible repeat (first | apply zG | apply zH | apply zI)); exact HO318.out) hb); have n1_ := Aside0.mk (Kd.R_below (by (with_reducible repeat (first | apply zG | apply zH | apply zI)); exact HO320.out) hb); have n2_ := Aside0.mk (Kd.R_below (by (with_reducible repeat (first | apply zG | apply zH | apply zI)); exact HO324.out) hb); have n3_ := Aside0.mk (Kd.R_below (by (with_reducible repeat (first | apply zG | apply zH | apply zI)); exact HO326.out) hb); have n4_ := Aside0.mk (below_step (by repeat (first | (with_reducible first | exact HB.out | apply zA | apply zB | apply zC) | exact HB.out)) hb); clear HO318; clear HO320; clear HO324; clear HO326; clear HB; have HO318 := n0_; have HO320 := n1_; have HO324 := n2_; have HO326 := n3_; have HB := n4_; clear n0_ n1_ n2_ n3_ n4_; (try clear hb); (try clear hb2); (try clear hk); (try clear hi))))
        go_meet
        case rel => exact ⟨_, (true), (by first | rfl | (simp; done) | (simp [*]; done)), H', ⟨by have := HJ2.out; first | omega | exact Nat.le_refl _⟩, ⟨by (with_reducible repeat (first | apply zG | apply zH | apply zI)); exact Kd.R_mono HO318.out (fun _ hk => ⟨hk.1.1, hk.1.2⟩)⟩, ⟨by (with_reducible repeat (first | apply zG | apply zH | apply zI)); exact Kd.R_mono HO320.out (fun _ hk => ⟨hk.1.1, hk.1.2⟩)⟩, ⟨by (with_reducible repeat (first | apply zG | apply zH | apply zI)); exact Kd.R_mono HO324.out (fun _ hk => ⟨hk.1.2, hk.2⟩)⟩, ⟨by repeat (first | (with_reducible first | exact HB.out | apply zA | apply zB | apply zC) | exact HB.out)⟩⟩
      ·replace c14 := Bool.eq_false_iff.mpr c14
       subst c14
       have H1 : (laws_FnMerged.j1 kj2 t315 t316 t321 true) = some r := by rw [if_neg (show ¬ (false = true) by decide)] at H; exact H
       clear H
       have H := H1
       clear H1
       have H' := Aside0.mk H
       clear H
       obtain ⟨Ao29, co29, eo29⟩ := Kd.R_slice HO318.out
       subst eo29
       go_wp2_with (first | (go_at_call 24; (with_reducible refine (spec_GoodSamples.calls kj2 _ _ t315 true _ ?side1 ?side2 A11.out).mono ?_); (case side1 => repeat (first | exact (Kd.R_reads' HO318.out).2.2 | (with_reducible refine zJ ?_ _) | (with_reducible refine zK ?_ _) | (with_reducible refine zL ?_))); (case side2 => exact (Kd.R_reads' HO318.out).2.1); rintro e w30 ⟨rfl, hb⟩; have n0_ := Aside0.mk (Kd.R_below (by (with_reducible repeat (first | apply zG | apply zH | apply zI)); exact HO318.out) hb); have n1_ := Aside0.mk (Kd.R_below (by (with_reducible repeat (first | apply zG | apply zH | apply zI)); exact HO320.out) hb); have n2_ := Aside0.mk (Kd.R_below (by (with_reducible repeat (first | apply zG | apply zH | apply zI)); exact HO324.out) hb); have n3_ := Aside0.mk (Kd.R_below (by (with_reducible repeat (first | apply zG | apply zH | apply zI)); exact HO326.out) hb); have n4_ := Aside0.mk (below_step (by repeat (first | (with_reducible first | exact HB.out | apply zA | apply zB | apply zC) | exact HB.out)) hb); clear HO318; clear HO320; clear HO324; clear HO326; clear HB; have HO318 := n0_; have HO320 := n1_; have HO324 := n2_; have HO326 := n3_; have HB := n4_; clear n0_ n1_ n2_ n3_ n4_; (try clear hb); (try clear hb2); (try clear hk); (try clear hi); obtain ⟨Ao31, co31, eo31⟩ := Kd.R_slice HO320.out; subst eo31) | (go_at_call 24; (with_reducible refine (spec_GoodSamples.calls kj2 _ _ t316 false _ ?side1 ?side2 A13.out).mono ?_); (case side1 => repeat (first | exact (Kd.R_reads' HO320.out).2.2 | (with_reducible refine zJ ?_ _) | (with_reducible refine zK ?_ _) | (with_reducible refine zL ?_))); (case side2 => exact (Kd.R_reads' HO320.out).2.1); rintro e w32 ⟨rfl, hb⟩; have n0_ := Aside0.mk (Kd.R_below (by (with_reducible repeat (first | apply zG | apply zH | apply zI)); exact HO318.out) hb); have n1_ := Aside0.mk (Kd.R_below (by (with_reducible repeat (first | apply zG | apply zH | apply zI)); exact HO320.out) hb); have n2_ := Aside0.mk (Kd.R_below (by (with_reducible repeat (first | apply zG | apply zH | apply zI)); exact HO324.out) hb); have n3_ := Aside0.mk (Kd.R_below (by (with_reducible repeat (first | apply zG | apply zH | apply zI)); exact HO326.out) hb); have n4_ := Aside0.mk (below_step (by repeat (first | (with_reducible first | exact HB.out | apply zA | apply zB | apply zC) | exact HB.out)) hb); clear HO318; clear HO320; clear HO324; clear HO326; clear HB; have HO318 := n0_; have HO320 := n1_; have HO324 := n2_; have HO326 := n3_; have HB := n4_; clear n0_ n1_ n2_ n3_ n4_; (try clear hb); (try clear hb2); (try clear hk); (try clear hi)))
       repeat (go_quiet (first | (go_at_call 24; (with_reducible refine (spec_GoodSamples.calls kj2 _ _ t315 true _ ?side1 ?side2 A11.out).mono ?_); (case side1 => repeat (first | exact (Kd.R_reads' HO318.out).2.2 | (with_reducible refine zJ ?_ _) | (with_reducible refine zK ?_ _) | (with_reducible refine zL ?_))); (case side2 => exact (Kd.R_reads' HO318.out).2.1); rintro e w30 ⟨rfl, hb⟩; have n0_ := Aside0.mk (Kd.R_below (by (with_reducible repeat (first | apply zG | apply zH | apply zI)); exact HO318.out) hb); have n1_ := Aside0.mk (Kd.R_below (by (with_reducible repeat (first | apply zG | apply zH | apply zI)); exact HO320.out) hb); have n2_ := Aside0.mk (Kd.R_below (by (with_reducible repeat (first | apply zG | apply zH | apply zI)); exact HO324.out) hb); have n3_ := Aside0.mk (Kd.R_below (by (with_reducible repeat (first | apply zG | apply zH | apply zI)); exact HO326.out) hb); have n4_ := Aside0.mk (below_step (by repeat (first | (with_reducible first | exact HB.out | apply zA | apply zB | apply zC) | exact HB.out)) hb); clear HO318; clear HO320; clear HO324; clear HO326; clear HB; have HO318 := n0_; have HO320 := n1_; have HO324 := n2_; have HO326 := n3_; have HB := n4_; clear n0_ n1_ n2_ n3_ n4_; (try clear hb); (try clear hb2); (try clear hk); (try clear hi); obtain ⟨Ao31, co31, eo31⟩ := Kd.R_slice HO320.out; subst eo31) | (go_at_call 24; (with_reducible refine (spec_GoodSamples.calls kj2 _ _ t316 false _ ?side1 ?side2 A13.out).mono ?_); (case side1 => repeat (first | exact (Kd.R_reads' HO320.out).2.2 | (with_reducible refine zJ ?_ _) | (with_reducible refine zK ?_ _) | (with_reducible refine zL ?_))); (case side2 => exact (Kd.R_reads' HO320.out).2.1); rintro e w32 ⟨rfl, hb⟩; have n0_ := Aside0.mk (Kd.R_below (by (with_reducible repeat (first | apply zG | apply zH | apply zI)); exact HO318.out) hb); have n1_ := Aside0.mk (Kd.R_below (by (with_reducible repeat (first | apply zG | apply zH | apply zI)); exact HO320.out) hb); have n2_ := Aside0.mk (Kd.R_below (by (with_reducible repeat (first | apply zG | apply zH | apply zI)); exact HO324.out) hb); have n3_ := Aside0.mk (Kd.R_below (by (with_reducible repeat (first | apply zG | apply zH | apply zI)); exact HO326.out) hb); have n4_ := Aside0.mk (below_step (by repeat (first | (with_reducible first | exact HB.out | apply zA | apply zB | apply zC) | exact HB.out)) hb); clear HO318; clear HO320; clear HO324; clear HO326; clear HB; have HO318 := n0_; have HO320 := n1_; have HO324 := n2_; have HO326 := n3_; have HB := n4_; clear n0_ n1_ n2_ n3_ n4_; (try clear hb); (try clear hb2); (try clear hk); (try clear hi))); try go_wp2_with (first | (go_at_call 24; (with_reducible refine (spec_GoodSamples.calls kj2 _ _ t315 true _ ?side1 ?side2 A11.out).mono ?_); (case side1 => repeat (first | exact (Kd.R_reads' HO318.out).2.2 | (with_reducible refine zJ ?_ _) | (with_reducible refine zK ?_ _) | (with_reducible refine zL ?_))); (case side2 => exact (Kd.R_reads' HO318.out).2.1); rintro e w30 ⟨rfl, hb⟩; have n0_ := Aside0.mk (Kd.R_below (by (with_reducible repeat (first | apply zG | apply zH | apply zI)); exact HO318.out) hb); have n1_ := Aside0.mk (Kd.R_below (by (with_reducible repeat (first | apply zG | apply zH | apply zI)); exact HO320.out) hb); have n2_ := Aside0.mk (Kd.R_below (by (with_reducible repeat (first | apply zG | apply zH | apply zI)); exact HO324.out) hb); have n3_ := Aside0.mk (Kd.R_below (by (with_reducible repeat (first | apply zG | apply zH | apply zI)); exact HO326.out) hb); have n4_ := Aside0.mk (below_step (by repeat (first | (with_reducible first | exact HB.out | apply zA | apply zB | apply zC) | exact HB.out)) hb); clear HO318; clear HO320; clear HO324; clear HO326; clear HB; have HO318 := n0_; have HO320 := n1_; have HO324 := n2_; have HO326 := n3_; have HB := n4_; clear n0_ n1_ n2_ n3_ n4_; (try clear hb); (try clear hb2); (try clear hk); (try clear hi); obtain ⟨Ao31, co31, eo31⟩ := Kd.R_slice HO320.out; subst eo31) | (go_at_call 24; (with_reducible refine (spec_GoodSamples.calls kj2 _ _ t316 false _ ?side1 ?side2 A13.out).mono ?_); (case side1 => repeat (first | exact (Kd.R_reads' HO320.out).2.2 | (with_reducible refine zJ ?_ _) | (with_reducible refine zK ?_ _) | (with_reducible refine zL ?_))); (case side2 => exact (Kd.R_reads' HO320.out).2.1); rintro e w32 ⟨rfl, hb⟩; have n0_ := Aside0.mk (Kd.R_below (by (with_reducible repeat (first | apply zG | apply zH | apply zI)); exact HO318.out) hb); have n1_ := Aside0.mk (Kd.R_below (by (with_reducible repeat (first | apply zG | apply zH | apply zI)); exact HO320.out) hb); have n2_ := Aside0.mk (Kd.R_below (by (with_reducible repeat (first | apply zG | apply zH | apply zI)); exact HO324.out) hb); have n3_ := Aside0.mk (Kd.R_below (by (with_reducible repeat (first | apply zG | apply zH | apply zI)); exact HO326.out) hb); have n4_ := Aside0.mk (below_step (by repeat (first | (with_reducible first | exact HB.out | apply zA | apply zB | apply zC) | exact HB.out)) hb); clear HO318; clear HO320; clear HO324; clear HO326; clear HB; have HO318 := n0_; have HO320 := n1_; have HO324 := n2_; have HO326 := n3_; have HB := n4_; clear n0_ n1_ n2_ n3_ n4_; (try clear hb); (try clear hb2); (try clear hk); (try clear hi))))
       go_meet
       case rel => exact ⟨_, (true), (by first | rfl | (simp; done) | (simp [*]; done)), H', ⟨by have := HJ2.out; first | omega | exact Nat.le_refl _⟩, ⟨by (with_reducible repeat (first | apply zG | apply zH | apply zI)); exact Kd.R_mono HO318.out (fun _ hk => ⟨hk.1.1, hk.1.2⟩)⟩, ⟨by (with_reducible repeat (first | apply zG | apply zH | apply zI)); exact Kd.R_mono HO320.out (fun _ hk => ⟨hk.1.1, hk.1.2⟩)⟩, ⟨by (with_reducible repeat (first | apply zG | apply zH | apply zI)); exact Kd.R_mono HO324.out (fun _ hk => ⟨hk.1.2, hk.2⟩)⟩, ⟨by repeat (first | (with_reducible first | exact HB.out | apply zA | apply zB | apply zC) | exact HB.out)⟩⟩
     ·replace c12 := Bool.eq_false_iff.mpr c12
      subst c12
      have H1 : (laws_FnMerged.j1 kj2 t315 t316 t321 true) = some r := by rw [if_neg (show ¬ (false = true) by decide)] at H; exact H
      clear H
      have H := H1
      clear H1
      have H' := Aside0.mk H
      clear H
      obtain ⟨Ao33, co33, eo33⟩ := Kd.R_slice HO318.out
      subst eo33
      go_wp2_with (first | (go_at_call 24; (with_reducible refine (spec_GoodSamples.calls kj2 _ _ t315 false _ ?side1 ?side2 A11.out).mono ?_); (case side1 => repeat (first | exact (Kd.R_reads' HO318.out).2.2 | (with_reducible refine zJ ?_ _) | (with_reducible refine zK ?_ _) | (with_reducible refine zL ?_))); (case side2 => exact (Kd.R_reads' HO318.out).2.1); rintro e w34 ⟨rfl, hb⟩; have n0_ := Aside0.mk (Kd.R_below (by (with_reducible repeat (first | apply zG | apply zH | apply zI)); exact HO318.out) hb); have n1_ := Aside0.mk (Kd.R_below (by (with_reducible repeat (first | apply zG | apply zH | apply zI)); exact HO320.out) hb); have n2_ := Aside0.mk (Kd.R_below (by (with_reducible repeat (first | apply zG | apply zH | apply zI)); exact HO324.out) hb); have n3_ := Aside0.mk (Kd.R_below (by (with_reducible repeat (first | apply zG | apply zH | apply zI)); exact HO326.out) hb); have n4_ := Aside0.mk (below_step (by repeat (first | (with_reducible first | exact HB.out | apply zA | apply zB | apply zC) | exact HB.out)) hb); clear HO318; clear HO320; clear HO324; clear HO326; clear HB; have HO318 := n0_; have HO320 := n1_; have HO324 := n2_; have HO326 := n3_; have HB := n4_; clear n0_ n1_ n2_ n3_ n4_; (try clear hb); (try clear hb2); (try clear hk); (try clear hi)))
      repeat (go_quiet (first | (go_at_call 24; (with_reducible refine (spec_GoodSamples.calls kj2 _ _ t315 false _ ?side1 ?side2 A11.out).mono ?_); (case side1 => repeat (first | exact (Kd.R_reads' HO318.out).2.2 | (with_reducible refine zJ ?_ _) | (with_reducible refine zK ?_ _) | (with_reducible refine zL ?_))); (case side2 => exact (Kd.R_reads' HO318.out).2.1); rintro e w34 ⟨rfl, hb⟩; have n0_ := Aside0.mk (Kd.R_below (by (with_reducible repeat (first | apply zG | apply zH | apply zI)); exact HO318.out) hb); have n1_ := Aside0.mk (Kd.R_below (by (with_reducible repeat (first | apply zG | apply zH | apply zI)); exact HO320.out) hb); have n2_ := Aside0.mk (Kd.R_below (by (with_reducible repeat (first | apply zG | apply zH | apply zI)); exact HO324.out) hb); have n3_ := Aside0.mk (Kd.R_below (by (with_reducible repeat (first | apply zG | apply zH | apply zI)); exact HO326.out) hb); have n4_ := Aside0.mk (below_step (by repeat (first | (with_reducible first | exact HB.out | apply zA | apply zB | apply zC) | exact HB.out)) hb); clear HO318; clear HO320; clear HO324; clear HO326; clear HB; have HO318 := n0_; have HO320 := n1_; have HO324 := n2_; have HO326 := n3_; have HB := n4_; clear n0_ n1_ n2_ n3_ n4_; (try clear hb); (try clear hb2); (try clear hk); (try clear hi))); try go_wp2_with (first | (go_at_call 24; (with_reducible refine (spec_GoodSamples.calls kj2 _ _ t315 false _ ?side1 ?side2 A11.out).mono ?_); (case side1 => repeat (first | exact (Kd.R_reads' HO318.out).2.2 | (with_reducible refine zJ ?_ _) | (with_reducible refine zK ?_ _) | (with_reducible refine zL ?_))); (case side2 => exact (Kd.R_reads' HO318.out).2.1); rintro e w34 ⟨rfl, hb⟩; have n0_ := Aside0.mk (Kd.R_below (by (with_reducible repeat (first | apply zG | apply zH | apply zI)); exact HO318.out) hb); have n1_ := Aside0.mk (Kd.R_below (by (with_reducible repeat (first | apply zG | apply zH | apply zI)); exact HO320.out) hb); have n2_ := Aside0.mk (Kd.R_below (by (with_reducible repeat (first | apply zG | apply zH | apply zI)); exact HO324.out) hb); have n3_ := Aside0.mk (Kd.R_below (by (with_reducible repeat (first | apply zG | apply zH | apply zI)); exact HO326.out) hb); have n4_ := Aside0.mk (below_step (by repeat (first | (with_reducible first | exact HB.out | apply zA | apply zB | apply zC) | exact HB.out)) hb); clear HO318; clear HO320; clear HO324; clear HO326; clear HB; have HO318 := n0_; have HO320 := n1_; have HO324 := n2_; have HO326 := n3_; have HB := n4_; clear n0_ n1_ n2_ n3_ n4_; (try clear hb); (try clear hb2); (try clear hk); (try clear hi))))
      go_meet
      case rel => exact ⟨_, (true), (by first | rfl | (simp; done) | (simp [*]; done)), H', ⟨by have := HJ2.out; first | omega | exact Nat.le_refl _⟩, ⟨by (with_reducible repeat (first | apply zG | apply zH | apply zI)); exact Kd.R_mono HO318.out (fun _ hk => ⟨hk.1.1, hk.1.2⟩)⟩, ⟨by (with_reducible repeat (first | apply zG | apply zH | apply zI)); exact Kd.R_mono HO320.out (fun _ hk => ⟨hk.1.1, hk.1.2⟩)⟩, ⟨by (with_reducible repeat (first | apply zG | apply zH | apply zI)); exact Kd.R_mono HO324.out (fun _ hk => ⟨hk.1.2, hk.2⟩)⟩, ⟨by repeat (first | (with_reducible first | exact HB.out | apply zA | apply zB | apply zC) | exact HB.out)⟩⟩
    case rest =>
     clear HC8
     try clear c1
     try clear p2
     try clear c4
     try clear c4b0
     try clear c4b1
     try clear c5
     try clear c6
     try clear p6
     try clear c12
     try clear c14
     try clear c16
     try clear p2
     obtain ⟨kq, x55_7, rfl, HA, HJ7, HO_5, HO_6, HO_7, HB⟩ := hcut
     cases kq with
     | zero => exact absurd HA.out (by simp [laws_FnMerged.j1])
     | succ kj7 =>
      have H := HA.out
      clear HA
      simp only [laws_FnMerged.j1] at H
      by_cases c35 : x55_7 = true
      ·subst c35
       have H1 : (some true) = some r := by rw [if_pos rfl] at H; exact H
       clear H
       have H := H1
       clear H1
       obtain rfl := Option.some.inj H
       go_wp2
       repeat (go_quiet (fail); try go_wp2)
       go_ret
       exact ⟨by first | rfl | (simp [errW_none, errW_some] <;> rfl) | (simp [*, errW_none, errW_some] <;> rfl), by repeat (first | (with_reducible first | exact HB.out | apply zA | apply zB | apply zC) | exact HB.out)⟩
      ·replace c35 := Bool.eq_false_iff.mpr c35
       subst c35
       have H1 : ((impl_MergeSamples.f kj7 t315 t316).bind fun t330 => ((impl_MergeSamples.f kj7 t315 t315).bind fun t333 => ((laws_zSamples.f kj7 t333 t315).bind fun t336 => (if t336 = true then ((impl_MergeSamples.f kj7 t330 t321).bind fun t337 => ((impl_MergeSamples.f kj7 t316 t321).bind fun t340 => ((impl_MergeSamples.f kj7 t315 t340).bind fun t343 => ((laws_zSamples.f kj7 t337 t343).bind fun t346 => (laws_FnMerged.j2 kj7 t315 t316 t330 (!t346)))))) else (laws_FnMerged.j2 kj7 t315 t316 t330 true))))) = some r := by rw [if_neg (show ¬ (false = true) by decide)] at H; exact H
       clear H
       have H := H1
       clear H1
       replace H := Option.bind_eq_some_iff.mp H
       obtain ⟨t330, A360, H⟩ := H
       replace H : ((impl_MergeSamples.f kj7 t315 t315).bind fun t333 => ((laws_zSamples.f kj7 t333 t315).bind fun t336 => (if t336 = true then ((impl_MergeSamples.f kj7 t330 t321).bind fun t337 => ((impl_MergeSamples.f kj7 t316 t321).bind fun t340 => ((impl_MergeSamples.f kj7 t315 t340).bind fun t343 => ((laws_zSamples.f kj7 t337 t343).bind fun t346 => (laws_FnMerged.j2 kj7 t315 t316 t330 (!t346)))))) else (laws_FnMerged.j2 kj7 t315 t316 t330 true)))) = some r := H
       have A36 := Aside0.mk A360
       clear A360
       have HC37 := Aside0.mk H
       clear H
       obtain ⟨Ao38, co38, eo38⟩ := Kd.R_slice HO_5.out
       subst eo38
       obtain ⟨Ao39, co39, eo39⟩ := Kd.R_slice HO_6.out
       subst eo39
       go_upto_region 8 with (first | (go_at_call 25; (with_reducible refine (impl_MergeSamples.calls kj7 _ _ t315 _ _ t316 t330 _ ?side1 ?side2 ?side3 ?side4 A36.out).mono ?_); (case side1 => repeat (first | exact (Kd.R_reads' HO_5.out).2.2 | (with_reducible refine zJ ?_ _) | (with_reducible refine zK ?_ _) | (with_reducible refine zL ?_))); (case side2 => exact (Kd.R_reads' HO_5.out).2.1); (case side3 => repeat (first | exact (Kd.R_reads' HO_6.out).2.2 | (with_reducible refine zJ ?_ _) | (with_reducible refine zK ?_ _) | (with_reducible refine zL ?_))); (case side4 => exact (Kd.R_reads' HO_6.out).2.1); rintro e w40 ⟨v331, rfl, ho0, hb⟩; have n0_ := Aside0.mk (Kd.R_elder' (by (with_reducible repeat (first | apply zG | apply zH | apply zI)); exact HO_5.out) (Kd.R_base ho0) hb); have n1_ := Aside0.mk (Kd.R_elder' (by (with_reducible repeat (first | apply zG | apply zH | apply zI)); exact HO_6.out) (Kd.R_base ho0) hb); have n2_ := Aside0.mk (Kd.R_elder' (by (with_reducible repeat (first | apply zG | apply zH | apply zI)); exact HO_7.out) (Kd.R_base ho0) hb); have n3_ := Aside0.mk (Kd.R_lower (Kd.R_new' (Kd.R_new' (Kd.R_new' ho0 (Kd.R_lt (by (with_reducible repeat (first | apply zG | apply zH | apply zI)); exact HO_5.out))) (Kd.R_lt (by (with_reducible repeat (first | apply zG | apply zH | apply zI)); exact HO_6.out))) (Kd.R_lt (by (with_reducible repeat (first | apply zG | apply zH | apply zI)); exact HO_7.out))) (zW (by repeat (first | (with_reducible first | exact HB.out | apply zA | apply zB | apply zC) | exact HB.out)))); have n4_ := Aside0.mk (below_step (by repeat (first | (with_reducible first | exact HB.out | apply zA | apply zB | apply zC) | exact HB.out)) hb); clear HO_5; clear HO_6; clear HO_7; clear HB; have HO_5 := n0_; have HO_6 := n1_; have HO_7 := n2_; have HO332 := n3_; have HB := n4_; clear n0_ n1_ n2_ n3_ n4_; (try clear hb); (try clear hb2); (try clear hk); (try clear hi); (try clear ho0)))
       repeat (go_quiet (first | (go_at_call 25; (with_reducible refine (impl_MergeSamples.calls kj7 _ _ t315 _ _ t316 t330 _ ?side1 ?side2 ?side3 ?side4 A36.out).mono ?_); (case side1 => repeat (first | exact (Kd.R_reads' HO_5.out).2.2 | (with_reducible refine zJ ?_ _) | (with_reducible refine zK ?_ _) | (with_reducible refine zL ?_))); (case side2 => exact (Kd.R_reads' HO_5.out).2.1); (case side3 => repeat (first | exact (Kd.R_reads' HO_6.out).2.2 | (with_reducible refine zJ ?_ _) | (with_reducible refine zK ?_ _) | (with_reducible refine zL ?_))); (case side4 => exact (Kd.R_reads' HO_6.out).2.1); rintro e w40 ⟨v331, rfl, ho0, hb⟩; have n0_ := Aside0.mk (Kd.R_elder' (by (with_reducible repeat (first | apply zG | apply zH | apply zI)); exact HO_5.out) (Kd.R_base ho0) hb); have n1_ := Aside0.mk (Kd.R_elder' (by (with_reducible repeat (first | apply zG | apply zH | apply zI)); exact HO_6.out) (Kd.R_base ho0) hb); have n2_ := Aside0.mk (Kd.R_elder' (by (with_reducible repeat (first | apply zG | apply zH | apply zI)); exact HO_7.out) (Kd.R_base ho0) hb); have n3_ := Aside0.mk (Kd.R_lower (Kd.R_new' (Kd.R_new' (Kd.R_new' ho0 (Kd.R_lt (by (with_reducible repeat (first | apply zG | apply zH | apply zI)); exact HO_5.out))) (Kd.R_lt (by (with_reducible repeat (first | apply zG | apply zH | apply zI)); exact HO_6.out))) (Kd.R_lt (by (with_reducible repeat (first | apply zG | apply zH | apply zI)); exact HO_7.out))) (zW (by repeat (first | (with_reducible first | exact HB.out | apply zA | apply zB | apply zC) | exact HB.out)))); have n4_ := Aside0.mk (below_step (by repeat (first | (with_reducible first | exact HB.out | apply zA | apply zB | apply zC) | exact HB.out)) hb); clear HO_5; clear HO_6; clear HO_7; clear HB; have HO_5 := n0_; have HO_6 := n1_; have HO_7 := n2_; have HO332 := n3_; have HB := n4_; clear n0_ n1_ n2_ n3_ n4_; (try clear hb); (try clear hb2); (try clear hk); (try clear hi); (try clear ho0))); go_upto_region 8 with (first | (go_at_call 25; (with_reducible refine (impl_MergeSamples.calls kj7 _ _ t315 _ _ t316 t330 _ ?side1 ?side2 ?side3 ?side4 A36.out).mono ?_); (case side1 => repeat (first | exact (Kd.R_reads' HO_5.out).2.2 | (with_reducible refine zJ ?_ _) | (with_reducible refine zK ?_ _) | (with_reducible refine zL ?_))); (case side2 => exact (Kd.R_reads' HO_5.out).2.1); (case side3 => repeat (first | exact (Kd.R_reads' HO_6.out).2.2 | (with_reducible refine zJ ?_ _) | (with_reducible refine zK ?_ _) | (with_reducible refine zL ?_))); (case side4 => exact (Kd.R_reads' HO_6.out).2.1); rintro e w40 ⟨v331, rfl, ho0, hb⟩; have n0_ := Aside0.mk (Kd.R_elder' (by (with_reducible repeat (first | apply zG | apply zH | apply zI)); exact HO_5.out) (Kd.R_base ho0) hb); have n1_ := Aside0.mk (Kd.R_elder' (by (with_reducible repeat (first | apply zG | apply zH | apply zI)); exact HO_6.out) (Kd.R_base ho0) hb); have n2_ := Aside0.mk (Kd.R_elder' (by (with_reducible repeat (first | apply zG | apply zH | apply zI)); exact HO_7.out) (Kd.R_base ho0) hb); have n3_ := Aside0.mk (Kd.R_lower (Kd.R_new' (Kd.R_new' (Kd.R_new' ho0 (Kd.R_lt (by (with_reducible repeat (first | apply zG | apply zH | apply zI)); exact HO_5.out))) (Kd.R_lt (by (with_reducible repeat (first | apply zG | apply zH | apply zI)); exact HO_6.out))) (Kd.R_lt (by (with_reducible repeat (first | apply zG | apply zH | apply zI)); exact HO_7.out))) (zW (by repeat (first | (with_reducible first | exact HB.out | apply zA | apply zB | apply zC) | exact HB.out)))); have n4_ := Aside0.mk (below_step (by repeat (first | (with_reducible first | exact HB.out | apply zA | apply zB | apply zC) | exact HB.out)) hb); clear HO_5; clear HO_6; clear HO_7; clear HB; have HO_5 := n0_; have HO_6 := n1_; have HO_7 := n2_; have HO332 := n3_; have HB := n4_; clear n0_ n1_ n2_ n3_ n4_; (try clear hb); (try clear hb2); (try clear hk); (try clear hi); (try clear ho0))))
       (try simp only [Act.put, zT, zU, zV])
       go_cut [76] (fun v76 wc => ∃ (kq : Nat) (x76_36 : Bool), v76 = .bool x76_36 ∧ Aside0 (laws_FnMerged.j2 kq t315 t316 t330 x76_36 = some r) ∧ Aside0 (kq ≤ kj7) ∧ Aside0 (Kd.R k53 53 wc w.heap.size (fun k_ => some k_ ≠ ((.slice Ao39 t316.length co39) : Value).ownBlock ∧ some k_ ≠ (v331 : Value).ownBlock) (.slice Ao38 t315.length co38) t315) ∧ Aside0 (Kd.R k53 53 wc w.heap.size (fun k_ => some k_ ≠ ((.slice Ao38 t315.length co38) : Value).ownBlock ∧ some k_ ≠ (v331 : Value).ownBlock) (.slice Ao39 t316.length co39) t316) ∧ Aside0 (Kd.R k53 53 wc w.heap.size (fun k_ => some k_ ≠ ((.slice Ao38 t315.length co38) : Value).ownBlock ∧ some k_ ≠ ((.slice Ao39 t316.length co39) : Value).ownBlock) v331 t330) ∧ Aside0 (Below w.heap.size w wc))
       case first =>
        have H := HC37.out
        clear HC37
        replace H := Option.bind_eq_some_iff.mp H
        obtain ⟨t333, A410, H⟩ := H
        replace H : ((laws_zSamples.f kj7 t333 t315).bind fun t336 => (if t336 = true then ((impl_MergeSamples.f kj7 t330 t321).bind fun t337 => ((impl_MergeSamples.f kj7 t316 t321).bind fun t340 => ((impl_MergeSamples.f kj7 t315 t340).bind fun t343 => ((laws_zSamples.f kj7 t337 t343).bind fun t346 => (laws_FnMerged.j2 kj7 t315 t316 t330 (!t346)))))) else (laws_FnMerged.j2 kj7 t315 t316 t330 true))) = some r := H
        have A41 := Aside0.mk A410
        clear A410
        replace H := Option.bind_eq_some_iff.mp H
        obtain ⟨t336, A420, H⟩ := H
        replace H : (if t336 = true then ((impl_MergeSamples.f kj7 t330 t321).bind fun t337 => ((impl_MergeSamples.f kj7 t316 t321).bind fun t340 => ((impl_MergeSamples.f kj7 t315 t340).bind fun t343 => ((laws_zSamples.f kj7 t337 t343).bind fun t346 => (laws_FnMerged.j2 kj7 t315 t316 t330 (!t346)))))) else (laws_FnMerged.j2 kj7 t315 t316 t330 true)) = some r := H
        have A42 := Aside0.mk A420
        clear A420
        by_cases c43 : t336 = true
        ·subst c43
         have H1 : ((impl_MergeSamples.f kj7 t330 t321).bind fun t337 => ((impl_MergeSamples.f kj7 t316 t321).bind fun t340 => ((impl_MergeSamples.f kj7 t315 t340).bind fun t343 => ((laws_zSamples.f kj7 t337 t343).bind fun t346 => (laws_FnMerged.j2 kj7 t315 t316 t330 (!t346)))))) = some r := by rw [if_pos rfl] at H; exact H
         clear H
         have H := H1
         clear H1
         replace H := Option.bind_eq_some_iff.mp H
         obtain ⟨t337, A440, H⟩ := H
         replace H : ((impl_MergeSamples.f kj7 t316 t321).bind fun t340 => ((impl_MergeSamples.f kj7 t315 t340).bind fun t343 => ((laws_zSamples.f kj7 t337 t343).bind fun t346 => (laws_FnMerged.j2 kj7 t315 t316 t330 (!t346))))) = some r := H
         have A44 := Aside0.mk A440
         clear A440
         replace H := Option.bind_eq_some_iff.mp H
         obtain ⟨t340, A450, H⟩ := H
         replace H : ((impl_MergeSamples.f kj7 t315 t340).bind fun t343 => ((laws_zSamples.f kj7 t337 t343).bind fun t346 => (laws_FnMerged.j2 kj7 t315 t316 t330 (!t346)))) = some r := H
         have A45 := Aside0.mk A450
         clear A450
         replace H := Option.bind_eq_some_iff.mp H
         obtain ⟨t343, A460, H⟩ := H
         replace H : ((laws_zSamples.f kj7 t337 t343).bind fun t346 => (laws_FnMerged.j2 kj7 t315 t316 t330 (!t346))) = some r := H
         have A46 := Aside0.mk A460
         clear A460
         replace H := Option.bind_eq_some_iff.mp H
         obtain ⟨t346, A470, H⟩ := H
         replace H : (laws_FnMerged.j2 kj7 t315 t316 t330 (!t346)) = some r := H
         have A47 := Aside0.mk A470
         clear A470
         have H' := Aside0.mk H
         clear H
         go_wp2_with (first | (go_at_call 25; (with_reducible refine (impl_MergeSamples.calls kj7 _ _ t315 _ _ t315 t333 _ ?side1 ?side2 ?side3 ?side4 A41.out).mono ?_); (case side1 => repeat (first | exact (Kd.R_reads' HO_5.out).2.2 | (with_reducible refine zJ ?_ _) | (with_reducible refine zK ?_ _) | (with_reducible refine zL ?_))); (case side2 => exact (Kd.R_reads' HO_5.out).2.1); (case side3 => repeat (first | exact (Kd.R_reads' HO_5.out).2.2 | (with_reducible refine zJ ?_ _) | (with_reducible refine zK ?_ _) | (with_reducible refine zL ?_))); (case side4 => exact (Kd.R_reads' HO_5.out).2.1); rintro e w48 ⟨v334, rfl, ho0, hb⟩; have n0_ := Aside0.mk (Kd.R_elder' (by (with_reducible repeat (first | apply zG | apply zH | apply zI)); exact HO_5.out) (Kd.R_base ho0) hb); have n1_ := Aside0.mk (Kd.R_elder' (by (with_reducible repeat (first | apply zG | apply zH | apply zI)); exact HO_6.out) (Kd.R_base ho0) hb); have n2_ := Aside0.mk (Kd.R_elder' (by (with_reducible repeat (first | apply zG | apply zH | apply zI)); exact HO_7.out) (Kd.R_base ho0) hb); have n3_ := Aside0.mk (Kd.R_elder' (by (with_reducible repeat (first | apply zG | apply zH | apply zI)); exact HO332.out) (Kd.R_base ho0) hb); have n4_ := Aside0.mk (Kd.R_lower (Kd.R_new' (Kd.R_new' (Kd.R_new' (Kd.R_new' ho0 (Kd.R_lt (by (with_reducible repeat (first | apply zG | apply zH | apply zI)); exact HO_5.out))) (Kd.R_lt (by (with_reducible repeat (first | apply zG | apply zH | apply zI)); exact HO_6.out))) (Kd.R_lt (by (with_reducible repeat (first | apply zG | apply zH | apply zI)); exact HO_7.out))) (Kd.R_lt (by (with_reducible repeat (first | apply zG | apply zH | apply zI)); exact HO332.out))) (zW (by repeat (first | (with_reducible first | exact HB.out | apply zA | apply zB | apply zC) | exact HB.out)))); have n5_ := Aside0.mk (below_step (by repeat (first | (with_reducible first | exact HB.out | apply zA | apply zB | apply zC) | exact HB.out)) hb); clear HO_5; clear HO_6; clear HO_7; clear HO332; clear HB; have HO_5 := n0_; have HO_6 := n1_; have HO_7 := n2_; have HO332 := n3_; have HO335 := n4_; have HB := n5_; clear n0_ n1_ n2_ n3_ n4_ n5_; (try clear hb); (try clear hb2); (try clear hk); (try clear hi); (try clear ho0); obtain ⟨Ao49, co49, eo49⟩ := Kd.R_slice HO335.out; subst eo49) | (go_at_call 26; (with_reducible refine (laws_zSamples.calls kj7 _ _ t333 _ _ t315 true _ ?side1 ?side2 ?side3 ?side4 A42.out).mono ?_); (case side1 => repeat (first | exact (Kd.R_reads' HO335.out).2.2 | (with_reducible refine zJ ?_ _) | (with_reducible refine zK ?_ _) | (with_reducible refine zL ?_))); (case side2 => exact (Kd.R_reads' HO335.out).2.1); (case side3 => repeat (first | exact (Kd.R_reads' HO_5.out).2.2 | (with_reducible refine zJ ?_ _) | (with_reducible refine zK ?_ _) | (with_reducible refine zL ?_))); (case side4 => exact (Kd.R_reads' HO_5.out).2.1); rintro e w' ⟨rfl, ⟨nd, rfl⟩⟩; (try first | exact ⟨rfl, _, World.drewN_drewN _ _ _⟩ | exact ⟨rfl, _, Eq.trans (World.drewN_drewN _ _ _) (congrArg (World.drewN _) (Nat.add_assoc _ _ _))⟩); obtain ⟨Ao50, co50, eo50⟩ := Kd.R_slice HO332.out; subst eo50; obtain ⟨Ao51, co51, eo51⟩ := Kd.R_slice HO_7.out; subst eo51) | (go_at_call 25; (with_reducible refine (impl_MergeSamples.calls kj7 _ _ t330 _ _ t321 t337 _ ?side1 ?side2 ?side3 ?side4 A44.out).mono ?_); (case side1 => repeat (first | exact (Kd.R_reads' HO332.out).2.2 | (with_reducible refine zJ ?_ _) | (with_reducible refine zK ?_ _) | (with_reducible refine zL ?_))); (case side2 => exact (Kd.R_reads' HO332.out).2.1); (case side3 => repeat (first | exact (Kd.R_reads' HO_7.out).2.2 | (with_reducible refine zJ ?_ _) | (with_reducible refine zK ?_ _) | (with_reducible refine zL ?_))); (case side4 => exact (Kd.R_reads' HO_7.out).2.1); rintro e w52 ⟨v338, rfl, ho0, hb⟩; have n0_ := Aside0.mk (Kd.R_elder' (by (with_reducible repeat (first | apply zG | apply zH | apply zI)); exact HO_5.out) (Kd.R_base ho0) hb); have n1_ := Aside0.mk (Kd.R_elder' (by (with_reducible repeat (first | apply zG | apply zH | apply zI)); exact HO_6.out) (Kd.R_base ho0) hb); have n2_ := Aside0.mk (Kd.R_elder' (by (with_reducible repeat (first | apply zG | apply zH | apply zI)); exact HO_7.out) (Kd.R_base ho0) hb); have n3_ := Aside0.mk (Kd.R_elder' (by (with_reducible repeat (first | apply zG | apply zH | apply zI)); exact HO332.out) (Kd.R_base ho0) hb); have n4_ := Aside0.mk (Kd.R_elder' (by (with_reducible repeat (first | apply zG | apply zH | apply zI)); exact HO335.out) (Kd.R_base ho0) hb); have n5_ := Aside0.mk (Kd.R_lower (Kd.R_new' (Kd.R_new' (Kd.R_new' (Kd.R_new' (Kd.R_new' ho0 (Kd.R_lt (by (with_reducible repeat (first | apply zG | apply zH | apply zI)); exact HO_5.out))) (Kd.R_lt (by (with_reducible repeat (first | apply zG | apply zH | apply zI)); exact HO_6.out))) (Kd.R_lt (by (with_reducible repeat (first | apply zG | apply zH | apply zI)); exact HO_7.out))) (Kd.R_lt (by (with_reducible repeat (first | apply zG | apply zH | apply zI)); exact HO332.out))) (Kd.R_lt (by (with_reducible repeat (first | apply zG | apply zH | apply zI)); exact HO335.out))) (zW (by repeat (first | (with_reducible first | exact HB.out | apply zA | apply zB | apply zC) | exact HB.out)))); have n6_ := Aside0.mk (below_step (by repeat (first | (with_reducible first | exact HB.out | apply zA | apply zB | apply zC) | exact HB.out)) hb); clear HO_5; clear HO_6; clear HO_7; clear HO332; clear HO335; clear HB; have HO_5 := n0_; have HO_6 := n1_; have HO_7 := n2_; have HO332 := n3_; have HO335 := n4_; have HO339 := n5_; have HB := n6_; clear n0_ n1_ n2_ n3_ n4_ n5_ n6_; (try clear hb); (try clear hb2); (try clear hk); (try clear hi); (try clear ho0)) | (go_at_call 25; (with_reducible refine (impl_MergeSamples.calls kj7 _ _ t316 _ _ t321 t340 _ ?side1 ?side2 ?side3 ?side4 A45.out).mono ?_); (case side1 => repeat (first | exact (Kd.R_reads' HO_6.out).2.2 | (with_reducible refine zJ ?_ _) | (with_reducible refine zK ?_ _) | (with_reducible refine zL ?_))); (case side2 => exact (Kd.R_reads' HO_6.out).2.1); (case side3 => repeat (first | exact (Kd.R_reads' HO_7.out).2.2 | (with_reducible refine zJ ?_ _) | (with_reducible refine zK ?_ _) | (with_reducible refine zL ?_))); (case side4 => exact (Kd.R_reads' HO_7.out).2.1); rintro e w53 ⟨v341, rfl, ho0, hb⟩; have n0_ := Aside0.mk (Kd.R_elder' (by (with_reducible repeat (first | apply zG | apply zH | apply zI)); exact HO_5.out) (Kd.R_base ho0) hb); have n1_ := Aside0.mk (Kd.R_elder' (by (with_reducible repeat (first | apply zG | apply zH | apply zI)); exact HO_6.out) (Kd.R_base ho0) hb); have n2_ := Aside0.mk (Kd.R_elder' (by (with_reducible repeat (first | apply zG | apply zH | apply zI)); exact HO_7.out) (Kd.R_base ho0) hb); have n3_ := Aside0.mk (Kd.R_elder' (by (with_reducible repeat (first | apply zG | apply zH | apply zI)); exact HO332.out) (Kd.R_base ho0) hb); have n4_ := Aside0.mk (Kd.R_elder' (by (with_reducible repeat (first | apply zG | apply zH | apply zI)); exact HO335.out) (Kd.R_base ho0) hb); have n5_ := Aside0.mk (Kd.R_elder' (by (with_reducible repeat (first | apply zG | apply zH | apply zI)); exact HO339.out) (Kd.R_base ho0) hb); have n6_ := Aside0.mk (Kd.R_lower (Kd.R_new' (Kd.R_new' (Kd.R_new' (Kd.R_new' (Kd.R_new' (Kd.R_new' ho0 (Kd.R_lt (by (with_reducible repeat (first | apply zG | apply zH | apply zI)); exact HO_5.out))) (Kd.R_lt (by (with_reducible repeat (first | apply zG | apply zH | apply zI)); exact HO_6.out))) (Kd.R_lt (by (with_reducible repeat (first | apply zG | apply zH | apply zI)); exact HO_7.out))) (Kd.R_lt (by (with_reducible repeat (first | apply zG | apply zH | apply zI)); exact HO332.out))) (Kd.R_lt (by (with_reducible repeat (first | apply zG | apply zH | apply zI)); exact HO335.out))) (Kd.R_lt (by (with_reducible repeat (first | apply zG | apply zH | apply zI)); exact HO339.out))) (zW (by repeat (first | (with_reducible first | exact HB.out | apply zA | apply zB | apply zC) | exact HB.out)))); have n7_ := Aside0.mk (below_step (by repeat (first | (with_reducible first | exact HB.out | apply zA | apply zB | apply zC) | exact HB.out)) hb); clear HO_5; clear HO_6; clear HO_7; clear HO332; clear HO335; clear HO339; clear HB; have HO_5 := n0_; have HO_6 := n1_; have HO_7 := n2_; have HO332 := n3_; have HO335 := n4_; have HO339 := n5_; have HO342 := n6_; have HB := n7_; clear n0_ n1_ n2_ n3_ n4_ n5_ n6_ n7_; (try clear hb); (try clear hb2); (try clear hk); (try clear hi); (try clear ho0); obtain ⟨Ao54, co54, eo54⟩ := Kd.R_slice HO342.out; subst eo54) | (go_at_call 25; (with_reducible refine (impl_MergeSamples.calls kj7 _ _ t315 _ _ t340 t343 _ ?side1 ?side2 ?side3 ?side4 A46.out).mono ?_); (case side1 => repeat (first | exact (Kd.R_reads' HO_5.out).2.2 | (with_reducible refine zJ ?_ _) | (with_reducible refine zK ?_ _) | (with_reducible refine zL ?_))); (case side2 => exact (Kd.R_reads' HO_5.out).2.1); (case side3 => repeat (first | exact (Kd.R_reads' HO342.out).2.2 | (with_reducible refine zJ ?_ _) | (with_reducible refine zK ?_ _) | (with_reducible refine zL ?_))); (case side4 => exact (Kd.R_reads' HO342.out).2.1); rintro e w55 ⟨v344, rfl, ho0, hb⟩; have n0_ := Aside0.mk (Kd.R_elder' (by (with_reducible repeat (first | apply zG | apply zH | apply zI)); exact HO_5.out) (Kd.R_base ho0) hb); have n1_ := Aside0.mk (Kd.R_elder' (by (with_reducible repeat (first | apply zG | apply zH | apply zI)); exact HO_6.out) (Kd.R_base ho0) hb); have n2_ := Aside0.mk (Kd.R_elder' (by (with_reducible repeat (first | apply zG | apply zH | apply zI)); exact HO_7.out) (Kd.R_base ho0) hb); have n3_ := Aside0.mk (Kd.R_elder' (by (with_reducible repeat (first | apply zG | apply zH | apply zI)); exact HO332.out) (Kd.R_base ho0) hb); have n4_ := Aside0.mk (Kd.R_elder' (by (with_reducible repeat (first | apply zG | apply zH | apply zI)); exact HO335.out) (Kd.R_base ho0) hb); have n5_ := Aside0.mk (Kd.R_elder' (by (with_reducible repeat (first | apply zG | apply zH | apply zI)); exact HO339.out) (Kd.R_base ho0) hb); have n6_ := Aside0.mk (Kd.R_elder' (by (with_reducible repeat (first | apply zG | apply zH | apply zI)); exact HO342.out) (Kd.R_base ho0) hb); have n7_ := Aside0.mk (Kd.R_lower (Kd.R_new' (Kd.R_new' (Kd.R_new' (Kd.R_new' (Kd.R_new' (Kd.R_new' (Kd.R_new' ho0 (Kd.R_lt (by (with_reducible repeat (first | apply zG | apply zH | apply zI)); exact HO_5.out))) (Kd.R_lt (by (with_reducible repeat (first | apply zG | apply zH | apply zI)); exact HO_6.out))) (Kd.R_lt (by (with_reducible repeat (first | apply zG | apply zH | apply zI)); exact HO_7.out))) (Kd.R_lt (by (with_reducible repeat (first | apply zG | apply zH | apply zI)); exact HO332.out))) (Kd.R_lt (by (with_reducible repeat (first | apply zG | apply zH | apply zI)); exact HO335.out))) (Kd.R_lt (by (with_reducible repeat (first | apply zG | apply zH | apply zI)); exact HO339.out))) (Kd.R_lt (by (with_reducible repeat (first | apply zG | apply zH | apply zI)); exact HO342.out))) (zW (by repeat (first | (with_reducible first | exact HB.out | apply zA | apply zB | apply zC) | exact HB.out)))); have n8_ := Aside0.mk (below_step (by repeat (first | (with_reducible first | exact HB.out | apply zA | apply zB | apply zC) | exact HB.out)) hb); clear HO_5; clear HO_6; clear HO_7; clear HO332; clear HO335; clear HO339; clear HO342; clear HB; have HO_5 := n0_; have HO_6 := n1_; have HO_7 := n2_; have HO332 := n3_; have HO335 := n4_; have HO339 := n5_; have HO342 := n6_; have HO345 := n7_; have HB := n8_; clear n0_ n1_ n2_ n3_ n4_ n5_ n6_ n7_ n8_; (try clear hb); (try clear hb2); (try clear hk); (try clear hi); (try clear ho0); obtain ⟨Ao56, co56, eo56⟩ := Kd.R_slice HO339.out; subst eo56; obtain ⟨Ao57, co57, eo57⟩ := Kd.R_slice HO345.out; subst eo57) | (go_at_call 26; (with_reducible refine (laws_zSamples.calls kj7 _ _ t337 _ _ t343 t346 _ ?side1 ?side2 ?side3 ?side4 A47.out).mono ?_); (case side1 => repeat (first | exact (Kd.R_reads' HO339.out).2.2 | (with_reducible refine zJ ?_ _) | (with_reducible refine zK ?_ _) | (with_reducible refine zL ?_))); (case side2 => exact (Kd.R_reads' HO339.out).2.1); (case side3 => repeat (first | exact (Kd.R_reads' HO345.out).2.2 | (with_reducible refine zJ ?_ _) | (with_reducible refine zK ?_ _) | (with_reducible refine zL ?_))); (case side4 => exact (Kd.R_reads' HO345.out).2.1); rintro e w' ⟨rfl, ⟨nd, rfl⟩⟩; (try first | exact ⟨rfl, _, World.drewN_drewN _ _ _⟩ | exact ⟨rfl, _, Eq.trans (World.drewN_drewN _ _ _) (congrArg (World.drewN _) (Nat.add_assoc _ _ _))⟩)))
         repeat (go_quiet (first | (go_at_call 25; (with_reducible refine (impl_MergeSamples.calls kj7 _ _ t315 _ _ t315 t333 _ ?side1 ?side2 ?side3 ?side4 A41.out).mono ?_); (case side1 => repeat (first | exact (Kd.R_reads' HO_5.out).2.2 | (with_reducible refine zJ ?_ _) | (with_reducible refine zK ?_ _) | (with_reducible refine zL ?_))); (case side2 => exact (Kd.R_reads' HO_5.out).2.1); (case side3 => repeat (first | exact (Kd.R_reads' HO_5.out).2.2 | (with_reducible refine zJ ?_ _) | (with_reducible refine zK ?_ _) | (with_reducible refine zL ?_))); (case side4 => exact (Kd.R_reads' HO_5.out).2.1); rintro e w48 ⟨v334, rfl, ho0, hb⟩; have n0_ := Aside0.mk (Kd.R_elder' (by (with_reducible repeat (first | apply zG | apply zH | apply zI)); exact HO_5.out) (Kd.R_base ho0) hb); have n1_ := Aside0.mk (Kd.R_elder' (by (with_reducible repeat (first | apply zG | apply zH | apply zI)); exact HO_6.out) (Kd.R_base ho0) hb); have n2_ := Aside0.mk (Kd.R_elder' (by (with_reducible repeat (first | apply zG | apply zH | apply zI)); exact HO_7.out) (Kd.R_base ho0) hb); have n3_ := Aside0.mk (Kd.R_elder' (by (with_reducible repeat (first | apply zG | apply zH | apply zI)); exact HO332.out) (Kd.R_base ho0) hb); have n4_ := Aside0.mk (Kd.R_lower (Kd.R_new' (Kd.R_new' (Kd.R_new' (Kd.R_new' ho0 (Kd.R_lt (by (with_reducible repeat (first | apply zG | apply zH | apply zI)); exact HO_5.out))) (Kd.R_lt (by (with_reducible repeat (first | apply zG | apply zH | apply zI)); exact HO_6.out))) (Kd.R_lt (by (with_reducible repeat (first | apply zG | apply zH | apply zI)); exact HO_7.out))) (Kd.R_lt (by (with_reducible repeat (first | apply zG | apply zH | apply zI)); exact HO332.out))) (zW (by repeat (first | (with_reducible first | exact HB.out | apply zA | apply zB | apply zC) | exact HB.out)))); have n5_ := Aside0.mk (below_step (by repeat (first | (with_reducible first | exact HB.out | apply zA | apply zB | apply zC) | exact HB.out)) hb); clear HO_5; clear HO_6; clear HO_7; clear HO332; clear HB; have HO_5 := n0_; have HO_6 := n1_; have HO_7 := n2_; have HO332 := n3_; have HO335 := n4_; have HB := n5_; clear n0_ n1_ n2_ n3_ n4_ n5_; (try clear hb); (try clear hb2); (try clear hk); (try clear hi); (try clear ho0); obtain ⟨Ao49, co49, eo49⟩ := Kd.R_slice HO335.out; subst eo49) | (go_at_call 26; (with_reducible refine (laws_zSamples.calls kj7 _ _ t333 _ _ t315 true _ ?side1 ?side2 ?side3 ?side4 A42.out).mono ?_); (case side1 => repeat (first | exact (Kd.R_reads' HO335.out).2.2 | (with_reducible refine zJ ?_ _) | (with_reducible refine zK ?_ _) | (with_reducible refine zL ?_))); (case side2 => exact (Kd.R_reads' HO335.out).2.1); (case side3 => repeat (first | exact (Kd.R_reads' HO_5.out).2.2 | (with_reducible refine zJ ?_ _) | (with_reducible refine zK ?_ _) | (with_reducible refine zL ?_))); (case side4 => exact (Kd.R_reads' HO_5.out).2.1); rintro e w' ⟨rfl, ⟨nd, rfl⟩⟩; (try first | exact ⟨rfl, _, World.drewN_drewN _ _ _⟩ | exact ⟨rfl, _, Eq.trans (World.drewN_drewN _ _ _) (congrArg (World.drewN _) (Nat.add_assoc _ _ _))⟩); obtain ⟨Ao50, co50, eo50⟩ := Kd.R_slice HO332.out; subst eo50; obtain ⟨Ao51, co51, eo51⟩ := Kd.R_slice HO_7.out; subst eo51) | (go_at_call 25; (with_reducible refine (impl_MergeSamples.calls kj7 _ _ t330 _ _ t321 t337 _ ?side1 ?side2 ?side3 ?side4 A44.out).mono ?_); (case side1 => repeat (first | exact (Kd.R_reads' HO332.out).2.2 | (with_reducible refine zJ ?_ _) | (with_reducible refine zK ?_ _) | (with_reducible refine zL ?_))); (case side2 => exact (Kd.R_reads' HO332.out).2.1); (case side3 => repeat (first | exact (Kd.R_reads' HO_7.out).2.2 | (with_reducible refine zJ ?_ _) | (with_reducible refine zK ?_ _) | (with_reducible refine zL ?_))); (case side4 => exact (Kd.R_reads' HO_7.out).2.1); rintro e w52 ⟨v338, rfl, ho0, hb⟩; have n0_ := Aside0.mk (Kd.R_elder' (by (with_reducible repeat (first | apply zG | apply zH | apply zI)); exact HO_5.out) (Kd.R_base ho0) hb); have n1_ := Aside0.mk (Kd.R_elder' (by (with_reducible repeat (first | apply zG | apply zH | apply zI)); exact HO_6.out) (Kd.R_base ho0) hb); have n2_ := Aside0.mk (Kd.R_elder' (by (with_reducible repeat (first | apply zG | apply zH | apply zI)); exact HO_7.out) (Kd.R_base ho0) hb); have n3_ := Aside0.mk (Kd.R_elder' (by (with_reducible repeat (first | apply zG | apply zH | apply zI)); exact HO332.out) (Kd.R_base ho0) hb); have n4_ := Aside0.mk (Kd.R_elder' (by (with_reducible repeat (first | apply zG | apply zH | apply zI)); exact HO335.out) (Kd.R_base ho0) hb); have n5_ := Aside0.mk (Kd.R_lower (Kd.R_new' (Kd.R_new' (Kd.R_new' (Kd.R_new' (Kd.R_new' ho0 (Kd.R_lt (by (with_reducible repeat (first | apply zG | apply zH | apply zI)); exact HO_5.out))) (Kd.R_lt (by (with_reducible repeat (first | apply zG | apply zH | apply zI)); exact HO_6.out))) (Kd.R_lt (by (with_reducible repeat (first | apply zG | apply zH | apply zI)); exact HO_7.out))) (Kd.R_lt (by (with_reducible repeat (first | apply zG | apply zH | apply zI)); exact HO332.out))) (Kd.R_lt (by (with_reducible repeat (first | apply zG | apply zH | apply zI)); exact HO335.out))) (zW (by repeat (first | (with_reducible first | exact HB.out | apply zA | apply zB | apply zC) | exact HB.out)))); have n6_ := Aside0.mk (below_step (by repeat (first | (with_reducible first | exact HB.out | apply zA | apply zB | apply zC) | exact HB.out)) hb); clear HO_5; clear HO_6; clear HO_7; clear HO332; clear HO335; clear HB; have HO_5 := n0_; have HO_6 := n1_; have HO_7 := n2_; have HO332 := n3_; have HO335 := n4_; have HO339 := n5_; have HB := n6_; clear n0_ n1_ n2_ n3_ n4_ n5_ n6_; (try clear hb); (try clear hb2); (try clear hk); (try clear hi); (try clear ho0)) | (go_at_call 25; (with_reducible refine (impl_MergeSamples.calls kj7 _ _ t316 _ _ t321 t340 _ ?side1 ?side2 ?side3 ?side4 A45.out).mono ?_); (case side1 => repeat (first | exact (Kd.R_reads' HO_6.out).2.2 | (with_reducible refine zJ ?_ _) | (with_reducible refine zK ?_ _) | (with_reducible refine zL ?_))); (case side2 => exact (Kd.R_reads' HO_6.out).2.1); (case side3 => repeat (first | exact (Kd.R_reads' HO_7.out).2.2 | (with_reducible refine zJ ?_ _) | (with_reducible refine zK ?_ _) | (with_reducible refine zL ?_))); (case side4 => exact (Kd.R_reads' HO_7.out).2.1); rintro e w53 ⟨v341, rfl, ho0, hb⟩; have n0_ := Aside0.mk (Kd.R_elder' (by (with_reducible repeat (first | apply zG | apply zH | apply zI)); exact HO_5.out) (Kd.R_base ho0) hb); have n1_ := Aside0.mk (Kd.R_elder' (by (with_reducible repeat (first | apply zG | apply zH | apply zI)); exact HO_6.out) (Kd.R_base ho0) hb); have n2_ := Aside0.mk (Kd.R_elder' (by (with_reducible repeat (first | apply zG | apply zH | apply zI)); exact HO_7.out) (Kd.R_base ho0) hb); have n3_ := Aside0.mk (Kd.R_elder' (by (with_reducible repeat (first | apply zG | apply zH | apply zI)); exact HO332.out) (Kd.R_base ho0) hb); have n4_ := Aside0.mk (Kd.R_elder' (by (with_reducible repeat (first | apply zG | apply zH | apply zI)); exact HO335.out) (Kd.R_base ho0) hb); have n5_ := Aside0.mk (Kd.R_elder' (by (with_reducible repeat (first | apply zG | apply zH | apply zI)); exact HO339.out) (Kd.R_base ho0) hb); have n6_ := Aside0.mk (Kd.R_lower (Kd.R_new' (Kd.R_new' (Kd.R_new' (Kd.R_new' (Kd.R_new' (Kd.R_new' ho0 (Kd.R_lt (by (with_reducible repeat (first | apply zG | apply zH | apply zI)); exact HO_5.out))) (Kd.R_lt (by (with_reducible repeat (first | apply zG | apply zH | apply zI)); exact HO_6.out))) (Kd.R_lt (by (with_reducible repeat (first | apply zG | apply zH | apply zI)); exact HO_7.out))) (Kd.R_lt (by (with_reducible repeat (first | apply zG | apply zH | apply zI)); exact HO332.out))) (Kd.R_lt (by (with_reducible repeat (first | apply zG | apply zH | apply zI)); exact HO335.out))) (Kd.R_lt (by (with_reducible repeat (first | apply zG | apply zH | apply zI)); exact HO339.out))) (zW (by repeat (first | (with_reducible first | exact HB.out | apply zA | apply zB | apply zC) | exact HB.out)))); have n7_ := Aside0.mk (below_step (by repeat (first | (with_reducible first | exact HB.out | apply zA | apply zB | apply zC) | exact HB.out)) hb); clear HO_5; clear HO_6; clear HO_7; clear HO332; clear HO335; clear HO339; clear HB; have HO_5 := n0_; have HO_6 := n1_; have HO_7 := n2_; have HO332 := n3_; have HO335 := n4_; have HO339 := n5_; have HO342 := n6_; have HB := n7_; clear n0_ n1_ n2_ n3_ n4_ n5_ n6_ n7_; (try clear hb); (try clear hb2); (try clear hk); (try clear hi); (try clear ho0); obtain ⟨Ao54, co54, eo54⟩ := Kd.R_slice HO342.out; subst eo54) | (go_at_call 25; (with_reducible refine (impl_MergeSamples.calls kj7 _ _ t315 _ _ t340 t343 _ ?side1 ?side2 ?side3 ?side4 A46.out).mono ?_); (case side1 => repeat (first | exact (Kd.R_reads' HO_5.out).2.2 | (with_reducible refine zJ ?_ _) | (with_reducible refine zK ?_ _) | (with_reducible refine zL ?_))); (case side2 => exact (Kd.R_reads' HO_5.out).2.1); (case side3 => repeat (first | exact (Kd.R_reads' HO342.out).2.2 | (with_reducible refine zJ ?_ _) | (with_reducible refine zK ?_ _) | (with_reducible refine zL ?_))); (case side4 => exact (Kd.R_reads' HO342.out).2.1); rintro e w55 ⟨v344, rfl, ho0, hb⟩; have n0_ := Aside0.mk (Kd.R_elder' (by (with_reducible repeat (first | apply zG | apply zH | apply zI)); exact HO_5.out) (Kd.R_base ho0) hb); have n1_ := Aside0.mk (Kd.R_elder' (by (with_reducible repeat (first | apply zG | apply zH | apply zI)); exact HO_6.out) (Kd.R_base ho0) hb); have n2_ := Aside0.mk (Kd.R_elder' (by (with_reducible repeat (first | apply zG | apply zH | apply zI)); exact HO_7.out) (Kd.R_base ho0) hb); have n3_ := Aside0.mk (Kd.R_elder' (by (with_reducible repeat (first | apply zG | apply zH | apply zI)); exact HO332.out) (Kd.R_base ho0) hb); have n4_ := Aside0.mk (Kd.R_elder' (by (with_reducible repeat (first | apply zG | apply zH | apply zI)); exact HO335.out) (Kd.R_base ho0) hb); have n5_ := Aside0.mk (Kd.R_elder' (by (with_reducible repeat (first | apply zG | apply zH | apply zI)); exact HO339.out) (Kd.R_base ho0) hb); have n6_ := Aside0.mk (Kd.R_elder' (by (with_reducible repeat (first | apply zG | apply zH | apply zI)); exact HO342.out) (Kd.R_base ho0) hb); have n7_ := Aside0.mk (Kd.R_lower (Kd.R_new' (Kd.R_new' (Kd.R_new' (Kd.R_new' (Kd.R_new' (Kd.R_new' (Kd.R_new' ho0 (Kd.R_lt (by (with_reducible repeat (first | apply zG | apply zH | apply zI)); exact HO_5.out))) (Kd.R_lt (by (with_reducible repeat (first | apply zG | apply zH | apply zI)); exact HO_6.out))) (Kd.R_lt (by (with_reducible repeat (first | apply zG | apply zH | apply zI)); exact HO_7.out))) (Kd.R_lt (by (with_reducible repeat (first | apply zG | apply zH | apply zI)); exact HO332.out))) (Kd.R_lt (by (with_reducible repeat (first | apply zG | apply zH | apply zI)); exact HO335.out))) (Kd.R_lt (by (with_reducible repeat (first | apply zG | apply zH | apply zI)); exact HO339.out))) (Kd.R_lt (by (with_reducible repeat (first | apply zG | apply zH | apply zI)); exact HO342.out))) (zW (by repeat (first | (with_reducible first | exact HB.out | apply zA | apply zB | apply zC) | exact HB.out)))); have n8_ := Aside0.mk (below_step (by repeat (first | (with_reducible first | exact HB.out | apply zA | apply zB | apply zC) | exact HB.out)) hb); clear HO_5; clear HO_6; clear HO_7; clear HO332; clear HO335; clear HO339; clear HO342; clear HB; have HO_5 := n0_; have HO_6 := n1_; have HO_7 := n2_; have HO332 := n3_; have HO335 := n4_; have HO339 := n5_; have HO342 := n6_; have HO345 := n7_; have HB := n8_; clear n0_ n1_ n2_ n3_ n4_ n5_ n6_ n7_ n8_; (try clear hb); (try clear hb2); (try clear hk); (try clear hi); (try clear ho0); obtain ⟨Ao56, co56, eo56⟩ := Kd.R_slice HO339.out; subst eo56; obtain ⟨Ao57, co57, eo57⟩ := Kd.R_slice HO345.out; subst eo57) | (go_at_call 26; (with_reducible refine (laws_zSamples.calls kj7 _ _ t337 _ _ t343 t346 _ ?side1 ?side2 ?side3 ?side4 A47.out).mono ?_); (case side1 => repeat (first | exact (Kd.R_reads' HO339.out).2.2 | (with_reducible refine zJ ?_ _) | (with_reducible refine zK ?_ _) | (with_reducible refine zL ?_))); (case side2 => exact (Kd.R_reads' HO339.out).2.1); (case side3 => repeat (first | exact (Kd.R_reads' HO345.out).2.2 | (with_reducible refine zJ ?_ _) | (with_reducible refine zK ?_ _) | (with_reducible refine zL ?_))); (case side4 => exact (Kd.R_reads' HO345.out).2.1); rintro e w' ⟨rfl, ⟨nd, rfl⟩⟩; (try first | exact ⟨rfl, _, World.drewN_drewN _ _ _⟩ | exact ⟨rfl, _, Eq.trans (World.drewN_drewN _ _ _) (congrArg (World.drewN _) (Nat.add_assoc _ _ _))⟩))); try go_wp2_with (first | (go_at_call 25; (with_reducible refine (impl_MergeSamples.calls kj7 _ _ t315 _ _ t315 t333 _ ?side1 ?side2 ?side3 ?side4 A41.out).mono ?_); (case side1 => repeat (first | exact (Kd.R_reads' HO_5.out).2.2 | (with_reducible refine zJ ?_ _) | (with_reducible refine zK ?_ _) | (with_reducible refine zL ?_))); (case side2 => exact (Kd.R_reads' HO_5.out).2.1); (case side3 => repeat (first | exact (Kd.R_reads' HO_5.out).2.2 | (with_reducible refine zJ ?_ _) | (with_reducible refine zK ?_ _) | (with_reducible refine zL ?_))); (case side4 => exact (Kd.R_reads' HO_5.out).2.1); rintro e w48 ⟨v334, rfl, ho0, hb⟩; have n0_ := Aside0.mk (Kd.R_elder' (by (with_reducible repeat (first | apply zG | apply zH | apply zI)); exact HO_5.out) (Kd.R_base ho0) hb); have n1_ := Aside0.mk (Kd.R_elder' (by (with_reducible repeat (first | apply zG | apply zH | apply zI)); exact HO_6.out) (Kd.R_base ho0) hb); have n2_ := Aside0.mk (Kd.R_elder' (by (with_reducible repeat (first | apply zG | apply zH | apply zI)); exact HO_7.out) (Kd.R_base ho0) hb); have n3_ := Aside0.mk (Kd.R_elder' (by (with_reducible repeat (first | apply zG | apply zH | apply zI)); exact HO332.out) (Kd.R_base ho0) hb); have n4_ := Aside0.mk (Kd.R_lower (Kd.R_new' (Kd.R_new' (Kd.R_new' (Kd.R_new' ho0 (Kd.R_lt (by (with_reducible repeat (first | apply zG | apply zH | apply zI)); exact HO_5.out))) (Kd.R_lt (by (with_reducible repeat (first | apply zG | apply zH | apply zI)); exact HO_6.out))) (Kd.R_lt (by (with_reducible repeat (first | apply zG | apply zH | apply zI)); exact HO_7.out))) (Kd.R_lt (by (with_reducible repeat (first | apply zG | apply zH | apply zI)); exact HO332.out))) (zW (by repeat (first | (with_reducible first | exact HB.out | apply zA | apply zB | apply zC) | exact HB.out)))); have n5_ := Aside0.mk (below_step (by repeat (first | (with_reducible first | exact HB.out | apply zA | apply zB | apply zC) | exact HB.out)) hb); clear HO_5; clear HO_6; clear HO_7; clear HO332; clear HB; have HO_5 := n0_; have HO_6 := n1_; have HO_7 := n2_; have HO332 := n3_; have HO335 := n4_; have HB := n5_; clear n0_ n1_ n2_ n3_ n4_ n5_; (try clear hb); (try clear hb2); (try clear hk); (try clear hi); (try clear ho0); obtain ⟨Ao49, co49, eo49⟩ := Kd.R_slice HO335.out; subst eo49) | (go_at_call 26; (with_reducible refine (laws_zSamples.calls kj7 _ _ t333 _ _ t315 true _ ?side1 ?side2 ?side3 ?side4 A42.out).mono ?_); (case side1 => repeat (first | exact (Kd.R_reads' HO335.out).2.2 | (with_reducible refine zJ ?_ _) | (with_reducible refine zK ?_ _) | (with_reducible refine zL ?_))); (case side2 => exact (Kd.R_reads' HO335.out).2.1); (case side3 => repeat (first | exact (Kd.R_reads' HO_5.out).2.2 | (with_reducible refine zJ ?_ _) | (with_reducible refine zK ?_ _) | (with_reducible refine zL ?_))); (case side4 => exact (Kd.R_reads' HO_5.out).2.1); rintro e w' ⟨rfl, ⟨nd, rfl⟩⟩; (try first | exact ⟨rfl, _, World.drewN_drewN _ _ _⟩ | exact ⟨rfl, _, Eq.trans (World.drewN_drewN _ _ _) (congrArg (World.drewN _) (Nat.add_assoc _ _ _))⟩); obtain ⟨Ao50, co50, eo50⟩ := Kd.R_slice HO332.out; subst eo50; obtain ⟨Ao51, co51, eo51⟩ := Kd.R_slice HO_7.out; subst eo51) | (go_at_call 25; (with_reducible refine (impl_MergeSamples.calls kj7 _ _ t330 _ _ t321 t337 _ ?side1 ?side2 ?side3 ?side4 A44.out).mono ?_); (case side1 => repeat (first | exact (Kd.R_reads' HO332.out).2.2 | (with_reducible refine zJ ?_ _) | (with_reducible refine zK ?_ _) | (with_reducible refine zL ?_))); (case side2 => exact (Kd.R_reads' HO332.out).2.1); (case side3 => repeat (first | exact (Kd.R_reads' HO_7.out).2.2 | (with_reducible refine zJ ?_ _) | (with_reducible refine zK ?_ _) | (with_reducible refine zL ?_))); (case side4 => exact (Kd.R_reads' HO_7.out).2.1); rintro e w52 ⟨v338, rfl, ho0, hb⟩; have n0_ := Aside0.mk (Kd.R_elder' (by (with_reducible repeat (first | apply zG | apply zH | apply zI)); exact HO_5.out) (Kd.R_base ho0) hb); have n1_ := Aside0.mk (Kd.R_elder' (by (with_reducible repeat (first | apply zG | apply zH | apply zI)); exact HO_6.out) (Kd.R_base ho0) hb); have n2_ := Aside0.mk (Kd.R_elder' (by (with_reducible repeat (first | apply zG | apply zH | apply zI)); exact HO_7.out) (Kd.R_base ho0) hb); have n3_ := Aside0.mk (Kd.R_elder' (by (with_reducible repeat (first | apply zG | apply zH | apply zI)); exact HO332.out) (Kd.R_base ho0) hb); have n4_ := Aside0.mk (Kd.R_elder' (by (with_reducible repeat (first | apply zG | apply zH | apply zI)); exact HO335.out) (Kd.R_base ho0) hb); have n5_ := Aside0.mk (Kd.R_lower (Kd.R_new' (Kd.R_new' (Kd.R_new' (Kd.R_new' (Kd.R_new' ho0 (Kd.R_lt (by (with_reducible repeat (first | apply zG | apply zH | apply zI)); exact HO_5.out))) (Kd.R_lt (by (with_reducible repeat (first | apply zG | apply zH | apply zI)); exact HO_6.out))) (Kd.R_lt (by (with_reducible repeat (first | apply zG | apply zH | apply zI)); exact HO_7.out))) (Kd.R_lt (by (with_reducible repeat (first | apply zG | apply zH | apply zI)); exact HO332.out))) (Kd.R_lt (by (with_reducible repeat (first | apply zG | apply zH | apply zI)); exact HO335.out))) (zW (by repeat (first | (with_reducible first | exact HB.out | apply zA | apply zB | apply zC) | exact HB.out)))); have n6_ := Aside0.mk (below_step (by repeat (first | (with_reducible first | exact HB.out | apply zA | apply zB | apply zC) | exact HB.out)) hb); clear HO_5; clear HO_6; clear HO_7; clear HO332; clear HO335; clear HB; have HO_5 := n0_; have HO_6 := n1_; have HO_7 := n2_; have HO332 := n3_; have HO335 := n4_; have HO339 := n5_; have HB := n6_; clear n0_ n1_ n2_ n3_ n4_ n5_ n6_; (try clear hb); (try clear hb2); (try clear hk); (try clear hi); (try clear ho0)) | (go_at_call 25; (with_reducible refine (impl_MergeSamples.calls kj7 _ _ t316 _ _ t321 t340 _ ?side1 ?side2 ?side3 ?side4 A45.out).mono ?_); (case side1 => repeat (first | exact (Kd.R_reads' HO_6.out).2.2 | (with_reducible refine zJ ?_ _) | (with_reducible refine zK ?_ _) | (with_reducible refine zL ?_))); (case side2 => exact (Kd.R_reads' HO_6.out).2.1); (case side3 => repeat (first | exact (Kd.R_reads' HO_7.out).2.2 | (with_reducible refine zJ ?_ _) | (with_reducible refine zK ?_ _) | (with_reducible refine zL ?_))); (case side4 => exact (Kd.R_reads' HO_7.out).2.1); rintro e w53 ⟨v341, rfl, ho0, hb⟩; have n0_ := Aside0.mk (Kd.R_elder' (by (with_reducible repeat (first | apply zG | apply zH | apply zI)); exact HO_5.out) (Kd.R_base ho0) hb); have n1_ := Aside0.mk (Kd.R_elder' (by (with_reducible repeat (first | apply zG | apply zH | apply zI)); exact HO_6.out) (Kd.R_base ho0) hb); have n2_ := Aside0.mk (Kd.R_elder' (by (with_reducible repeat (first | apply zG | apply zH | apply zI)); exact HO_7.out) (Kd.R_base ho0) hb); have n3_ := Aside0.mk (Kd.R_elder' (by (with_reducible repeat (first | apply zG | apply zH | apply zI)); exact HO332.out) (Kd.R_base ho0) hb); have n4_ := Aside0.mk (Kd.R_elder' (by (with_reducible repeat (first | apply zG | apply zH | apply zI)); exact HO335.out) (Kd.R_base ho0) hb); have n5_ := Aside0.mk (Kd.R_elder' (by (with_reducible repeat (first | apply zG | apply zH | apply zI)); exact HO339.out) (Kd.R_base ho0) hb); have n6_ := Aside0.mk (Kd.R_lower (Kd.R_new' (Kd.R_new' (Kd.R_new' (Kd.R_new' (Kd.R_new' (Kd.R_new' ho0 (Kd.R_lt (by (with_reducible repeat (first | apply zG | apply zH | apply zI)); exact HO_5.out))) (Kd.R_lt (by (with_reducible repeat (first | apply zG | apply zH | apply zI)); exact HO_6.out))) (Kd.R_lt (by (with_reducible repeat (first | apply zG | apply zH | apply zI)); exact HO_7.out))) (Kd.R_lt (by (with_reducible repeat (first | apply zG | apply zH | apply zI)); exact HO332.out))) (Kd.R_lt (by (with_reducible repeat (first | apply zG | apply zH | apply zI)); exact HO335.out))) (Kd.R_lt (by (with_reducible repeat (first | apply zG | apply zH | apply zI)); exact HO339.out))) (zW (by repeat (first | (with_reducible first | exact HB.out | apply zA | apply zB | apply zC) | exact HB.out)))); have n7_ := Aside0.mk (below_step (by repeat (first | (with_reducible first | exact HB.out | apply zA | apply zB | apply zC) | exact HB.out)) hb); clear HO_5; clear HO_6; clear HO_7; clear HO332; clear HO335; clear HO339; clear HB; have HO_5 := n0_; have HO_6 := n1_; have HO_7 := n2_; have HO332 := n3_; have HO335 := n4_; have HO339 := n5_; have HO342 := n6_; have HB := n7_; clear n0_ n1_ n2_ n3_ n4_ n5_ n6_ n7_; (try clear hb); (try clear hb2); (try clear hk); (try clear hi); (try clear ho0); obtain ⟨Ao54, co54, eo54⟩ := Kd.R_slice HO342.out; subst eo54) | (go_at_call 25; (with_reducible refine (impl_MergeSamples.calls kj7 _ _ t315 _ _ t340 t343 _ ?side1 ?side2 ?side3 ?side4 A46.out).mono ?_); (case side1 => repeat (first | exact (Kd.R_reads' HO_5.out).2.2 | (with_reducible refine zJ ?_ _) | (with_reducible refine zK ?_ _) | (with_reducible refine zL ?_))); (case side2 => exact (Kd.R_reads' HO_5.out).2.1); (case side3 => repeat (first | exact (Kd.R_reads' HO342.out).2.2 | (with_reducible refine zJ ?_ _) | (with_reducible refine zK ?_ _) | (with_reducible refine zL ?_))); (case side4 => exact (Kd.R_reads' HO342.out).2.1); rintro e w55 ⟨v344, rfl, ho0, hb⟩; have n0_ := Aside0.mk (Kd.R_elder' (by (with_reducible repeat (first | apply zG | apply zH | apply zI)); exact HO_5.out) (Kd.R_base ho0) hb); have n1_ := Aside0.mk (Kd.R_elder' (by (with_reducible repeat (first | apply zG | apply zH | apply zI)); exact HO_6.out) (Kd.R_base ho0) hb); have n2_ := Aside0.mk (Kd.R_elder' (by (with_reducible repeat (first | apply zG | apply zH | apply zI)); exact HO_7.out) (Kd.R_base ho0) hb); have n3_ := Aside0.mk (Kd.R_elder' (by (with_reducible repeat (first | apply zG | apply zH | apply zI)); exact HO332.out) (Kd.R_base ho0) hb); have n4_ := Aside0.mk (Kd.R_elder' (by (with_reducible repeat (first | apply zG | apply zH | apply zI)); exact HO335.out) (Kd.R_base ho0) hb); have n5_ := Aside0.mk (Kd.R_elder' (by (with_reducible repeat (first | apply zG | apply zH | apply zI)); exact HO339.out) (Kd.R_base ho0) hb); have n6_ := Aside0.mk (Kd.R_elder' (by (with_reducible repeat (first | apply zG | apply zH | apply zI)); exact HO342.out) (Kd.R_base ho0) hb); have n7_ := Aside0.mk (Kd.R_lower (Kd.R_new' (Kd.R_new' (Kd.R_new' (Kd.R_new' (Kd.R_new' (Kd.R_new' (Kd.R_new' ho0 (Kd.R_lt (by (with_reducible repeat (first | apply zG | apply zH | apply zI)); exact HO_5.out))) (Kd.R_lt (by (with_reducible repeat (first | apply zG | apply zH | apply zI)); exact HO_6.out))) (Kd.R_lt (by (with_reducible repeat (first | apply zG | apply zH | apply zI)); exact HO_7.out))) (Kd.R_lt (by (with_reducible repeat (first | apply zG | apply zH | apply zI)); exact HO332.out))) (Kd.R_lt (by (with_reducible repeat (first | apply zG | apply zH | apply zI)); exact HO335.out))) (Kd.R_lt (by (with_reducible repeat (first | apply zG | apply zH | apply zI)); exact HO339.out))) (Kd.R_lt (by (with_reducible repeat (first | apply zG | apply zH | apply zI)); exact HO342.out))) (zW (by repeat (first | (with_reducible first | exact HB.out | apply zA | apply zB | apply zC) | exact HB.out)))); have n8_ := Aside0.mk (below_step (by repeat (first | (with_reducible first | exact HB.out | apply zA | apply zB | apply zC) | exact HB.out)) hb); clear HO_5; clear HO_6; clear HO_7; clear HO332; clear HO335; clear HO339; clear HO342; clear HB; have HO_5 := n0_; have HO_6 := n1_; have HO_7 := n2_; have HO332 := n3_; have HO335 := n4_; have HO339 := n5_; have HO342 := n6_; have HO345 := n7_; have HB := n8_; clear n0_ n1_ n2_ n3_ n4_ n5_ n6_ n7_ n8_; (try clear hb); (try clear hb2); (try clear hk); (try clear hi); (try clear ho0); obtain ⟨Ao56, co56, eo56⟩ := Kd.R_slice HO339.out; subst eo56; obtain ⟨Ao57, co57, eo57⟩ := Kd.R_slice HO345.out; subst eo57) | (go_at_call 26; (with_reducible refine (laws_zSamples.calls kj7 _ _ t337 _ _ t343 t346 _ ?side1 ?side2 ?side3 ?side4 A47.out).mono ?_); (case side1 => repeat (first | exact (Kd.R_reads' HO339.out).2.2 | (with_reducible refine zJ ?_ _) | (with_reducible refine zK ?_ _) | (with_reducible refine zL ?_))); (case side2 => exact (Kd.R_reads' HO339.out).2.1); (case side3 => repeat (first | exact (Kd.R_reads' HO345.out).2.2 | (with_reducible refine zJ ?_ _) | (with_reducible refine zK ?_ _) | (with_reducible refine zL ?_))); (case side4 => exact (Kd.R_reads' HO345.out).2.1); rintro e w' ⟨rfl, ⟨nd, rfl⟩⟩; (try first | exact ⟨rfl, _, World.drewN_drewN _ _ _⟩ | exact ⟨rfl, _, Eq.trans (World.drewN_drewN _ _ _) (congrArg (World.drewN _) (Nat.add_assoc _ _ _))⟩))))
         go_meet
         case rel => exact ⟨_, (!t346), (by first | rfl | (simp; done) | (simp [*]; done)), H', ⟨by have := HJ2.out; have := HJ7.out; first | omega | exact Nat.le_refl _⟩, ⟨by (with_reducible repeat (first | apply zG | apply zH | apply zI)); exact Kd.R_mono HO_5.out (fun _ hk => ⟨hk.1.1.1.1.1.1, hk.1.1.1.1.2⟩)⟩, ⟨by (with_reducible repeat (first | apply zG | apply zH | apply zI)); exact Kd.R_mono HO_6.out (fun _ hk => ⟨hk.1.1.1.1.1.1, hk.1.1.1.1.2⟩)⟩, ⟨by (with_reducible repeat (first | apply zG | apply zH | apply zI)); exact Kd.R_mono HO332.out (fun _ hk => ⟨hk.1.1.1.1.1.1.2, hk.1.1.1.1.1.2⟩)⟩, ⟨by repeat (first | (with_reducible first | exact HB.out | apply zA | apply zB | apply zC) | exact HB.out)⟩⟩
        ·replace c43 := Bool.eq_false_iff.mpr c43
         subst c43
         have H1 : (laws_FnMerged.j2 kj7 t315 t316 t330 true) = some r := by rw [if_neg (show ¬ (false = true) by decide)] at H; exact H
         clear H
         have H := H1
         clear H1
         have H' := Aside0.mk H
         clear H
         go_wp2_with (first | (go_at_call 25; (with_reducible refine (impl_MergeSamples.calls kj7 _ _ t315 _ _ t315 t333 _ ?side1 ?side2 ?side3 ?side4 A41.out).mono ?_); (case side1 => repeat (first | exact (Kd.R_reads' HO_5.out).2.2 | (with_reducible refine zJ ?_ _) | (with_reducible refine zK ?_ _) | (with_reducible refine zL ?_))); (case side2 => exact (Kd.R_reads' HO_5.out).2.1); (case side3 => repeat (first | exact (Kd.R_reads' HO_5.out).2.2 | (with_reducible refine zJ ?_ _) | (with_reducible refine zK ?_ _) | (with_reducible refine zL ?_))); (case side4 => exact (Kd.R_reads' HO_5.out).2.1); rintro e w58 ⟨v334, rfl, ho0, hb⟩; have n0_ := Aside0.mk (Kd.R_elder' (by (with_reducible repeat (first | apply zG | apply zH | apply zI)); exact HO_5.out) (Kd.R_base ho0) hb); have n1_ := Aside0.mk (Kd.R_elder' (by (with_reducible repeat (first | apply zG | apply zH | apply zI)); exact HO_6.out) (Kd.R_base ho0) hb); have n2_ := Aside0.mk (Kd.R_elder' (by (with_reducible repeat (first | apply zG | apply zH | apply zI)); exact HO_7.out) (Kd.R_base ho0) hb); have n3_ := Aside0.mk (Kd.R_elder' (by (with_reducible repeat (first | apply zG | apply zH | apply zI)); exact HO332.out) (Kd.R_base ho0) hb); have n4_ := Aside0.mk (Kd.R_lower (Kd.R_new' (Kd.R_new' (Kd.R_new' (Kd.R_new' ho0 (Kd.R_lt (by (with_reducible repeat (first | apply zG | apply zH | apply zI)); exact HO_5.out))) (Kd.R_lt (by (with_reducible repeat (first | apply zG | apply zH | apply zI)); exact HO_6.out))) (Kd.R_lt (by (with_reducible repeat (first | apply zG | apply zH | apply zI)); exact HO_7.out))) (Kd.R_lt (by (with_reducible repeat (first | apply zG | apply zH | apply zI)); exact HO332.out))) (zW (by repeat (first | (with_reducible first | exact HB.out | apply zA | apply zB | apply zC) | exact HB.out)))); have n5_ := Aside0.mk (below_step (by repeat (first | (with_reducible first | exact HB.out | apply zA | apply zB | apply zC) | exact HB.out)) hb); clear HO_5; clear HO_6; clear HO_7; clear HO332; clear HB; have HO_5 := n0_; have HO_6 := n1_; have HO_7 := n2_; have HO332 := n3_; have HO335 := n4_; have HB := n5_; clear n0_ n1_ n2_ n3_ n4_ n5_; (try clear hb); (try clear hb2); (try clear hk); (try clear hi); (try clear ho0); obtain ⟨Ao59, co59, eo59⟩ := Kd.R_slice HO335.out; subst eo59) | (go_at_call 26; (with_reducible refine (laws_zSamples.calls kj7 _ _ t333 _ _ t315 false _ ?side1 ?side2 ?side3 ?side4 A42.out).mono ?_); (case side1 => repeat (first | exact (Kd.R_reads' HO335.out).2.2 | (with_reducible refine zJ ?_ _) | (with_reducible refine zK ?_ _) | (with_reducible refine zL ?_))); (case side2 => exact (Kd.R_reads' HO335.out).2.1); (case side3 => repeat (first | exact (Kd.R_reads' HO_5.out).2.2 | (with_reducible refine zJ ?_ _) | (with_reducible refine zK ?_ _) | (with_reducible refine zL ?_))); (case side4 => exact (Kd.R_reads' HO_5.out).2.1); rintro e w' ⟨rfl, ⟨nd, rfl⟩⟩; (try first | exact ⟨rfl, _, World.drewN_drewN _ _ _⟩ | exact ⟨rfl, _, Eq.trans (World.drewN_drewN _ _ _) (congrArg (World.drewN _) (Nat.add_assoc _ _ _))⟩)))
         repeat (go_quiet (first | (go_at_call 25; (with_reducible refine (impl_MergeSamples.calls kj7 _ _ t315 _ _ t315 t333 _ ?side1 ?side2 ?side3 ?side4 A41.out).mono ?_); (case side1 => repeat (first | exact (Kd.R_reads' HO_5.out).2.2 | (with_reducible refine zJ ?_ _) | (with_reducible refine zK ?_ _) | (with_reducible refine zL ?_))); (case side2 => exact (Kd.R_reads' HO_5.out).2.1); (case side3 => repeat (first | exact (Kd.R_reads' HO_5.out).2.2 | (with_reducible refine zJ ?_ _) | (with_reducible refine zK ?_ _) | (with_reducible refine zL ?_))); (case side4 => exact (Kd.R_reads' HO_5.out).2.1); rintro e w58 ⟨v334, rfl, ho0, hb⟩; have n0_ := Aside0.mk (Kd.R_elder' (by (with_reducible repeat (first | apply zG | apply zH | apply zI)); exact HO_5.out) (Kd.R_base ho0) hb); have n1_ := Aside0.mk (Kd.R_elder' (by (with_reducible repeat (first | apply zG | apply zH | apply zI)); exact HO_6.out) (Kd.R_base ho0) hb); have n2_ := Aside0.mk (Kd.R_elder' (by (with_reducible repeat (first | apply zG | apply zH | apply zI)); exact HO_7.out) (Kd.R_base ho0) hb); have n3_ := Aside0.mk (Kd.R_elder' (by (with_reducible repeat (first | apply zG | apply zH | apply zI)); exact HO332.out) (Kd.R_base ho0) hb); have n4_ := Aside0.mk (Kd.R_lower (Kd.R_new' (Kd.R_new' (Kd.R_new' (Kd.R_new' ho0 (Kd.R_lt (by (with_reducible repeat (first | apply zG | apply zH | apply zI)); exact HO_5.out))) (Kd.R_lt (by (with_reducible repeat (first | apply zG | apply zH | apply zI)); exact HO_6.out))) (Kd.R_lt (by (with_reducible repeat (first | apply zG | apply zH | apply zI)); exact HO_7.out))) (Kd.R_lt (by (with_reducible repeat (first | apply zG | apply zH | apply zI)); exact HO332.out))) (zW (by repeat (first | (with_reducible first | exact HB.out | apply zA | apply zB | apply zC) | exact HB.out)))); have n5_ := Aside0.mk (below_step (by repeat (first | (with_reducible first | exact HB.out | apply zA | apply zB | apply zC) | exact HB.out)) hb); clear HO_5; clear HO_6; clear HO_7; clear HO332; clear HB; have HO_5 := n0_; have HO_6 := n1_; have HO_7 := n2_; have HO332 := n3_; have HO335 := n4_; have HB := n5_; clear n0_ n1_ n2_ n3_ n4_ n5_; (try clear hb); (try clear hb2); (try clear hk); (try clear hi); (try clear ho0); obtain ⟨Ao59, co59, eo59⟩ := Kd.R_slice HO335.out; subst eo59) | (go_at_call 26; (with_reducible refine (laws_zSamples.calls kj7 _ _ t333 _ _ t315 false _ ?side1 ?side2 ?side3 ?side4 A42.out).mono ?_); (case side1 => repeat (first | exact (Kd.R_reads' HO335.out).2.2 | (with_reducible refine zJ ?_ _) | (with_reducible refine zK ?_ _) | (with_reducible refine zL ?_))); (case side2 => exact (Kd.R_reads' HO335.out).2.1); (case side3 => repeat (first | exact (Kd.R_reads' HO_5.out).2.2 | (with_reducible refine zJ ?_ _) | (with_reducible refine zK ?_ _) | (with_reducible refine zL ?_))); (case side4 => exact (Kd.R_reads' HO_5.out).2.1); rintro e w' ⟨rfl, ⟨nd, rfl⟩⟩; (try first | exact ⟨rfl, _, World.drewN_drewN _ _ _⟩ | exact ⟨rfl, _, Eq.trans (World.drewN_drewN _ _ _) (congrArg (World.drewN _) (Nat.add_assoc _ _ _))⟩))); try go_wp2_with (first | (go_at_call 25; (with_reducible refine (impl_MergeSamples.calls kj7 _ _ t315 _ _ t315 t333 _ ?side1 ?side2 ?side3 ?side4 A41.out).mono ?_); (case side1 => repeat (first | exact (Kd.R_reads' HO_5.out).2.2 | (with_reducible refine zJ ?_ _) | (with_reducible refine zK ?_ _) | (with_reducible refine zL ?_))); (case side2 => exact (Kd.R_reads' HO_5.out).2.1); (case side3 => repeat (first | exact (Kd.R_reads' HO_5.out).2.2 | (with_reducible refine zJ ?_ _) | (with_reducible refine zK ?_ _) | (with_reducible refine zL ?_))); (case side4 => exact (Kd.R_reads' HO_5.out).2.1); rintro e w58 ⟨v334, rfl, ho0, hb⟩; have n0_ := Aside0.mk (Kd.R_elder' (by (with_reducible repeat (first | apply zG | apply zH | apply zI)); exact HO_5.out) (Kd.R_base ho0) hb); have n1_ := Aside0.mk (Kd.R_elder' (by (with_reducible repeat (first | apply zG | apply zH | apply zI)); exact HO_6.out) (Kd.R_base ho0) hb); have n2_ := Aside0.mk (Kd.R_elder' (by (with_reducible repeat (first | apply zG | apply zH | apply zI)); exact HO_7.out) (Kd.R_base ho0) hb); have n3_ := Aside0.mk (Kd.R_elder' (by (with_reducible repeat (first | apply zG | apply zH | apply zI)); exact HO332.out) (Kd.R_base ho0) hb); have n4_ := Aside0.mk (Kd.R_lower (Kd.R_new' (Kd.R_new' (Kd.R_new' (Kd.R_new' ho0 (Kd.R_lt (by (with_reducible repeat (first | apply zG | apply zH | apply zI)); exact HO_5.out))) (Kd.R_lt (by (with_reducible repeat (first | apply zG | apply zH | apply zI)); exact HO_6.out))) (Kd.R_lt (by (with_reducible repeat (first | apply zG | apply zH | apply zI)); exact HO_7.out))) (Kd.R_lt (by (with_reducible repeat (first | apply zG | apply zH | apply zI)); exact HO332.out))) (zW (by repeat (first | (with_reducible first | exact HB.out | apply zA | apply zB | apply zC) | exact HB.out)))); have n5_ := Aside0.mk (below_step (by repeat (first | (with_reducible first | exact HB.out | apply zA | apply zB | apply zC) | exact HB.out)) hb); clear HO_5; clear HO_6; clear HO_7; clear HO332; clear HB; have HO_5 := n0_; have HO_6 := n1_; have HO_7 := n2_; have HO332 := n3_; have HO335 := n4_; have HB := n5_; clear n0_ n1_ n2_ n3_ n4_ n5_; (try clear hb); (try clear hb2); (try clear hk); (try clear hi); (try clear ho0); obtain ⟨Ao59, co59, eo59⟩ := Kd.R_slice HO335.out; subst eo59) | (go_at_call 26; (with_reducible refine (laws_zSamples.calls kj7 _ _ t333 _ _ t315 false _ ?side1 ?side2 ?side3 ?side4 A42.out).mono ?_); (case side1 => repeat (first | exact (Kd.R_reads' HO335.out).2.2 | (with_reducible refine zJ ?_ _) | (with_reducible refine zK ?_ _) | (with_reducible refine zL ?_))); (case side2 => exact (Kd.R_reads' HO335.out).2.1); (case side3 => repeat (first | exact (Kd.R_reads' HO_5.out).2.2 | (with_reducible refine zJ ?_ _) | (with_reducible refine zK ?_ _) | (with_reducible refine zL ?_))); (case side4 => exact (Kd.R_reads' HO_5.out).2.1); rintro e w' ⟨rfl, ⟨nd, rfl⟩⟩; (try first | exact ⟨rfl, _, World.drewN_drewN _ _ _⟩ | exact ⟨rfl, _, Eq.trans (World.drewN_drewN _ _ _) (congrArg (World.drewN _) (Nat.add_assoc _ _ _))⟩))))
         go_meet
         case rel => exact ⟨_, (true), (by first | rfl | (simp; done) | (simp [*]; done)), H', ⟨by have := HJ2.out; have := HJ7.out; first | omega | exact Nat.le_refl _⟩, ⟨by (with_reducible repeat (first | apply zG | apply zH | apply zI)); exact Kd.R_mono HO_5.out (fun _ hk => ⟨hk.1.1.1, hk.1.2⟩)⟩, ⟨by (with_reducible repeat (first | apply zG | apply zH | apply zI)); exact Kd.R_mono HO_6.out (fun _ hk => ⟨hk.1.1.1, hk.1.2⟩)⟩, ⟨by (with_reducible repeat (first | apply zG | apply zH | apply zI)); exact Kd.R_mono HO332.out (fun _ hk => ⟨hk.1.1.1.2, hk.1.1.2⟩)⟩, ⟨by repeat (first | (with_reducible first | exact HB.out | apply zA | apply zB | apply zC) | exact HB.out)⟩⟩
       case rest =>
        clear HC37
        try clear c1
        try clear p2
        try clear c3
        try clear c4
        try clear c4b0
        try clear c4b1
        try clear c5
        try clear c6
        try clear p6
        try clear c12
        try clear c14
        try clear c16
        try clear c35
        try clear c43
        try clear p2
        try clear p6
        obtain ⟨kq, x76_36, rfl, HA, HJ36, HO_5, HO_6, HO_9, HB⟩ := hcut
        cases kq with
        | zero => exact absurd HA.out (by simp [laws_FnMerged.j2])
        | succ kj36 =>
         have H := HA.out
         clear HA
         simp only [laws_FnMerged.j2] at H
         by_cases c60 : x76_36 = true
         ·subst c60
          have H1 : (some false) = some r := by rw [if_pos rfl] at H; exact H
          clear H
          have H := H1
          clear H1
          obtain rfl := Option.some.inj H
          go_wp2
          repeat (go_quiet (fail); try go_wp2)
          go_ret
          exact ⟨by first | rfl | (simp [errW_none, errW_some] <;> rfl) | (simp [*, errW_none, errW_some] <;> rfl), by repeat (first | (with_reducible first | exact HB.out | apply zA | apply zB | apply zC) | exact HB.out)⟩
         ·replace c60 := Bool.eq_false_iff.mpr c60
          subst c60
          have H1 : (laws_FnMerged.l0 kj36 t315 t316 t330 t330 (t330.length : Int) 0) = some r := by rw [if_neg (show ¬ (false = true) by decide)] at H; exact H
          clear H
          have H := H1
          clear H1
          have H' := Aside0.mk H
          clear H
          obtain ⟨Ao61, co61, eo61⟩ := Kd.R_slice HO_9.out
          subst eo61
          go_wp2
          repeat (go_quiet (fail); try go_wp2)
          go_loopg [79] kj36 (fun kq v79 w' => ∃ (x79_4 : Int), v79 = .int .i64 x79_4 ∧ Aside0 (laws_FnMerged.l0 kq t315 t316 t330 t330 (t330.length : Int) x79_4 = some r) ∧ Aside0 (kq ≤ kj36) ∧ Aside0 (Kd.R k53 53 w' w.heap.size (fun k_ => some k_ ≠ ((.slice Ao39 t316.length co39) : Value).ownBlock ∧ some k_ ≠ ((.slice Ao61 t330.length co61) : Value).ownBlock ∧ some k_ ≠ ((.slice Ao61 t330.length co61) : Value).ownBlock) (.slice Ao38 t315.length co38) t315) ∧ Aside0 (Kd.R k53 53 w' w.heap.size (fun k_ => some k_ ≠ ((.slice Ao38 t315.length co38) : Value).ownBlock ∧ some k_ ≠ ((.slice Ao61 t330.length co61) : Value).ownBlock ∧ some k_ ≠ ((.slice Ao61 t330.length co61) : Value).ownBlock) (.slice Ao39 t316.length co39) t316) ∧ Aside0 (Kd.R k53 53 w' w.heap.size (fun k_ => some k_ ≠ ((.slice Ao38 t315.length co38) : Value).ownBlock ∧ some k_ ≠ ((.slice Ao39 t316.length co39) : Value).ownBlock) (.slice Ao61 t330.length co61) t330) ∧ Aside0 (Kd.R k53 53 w' w.heap.size (fun k_ => some k_ ≠ ((.slice Ao38 t315.length co38) : Value).ownBlock ∧ some k_ ≠ ((.slice Ao39 t316.length co39) : Value).ownBlock) (.slice Ao61 t330.length co61) t330) ∧ Aside0 (Below w.heap.size w w'))
          case atStart => exact ⟨(0), (by first | rfl | (simp; done) | (simp [*]; done)), H', ⟨Nat.le_refl _⟩, ⟨by (with_reducible repeat (first | apply zG | apply zH | apply zI)); exact Kd.R_mono HO_5.out (fun _ hk => ⟨hk.1, ⟨hk.2, hk.2⟩⟩)⟩, ⟨by (with_reducible repeat (first | apply zG | apply zH | apply zI)); exact Kd.R_mono HO_6.out (fun _ hk => ⟨hk.1, ⟨hk.2, hk.2⟩⟩)⟩, ⟨by (with_reducible repeat (first | apply zG | apply zH | apply zI)); exact HO_9.out⟩, ⟨by (with_reducible repeat (first | apply zG | apply zH | apply zI)); exact HO_9.out⟩, ⟨by repeat (first | (with_reducible first | exact HB.out | apply zA | apply zB | apply zC) | exact HB.out)⟩⟩
          case round =>
           clear H'
           try clear c1
           try clear p2
           try clear c3
           try clear c4
           try clear c4b0
           try clear c4b1
           try clear c5
           try clear c6
           try clear p6
           try clear c12
           try clear c14
           try clear c16
           try clear c35
           try clear c43
           try clear c60
           try clear p2
           try clear p6
           obtain ⟨x79_4, rfl, HA, HK4, HO_5, HO_6, HO_9, HO_77, HB⟩ := hrel
           cases gk with
           | zero => exact absurd HA.out (by simp [laws_FnMerged.l0])
           | succ k4 =>
            have H := HA.out
            clear HA
            simp only [laws_FnMerged.l0] at H
            by_cases c62 : x79_4 < (t330.length : Int)
            ·rw [if_pos c62] at H
             have c62b0 : decide (x79_4 < (t330.length : Int)) = true := decide_eq_true c62
             clear c62
             by_cases c63 : 0 ≤ x79_4
             ·rw [if_pos c63] at H
              have c63b0 : decide (0 ≤ x79_4) = true := decide_eq_true c63
              clear c63
              by_cases c64 : x79_4 < (t330.length : Int)
              ·rw [if_pos c64] at H
               have c64b0 : decide (x79_4 < (t330.length : Int)) = true := decide_eq_true c64
               clear c64
               replace H := Option.bind_eq_some_iff.mp H
               obtain ⟨t349, A650, H⟩ := H
               replace H : ((impl_CutSamples.f k4 t316 ((rd_T53 t330 x79_4).f0) ((rd_T53 t330 x79_4).f0)).bind fun t352 => (if (t349.length : Int) > 0 then (if 0 < (t349.length : Int) then (if (!(((rd_T53 t349 0).f0) == ((rd_T53 t330 x79_4).f0)) || (!(((rd_T53 t349 0).f1) == ((rd_T53 t330 x79_4).f1)))) = true then (laws_FnMerged.j4 k4 t315 t316 t330 t330 (t330.length : Int) x79_4 true) else (if (t349.length : Int) = 0 then (if (t352.length : Int) = 1 then (if 0 < (t352.length : Int) then (laws_FnMerged.j4 k4 t315 t316 t330 t330 (t330.length : Int) x79_4 (!(((rd_T53 t352 0).f0) == ((rd_T53 t330 x79_4).f0)) || (!(((rd_T53 t352 0).f1) == ((rd_T53 t330 x79_4).f1))))) else (none)) else (laws_FnMerged.j4 k4 t315 t316 t330 t330 (t330.length : Int) x79_4 true)) else (laws_FnMerged.j4 k4 t315 t316 t330 t330 (t330.length : Int) x79_4 false))) else (none)) else (if (t349.length : Int) = 0 then (if (t352.length : Int) = 1 then (if 0 < (t352.length : Int) then (laws_FnMerged.j4 k4 t315 t316 t330 t330 (t330.length : Int) x79_4 (!(((rd_T53 t352 0).f0) == ((rd_T53 t330 x79_4).f0)) || (!(((rd_T53 t352 0).f1) == ((rd_T53 t330 x79_4).f1))))) else (none)) else (laws_FnMerged.j4 k4 t315 t316 t330 t330 (t330.length : Int) x79_4 true)) else (laws_FnMerged.j4 k4 t315 t316 t330 t330 (t330.length : Int) x79_4 false)))) = some r := H
               have A65 := Aside0.mk A650
               clear A650
               replace H := Option.bind_eq_some_iff.mp H
               obtain ⟨t352, A660, H⟩ := H
               replace H : (if (t349.length : Int) > 0 then (if 0 < (t349.length : Int) then (if (!(((rd_T53 t349 0).f0) == ((rd_T53 t330 x79_4).f0)) || (!(((rd_T53 t349 0).f1) == ((rd_T53 t330 x79_4).f1)))) = true then (laws_FnMerged.j4 k4 t315 t316 t330 t330 (t330.length : Int) x79_4 true) else (if (t349.length : Int) = 0 then (if (t352.length : Int) = 1 then (if 0 < (t352.length : Int) then (laws_FnMerged.j4 k4 t315 t316 t330 t330 (t330.length : Int) x79_4 (!(((rd_T53 t352 0).f0) == ((rd_T53 t330 x79_4).f0)) || (!(((rd_T53 t352 0).f1) == ((rd_T53 t330 x79_4).f1))))) else (none)) else (laws_FnMerged.j4 k4 t315 t316 t330 t330 (t330.length : Int) x79_4 true)) else (laws_FnMerged.j4 k4 t315 t316 t330 t330 (t330.length : Int) x79_4 false))) else (none)) else (if (t349.length : Int) = 0 then (if (t352.length : Int) = 1 then (if 0 < (t352.length : Int) then (laws_FnMerged.j4 k4 t315 t316 t330 t330 (t330.length : Int) x79_4 (!(((rd_T53 t352 0).f0) == ((rd_T53 t330 x79_4).f0)) || (!(((rd_T53 t352 0).f1) == ((rd_T53 t330 x79_4).f1))))) else (none)) else (laws_FnMerged.j4 k4 t315 t316 t330 t330 (t330.length : Int) x79_4 true)) else (laws_FnMerged.j4 k4 t315 t316 t330 t330 (t330.length : Int) x79_4 false))) = some r := H
               have A66 := Aside0.mk A660
               clear A660
               have HC67 := Aside0.mk H
               clear H
               have p347 : 0 ≤ (x79_4 : Int) := zX (by first | (with_reducible assumption) | assumption)
               have q347 : x79_4 < (t330.length : Int) := zX (by first | (with_reducible assumption) | assumption)
               obtain ⟨ad347, e347, hx347_0, hx347_1⟩ := at_T53 (Kd.R_reads' HO_77.out).2.2 x79_4 p347 q347
               cases e347
               replace p347 := eq_true p347
               replace q347 := eq_true q347
               go_upto_region 15 with (first | ((with_reducible refine gate_dst (N := 11) rfl ?_); (try (refine gate_guard (by rfl) ?_; dsimp only)); refine box_event ?hg (N := 11) ?hd (cs := #[.int .i64 0, .int .i64 0]) (t := 53) ?hr ?_; (case hd => rfl); (case hg => rfl); (case hr => first | (go_simp; done) | (go_simp; rfl)); intro gb348 hg w68 hbox hb; have n0_ := Aside0.mk (Kd.R_below (Kd.R_elderB (by (with_reducible repeat (first | apply zG | apply zH | apply zI)); exact HO_5.out) gb348 (Nat.le_of_eq hg.symm)) hb); have n1_ := Aside0.mk (Kd.R_below (Kd.R_elderB (by (with_reducible repeat (first | apply zG | apply zH | apply zI)); exact HO_6.out) gb348 (Nat.le_of_eq hg.symm)) hb); have n2_ := Aside0.mk (Kd.R_below (Kd.R_elderB (by (with_reducible repeat (first | apply zG | apply zH | apply zI)); exact HO_9.out) gb348 (Nat.le_of_eq hg.symm)) hb); have n3_ := Aside0.mk (Kd.R_below (Kd.R_elderB (by (with_reducible repeat (first | apply zG | apply zH | apply zI)); exact HO_77.out) gb348 (Nat.le_of_eq hg.symm)) hb); have n4_ := Aside0.mk (below_step (by repeat (first | (with_reducible first | exact HB.out | apply zA | apply zB | apply zC) | exact HB.out)) hb); have n5_ := Aside0.mk (hbox); have n6_ := Aside0.mk ((by rw [hg]; exact (zW (by repeat (first | (with_reducible first | exact HB.out | apply zA | apply zB | apply zC) | exact HB.out))) : w.heap.size ≤ gb348)); have n7_ := Aside0.mk ((by rw [hg]; exact (zW (by repeat (first | (with_reducible first | exact HB.out | apply zA | apply zB | apply zC) | exact HB.out))) : w.heap.size ≤ gb348)); clear HO_5; clear HO_6; clear HO_9; clear HO_77; clear HB; have HO_5 := n0_; have HO_6 := n1_; have HO_9 := n2_; have HO_77 := n3_; have HB := n4_; have BK348 := n5_; have GW348 := n6_; have GE348 := n7_; clear n0_ n1_ n2_ n3_ n4_ n5_ n6_ n7_; clear hb hbox hg; have hcz69_0 : w68.cell? ⟨gb348, 0, none⟩ = some (.int .i64 0) := (zQ BK348.out 0).trans rfl; have hcz69_1 : w68.cell? ⟨gb348, 1, none⟩ = some (.int .i64 0) := (zQ BK348.out 1).trans rfl; have hfz69_0 := blk_frozen BK348.out 0; have hfz69_1 := blk_frozen BK348.out 1) | (go_at_call 27; (with_reducible refine (impl_CutSamples.calls k4 _ _ t315 ((rd_T53 t330 x79_4).f0) ((rd_T53 t330 x79_4).f0) t349 _ ?side1 ?side2 A65.out).mono ?_); (case side1 => refine (Kd.R_reads' (e := 53) (base := w.heap.size) (ok := fun k_ => ((some k_ ≠ (.slice Ao39 t316.length co39 : Value).ownBlock ∧ (some k_ ≠ (.slice (some ad347) t330.length co61 : Value).ownBlock ∧ some k_ ≠ (.slice (some ad347) t330.length co61 : Value).ownBlock)) ∧ k_ ≠ gb348)) (n := t315.length) (c := co38) ?_).2.2; exact (by (with_reducible repeat (first | apply zG | apply zH | apply zI)); exact (Kd.R_mono (Kd.R_far (p := ⟨gb348, 1, none⟩) (Kd.R_far (p := ⟨gb348, 0, none⟩) (Kd.R_mono HO_5.out (fun k_ hk => (⟨hk, hk.2⟩ : _ ∧ k_ ≠ gb348))) (fun _ hk => hk.2) (.int .i64 ((rd_T53 t330 x79_4).f0))) (fun _ hk => hk.2) (.int .i64 ((rd_T53 t330 x79_4).f1))) (fun _ h_ => h_.1)))); (case side2 => exact (Kd.R_reads' HO_5.out).2.1); rintro e w70 ⟨v350, rfl, ho0, hb⟩; have n0_ := Aside0.mk (Kd.R_elder' (by (with_reducible repeat (first | apply zG | apply zH | apply zI)); exact (Kd.R_mono (Kd.R_far (p := ⟨gb348, 1, none⟩) (Kd.R_far (p := ⟨gb348, 0, none⟩) (Kd.R_mono HO_5.out (fun k_ hk => (⟨hk, hk.2⟩ : _ ∧ k_ ≠ gb348))) (fun _ hk => hk.2) (.int .i64 ((rd_T53 t330 x79_4).f0))) (fun _ hk => hk.2) (.int .i64 ((rd_T53 t330 x79_4).f1))) (fun _ h_ => h_.1))) (Kd.R_base ho0) hb); have n1_ := Aside0.mk (Kd.R_elder' (by (with_reducible repeat (first | apply zG | apply zH | apply zI)); exact (Kd.R_mono (Kd.R_far (p := ⟨gb348, 1, none⟩) (Kd.R_far (p := ⟨gb348, 0, none⟩) (Kd.R_mono HO_6.out (fun k_ hk => (⟨hk, hk.2⟩ : _ ∧ k_ ≠ gb348))) (fun _ hk => hk.2) (.int .i64 ((rd_T53 t330 x79_4).f0))) (fun _ hk => hk.2) (.int .i64 ((rd_T53 t330 x79_4).f1))) (fun _ h_ => h_.1))) (Kd.R_base ho0) hb); have n2_ := Aside0.mk (Kd.R_elder' (by (with_reducible repeat (first | apply zG | apply zH | apply zI)); exact (Kd.R_mono (Kd.R_far (p := ⟨gb348, 1, none⟩) (Kd.R_far (p := ⟨gb348, 0, none⟩) (Kd.R_mono HO_9.out (fun k_ hk => (⟨hk, hk.2⟩ : _ ∧ k_ ≠ gb348))) (fun _ hk => hk.2) (.int .i64 ((rd_T53 t330 x79_4).f0))) (fun _ hk => hk.2) (.int .i64 ((rd_T53 t330 x79_4).f1))) (fun _ h_ => h_.1))) (Kd.R_base ho0) hb); have n3_ := Aside0.mk (Kd.R_elder' (by (with_reducible repeat (first | apply zG | apply zH | apply zI)); exact (Kd.R_mono (Kd.R_far (p := ⟨gb348, 1, none⟩) (Kd.R_far (p := ⟨gb348, 0, none⟩) (Kd.R_mono HO_77.out (fun k_ hk => (⟨hk, hk.2⟩ : _ ∧ k_ ≠ gb348))) (fun _ hk => hk.2) (.int .i64 ((rd_T53 t330 x79_4).f0))) (fun _ hk => hk.2) (.int .i64 ((rd_T53 t330 x79_4).f1))) (fun _ h_ => h_.1))) (Kd.R_base ho0) hb); have n4_ := Aside0.mk (Kd.R_lower (Kd.R_newB (Kd.R_new' (Kd.R_new' (Kd.R_new' (Kd.R_new' ho0 (Kd.R_lt (by (with_reducible repeat (first | apply zG | apply zH | apply zI)); exact (Kd.R_mono (Kd.R_far (p := ⟨gb348, 1, none⟩) (Kd.R_far (p := ⟨gb348, 0, none⟩) (Kd.R_mono HO_5.out (fun k_ hk => (⟨hk, hk.2⟩ : _ ∧ k_ ≠ gb348))) (fun _ hk => hk.2) (.int .i64 ((rd_T53 t330 x79_4).f0))) (fun _ hk => hk.2) (.int .i64 ((rd_T53 t330 x79_4).f1))) (fun _ h_ => h_.1))))) (Kd.R_lt (by (with_reducible repeat (first | apply zG | apply zH | apply zI)); exact (Kd.R_mono (Kd.R_far (p := ⟨gb348, 1, none⟩) (Kd.R_far (p := ⟨gb348, 0, none⟩) (Kd.R_mono HO_6.out (fun k_ hk => (⟨hk, hk.2⟩ : _ ∧ k_ ≠ gb348))) (fun _ hk => hk.2) (.int .i64 ((rd_T53 t330 x79_4).f0))) (fun _ hk => hk.2) (.int .i64 ((rd_T53 t330 x79_4).f1))) (fun _ h_ => h_.1))))) (Kd.R_lt (by (with_reducible repeat (first | apply zG | apply zH | apply zI)); exact (Kd.R_mono (Kd.R_far (p := ⟨gb348, 1, none⟩) (Kd.R_far (p := ⟨gb348, 0, none⟩) (Kd.R_mono HO_9.out (fun k_ hk => (⟨hk, hk.2⟩ : _ ∧ k_ ≠ gb348))) (fun _ hk => hk.2) (.int .i64 ((rd_T53 t330 x79_4).f0))) (fun _ hk => hk.2) (.int .i64 ((rd_T53 t330 x79_4).f1))) (fun _ h_ => h_.1))))) (Kd.R_lt (by (with_reducible repeat (first | apply zG | apply zH | apply zI)); exact (Kd.R_mono (Kd.R_far (p := ⟨gb348, 1, none⟩) (Kd.R_far (p := ⟨gb348, 0, none⟩) (Kd.R_mono HO_77.out (fun k_ hk => (⟨hk, hk.2⟩ : _ ∧ k_ ≠ gb348))) (fun _ hk => hk.2) (.int .i64 ((rd_T53 t330 x79_4).f0))) (fun _ hk => hk.2) (.int .i64 ((rd_T53 t330 x79_4).f1))) (fun _ h_ => h_.1))))) (g := gb348) (o := .cells #[.int .i64 ((rd_T53 t330 x79_4).f0), .int .i64 ((rd_T53 t330 x79_4).f1)] 53 (0, 0)) (by (with_reducible repeat (first | refine zE ?_ _ | refine zF ?_ | refine zD ?_ _)); refine blk_put (cs := #[.int .i64 ((rd_T53 t330 x79_4).f0), .int .i64 0]) ?_ 1 _ rfl; (with_reducible repeat (first | refine zE ?_ _ | refine zF ?_ | refine zD ?_ _)); refine blk_put (cs := #[.int .i64 0, .int .i64 0]) ?_ 0 _ rfl; (with_reducible repeat (first | refine zE ?_ _ | refine zF ?_ | refine zD ?_ _)); exact BK348.out)) (zW (by repeat (first | (with_reducible first | exact HB.out | apply zA | apply zB | apply zC | refine below_set ?_ GE348.out) | exact HB.out)))); have n5_ := Aside0.mk (blk_below (g := gb348) (o := .cells #[.int .i64 ((rd_T53 t330 x79_4).f0), .int .i64 ((rd_T53 t330 x79_4).f1)] 53 (0, 0)) (by (with_reducible repeat (first | refine zE ?_ _ | refine zF ?_ | refine zD ?_ _)); refine blk_put (cs := #[.int .i64 ((rd_T53 t330 x79_4).f0), .int .i64 0]) ?_ 1 _ rfl; (with_reducible repeat (first | refine zE ?_ _ | refine zF ?_ | refine zD ?_ _)); refine blk_put (cs := #[.int .i64 0, .int .i64 0]) ?_ 0 _ rfl; (with_reducible repeat (first | refine zE ?_ _ | refine zF ?_ | refine zD ?_ _)); exact BK348.out) hb); have n6_ := Aside0.mk (below_step (by repeat (first | (with_reducible first | exact HB.out | apply zA | apply zB | apply zC | refine below_set ?_ GE348.out) | exact HB.out)) hb); clear HO_5; clear HO_6; clear HO_9; clear HO_77; clear BK348; clear HB; have HO_5 := n0_; have HO_6 := n1_; have HO_9 := n2_; have HO_77 := n3_; have HO351 := n4_; have BK348 := n5_; have HB := n6_; clear n0_ n1_ n2_ n3_ n4_ n5_ n6_; (try clear hb); (try clear hb2); (try clear hk); (try clear hi); (try clear ho0); have hcz71_0 : w70.cell? ⟨gb348, 0, none⟩ = some (.int .i64 ((rd_T53 t330 x79_4).f0)) := (zQ BK348.out 0).trans rfl; have hcz71_1 : w70.cell? ⟨gb348, 1, none⟩ = some (.int .i64 ((rd_T53 t330 x79_4).f1)) := (zQ BK348.out 1).trans rfl; have hfz71_0 := blk_frozen BK348.out 0; have hfz71_1 := blk_frozen BK348.out 1) | (go_at_call 27; (with_reducible refine (impl_CutSamples.calls k4 _ _ t316 ((rd_T53 t330 x79_4).f0) ((rd_T53 t330 x79_4).f0) t352 _ ?side1 ?side2 A66.out).mono ?_); (case side1 => repeat (first | exact (Kd.R_reads' HO_6.out).2.2 | (with_reducible refine zJ ?_ _) | (with_reducible refine zK ?_ _) | (with_reducible refine zL ?_))); (case side2 => exact (Kd.R_reads' HO_6.out).2.1); rintro e w72 ⟨v353, rfl, ho0, hb⟩; have n0_ := Aside0.mk (Kd.R_elder' (by (with_reducible repeat (first | apply zG | apply zH | apply zI)); exact HO_5.out) (Kd.R_base ho0) hb); have n1_ := Aside0.mk (Kd.R_elder' (by (with_reducible repeat (first | apply zG | apply zH | apply zI)); exact HO_6.out) (Kd.R_base ho0) hb); have n2_ := Aside0.mk (Kd.R_elder' (by (with_reducible repeat (first | apply zG | apply zH | apply zI)); exact HO_9.out) (Kd.R_base ho0) hb); have n3_ := Aside0.mk (Kd.R_elder' (by (with_reducible repeat (first | apply zG | apply zH | apply zI)); exact HO_77.out) (Kd.R_base ho0) hb); have n4_ := Aside0.mk (Kd.R_elder' (by (with_reducible repeat (first | apply zG | apply zH | apply zI)); exact HO351.out) (Kd.R_base ho0) hb); have n5_ := Aside0.mk (Kd.R_lower (Kd.R_newB (Kd.R_new' (Kd.R_new' (Kd.R_new' (Kd.R_new' (Kd.R_new' ho0 (Kd.R_lt (by (with_reducible repeat (first | apply zG | apply zH | apply zI)); exact HO_5.out))) (Kd.R_lt (by (with_reducible repeat (first | apply zG | apply zH | apply zI)); exact HO_6.out))) (Kd.R_lt (by (with_reducible repeat (first | apply zG | apply zH | apply zI)); exact HO_9.out))) (Kd.R_lt (by (with_reducible repeat (first | apply zG | apply zH | apply zI)); exact HO_77.out))) (Kd.R_lt (by (with_reducible repeat (first | apply zG | apply zH | apply zI)); exact HO351.out))) (g := gb348) (o := .cells #[.int .i64 ((rd_T53 t330 x79_4).f0), .int .i64 ((rd_T53 t330 x79_4).f1)] 53 (0, 0)) (by (with_reducible repeat (first | refine zE ?_ _ | refine zF ?_ | refine zD ?_ _)); exact BK348.out)) (zW (by repeat (first | (with_reducible first | exact HB.out | apply zA | apply zB | apply zC | refine below_set ?_ GE348.out) | exact HB.out)))); have n6_ := Aside0.mk (blk_below (g := gb348) (o := .cells #[.int .i64 ((rd_T53 t330 x79_4).f0), .int .i64 ((rd_T53 t330 x79_4).f1)] 53 (0, 0)) (by (with_reducible repeat (first | refine zE ?_ _ | refine zF ?_ | refine zD ?_ _)); exact BK348.out) hb); have n7_ := Aside0.mk (below_step (by repeat (first | (with_reducible first | exact HB.out | apply zA | apply zB | apply zC | refine below_set ?_ GE348.out) | exact HB.out)) hb); clear HO_5; clear HO_6; clear HO_9; clear HO_77; clear HO351; clear BK348; clear HB; have HO_5 := n0_; have HO_6 := n1_; have HO_9 := n2_; have HO_77 := n3_; have HO351 := n4_; have HO354 := n5_; have BK348 := n6_; have HB := n7_; clear n0_ n1_ n2_ n3_ n4_ n5_ n6_ n7_; (try clear hb); (try clear hb2); (try clear hk); (try clear hi); (try clear ho0)))
               repeat (go_quiet (first | ((with_reducible refine gate_dst (N := 11) rfl ?_); (try (refine gate_guard (by rfl) ?_; dsimp only)); refine box_event ?hg (N := 11) ?hd (cs := #[.int .i64 0, .int .i64 0]) (t := 53) ?hr ?_; (case hd => rfl); (case hg => rfl); (case hr => first | (go_simp; done) | (go_simp; rfl)); intro gb348 hg w68 hbox hb; have n0_ := Aside0.mk (Kd.R_below (Kd.R_elderB (by (with_reducible repeat (first | apply zG | apply zH | apply zI)); exact HO_5.out) gb348 (Nat.le_of_eq hg.symm)) hb); have n1_ := Aside0.mk (Kd.R_below (Kd.R_elderB (by (with_reducible repeat (first | apply zG | apply zH | apply zI)); exact HO_6.out) gb348 (Nat.le_of_eq hg.symm)) hb); have n2_ := Aside0.mk (Kd.R_below (Kd.R_elderB (by (with_reducible repeat (first | apply zG | apply zH | apply zI)); exact HO_9.out) gb348 (Nat.le_of_eq hg.symm)) hb); have n3_ := Aside0.mk (Kd.R_below (Kd.R_elderB (by (with_reducible repeat (first | apply zG | apply zH | apply zI)); exact HO_77.out) gb348 (Nat.le_of_eq hg.symm)) hb); have n4_ := Aside0.mk (below_step (by repeat (first | (with_reducible first | exact HB.out | apply zA | apply zB | apply zC) | exact HB.out)) hb); have n5_ := Aside0.mk (hbox); have n6_ := Aside0.mk ((by rw [hg]; exact (zW (by repeat (first | (with_reducible first | exact HB.out | apply zA | apply zB | apply zC) | exact HB.out))) : w.heap.size ≤ gb348)); have n7_ := Aside0.mk ((by rw [hg]; exact (zW (by repeat (first | (with_reducible first | exact HB.out | apply zA | apply zB | apply zC) | exact HB.out))) : w.heap.size ≤ gb348)); clear HO_5; clear HO_6; clear HO_9; clear HO_77; clear HB; have HO_5 := n0_; have HO_6 := n1_; have HO_9 := n2_; have HO_77 := n3_; have HB := n4_; have BK348 := n5_; have GW348 := n6_; have GE348 := n7_; clear n0_ n1_ n2_ n3_ n4_ n5_ n6_ n7_; clear hb hbox hg; have hcz69_0 : w68.cell? ⟨gb348, 0, none⟩ = some (.int .i64 0) := (zQ BK348.out 0).trans rfl; have hcz69_1 : w68.cell? ⟨gb348, 1, none⟩ = some (.int .i64 0) := (zQ BK348.out 1).trans rfl; have hfz69_0 := blk_frozen BK348.out 0; have hfz69_1 := blk_frozen BK348.out 1) | (go_at_call 27; (with_reducible refine (impl_CutSamples.calls k4 _ _ t315 ((rd_T53 t330 x79_4).f0) ((rd_T53 t330 x79_4).f0) t349 _ ?side1 ?side2 A65.out).mono ?_); (case side1 => refine (Kd.R_reads' (e := 53) (base := w.heap.size) (ok := fun k_ => ((some k_ ≠ (.slice Ao39 t316.length co39 : Value).ownBlock ∧ (some k_ ≠ (.slice (some ad347) t330.length co61 : Value).ownBlock ∧ some k_ ≠ (.slice (some ad347) t330.length co61 : Value).ownBlock)) ∧ k_ ≠ gb348)) (n := t315.length) (c := co38) ?_).2.2; exact (by (with_reducible repeat (first | apply zG | apply zH | apply zI)); exact (Kd.R_mono (Kd.R_far (p := ⟨gb348, 1, none⟩) (Kd.R_far (p := ⟨gb348, 0, none⟩) (Kd.R_mono HO_5.out (fun k_ hk => (⟨hk, hk.2⟩ : _ ∧ k_ ≠ gb348))) (fun _ hk => hk.2) (.int .i64 ((rd_T53 t330 x79_4).f0))) (fun _ hk => hk.2) (.int .i64 ((rd_T53 t330 x79_4).f1))) (fun _ h_ => h_.1)))); (case side2 => exact (Kd.R_reads' HO_5.out).2.1); rintro e w70 ⟨v350, rfl, ho0, hb⟩; have n0_ := Aside0.mk (Kd.R_elder' (by (with_reducible repeat (first | apply zG | apply zH | apply zI)); exact (Kd.R_mono (Kd.R_far (p := ⟨gb348, 1, none⟩) (Kd.R_far (p := ⟨gb348, 0, none⟩) (Kd.R_mono HO_5.out (fun k_ hk => (⟨hk, hk.2⟩ : _ ∧ k_ ≠ gb348))) (fun _ hk => hk.2) (.int .i64 ((rd_T53 t330 x79_4).f0))) (fun _ hk => hk.2) (.int .i64 ((rd_T53 t330 x79_4).f1))) (fun _ h_ => h_.1))) (Kd.R_base ho0) hb); have n1_ := Aside0.mk (Kd.R_elder' (by (with_reducible repeat (first | apply zG | apply zH | apply zI)); exact (Kd.R_mono (Kd.R_far (p := ⟨gb348, 1, none⟩) (Kd.R_far (p := ⟨gb348, 0, none⟩) (Kd.R_mono HO_6.out (fun k_ hk => (⟨hk, hk.2⟩ : _ ∧ k_ ≠ gb348))) (fun _ hk => hk.2) (.int .i64 ((rd_T53 t330 x79_4).f0))) (fun _ hk => hk.2) (.int .i64 ((rd_T53 t330 x79_4).f1))) (fun _ h_ => h_.1))) (Kd.R_base ho0) hb); have n2_ := Aside0.mk (Kd.R_elder' (by (with_reducible repeat (first | apply zG | apply zH | apply zI)); exact (Kd.R_mono (Kd.R_far (p := ⟨gb348, 1, none⟩) (Kd.R_far (p := ⟨gb348, 0, none⟩) (Kd.R_mono HO_9.out (fun k_ hk => (⟨hk, hk.2⟩ : _ ∧ k_ ≠ gb348))) (fun _ hk => hk.2) (.int .i64 ((rd_T53 t330 x79_4).f0))) (fun _ hk => hk.2) (.int .i64 ((rd_T53 t330 x79_4).f1))) (fun _ h_ => h_.1))) (Kd.R_base ho0) hb); have n3_ := Aside0.mk (Kd.R_elder' (by (with_reducible repeat (first | apply zG | apply zH | apply zI)); exact (Kd.R_mono (Kd.R_far (p := ⟨gb348, 1, none⟩) (Kd.R_far (p := ⟨gb348, 0, none⟩) (Kd.R_mono HO_77.out (fun k_ hk => (⟨hk, hk.2⟩ : _ ∧ k_ ≠ gb348))) (fun _ hk => hk.2) (.int .i64 ((rd_T53 t330 x79_4).f0))) (fun _ hk => hk.2) (.int .i64 ((rd_T53 t330 x79_4).f1))) (fun _ h_ => h_.1))) (Kd.R_base ho0) hb); have n4_ := Aside0.mk (Kd.R_lower (Kd.R_newB (Kd.R_new' (Kd.R_new' (Kd.R_new' (Kd.R_new' ho0 (Kd.R_lt (by (with_reducible repeat (first | apply zG | apply zH | apply zI)); exact (Kd.R_mono (Kd.R_far (p := ⟨gb348, 1, none⟩) (Kd.R_far (p := ⟨gb348, 0, none⟩) (Kd.R_mono HO_5.out (fun k_ hk => (⟨hk, hk.2⟩ : _ ∧ k_ ≠ gb348))) (fun _ hk => hk.2) (.int .i64 ((rd_T53 t330 x79_4).f0))) (fun _ hk => hk.2) (.int .i64 ((rd_T53 t330 x79_4).f1))) (fun _ h_ => h_.1))))) (Kd.R_lt (by (with_reducible repeat (first | apply zG | apply zH | apply zI)); exact (Kd.R_mono (Kd.R_far (p := ⟨gb348, 1, none⟩) (Kd.R_far (p := ⟨gb348, 0, none⟩) (Kd.R_mono HO_6.out (fun k_ hk => (⟨hk, hk.2⟩ : _ ∧ k_ ≠ gb348))) (fun _ hk => hk.2) (.int .i64 ((rd_T53 t330 x79_4).f0))) (fun _ hk => hk.2) (.int .i64 ((rd_T53 t330 x79_4).f1))) (fun _ h_ => h_.1))))) (Kd.R_lt (by (with_reducible repeat (first | apply zG | apply zH | apply zI)); exact (Kd.R_mono (Kd.R_far (p := ⟨gb348, 1, none⟩) (Kd.R_far (p := ⟨gb348, 0, none⟩) (Kd.R_mono HO_9.out (fun k_ hk => (⟨hk, hk.2⟩ : _ ∧ k_ ≠ gb348))) (fun _ hk => hk.2) (.int .i64 ((rd_T53 t330 x79_4).f0))) (fun _ hk => hk.2) (.int .i64 ((rd_T53 t330 x79_4).f1))) (fun _ h_ => h_.1))))) (Kd.R_lt (by (with_reducible repeat (first | apply zG | apply zH | apply zI)); exact (Kd.R_mono (Kd.R_far (p := ⟨gb348, 1, none⟩) (Kd.R_far (p := ⟨gb348, 0, none⟩) (Kd.R_mono HO_77.out (fun k_ hk => (⟨hk, hk.2⟩ : _ ∧ k_ ≠ gb348))) (fun _ hk => hk.2) (.int .i64 ((rd_T53 t330 x79_4).f0))) (fun _ hk => hk.2) (.int .i64 ((rd_T53 t330 x79_4).f1))) (fun _ h_ => h_.1))))) (g := gb348) (o := .cells #[.int .i64 ((rd_T53 t330 x79_4).f0), .int .i64 ((rd_T53 t330 x79_4).f1)] 53 (0, 0)) (by (with_reducible repeat (first | refine zE ?_ _ | refine zF ?_ | refine zD ?_ _)); refine blk_put (cs := #[.int .i64 ((rd_T53 t330 x79_4).f0), .int .i64 0]) ?_ 1 _ rfl; (with_reducible repeat (first | refine zE ?_ _ | refine zF ?_ | refine zD ?_ _)); refine blk_put (cs := #[.int .i64 0, .int .i64 0]) ?_ 0 _ rfl; (with_reducible repeat (first | refine zE ?_ _ | refine zF ?_ | refine zD ?_ _)); exact BK348.out)) (zW (by repeat (first | (with_reducible first | exact HB.out | apply zA | apply zB | apply zC | refine below_set ?_ GE348.out) | exact HB.out)))); have n5_ := Aside0.mk (blk_below (g := gb348) (o := .cells #[.int .i64 ((rd_T53 t330 x79_4).f0), .int .i64 ((rd_T53 t330 x79_4).f1)] 53 (0, 0)) (by (with_reducible repeat (first | refine zE ?_ _ | refine zF ?_ | refine zD ?_ _)); refine blk_put (cs := #[.int .i64 ((rd_T53 t330 x79_4).f0), .int .i64 0]) ?_ 1 _ rfl; (with_reducible repeat (first | refine zE ?_ _ | refine zF ?_ | refine zD ?_ _)); refine blk_put (cs := #[.int .i64 0, .int .i64 0]) ?_ 0 _ rfl; (with_reducible repeat (first | refine zE ?_ _ | refine zF ?_ | refine zD ?_ _)); exact BK348.out) hb); have n6_ := Aside0.mk (below_step (by repeat (first | (with_reducible first | exact HB.out | apply zA | apply zB | apply zC | refine below_set ?_ GE348.out) | exact HB.out)) hb); clear HO_5; clear HO_6; clear HO_9; clear HO_77; clear BK348; clear HB; have HO_5 := n0_; have HO_6 := n1_; have HO_9 := n2_; have HO_77 := n3_; have HO351 := n4_; have BK348 := n5_; have HB := n6_; clear n0_ n1_ n2_ n3_ n4_ n5_ n6_; (try clear hb); (try clear hb2); (try clear hk); (try clear hi); (try clear ho0); have hcz71_0 : w70.cell? ⟨gb348, 0, none⟩ = some (.int .i64 ((rd_T53 t330 x79_4).f0)) := (zQ BK348.out 0).trans rfl; have hcz71_1 : w70.cell? ⟨gb348, 1, none⟩ = some (.int .i64 ((rd_T53 t330 x79_4).f1)) := (zQ BK348.out 1).trans rfl; have hfz71_0 := blk_frozen BK348.out 0; have hfz71_1 := blk_frozen BK348.out 1) | (go_at_call 27; (with_reducible refine (impl_CutSamples.calls k4 _ _ t316 ((rd_T53 t330 x79_4).f0) ((rd_T53 t330 x79_4).f0) t352 _ ?side1 ?side2 A66.out).mono ?_); (case side1 => repeat (first | exact (Kd.R_reads' HO_6.out).2.2 | (with_reducible refine zJ ?_ _) | (with_reducible refine zK ?_ _) | (with_reducible refine zL ?_))); (case side2 => exact (Kd.R_reads' HO_6.out).2.1); rintro e w72 ⟨v353, rfl, ho0, hb⟩; have n0_ := Aside0.mk (Kd.R_elder' (by (with_reducible repeat (first | apply zG | apply zH | apply zI)); exact HO_5.out) (Kd.R_base ho0) hb); have n1_ := Aside0.mk (Kd.R_elder' (by (with_reducible repeat (first | apply zG | apply zH | apply zI)); exact HO_6.out) (Kd.R_base ho0) hb); have n2_ := Aside0.mk (Kd.R_elder' (by (with_reducible repeat (first | apply zG | apply zH | apply zI)); exact HO_9.out) (Kd.R_base ho0) hb); have n3_ := Aside0.mk (Kd.R_elder' (by (with_reducible repeat (first | apply zG | apply zH | apply zI)); exact HO_77.out) (Kd.R_base ho0) hb); have n4_ := Aside0.mk (Kd.R_elder' (by (with_reducible repeat (first | apply zG | apply zH | apply zI)); exact HO351.out) (Kd.R_base ho0) hb); have n5_ := Aside0.mk (Kd.R_lower (Kd.R_newB (Kd.R_new' (Kd.R_new' (Kd.R_new' (Kd.R_new' (Kd.R_new' ho0 (Kd.R_lt (by (with_reducible repeat (first | apply zG | apply zH | apply zI)); exact HO_5.out))) (Kd.R_lt (by (with_reducible repeat (first | apply zG | apply zH | apply zI)); exact HO_6.out))) (Kd.R_lt (by (with_reducible repeat (first | apply zG | apply zH | apply zI)); exact HO_9.out))) (Kd.R_lt (by (with_reducible repeat (first | apply zG | apply zH | apply zI)); exact HO_77.out))) (Kd.R_lt (by (with_reducible repeat (first | apply zG | apply zH | apply zI)); exact HO351.out))) (g := gb348) (o := .cells #[.int .i64 ((rd_T53 t330 x79_4).f0), .int .i64 ((rd_T53 t330 x79_4).f1)] 53 (0, 0)) (by (with_reducible repeat (first | refine zE ?_ _ | refine zF ?_ | refine zD ?_ _)); exact BK348.out)) (zW (by repeat (first | (with_reducible first | exact HB.out | apply zA | apply zB | apply zC | refine below_set ?_ GE348.out) | exact HB.out)))); have n6_ := Aside0.mk (blk_below (g := gb348) (o := .cells #[.int .i64 ((rd_T53 t330 x79_4).f0), .int .i64 ((rd_T53 t330 x79_4).f1)] 53 (0, 0)) (by (with_reducible repeat (first | refine zE ?_ _ | refine zF ?_ | refine zD ?_ _)); exact BK348.out) hb); have n7_ := Aside0.mk (below_step (by repeat (first | (with_reducible first | exact HB.out | apply zA | apply zB | apply zC | refine below_set ?_ GE348.out) | exact HB.out)) hb); clear HO_5; clear HO_6; clear HO_9; clear HO_77; clear HO351; clear BK348; clear HB; have HO_5 := n0_; have HO_6 := n1_; have HO_9 := n2_; have HO_77 := n3_; have HO351 := n4_; have HO354 := n5_; have BK348 := n6_; have HB := n7_; clear n0_ n1_ n2_ n3_ n4_ n5_ n6_ n7_; (try clear hb); (try clear hb2); (try clear hk); (try clear hi); (try clear ho0))); go_upto_region 15 with (first | ((with_reducible refine gate_dst (N := 11) rfl ?_); (try (refine gate_guard (by rfl) ?_; dsimp only)); refine box_event ?hg (N := 11) ?hd (cs := #[.int .i64 0, .int .i64 0]) (t := 53) ?hr ?_; (case hd => rfl); (case hg => rfl); (case hr => first | (go_simp; done) | (go_simp; rfl)); intro gb348 hg w68 hbox hb; have n0_ := Aside0.mk (Kd.R_below (Kd.R_elderB (by (with_reducible repeat (first | apply zG | apply zH | apply zI)); exact HO_5.out) gb348 (Nat.le_of_eq hg.symm)) hb); have n1_ := Aside0.mk (Kd.R_below (Kd.R_elderB (by (with_reducible repeat (first | apply zG | apply zH | apply zI)); exact HO_6.out) gb348 (Nat.le_of_eq hg.symm)) hb); have n2_ := Aside0.mk (Kd.R_below (Kd.R_elderB (by (with_reducible repeat (first | apply zG | apply zH | apply zI)); exact HO_9.out) gb348 (Nat.le_of_eq hg.symm)) hb); have n3_ := Aside0.mk (Kd.R_below (Kd.R_elderB (by (with_reducible repeat (first | apply zG | apply zH | apply zI)); exact HO_77.out) gb348 (Nat.le_of_eq hg.symm)) hb); have n4_ := Aside0.mk (below_step (by repeat (first | (with_reducible first | exact HB.out | apply zA | apply zB | apply zC) | exact HB.out)) hb); have n5_ := Aside0.mk (hbox); have n6_ := Aside0.mk ((by rw [hg]; exact (zW (by repeat (first | (with_reducible first | exact HB.out | apply zA | apply zB | apply zC) | exact HB.out))) : w.heap.size ≤ gb348)); have n7_ := Aside0.mk ((by rw [hg]; exact (zW (by repeat (first | (with_reducible first | exact HB.out | apply zA | apply zB | apply zC) | exact HB.out))) : w.heap.size ≤ gb348)); clear HO_5; clear HO_6; clear HO_9; clear HO_77; clear HB; have HO_5 := n0_; have HO_6 := n1_; have HO_9 := n2_; have HO_77 := n3_; have HB := n4_; have BK348 := n5_; have GW348 := n6_; have GE348 := n7_; clear n0_ n1_ n2_ n3_ n4_ n5_ n6_ n7_; clear hb hbox hg; have hcz69_0 : w68.cell? ⟨gb348, 0, none⟩ = some (.int .i64 0) := (zQ BK348.out 0).trans rfl; have hcz69_1 : w68.cell? ⟨gb348, 1, none⟩ = some (.int .i64 0) := (zQ BK348.out 1).trans rfl; have hfz69_0 := blk_frozen BK348.out 0; have hfz69_1 := blk_frozen BK348.out 1) | (go_at_call 27; (with_reducible refine (impl_CutSamples.calls k4 _ _ t315 ((rd_T53 t330 x79_4).f0) ((rd_T53 t330 x79_4).f0) t349 _ ?side1 ?side2 A65.out).mono ?_); (case side1 => refine (Kd.R_reads' (e := 53) (base := w.heap.size) (ok := fun k_ => ((some k_ ≠ (.slice Ao39 t316.length co39 : Value).ownBlock ∧ (some k_ ≠ (.slice (some ad347) t330.length co61 : Value).ownBlock ∧ some k_ ≠ (.slice (some ad347) t330.length co61 : Value).ownBlock)) ∧ k_ ≠ gb348)) (n := t315.length) (c := co38) ?_).2.2; exact (by (with_reducible repeat (first | apply zG | apply zH | apply zI)); exact (Kd.R_mono (Kd.R_far (p := ⟨gb348, 1, none⟩) (Kd.R_far (p := ⟨gb348, 0, none⟩) (Kd.R_mono HO_5.out (fun k_ hk => (⟨hk, hk.2⟩ : _ ∧ k_ ≠ gb348))) (fun _ hk => hk.2) (.int .i64 ((rd_T53 t330 x79_4).f0))) (fun _ hk => hk.2) (.int .i64 ((rd_T53 t330 x79_4).f1))) (fun _ h_ => h_.1)))); (case side2 => exact (Kd.R_reads' HO_5.out).2.1); rintro e w70 ⟨v350, rfl, ho0, hb⟩; have n0_ := Aside0.mk (Kd.R_elder' (by (with_reducible repeat (first | apply zG | apply zH | apply zI)); exact (Kd.R_mono (Kd.R_far (p := ⟨gb348, 1, none⟩) (Kd.R_far (p := ⟨gb348, 0, none⟩) (Kd.R_mono HO_5.out (fun k_ hk => (⟨hk, hk.2⟩ : _ ∧ k_ ≠ gb348))) (fun _ hk => hk.2) (.int .i64 ((rd_T53 t330 x79_4).f0))) (fun _ hk => hk.2) (.int .i64 ((rd_T53 t330 x79_4).f1))) (fun _ h_ => h_.1))) (Kd.R_base ho0) hb); have n1_ := Aside0.mk (Kd.R_elder' (by (with_reducible repeat (first | apply zG | apply zH | apply zI)); exact (Kd.R_mono (Kd.R_far (p := ⟨gb348, 1, none⟩) (Kd.R_far (p := ⟨gb348, 0, none⟩) (Kd.R_mono HO_6.out (fun k_ hk => (⟨hk, hk.2⟩ : _ ∧ k_ ≠ gb348))) (fun _ hk => hk.2) (.int .i64 ((rd_T53 t330 x79_4).f0))) (fun _ hk => hk.2) (.int .i64 ((rd_T53 t330 x79_4).f1))) (fun _ h_ => h_.1))) (Kd.R_base ho0) hb); have n2_ := Aside0.mk (Kd.R_elder' (by (with_reducible repeat (first | apply zG | apply zH | apply zI)); exact (Kd.R_mono (Kd.R_far (p := ⟨gb348, 1, none⟩) (Kd.R_far (p := ⟨gb348, 0, none⟩) (Kd.R_mono HO_9.out (fun k_ hk => (⟨hk, hk.2⟩ : _ ∧ k_ ≠ gb348))) (fun _ hk => hk.2) (.int .i64 ((rd_T53 t330 x79_4).f0))) (fun _ hk => hk.2) (.int .i64 ((rd_T53 t330 x79_4).f1))) (fun _ h_ => h_.1))) (Kd.R_base ho0) hb); have n3_ := Aside0.mk (Kd.R_elder' (by (with_reducible repeat (first | apply zG | apply zH | apply zI)); exact (Kd.R_mono (Kd.R_far (p := ⟨gb348, 1, none⟩) (Kd.R_far (p := ⟨gb348, 0, none⟩) (Kd.R_mono HO_77.out (fun k_ hk => (⟨hk, hk.2⟩ : _ ∧ k_ ≠ gb348))) (fun _ hk => hk.2) (.int .i64 ((rd_T53 t330 x79_4).f0))) (fun _ hk => hk.2) (.int .i64 ((rd_T53 t330 x79_4).f1))) (fun _ h_ => h_.1))) (Kd.R_base ho0) hb); have n4_ := Aside0.mk (Kd.R_lower (Kd.R_newB (Kd.R_new' (Kd.R_new' (Kd.R_new' (Kd.R_new' ho0 (Kd.R_lt (by (with_reducible repeat (first | apply zG | apply zH | apply zI)); exact (Kd.R_mono (Kd.R_far (p := ⟨gb348, 1, none⟩) (Kd.R_far (p := ⟨gb348, 0, none⟩) (Kd.R_mono HO_5.out (fun k_ hk => (⟨hk, hk.2⟩ : _ ∧ k_ ≠ gb348))) (fun _ hk => hk.2) (.int .i64 ((rd_T53 t330 x79_4).f0))) (fun _ hk => hk.2) (.int .i64 ((rd_T53 t330 x79_4).f1))) (fun _ h_ => h_.1))))) (Kd.R_lt (by (with_reducible repeat (first | apply zG | apply zH | apply zI)); exact (Kd.R_mono (Kd.R_far (p := ⟨gb348, 1, none⟩) (Kd.R_far (p := ⟨gb348, 0, none⟩) (Kd.R_mono HO_6.out (fun k_ hk => (⟨hk, hk.2⟩ : _ ∧ k_ ≠ gb348))) (fun _ hk => hk.2) (.int .i64 ((rd_T53 t330 x79_4).f0))) (fun _ hk => hk.2) (.int .i64 ((rd_T53 t330 x79_4).f1))) (fun _ h_ => h_.1))))) (Kd.R_lt (by (with_reducible repeat (first | apply zG | apply zH | apply zI)); exact (Kd.R_mono (Kd.R_far (p := ⟨gb348, 1, none⟩) (Kd.R_far (p := ⟨gb348, 0, none⟩) (Kd.R_mono HO_9.out (fun k_ hk => (⟨hk, hk.2⟩ : _ ∧ k_ ≠ gb348))) (fun _ hk => hk.2) (.int .i64 ((rd_T53 t330 x79_4).f0))) (fun _ hk => hk.2) (.int .i64 ((rd_T53 t330 x79_4).f1))) (fun _ h_ => h_.1))))) (Kd.R_lt (by (with_reducible repeat (first | apply zG | apply zH | apply zI)); exact (Kd.R_mono (Kd.R_far (p := ⟨gb348, 1, none⟩) (Kd.R_far (p := ⟨gb348, 0, none⟩) (Kd.R_mono HO_77.out (fun k_ hk => (⟨hk, hk.2⟩ : _ ∧ k_ ≠ gb348))) (fun _ hk => hk.2) (.int .i64 ((rd_T53 t330 x79_4).f0))) (fun _ hk => hk.2) (.int .i64 ((rd_T53 t330 x79_4).f1))) (fun _ h_ => h_.1))))) (g := gb348) (o := .cells #[.int .i64 ((rd_T53 t330 x79_4).f0), .int .i64 ((rd_T53 t330 x79_4).f1)] 53 (0, 0)) (by (with_reducible repeat (first | refine zE ?_ _ | refine zF ?_ | refine zD ?_ _)); refine blk_put (cs := #[.int .i64 ((rd_T53 t330 x79_4).f0), .int .i64 0]) ?_ 1 _ rfl; (with_reducible repeat (first | refine zE ?_ _ | refine zF ?_ | refine zD ?_ _)); refine blk_put (cs := #[.int .i64 0, .int .i64 0]) ?_ 0 _ rfl; (with_reducible repeat (first | refine zE ?_ _ | refine zF ?_ | refine zD ?_ _)); exact BK348.out)) (zW (by repeat (first | (with_reducible first | exact HB.out | apply zA | apply zB | apply zC | refine below_set ?_ GE348.out) | exact HB.out)))); have n5_ := Aside0.mk (blk_below (g := gb348) (o := .cells #[.int .i64 ((rd_T53 t330 x79_4).f0), .int .i64 ((rd_T53 t330 x79_4).f1)] 53 (0, 0)) (by (with_reducible repeat (first | refine zE ?_ _ | refine zF ?_ | refine zD ?_ _)); refine blk_put (cs := #[.int .i64 ((rd_T53 t330 x79_4).f0), .int .i64 0]) ?_ 1 _ rfl; (with_reducible repeat (first | refine zE ?_ _ | refine zF ?_ | refine zD ?_ _)); refine blk_put (cs := #[.int .i64 0, .int .i64 0]) ?_ 0 _ rfl; (with_reducible repeat (first | refine zE ?_ _ | refine zF ?_ | refine zD ?_ _)); exact BK348.out) hb); have n6_ := Aside0.mk (below_step (by repeat (first | (with_reducible first | exact HB.out | apply zA | apply zB | apply zC | refine below_set ?_ GE348.out) | exact HB.out)) hb); clear HO_5; clear HO_6; clear HO_9; clear HO_77; clear BK348; clear HB; have HO_5 := n0_; have HO_6 := n1_; have HO_9 := n2_; have HO_77 := n3_; have HO351 := n4_; have BK348 := n5_; have HB := n6_; clear n0_ n1_ n2_ n3_ n4_ n5_ n6_; (try clear hb); (try clear hb2); (try clear hk); (try clear hi); (try clear ho0); have hcz71_0 : w70.cell? ⟨gb348, 0, none⟩ = some (.int .i64 ((rd_T53 t330 x79_4).f0)) := (zQ BK348.out 0).trans rfl; have hcz71_1 : w70.cell? ⟨gb348, 1, none⟩ = some (.int .i64 ((rd_T53 t330 x79_4).f1)) := (zQ BK348.out 1).trans rfl; have hfz71_0 := blk_frozen BK348.out 0; have hfz71_1 := blk_frozen BK348.out 1) | (go_at_call 27; (with_reducible refine (impl_CutSamples.calls k4 _ _ t316 ((rd_T53 t330 x79_4).f0) ((rd_T53 t330 x79_4).f0) t352 _ ?side1 ?side2 A66.out).mono ?_); (case side1 => repeat (first | exact (Kd.R_reads' HO_6.out).2.2 | (with_reducible refine zJ ?_ _) | (with_reducible refine zK ?_ _) | (with_reducible refine zL ?_))); (case side2 => exact (Kd.R_reads' HO_6.out).2.1); rintro e w72 ⟨v353, rfl, ho0, hb⟩; have n0_ := Aside0.mk (Kd.R_elder' (by (with_reducible repeat (first | apply zG | apply zH | apply zI)); exact HO_5.out) (Kd.R_base ho0) hb); have n1_ := Aside0.mk (Kd.R_elder' (by (with_reducible repeat (first | apply zG | apply zH | apply zI)); exact HO_6.out) (Kd.R_base ho0) hb); have n2_ := Aside0.mk (Kd.R_elder' (by (with_reducible repeat (first | apply zG | apply zH | apply zI)); exact HO_9.out) (Kd.R_base ho0) hb); have n3_ := Aside0.mk (Kd.R_elder' (by (with_reducible repeat (first | apply zG | apply zH | apply zI)); exact HO_77.out) (Kd.R_base ho0) hb); have n4_ := Aside0.mk (Kd.R_elder' (by (with_reducible repeat (first | apply zG | apply zH | apply zI)); exact HO351.out) (Kd.R_base ho0) hb); have n5_ := Aside0.mk (Kd.R_lower (Kd.R_newB (Kd.R_new' (Kd.R_new' (Kd.R_new' (Kd.R_new' (Kd.R_new' ho0 (Kd.R_lt (by (with_reducible repeat (first | apply zG | apply zH | apply zI)); exact HO_5.out))) (Kd.R_lt (by (with_reducible repeat (first | apply zG | apply zH | apply zI)); exact HO_6.out))) (Kd.R_lt (by (with_reducible repeat (first | apply zG | apply zH | apply zI)); exact HO_9.out))) (Kd.R_lt (by (with_reducible repeat (first | apply zG | apply zH | apply zI)); exact HO_77.out))) (Kd.R_lt (by (with_reducible repeat (first | apply zG | apply zH | apply zI)); exact HO351.out))) (g := gb348) (o := .cells #[.int .i64 ((rd_T53 t330 x79_4).f0), .int .i64 ((rd_T53 t330 x79_4).f1)] 53 (0, 0)) (by (with_reducible repeat (first | refine zE ?_ _ | refine zF ?_ | refine zD ?_ _)); exact BK348.out)) (zW (by repeat (first | (with_reducible first | exact HB.out | apply zA | apply zB | apply zC | refine below_set ?_ GE348.out) | exact HB.out)))); have n6_ := Aside0.mk (blk_below (g := gb348) (o := .cells #[.int .i64 ((rd_T53 t330 x79_4).f0), .int .i64 ((rd_T53 t330 x79_4).f1)] 53 (0, 0)) (by (with_reducible repeat (first | refine zE ?_ _ | refine zF ?_ | refine zD ?_ _)); exact BK348.out) hb); have n7_ := Aside0.mk (below_step (by repeat (first | (with_reducible first | exact HB.out | apply zA | apply zB | apply zC | refine below_set ?_ GE348.out) | exact HB.out)) hb); clear HO_5; clear HO_6; clear HO_9; clear HO_77; clear HO351; clear BK348; clear HB; have HO_5 := n0_; have HO_6 := n1_; have HO_9 := n2_; have HO_77 := n3_; have HO351 := n4_; have HO354 := n5_; have BK348 := n6_; have HB := n7_; clear n0_ n1_ n2_ n3_ n4_ n5_ n6_ n7_; (try clear hb); (try clear hb2); (try clear hk); (try clear hi); (try clear ho0))))
               (try simp only [Act.put, zT, zU, zV])
               go_cut [121] (fun v121 wc => ∃ (kq : Nat) (x121_66 : Bool), v121 = .bool x121_66 ∧ Aside0 (laws_FnMerged.j4 kq t315 t316 t330 t330 (t330.length : Int) x79_4 x121_66 = some r) ∧ Aside0 (kq ≤ k4) ∧ Aside0 (Kd.R k53 53 wc w.heap.size (fun k_ => some k_ ≠ ((.slice Ao39 t316.length co39) : Value).ownBlock ∧ some k_ ≠ ((.slice (some ad347) t330.length co61) : Value).ownBlock ∧ some k_ ≠ ((.slice (some ad347) t330.length co61) : Value).ownBlock ∧ k_ ≠ gb348) (.slice Ao38 t315.length co38) t315) ∧ Aside0 (Kd.R k53 53 wc w.heap.size (fun k_ => some k_ ≠ ((.slice Ao38 t315.length co38) : Value).ownBlock ∧ some k_ ≠ ((.slice (some ad347) t330.length co61) : Value).ownBlock ∧ some k_ ≠ ((.slice (some ad347) t330.length co61) : Value).ownBlock ∧ k_ ≠ gb348) (.slice Ao39 t316.length co39) t316) ∧ Aside0 (Kd.R k53 53 wc w.heap.size (fun k_ => some k_ ≠ ((.slice Ao38 t315.length co38) : Value).ownBlock ∧ some k_ ≠ ((.slice Ao39 t316.length co39) : Value).ownBlock ∧ k_ ≠ gb348) (.slice (some ad347) t330.length co61) t330) ∧ Aside0 (Kd.R k53 53 wc w.heap.size (fun k_ => some k_ ≠ ((.slice Ao38 t315.length co38) : Value).ownBlock ∧ some k_ ≠ ((.slice Ao39 t316.length co39) : Value).ownBlock ∧ k_ ≠ gb348) (.slice (some ad347) t330.length co61) t330) ∧ Aside0 (wc.heap[gb348]? = some (.cells #[.int .i64 ((rd_T53 t330 x79_4).f0), .int .i64 ((rd_T53 t330 x79_4).f1)] 53 (0, 0))) ∧ Aside0 (Below w.heap.size w wc))
               case first =>
                have H := HC67.out
                clear HC67
                by_cases c73 : (t349.length : Int) > 0
                ·rw [if_pos c73] at H
                 have c73b0 : decide (0 < (t349.length : Int)) = true := decide_eq_true c73
                 have c73b1 : decide (0 < t349.length) = true := decide_eq_true (by omega)
                 clear c73
                 (first | rw [c73b0] | (simp only [i64_w, i32_w]; rw [c73b0]) | skip)
                 by_cases c74 : 0 < (t349.length : Int)
                 ·rw [if_pos c74] at H
                  have c74b0 : decide (0 < (t349.length : Int)) = true := decide_eq_true c74
                  have c74b1 : decide (0 < t349.length) = true := decide_eq_true (by omega)
                  clear c74
                  by_cases c75 : (!(((rd_T53 t349 0).f0) == ((rd_T53 t330 x79_4).f0)) || (!(((rd_T53 t349 0).f1) == ((rd_T53 t330 x79_4).f1)))) = true
                  ·rw [if_pos c75] at H
                   have c75b0 : (!(((rd_T53 t349 0).f0) == ((rd_T53 t330 x79_4).f0)) || (!(((rd_T53 t349 0).f1) == ((rd_T53 t330 x79_4).f1)))) = true := c75
                   clear c75
                   have H' := Aside0.mk H
                   clear H
                   obtain ⟨Ao76, co76, eo76⟩ := Kd.R_slice HO351.out
                   subst eo76
                   have p355 : 0 ≤ (0 : Int) := (by omega)
                   have q355 : 0 < (t349.length : Int) := zX (by first | (with_reducible assumption) | assumption)
                   obtain ⟨ad355, e355, hx355_0, hx355_1⟩ := at_T53 (Kd.R_reads' HO351.out).2.2 0 p355 q355
                   cases e355
                   have qi355 : (0 < t349.length) = True := eq_true (by omega)
                   (try rw [show ((0 : Int)).toNat = 0 from rfl] at hx355_0)
                   (try rw [show 0 * 2 = 0 from rfl] at hx355_0)
                   (try rw [Addr.add_zero'] at hx355_0)
                   (try rw [show ((0 : Int)).toNat = 0 from rfl] at hx355_1)
                   (try rw [show 0 * 2 = 0 from rfl] at hx355_1)
                   (try rw [Addr.add_zero'] at hx355_1)
                   replace p355 := eq_true p355
                   replace q355 := eq_true q355
                   have hcz77_0 : w72.cell? ⟨gb348, 0, none⟩ = some (.int .i64 ((rd_T53 t330 x79_4).f0)) := (zQ BK348.out 0).trans rfl
                   have hcz77_1 : w72.cell? ⟨gb348, 1, none⟩ = some (.int .i64 ((rd_T53 t330 x79_4).f1)) := (zQ BK348.out 1).trans rfl
                   have hfz77_0 := blk_frozen BK348.out 0
                   have hfz77_1 := blk_frozen BK348.out 1
                   go_wp2
                   repeat (go_quiet (fail); try go_wp2)
                   go_meet
                   case rel => exact ⟨_, (true), (by first | rfl | (simp; done) | (simp [*]; done)), H', ⟨by have := HJ2.out; have := HJ7.out; have := HJ36.out; have := HK4.out; first | omega | exact Nat.le_refl _⟩, ⟨by (with_reducible repeat (first | apply zG | apply zH | apply zI)); exact Kd.R_mono HO_5.out (fun _ hk => ⟨hk.1.1.1.1, ⟨hk.1.1.1.2.1, ⟨hk.1.1.1.2.2, hk.1.1.2⟩⟩⟩)⟩, ⟨by (with_reducible repeat (first | apply zG | apply zH | apply zI)); exact Kd.R_mono HO_6.out (fun _ hk => ⟨hk.1.1.1.1, ⟨hk.1.1.1.2.1, ⟨hk.1.1.1.2.2, hk.1.1.2⟩⟩⟩)⟩, ⟨by (with_reducible repeat (first | apply zG | apply zH | apply zI)); exact Kd.R_mono HO_9.out (fun _ hk => ⟨hk.1.1.1.1, ⟨hk.1.1.1.2, hk.1.1.2⟩⟩)⟩, ⟨by (with_reducible repeat (first | apply zG | apply zH | apply zI)); exact Kd.R_mono HO_77.out (fun _ hk => ⟨hk.1.1.1.1, ⟨hk.1.1.1.2, hk.1.1.2⟩⟩)⟩, ⟨by (with_reducible repeat (first | refine zE ?_ _ | refine zF ?_ | refine zD ?_ _)); exact BK348.out⟩, ⟨by repeat (first | (with_reducible first | exact HB.out | apply zA | apply zB | apply zC | refine below_set ?_ GE348.out) | exact HB.out)⟩⟩
                  ·rw [if_neg c75] at H
                   have c75b0 : (!(((rd_T53 t349 0).f0) == ((rd_T53 t330 x79_4).f0)) || (!(((rd_T53 t349 0).f1) == ((rd_T53 t330 x79_4).f1)))) = false := by simpa using c75
                   clear c75
                   by_cases c78 : (t349.length : Int) = 0
                   ·rw [if_pos c78] at H
                    have c78b0 : ((t349.length : Int) == 0) = true := beq_iff_eq.mpr c78
                    have c78b1 : ((t349.length : Int) != 0) = false := bne_eq_false_iff_eq.mpr c78
                    clear c78
                    by_cases c79 : (t352.length : Int) = 1
                    ·rw [if_pos c79] at H
                     have c79b0 : ((t352.length : Int) == 1) = true := beq_iff_eq.mpr c79
                     have c79b1 : ((t352.length : Int) != 1) = false := bne_eq_false_iff_eq.mpr c79
                     clear c79
                     by_cases c80 : 0 < (t352.length : Int)
                     ·rw [if_pos c80] at H
                      have c80b0 : decide (0 < (t352.length : Int)) = true := decide_eq_true c80
                      have c80b1 : decide (0 < t352.length) = true := decide_eq_true (by omega)
                      clear c80
                      have H' := Aside0.mk H
                      clear H
                      obtain ⟨Ao81, co81, eo81⟩ := Kd.R_slice HO351.out
                      subst eo81
                      have p355 : 0 ≤ (0 : Int) := (by omega)
                      have q355 : 0 < (t349.length : Int) := zX (by first | (with_reducible assumption) | assumption)
                      obtain ⟨ad355, e355, hx355_0, hx355_1⟩ := at_T53 (Kd.R_reads' HO351.out).2.2 0 p355 q355
                      cases e355
                      have qi355 : (0 < t349.length) = True := eq_true (by omega)
                      (try rw [show ((0 : Int)).toNat = 0 from rfl] at hx355_0)
                      (try rw [show 0 * 2 = 0 from rfl] at hx355_0)
                      (try rw [Addr.add_zero'] at hx355_0)
                      (try rw [show ((0 : Int)).toNat = 0 from rfl] at hx355_1)
                      (try rw [show 0 * 2 = 0 from rfl] at hx355_1)
                      (try rw [Addr.add_zero'] at hx355_1)
                      replace p355 := eq_true p355
                      replace q355 := eq_true q355
                      have hcz82_0 : w72.cell? ⟨gb348, 0, none⟩ = some (.int .i64 ((rd_T53 t330 x79_4).f0)) := (zQ BK348.out 0).trans rfl
                      have hcz82_1 : w72.cell? ⟨gb348, 1, none⟩ = some (.int .i64 ((rd_T53 t330 x79_4).f1)) := (zQ BK348.out 1).trans rfl
                      have hfz82_0 := blk_frozen BK348.out 0
                      have hfz82_1 := blk_frozen BK348.out 1
                      obtain ⟨Ao83, co83, eo83⟩ := Kd.R_slice HO354.out
                      subst eo83
                      have p356 : 0 ≤ (0 : Int) := (by omega)
                      have q356 : 0 < (t352.length : Int) := zX (by first | (with_reducible assumption) | assumption)
                      obtain ⟨ad356, e356, hx356_0, hx356_1⟩ := at_T53 (Kd.R_reads' HO354.out).2.2 0 p356 q356
                      cases e356
                      have qi356 : (0 < t352.length) = True := eq_true (by omega)
                      (try rw [show ((0 : Int)).toNat = 0 from rfl] at hx356_0)
                      (try rw [show 0 * 2 = 0 from rfl] at hx356_0)
                      (try rw [Addr.add_zero'] at hx356_0)
                      (try rw [show ((0 : Int)).toNat = 0 from rfl] at hx356_1)
                      (try rw [show 0 * 2 = 0 from rfl] at hx356_1)
                      (try rw [Addr.add_zero'] at hx356_1)
                      replace p356 := eq_true p356
                      replace q356 := eq_true q356
                      go_wp2
                      repeat (go_quiet (fail); try go_wp2)
                      go_meet
                      case rel => exact ⟨_, ((!(((rd_T53 t352 0).f0) == ((rd_T53 t330 x79_4).f0)) || (!(((rd_T53 t352 0).f1) == ((rd_T53 t330 x79_4).f1))))), (by first | rfl | (simp; done) | (simp [*]; done)), H', ⟨by have := HJ2.out; have := HJ7.out; have := HJ36.out; have := HK4.out; first | omega | exact Nat.le_refl _⟩, ⟨by (with_reducible repeat (first | apply zG | apply zH | apply zI)); exact Kd.R_mono HO_5.out (fun _ hk => ⟨hk.1.1.1.1, ⟨hk.1.1.1.2.1, ⟨hk.1.1.1.2.2, hk.1.1.2⟩⟩⟩)⟩, ⟨by (with_reducible repeat (first | apply zG | apply zH | apply zI)); exact Kd.R_mono HO_6.out (fun _ hk => ⟨hk.1.1.1.1, ⟨hk.1.1.1.2.1, ⟨hk.1.1.1.2.2, hk.1.1.2⟩⟩⟩)⟩, ⟨by (with_reducible repeat (first | apply zG | apply zH | apply zI)); exact Kd.R_mono HO_9.out (fun _ hk => ⟨hk.1.1.1.1, ⟨hk.1.1.1.2, hk.1.1.2⟩⟩)⟩, ⟨by (with_reducible repeat (first | apply zG | apply zH | apply zI)); exact Kd.R_mono HO_77.out (fun _ hk => ⟨hk.1.1.1.1, ⟨hk.1.1.1.2, hk.1.1.2⟩⟩)⟩, ⟨by (with_reducible repeat (first | refine zE ?_ _ | refine zF ?_ | refine zD ?_ _)); exact BK348.out⟩, ⟨by repeat (first | (with_reducible first | exact HB.out | apply zA | apply zB | apply zC | refine below_set ?_ GE348.out) | exact HB.out)⟩⟩
                     ·rw [if_neg c80] at H
                      exact absurd H (by simp)
                    ·rw [if_neg c79] at H
                     have c79b0 : ((t352.length : Int) == 1) = false := beq_eq_false_iff_ne.mpr c79
                     have c79b1 : ((t352.length : Int) != 1) = true := bne_iff_ne.mpr c79
                     have H' := Aside0.mk H
                     clear H
                     obtain ⟨Ao84, co84, eo84⟩ := Kd.R_slice HO351.out
                     subst eo84
                     have p355 : 0 ≤ (0 : Int) := (by omega)
                     have q355 : 0 < (t349.length : Int) := zX (by first | (with_reducible assumption) | assumption)
                     obtain ⟨ad355, e355, hx355_0, hx355_1⟩ := at_T53 (Kd.R_reads' HO351.out).2.2 0 p355 q355
                     cases e355
                     have qi355 : (0 < t349.length) = True := eq_true (by omega)
                     (try rw [show ((0 : Int)).toNat = 0 from rfl] at hx355_0)
                     (try rw [show 0 * 2 = 0 from rfl] at hx355_0)
                     (try rw [Addr.add_zero'] at hx355_0)
                     (try rw [show ((0 : Int)).toNat = 0 from rfl] at hx355_1)
                     (try rw [show 0 * 2 = 0 from rfl] at hx355_1)
                     (try rw [Addr.add_zero'] at hx355_1)
                     replace p355 := eq_true p355
                     replace q355 := eq_true q355
                     have hcz85_0 : w72.cell? ⟨gb348, 0, none⟩ = some (.int .i64 ((rd_T53 t330 x79_4).f0)) := (zQ BK348.out 0).trans rfl
                     have hcz85_1 : w72.cell? ⟨gb348, 1, none⟩ = some (.int .i64 ((rd_T53 t330 x79_4).f1)) := (zQ BK348.out 1).trans rfl
                     have hfz85_0 := blk_frozen BK348.out 0
                     have hfz85_1 := blk_frozen BK348.out 1
                     obtain ⟨Ao86, co86, eo86⟩ := Kd.R_slice HO354.out
                     subst eo86
                     go_wp2
                     repeat (go_quiet (fail); try go_wp2)
                     go_meet
                     case rel => exact ⟨_, (true), (by first | rfl | (simp; done) | (simp [*]; done)), H', ⟨by have := HJ2.out; have := HJ7.out; have := HJ36.out; have := HK4.out; first | omega | exact Nat.le_refl _⟩, ⟨by (with_reducible repeat (first | apply zG | apply zH | apply zI)); exact Kd.R_mono HO_5.out (fun _ hk => ⟨hk.1.1.1.1, ⟨hk.1.1.1.2.1, ⟨hk.1.1.1.2.2, hk.1.1.2⟩⟩⟩)⟩, ⟨by (with_reducible repeat (first | apply zG | apply zH | apply zI)); exact Kd.R_mono HO_6.out (fun _ hk => ⟨hk.1.1.1.1, ⟨hk.1.1.1.2.1, ⟨hk.1.1.1.2.2, hk.1.1.2⟩⟩⟩)⟩, ⟨by (with_reducible repeat (first | apply zG | apply zH | apply zI)); exact Kd.R_mono HO_9.out (fun _ hk => ⟨hk.1.1.1.1, ⟨hk.1.1.1.2, hk.1.1.2⟩⟩)⟩, ⟨by (with_reducible repeat (first | apply zG | apply zH | apply zI)); exact Kd.R_mono HO_77.out (fun _ hk => ⟨hk.1.1.1.1, ⟨hk.1.1.1.2, hk.1.1.2⟩⟩)⟩, ⟨by (with_reducible repeat (first | refine zE ?_ _ | refine zF ?_ | refine zD ?_ _)); exact BK348.out⟩, ⟨by repeat (first | (with_reducible first | exact HB.out | apply zA | apply zB | apply zC | refine below_set ?_ GE348.out) | exact HB.out)⟩⟩
                   ·rw [if_neg c78] at H
                    have c78b0 : ((t349.length : Int) == 0) = false := beq_eq_false_iff_ne.mpr c78
                    have c78b1 : ((t349.length : Int) != 0) = true := bne_iff_ne.mpr c78
                    have c78b2 : ¬ (t349 = []) := fun h_ => c78 (by rw [h_]; rfl)
                    have H' := Aside0.mk H
                    clear H
                    obtain ⟨Ao87, co87, eo87⟩ := Kd.R_slice HO351.out
                    subst eo87
                    have p355 : 0 ≤ (0 : Int) := (by omega)
                    have q355 : 0 < (t349.length : Int) := zX (by first | (with_reducible assumption) | assumption)
                    obtain ⟨ad355, e355, hx355_0, hx355_1⟩ := at_T53 (Kd.R_reads' HO351.out).2.2 0 p355 q355
                    cases e355
                    have qi355 : (0 < t349.length) = True := eq_true (by omega)
                    (try rw [show ((0 : Int)).toNat = 0 from rfl] at hx355_0)
                    (try rw [show 0 * 2 = 0 from rfl] at hx355_0)
                    (try rw [Addr.add_zero'] at hx355_0)
                    (try rw [show ((0 : Int)).toNat = 0 from rfl] at hx355_1)
                    (try rw [show 0 * 2 = 0 from rfl] at hx355_1)
                    (try rw [Addr.add_zero'] at hx355_1)
                    replace p355 := eq_true p355
                    replace q355 := eq_true q355
                    have hcz88_0 : w72.cell? ⟨gb348, 0, none⟩ = some (.int .i64 ((rd_T53 t330 x79_4).f0)) := (zQ BK348.out 0).trans rfl
                    have hcz88_1 : w72.cell? ⟨gb348, 1, none⟩ = some (.int .i64 ((rd_T53 t330 x79_4).f1)) := (zQ BK348.out 1).trans rfl
                    have hfz88_0 := blk_frozen BK348.out 0
                    have hfz88_1 := blk_frozen BK348.out 1
                    go_wp2
                    repeat (go_quiet (fail); try go_wp2)
                    go_meet
                    case rel => exact ⟨_, (false), (by first | rfl | (simp; done) | (simp [*]; done)), H', ⟨by have := HJ2.out; have := HJ7.out; have := HJ36.out; have := HK4.out; first | omega | exact Nat.le_refl _⟩, ⟨by (with_reducible repeat (first | apply zG | apply zH | apply zI)); exact Kd.R_mono HO_5.out (fun _ hk => ⟨hk.1.1.1.1, ⟨hk.1.1.1.2.1, ⟨hk.1.1.1.2.2, hk.1.1.2⟩⟩⟩)⟩, ⟨by (with_reducible repeat (first | apply zG | apply zH | apply zI)); exact Kd.R_mono HO_6.out (fun _ hk => ⟨hk.1.1.1.1, ⟨hk.1.1.1.2.1, ⟨hk.1.1.1.2.2, hk.1.1.2⟩⟩⟩)⟩, ⟨by (with_reducible repeat (first | apply zG | apply zH | apply zI)); exact Kd.R_mono HO_9.out (fun _ hk => ⟨hk.1.1.1.1, ⟨hk.1.1.1.2, hk.1.1.2⟩⟩)⟩, ⟨by (with_reducible repeat (first | apply zG | apply zH | apply zI)); exact Kd.R_mono HO_77.out (fun _ hk => ⟨hk.1.1.1.1, ⟨hk.1.1.1.2, hk.1.1.2⟩⟩)⟩, ⟨by (with_reducible repeat (first | refine zE ?_ _ | refine zF ?_ | refine zD ?_ _)); exact BK348.out⟩, ⟨by repeat (first | (with_reducible first | exact HB.out | apply zA | apply zB | apply zC | refine below_set ?_ GE348.out) | exact HB.out)⟩⟩
                 ·rw [if_neg c74] at H
                  exact absurd H (by simp)
                ·rw [if_neg c73] at H
                 have c73b0 : decide (0 < (t349.length : Int)) = false := decide_eq_false c73
                 have c73b1 : decide (0 < t349.length) = false := decide_eq_false (by omega)
                 clear c73
                 (first | rw [c73b0] | (simp only [i64_w, i32_w]; rw [c73b0]) | skip)
                 by_cases c89 : (t349.length : Int) = 0
                 ·rw [if_pos c89] at H
                  have c89b0 : ((t349.length : Int) == 0) = true := beq_iff_eq.mpr c89
                  have c89b1 : ((t349.length : Int) != 0) = false := bne_eq_false_iff_eq.mpr c89
                  clear c89
                  by_cases c90 : (t352.length : Int) = 1
                  ·rw [if_pos c90] at H
                   have c90b0 : ((t352.length : Int) == 1) = true := beq_iff_eq.mpr c90
                   have c90b1 : ((t352.length : Int) != 1) = false := bne_eq_false_iff_eq.mpr c90
                   clear c90
                   by_cases c91 : 0 < (t352.length : Int)
                   ·rw [if_pos c91] at H
                    have c91b0 : decide (0 < (t352.length : Int)) = true := decide_eq_true c91
                    have c91b1 : decide (0 < t352.length) = true := decide_eq_true (by omega)
                    clear c91
                    have H' := Aside0.mk H
                    clear H
                    obtain ⟨Ao92, co92, eo92⟩ := Kd.R_slice HO351.out
                    subst eo92
                    obtain ⟨Ao93, co93, eo93⟩ := Kd.R_slice HO354.out
                    subst eo93
                    have p357 : 0 ≤ (0 : Int) := (by omega)
                    have q357 : 0 < (t352.length : Int) := zX (by first | (with_reducible assumption) | assumption)
                    obtain ⟨ad357, e357, hx357_0, hx357_1⟩ := at_T53 (Kd.R_reads' HO354.out).2.2 0 p357 q357
                    cases e357
                    have qi357 : (0 < t352.length) = True := eq_true (by omega)
                    (try rw [show ((0 : Int)).toNat = 0 from rfl] at hx357_0)
                    (try rw [show 0 * 2 = 0 from rfl] at hx357_0)
                    (try rw [Addr.add_zero'] at hx357_0)
                    (try rw [show ((0 : Int)).toNat = 0 from rfl] at hx357_1)
                    (try rw [show 0 * 2 = 0 from rfl] at hx357_1)
                    (try rw [Addr.add_zero'] at hx357_1)
                    replace p357 := eq_true p357
                    replace q357 := eq_true q357
                    have hcz94_0 : w72.cell? ⟨gb348, 0, none⟩ = some (.int .i64 ((rd_T53 t330 x79_4).f0)) := (zQ BK348.out 0).trans rfl
                    have hcz94_1 : w72.cell? ⟨gb348, 1, none⟩ = some (.int .i64 ((rd_T53 t330 x79_4).f1)) := (zQ BK348.out 1).trans rfl
                    have hfz94_0 := blk_frozen BK348.out 0
                    have hfz94_1 := blk_frozen BK348.out 1
                    go_wp2
                    repeat (go_quiet (fail); try go_wp2)
                    go_meet
                    case rel => exact ⟨_, ((!(((rd_T53 t352 0).f0) == ((rd_T53 t330 x79_4).f0)) || (!(((rd_T53 t352 0).f1) == ((rd_T53 t330 x79_4).f1))))), (by first | rfl | (simp; done) | (simp [*]; done)), H', ⟨by have := HJ2.out; have := HJ7.out; have := HJ36.out; have := HK4.out; first | omega | exact Nat.le_refl _⟩, ⟨by (with_reducible repeat (first | apply zG | apply zH | apply zI)); exact Kd.R_mono HO_5.out (fun _ hk => ⟨hk.1.1.1.1, ⟨hk.1.1.1.2.1, ⟨hk.1.1.1.2.2, hk.1.1.2⟩⟩⟩)⟩, ⟨by (with_reducible repeat (first | apply zG | apply zH | apply zI)); exact Kd.R_mono HO_6.out (fun _ hk => ⟨hk.1.1.1.1, ⟨hk.1.1.1.2.1, ⟨hk.1.1.1.2.2, hk.1.1.2⟩⟩⟩)⟩, ⟨by (with_reducible repeat (first | apply zG | apply zH | apply zI)); exact Kd.R_mono HO_9.out (fun _ hk => ⟨hk.1.1.1.1, ⟨hk.1.1.1.2, hk.1.1.2⟩⟩)⟩, ⟨by (with_reducible repeat (first | apply zG | apply zH | apply zI)); exact Kd.R_mono HO_77.out (fun _ hk => ⟨hk.1.1.1.1, ⟨hk.1.1.1.2, hk.1.1.2⟩⟩)⟩, ⟨by (with_reducible repeat (first | refine zE ?_ _ | refine zF ?_ | refine zD ?_ _)); exact BK348.out⟩, ⟨by repeat (first | (with_reducible first | exact HB.out | apply zA | apply zB | apply zC | refine below_set ?_ GE348.out) | exact HB.out)⟩⟩
                   ·rw [if_neg c91] at H
                    exact absurd H (by simp)
                  ·rw [if_neg c90] at H
                   have c90b0 : ((t352.length : Int) == 1) = false := beq_eq_false_iff_ne.mpr c90
                   have c90b1 : ((t352.length : Int) != 1) = true := bne_iff_ne.mpr c90
                   have H' := Aside0.mk H
                   clear H
                   obtain ⟨Ao95, co95, eo95⟩ := Kd.R_slice HO351.out
                   subst eo95
                   obtain ⟨Ao96, co96, eo96⟩ := Kd.R_slice HO354.out
                   subst eo96
                   go_wp2
                   repeat (go_quiet (fail); try go_wp2)
                   go_meet
                   case rel => exact ⟨_, (true), (by first | rfl | (simp; done) | (simp [*]; done)), H', ⟨by have := HJ2.out; have := HJ7.out; have := HJ36.out; have := HK4.out; first | omega | exact Nat.le_refl _⟩, ⟨by (with_reducible repeat (first | apply zG | apply zH | apply zI)); exact Kd.R_mono HO_5.out (fun _ hk => ⟨hk.1.1.1.1, ⟨hk.1.1.1.2.1, ⟨hk.1.1.1.2.2, hk.1.1.2⟩⟩⟩)⟩, ⟨by (with_reducible repeat (first | apply zG | apply zH | apply zI)); exact Kd.R_mono HO_6.out (fun _ hk => ⟨hk.1.1.1.1, ⟨hk.1.1.1.2.1, ⟨hk.1.1.1.2.2, hk.1.1.2⟩⟩⟩)⟩, ⟨by (with_reducible repeat (first | apply zG | apply zH | apply zI)); exact Kd.R_mono HO_9.out (fun _ hk => ⟨hk.1.1.1.1, ⟨hk.1.1.1.2, hk.1.1.2⟩⟩)⟩, ⟨by (with_reducible repeat (first | apply zG | apply zH | apply zI)); exact Kd.R_mono HO_77.out (fun _ hk => ⟨hk.1.1.1.1, ⟨hk.1.1.1.2, hk.1.1.2⟩⟩)⟩, ⟨by (with_reducible repeat (first | refine zE ?_ _ | refine zF ?_ | refine zD ?_ _)); exact BK348.out⟩, ⟨by repeat (first | (with_reducible first | exact HB.out | apply zA | apply zB | apply zC | refine below_set ?_ GE348.out) | exact HB.out)⟩⟩
                 ·rw [if_neg c89] at H
                  have c89b0 : ((t349.length : Int) == 0) = false := beq_eq_false_iff_ne.mpr c89
                  have c89b1 : ((t349.length : Int) != 0) = true := bne_iff_ne.mpr c89
                  have c89b2 : ¬ (t349 = []) := fun h_ => c89 (by rw [h_]; rfl)
                  have H' := Aside0.mk H
                  clear H
                  obtain ⟨Ao97, co97, eo97⟩ := Kd.R_slice HO351.out
                  subst eo97
                  go_wp2
                  repeat (go_quiet (fail); try go_wp2)
                  go_meet
                  case rel => exact ⟨_, (false), (by first | rfl | (simp; done) | (simp [*]; done)), H', ⟨by have := HJ2.out; have := HJ7.out; have := HJ36.out; have := HK4.out; first | omega | exact Nat.le_refl _⟩, ⟨by (with_reducible repeat (first | apply zG | apply zH | apply zI)); exact Kd.R_mono HO_5.out (fun _ hk => ⟨hk.1.1.1.1, ⟨hk.1.1.1.2.1, ⟨hk.1.1.1.2.2, hk.1.1.2⟩⟩⟩)⟩, ⟨by (with_reducible repeat (first | apply zG | apply zH | apply zI)); exact Kd.R_mono HO_6.out (fun _ hk => ⟨hk.1.1.1.1, ⟨hk.1.1.1.2.1, ⟨hk.1.1.1.2.2, hk.1.1.2⟩⟩⟩)⟩, ⟨by (with_reducible repeat (first | apply zG | apply zH | apply zI)); exact Kd.R_mono HO_9.out (fun _ hk => ⟨hk.1.1.1.1, ⟨hk.1.1.1.2, hk.1.1.2⟩⟩)⟩, ⟨by (with_reducible repeat (first | apply zG | apply zH | apply zI)); exact Kd.R_mono HO_77.out (fun _ hk => ⟨hk.1.1.1.1, ⟨hk.1.1.1.2, hk.1.1.2⟩⟩)⟩, ⟨by (with_reducible repeat (first | refine zE ?_ _ | refine zF ?_ | refine zD ?_ _)); exact BK348.out⟩, ⟨by repeat (first | (with_reducible first | exact HB.out | apply zA | apply zB | apply zC | refine below_set ?_ GE348.out) | exact HB.out)⟩⟩
               case rest =>
                clear HC67
                try clear c1
                try clear p2
                try clear c3
                try clear p3
                try clear q3
                try clear hx3
                try clear qi3
                try clear c4
                try clear c4b0
                try clear c4b1
                try clear c5
                try clear c6
                try clear p6
                try clear c7
                try clear c8
                try clear c9
                try clear c12
                try clear c14
                try clear c16
                try clear p34
                try clear q34
                try clear hx34
                try clear c35
                try clear p35
                try clear q35
                try clear hx35
                try clear qi35
                try clear c43
                try clear c60
                try clear c62
                try clear c62b0
                try clear c63
                try clear c63b0
                try clear c64
                try clear c64b0
                try clear p64
                try clear c73
                try clear c73b0
                try clear c73b1
                try clear c74
                try clear c74b0
                try clear c74b1
                try clear c75
                try clear c75b0
                try clear c78
                try clear c78b0
                try clear c78b1
                try clear c78b2
                try clear c79
                try clear c79b0
                try clear c79b1
                try clear c80
                try clear c80b0
                try clear c80b1
                try clear c89
                try clear c89b0
                try clear c89b1
                try clear c89b2
                try clear c90
                try clear c90b0
                try clear c90b1
                try clear c91
                try clear c91b0
                try clear c91b1
                try clear hcz69_0
                try clear hcz69_1
                try clear hcz71_0
                try clear hcz71_1
                try clear hcz77_0
                try clear hcz77_1
                try clear hcz82_0
                try clear hcz82_1
                try clear hcz85_0
                try clear hcz85_1
                try clear hcz88_0
                try clear hcz88_1
                try clear hcz94_0
                try clear hcz94_1
                try clear hfz69_0
                try clear hfz69_1
                try clear hfz71_0
                try clear hfz71_1
                try clear hfz77_0
                try clear hfz77_1
                try clear hfz82_0
                try clear hfz82_1
                try clear hfz85_0
                try clear hfz85_1
                try clear hfz88_0
                try clear hfz88_1
                try clear hfz94_0
                try clear hfz94_1
                try clear hx347_0
                try clear hx347_1
                try clear hx355_0
                try clear hx355_1
                try clear hx356_0
                try clear hx356_1
                try clear hx357_0
                try clear hx357_1
                try clear p2
                try clear p347
                try clear p355
                try clear p356
                try clear p357
                try clear p6
                try clear q347
                try clear q355
                try clear q356
                try clear q357
                obtain ⟨kq, x121_66, rfl, HA, HJ66, HO_5, HO_6, HO_9, HO_77, BK348, HB⟩ := hcut
                cases kq with
                | zero => exact absurd HA.out (by simp [laws_FnMerged.j4])
                | succ kj66 =>
                 have H := HA.out
                 clear HA
                 simp only [laws_FnMerged.j4] at H
                 by_cases c98 : x121_66 = true
                 ·subst c98
                  have H1 : (some false) = some r := by rw [if_pos rfl] at H; exact H
                  clear H
                  have H := H1
                  clear H1
                  obtain rfl := Option.some.inj H
                  go_wp2
                  repeat (go_quiet (fail); try go_wp2)
                  go_ret
                  exact ⟨by first | rfl | (simp [errW_none, errW_some] <;> rfl) | (simp [*, errW_none, errW_some] <;> rfl), by repeat (first | (with_reducible first | exact HB.out | apply zA | apply zB | apply zC | refine below_set ?_ GE348.out) | exact HB.out)⟩
                 ·replace c98 := Bool.eq_false_iff.mpr c98
                  subst c98
                  have H1 : (laws_FnMerged.l0 kj66 t315 t316 t330 t330 (t330.length : Int) (wrap64 (x79_4 + 1))) = some r := by rw [if_neg (show ¬ (false = true) by decide)] at H; exact H
                  clear H
                  have H := H1
                  clear H1
                  have H' := Aside0.mk H
                  clear H
                  go_wp2
                  repeat (go_quiet (fail); try go_wp2)
                  go_roundg kj66
                  case measure => have := HJ2.out; have := HJ7.out; have := HJ36.out; have := HK4.out; have := HJ66.out; omega
                  case rel => exact ⟨(wrap64 (x79_4 + 1)), (by first | rfl | (simp; done) | (simp [*]; done)), H', ⟨by have := HJ2.out; have := HJ7.out; have := HJ36.out; have := HK4.out; have := HJ66.out; omega⟩, ⟨by (with_reducible repeat (first | apply zG | apply zH | apply zI)); exact Kd.R_mono HO_5.out (fun _ hk => ⟨hk.1, ⟨hk.2.1, hk.2.2.1⟩⟩)⟩, ⟨by (with_reducible repeat (first | apply zG | apply zH | apply zI)); exact Kd.R_mono HO_6.out (fun _ hk => ⟨hk.1, ⟨hk.2.1, hk.2.2.1⟩⟩)⟩, ⟨by (with_reducible repeat (first | apply zG | apply zH | apply zI)); exact Kd.R_mono HO_9.out (fun _ hk => ⟨hk.1, hk.2.1⟩)⟩, ⟨by (with_reducible repeat (first | apply zG | apply zH | apply zI)); exact Kd.R_mono HO_77.out (fun _ hk => ⟨hk.1, hk.2.1⟩)⟩, ⟨by repeat (first | (with_reducible first | exact HB.out | apply zA | apply zB | apply zC | refine below_set ?_ GE348.out) | exact HB.out)⟩⟩
              ·rw [if_neg c64] at H
               exact absurd H (by simp)
             ·rw [if_neg c63] at H
              exact absurd H (by simp)
            ·rw [if_neg c62] at H
             have c62b0 : decide (x79_4 < (t330.length : Int)) = false := decide_eq_false c62
             clear c62
             by_cases c99 : (t330.length : Int) ≥ (t315.length : Int)
             ·rw [if_pos c99] at H
              have c99b0 : decide ((t315.length : Int) ≤ (t330.length : Int)) = true := decide_eq_true c99
              have c99b1 : decide (t315.length ≤ t330.length) = true := decide_eq_true (Int.ofNat_le.mp c99)
              clear c99
              obtain rfl := Option.some.inj H
              go_wp2
              repeat (go_quiet (fail); try go_wp2)
              go_ret
              exact ⟨by first | rfl | (simp [errW_none, errW_some] <;> rfl) | (simp [*, errW_none, errW_some] <;> rfl), by repeat (first | (with_reducible first | exact HB.out | apply zA | apply zB | apply zC) | exact HB.out)⟩
             ·rw [if_neg c99] at H
              have c99b0 : decide ((t315.length : Int) ≤ (t330.length : Int)) = false := decide_eq_false c99
              have c99b1 : decide (t315.length ≤ t330.length) = false := decide_eq_false (fun h => c99 (Int.ofNat_le.mpr h))
              clear c99
              obtain rfl := Option.some.inj H
              go_wp2
              repeat (go_quiet (fail); try go_wp2)
              go_ret
              exact ⟨by first | rfl | (simp [errW_none, errW_some] <;> rfl) | (simp [*, errW_none, errW_some] <;> rfl), by repeat (first | (with_reducible first | exact HB.out | apply zA | apply zB | apply zC) | exact HB.out)⟩

/-- THE ONE PURE STATEMENT of laws_FnMerged: yours. -/
def laws_FnMerged.Pure : Prop := ∀ (l0 : List Int) (l1 : List Int), l0.length ≤ maxLen → l0.length * 1 ≤ 140737488351232 → (∀ x ∈ l0, (Lit.int .u8 x).wf = true) → l1.length ≤ maxLen → l1.length * 1 ≤ 140737488351232 → (∀ x ∈ l1, (Lit.int .u8 x).wf = true) → ∃ k, laws_FnMerged.f k l0 l1 = some true
theorem laws_FnMerged.walk (P : laws_FnMerged.Pure) (a0 : Option Addr) (len0 cap0 : Nat) (z0 : List Int) (a1 : Option Addr) (len1 cap1 : Nat) (z1 : List Int) (w : World) (w0 : (a0 = none ∧ len0 = 0 ∧ cap0 = 0 ∧ z0 = []) ∨ ∃ x, a0 = some x ∧ len0 ≤ cap0 ∧ cap0 ≤ maxLen ∧ z0.length = cap0 ∧ (∀ i, i < z0.length → w.cell? (x.add i) = some (.int .u8 (z0.getD i 0))) ∧ ∀ n ∈ z0, (Lit.int .u8 n).wf = true) (y0 : len0 * 1 ≤ 140737488351232) (w1 : (a1 = none ∧ len1 = 0 ∧ cap1 = 0 ∧ z1 = []) ∨ ∃ x, a1 = some x ∧ len1 ≤ cap1 ∧ cap1 ≤ maxLen ∧ z1.length = cap1 ∧ (∀ i, i < z1.length → w.cell? (x.add i) = some (.int .u8 (z1.getD i 0))) ∧ ∀ n ∈ z1, (Lit.int .u8 n).wf = true) (y1 : len1 * 1 ≤ 140737488351232) :
  Calls Try.prog 6 #[.slice a0 len0 cap0, .slice a1 len1 cap1] w fun e w' => e = .returned (.bool true) ∧ Below w.heap.size w w' := by
 obtain ⟨l0, rfl, hr0, hm0, hw0, hc0⟩ := ReadsInt.ofRowC w0
 obtain ⟨l1, rfl, hr1, hm1, hw1, hc1⟩ := ReadsInt.ofRowC w1
 obtain ⟨k, h⟩ := P l0 l1 hm0 y0 hw0 hm1 y1 hw1
 refine (laws_FnMerged.calls k _ _ l0 _ _ l1 true w (Kd.C_of_reads (d := (0 : Int)) (h1 := fun _ => rfl) hr0) hc0 (Kd.C_of_reads (d := (0 : Int)) (h1 := fun _ => rfl) hr1) hc1 h).mono ?_
 rintro e w' ⟨rfl, hd⟩
 exact ⟨rfl, hd⟩

end Go.Proofs.Ytppifefhpjhmaaa.PFnMerged
