-- Written by a program of this session (xprint.py, over the kit's print).
import Derived.Test.YtppifefhpjhmaaaPFnAggsx0
import Derived.Test.YtppifefhpjhmaaaPFnAggsx1
import Derived.Test.YtppifefhpjhmaaaPFnAggsx3
import Derived.Test.YtppifefhpjhmaaaPFnAggsx4
namespace Go.Proofs.Ytppifefhpjhmaaa.PFnAggs
open Go.RowKit Go.Proofs.YtppifefhpjhmaaaW.PrintWords Go.Proofs.YtppifefhpjhmaaaW.PrintLast Go.Proofs.YtppifefhpjhmaaaW.PrintMore Go.Proofs.Ytppifefhpjhmaaa.XWords
attribute [local go_sem] max2_int min2_int max_two min_two max_three min_three max_four min_four   -- for this text's walks alone
set_option linter.unusedVariables false
set_option linter.unusedSimpArgs false

attribute [local go_sem high] eqA24
/-! ### laws_FnAggs: function 3 -/
def laws_FnAggs.j0 : Nat → List Int → List Int → Bool → Option (Bool)
 | 0, _, _, _ => none
 | k + 1, x0, x1, x16 => if x16 = true then (some true) else ((spec_DrawMergeAgg.f k x0).bind fun bt201 => ((spec_DrawMergeAgg.f k x1).bind fun bt219 => ((impl_MergeAgg.f bt201.1 bt201.2.1 bt201.2.2.1 bt201.2.2.2.1 bt201.2.2.2.2.1 bt201.2.2.2.2.2.1 bt201.2.2.2.2.2.2.1 bt201.2.2.2.2.2.2.2.1 bt201.2.2.2.2.2.2.2.2.1 bt201.2.2.2.2.2.2.2.2.2.1 bt201.2.2.2.2.2.2.2.2.2.2.1 bt201.2.2.2.2.2.2.2.2.2.2.2.1 bt201.2.2.2.2.2.2.2.2.2.2.2.2.1 bt201.2.2.2.2.2.2.2.2.2.2.2.2.2.1 bt201.2.2.2.2.2.2.2.2.2.2.2.2.2.2.1 bt201.2.2.2.2.2.2.2.2.2.2.2.2.2.2.2).bind fun bt237 => ((spec_MergeAgg.f k bt201.1 bt201.2.1 bt201.2.2.1 bt201.2.2.2.1 bt201.2.2.2.2.1 bt201.2.2.2.2.2.1 bt201.2.2.2.2.2.2.1 bt201.2.2.2.2.2.2.2.1 bt201.2.2.2.2.2.2.2.2.1 bt201.2.2.2.2.2.2.2.2.2.1 bt201.2.2.2.2.2.2.2.2.2.2.1 bt201.2.2.2.2.2.2.2.2.2.2.2.1 bt201.2.2.2.2.2.2.2.2.2.2.2.2.1 bt201.2.2.2.2.2.2.2.2.2.2.2.2.2.1 bt201.2.2.2.2.2.2.2.2.2.2.2.2.2.2.1 bt201.2.2.2.2.2.2.2.2.2.2.2.2.2.2.2).bind fun bt245 => (if (bt237.1 == bt245.1 && (bt237.2.1 == bt245.2.1 && (bt237.2.2.1 == bt245.2.2.1 && (bt237.2.2.2.1 == bt245.2.2.2.1 && (bt237.2.2.2.2.1 == bt245.2.2.2.2.1 && (bt237.2.2.2.2.2.1 == bt245.2.2.2.2.2.1 && (bt237.2.2.2.2.2.2.1 == bt245.2.2.2.2.2.2.1 && (bt237.2.2.2.2.2.2.2 == bt245.2.2.2.2.2.2.2)))))))) = true then ((impl_MergeAgg.f bt201.1 bt201.2.1 bt201.2.2.1 bt201.2.2.2.1 bt201.2.2.2.2.1 bt201.2.2.2.2.2.1 bt201.2.2.2.2.2.2.1 bt201.2.2.2.2.2.2.2.1 bt201.2.2.2.2.2.2.2.2.1 bt201.2.2.2.2.2.2.2.2.2.1 bt201.2.2.2.2.2.2.2.2.2.2.1 bt201.2.2.2.2.2.2.2.2.2.2.2.1 bt201.2.2.2.2.2.2.2.2.2.2.2.2.1 bt201.2.2.2.2.2.2.2.2.2.2.2.2.2.1 bt201.2.2.2.2.2.2.2.2.2.2.2.2.2.2.1 bt201.2.2.2.2.2.2.2.2.2.2.2.2.2.2.2).bind fun bt253 => ((impl_MergeAgg.f bt253.1 bt253.2.1 bt253.2.2.1 bt253.2.2.2.1 bt253.2.2.2.2.1 bt253.2.2.2.2.2.1 bt253.2.2.2.2.2.2.1 bt253.2.2.2.2.2.2.2 bt219.1 bt219.2.1 bt219.2.2.1 bt219.2.2.2.1 bt219.2.2.2.2.1 bt219.2.2.2.2.2.1 bt219.2.2.2.2.2.2.1 bt219.2.2.2.2.2.2.2.1).bind fun bt261 => ((impl_MergeAgg.f bt201.2.2.2.2.2.2.2.2.1 bt201.2.2.2.2.2.2.2.2.2.1 bt201.2.2.2.2.2.2.2.2.2.2.1 bt201.2.2.2.2.2.2.2.2.2.2.2.1 bt201.2.2.2.2.2.2.2.2.2.2.2.2.1 bt201.2.2.2.2.2.2.2.2.2.2.2.2.2.1 bt201.2.2.2.2.2.2.2.2.2.2.2.2.2.2.1 bt201.2.2.2.2.2.2.2.2.2.2.2.2.2.2.2 bt219.1 bt219.2.1 bt219.2.2.1 bt219.2.2.2.1 bt219.2.2.2.2.1 bt219.2.2.2.2.2.1 bt219.2.2.2.2.2.2.1 bt219.2.2.2.2.2.2.2.1).bind fun bt269 => ((impl_MergeAgg.f bt201.1 bt201.2.1 bt201.2.2.1 bt201.2.2.2.1 bt201.2.2.2.2.1 bt201.2.2.2.2.2.1 bt201.2.2.2.2.2.2.1 bt201.2.2.2.2.2.2.2.1 bt269.1 bt269.2.1 bt269.2.2.1 bt269.2.2.2.1 bt269.2.2.2.2.1 bt269.2.2.2.2.2.1 bt269.2.2.2.2.2.2.1 bt269.2.2.2.2.2.2.2).bind fun bt277 => (some (bt261.1 == bt277.1 && (bt261.2.1 == bt277.2.1 && (bt261.2.2.1 == bt277.2.2.1 && (bt261.2.2.2.1 == bt277.2.2.2.1 && (bt261.2.2.2.2.1 == bt277.2.2.2.2.1 && (bt261.2.2.2.2.2.1 == bt277.2.2.2.2.2.1 && (bt261.2.2.2.2.2.2.1 == bt277.2.2.2.2.2.2.1 && (bt261.2.2.2.2.2.2.2 == bt277.2.2.2.2.2.2.2))))))))))))) else (some false))))))
def laws_FnAggs.f (k : Nat) (l0 : List Int) (l1 : List Int) : Option (Bool) := if (l0.length : Int) > 1048576 then (laws_FnAggs.j0 k l0 l1 true) else (laws_FnAggs.j0 k l0 l1 (decide ((l1.length : Int) > 1048576)))
theorem laws_FnAggs.mono_l : ∀ k, (∀ y0 y1 y2, LeO (laws_FnAggs.j0 k y0 y1 y2) (laws_FnAggs.j0 (k + 1) y0 y1 y2))
 | 0 => fun _ _ _ r h => by simp [laws_FnAggs.j0] at h
 | k + 1 => by
  have ih0 := laws_FnAggs.mono_l k
  ·intro y0 y1 y2
   unfold laws_FnAggs.j0
   repeat' first
   | (with_reducible exact ih0 _ _ _)
   | (with_reducible exact spec_DrawMergeAgg.mono _ _)
   | (with_reducible exact spec_MergeAgg.mono _ _ _ _ _ _ _ _ _ _ _ _ _ _ _ _ _)
   | (with_reducible exact LeO.refl _)
   | (with_reducible exact LeO.none _)
   | (with_reducible refine LeO.ite ?_ ?_)
   | (with_reducible refine LeO.bind ?_ (fun _ => ?_))
   | exact ih0 _ _ _
   | exact spec_DrawMergeAgg.mono _ _
   | exact spec_MergeAgg.mono _ _ _ _ _ _ _ _ _ _ _ _ _ _ _ _ _
   | exact LeO.none _
   | refine LeO.ite ?_ ?_
   | refine LeO.bind ?_ (fun _ => ?_)
theorem laws_FnAggs.mono : ∀ a0 a1 k, LeO (laws_FnAggs.f k a0 a1) (laws_FnAggs.f (k + 1) a0 a1) := by
 intro a0 a1 k
 have ih0 := laws_FnAggs.mono_l k
 unfold laws_FnAggs.f
 repeat' first
   | (with_reducible exact ih0 _ _ _)
   | (with_reducible exact spec_DrawMergeAgg.mono _ _)
   | (with_reducible exact spec_MergeAgg.mono _ _ _ _ _ _ _ _ _ _ _ _ _ _ _ _ _)
   | (with_reducible exact LeO.refl _)
   | (with_reducible exact LeO.none _)
   | (with_reducible refine LeO.ite ?_ ?_)
   | (with_reducible refine LeO.bind ?_ (fun _ => ?_))
   | exact ih0 _ _ _
   | exact spec_DrawMergeAgg.mono _ _
   | exact spec_MergeAgg.mono _ _ _ _ _ _ _ _ _ _ _ _ _ _ _ _ _
   | exact LeO.none _
   | refine LeO.ite ?_ ?_
   | refine LeO.bind ?_ (fun _ => ?_)
def laws_FnAggs.T5 : Bool × List (List Nat × List Nat) := (true, [([], []), ([], []), ([0, 1], [0, 1]), ([], []), ([], []), ([3, 4, 2], [3, 4]), ([2, 5], [2, 5]), ([6, 5], [6]), ([7], [7]), ([7], [7]), ([8, 9, 7, 7], [7, 8, 9]), ([7], [7]), ([10, 11, 10, 7], [7, 10, 11]), ([7], [7]), ([7], [7]), ([7], [7]), ([14, 15, 12, 7], [7, 14, 15]), ([13, 16, 16, 7], [7, 13, 16]), ([12, 17, 7], [7, 12, 17]), ([7, 18], [7, 18]), ([19, 17, 0, 1, 2, 3, 4, 5, 6, 7, 8, 9, 10, 11, 12, 13, 14, 15, 16, 17, 18, 19], [19])])
def laws_FnAggs.B5 : List Nat := [0, 0, 3, 0, 0, 31, 63, 127, 255, 255, 1023, 255, 4095, 255, 255, 255, 57343, 131071, 262143, 524287, 1048575]
theorem laws_FnAggs.tab5 : rtab .any (opsOf Try.f3 5) = laws_FnAggs.T5 := by kernel_rfl
theorem laws_FnAggs.bits5 : waitsOk laws_FnAggs.T5.2 laws_FnAggs.B5 = true := by kernel_rfl
set_option maxHeartbeats 8000000 in
set_option maxRecDepth 100000 in
theorem laws_FnAggs.calls (k : Nat) (A0 : Option Addr) (c0 : Nat) (l0 : List Int) (A1 : Option Addr) (c1 : Nat) (l1 : List Int) (r : Bool) (w : World) (hr0 : Kd.C (Kd.int .u8) w A0 l0.length l0) (hc0 : l0.length ≤ c0) (hr1 : Kd.C (Kd.int .u8) w A1 l1.length l1) (hc1 : l1.length ≤ c1) (h : laws_FnAggs.f k l0 l1 = some r) :
  Calls Try.prog 3 #[.slice A0 l0.length c0, .slice A1 l1.length c1] w fun e w' => e = .returned (.bool r) ∧ Below w.heap.size w w' := by
 have hu24 := Try.underlying24
 have HR0 := Aside0.mk hr0
 have HC0 := Aside0.mk hc0
 clear hr0 hc0
 have HR1 := Aside0.mk hr1
 have HC1 := Aside0.mk hc1
 clear hr1 hc1
 have HB := Aside0.mk (Below.refl w.heap.size w)
 have H : (if (l0.length : Int) > 1048576 then (laws_FnAggs.j0 k l0 l1 true) else (laws_FnAggs.j0 k l0 l1 (decide ((l1.length : Int) > 1048576)))) = some r := h
 clear h
 have HC3 := Aside0.mk H
 clear H
 go_enter Try.func3, Try.ntmps3
 go_upto_region 1 with (fail)
 go_cut [16] (fun v16 wc => ∃ (kq : Nat) (x16_2 : Bool), v16 = .bool x16_2 ∧ Aside0 (laws_FnAggs.j0 kq l0 l1 x16_2 = some r) ∧ Aside0 (kq ≤ k) ∧ Aside0 (Below w.heap.size w wc))
 case first =>
  have H := HC3.out
  clear HC3
  by_cases c4 : (l0.length : Int) > 1048576
  ·rw [if_pos c4] at H
   have c4b0 : decide (1048576 < (l0.length : Int)) = true := decide_eq_true c4
   have c4b1 : decide (1048576 < l0.length) = true := decide_eq_true (by omega)
   clear c4
   (first | rw [c4b0] | (simp only [i64_w, i32_w]; rw [c4b0]) | skip)
   have H' := Aside0.mk H
   clear H
   go_wp2
   go_meet
   case rel => exact ⟨_, (true), (by first | rfl | (simp; done) | (simp [*]; done)), H', ⟨by first | omega | exact Nat.le_refl _⟩, ⟨by repeat (first | (with_reducible first | exact HB.out | apply zA | apply zB | apply zC) | exact HB.out)⟩⟩
  ·rw [if_neg c4] at H
   have c4b0 : decide (1048576 < (l0.length : Int)) = false := decide_eq_false c4
   have c4b1 : decide (1048576 < l0.length) = false := decide_eq_false (by omega)
   clear c4
   (first | rw [c4b0] | (simp only [i64_w, i32_w]; rw [c4b0]) | skip)
   have H' := Aside0.mk H
   clear H
   go_wp2
   go_meet
   case rel => exact ⟨_, (decide ((l1.length : Int) > 1048576)), (by first | rfl | (simp; done) | (simp [*]; done)), H', ⟨by first | omega | exact Nat.le_refl _⟩, ⟨by repeat (first | (with_reducible first | exact HB.out | apply zA | apply zB | apply zC) | exact HB.out)⟩⟩
 case rest =>
  clear HC3
  try clear c1
  try clear p2
  try clear c3
  try clear c4
  try clear c4b0
  try clear c4b1
  obtain ⟨kq, x16_2, rfl, HA, HJ2, HB⟩ := hcut
  cases kq with
  | zero => exact absurd HA.out (by simp [laws_FnAggs.j0])
  | succ kj2 =>
   have H := HA.out
   clear HA
   simp only [laws_FnAggs.j0] at H
   by_cases c5 : x16_2 = true
   ·subst c5
    have H1 : (some true) = some r := by rw [if_pos rfl] at H; exact H
    clear H
    have H := H1
    clear H1
    obtain rfl := Option.some.inj H
    go_wp2
    go_ret
    exact ⟨by first | rfl | (simp [errW_none, errW_some] <;> rfl) | (simp [*, errW_none, errW_some] <;> rfl), by repeat (first | (with_reducible first | exact HB.out | apply zA | apply zB | apply zC) | exact HB.out)⟩
   ·replace c5 := Bool.eq_false_iff.mpr c5
    subst c5
    have H1 : ((spec_DrawMergeAgg.f kj2 l0).bind fun bt201 => ((spec_DrawMergeAgg.f kj2 l1).bind fun bt219 => ((impl_MergeAgg.f bt201.1 bt201.2.1 bt201.2.2.1 bt201.2.2.2.1 bt201.2.2.2.2.1 bt201.2.2.2.2.2.1 bt201.2.2.2.2.2.2.1 bt201.2.2.2.2.2.2.2.1 bt201.2.2.2.2.2.2.2.2.1 bt201.2.2.2.2.2.2.2.2.2.1 bt201.2.2.2.2.2.2.2.2.2.2.1 bt201.2.2.2.2.2.2.2.2.2.2.2.1 bt201.2.2.2.2.2.2.2.2.2.2.2.2.1 bt201.2.2.2.2.2.2.2.2.2.2.2.2.2.1 bt201.2.2.2.2.2.2.2.2.2.2.2.2.2.2.1 bt201.2.2.2.2.2.2.2.2.2.2.2.2.2.2.2).bind fun bt237 => ((spec_MergeAgg.f kj2 bt201.1 bt201.2.1 bt201.2.2.1 bt201.2.2.2.1 bt201.2.2.2.2.1 bt201.2.2.2.2.2.1 bt201.2.2.2.2.2.2.1 bt201.2.2.2.2.2.2.2.1 bt201.2.2.2.2.2.2.2.2.1 bt201.2.2.2.2.2.2.2.2.2.1 bt201.2.2.2.2.2.2.2.2.2.2.1 bt201.2.2.2.2.2.2.2.2.2.2.2.1 bt201.2.2.2.2.2.2.2.2.2.2.2.2.1 bt201.2.2.2.2.2.2.2.2.2.2.2.2.2.1 bt201.2.2.2.2.2.2.2.2.2.2.2.2.2.2.1 bt201.2.2.2.2.2.2.2.2.2.2.2.2.2.2.2).bind fun bt245 => (if (bt237.1 == bt245.1 && (bt237.2.1 == bt245.2.1 && (bt237.2.2.1 == bt245.2.2.1 && (bt237.2.2.2.1 == bt245.2.2.2.1 && (bt237.2.2.2.2.1 == bt245.2.2.2.2.1 && (bt237.2.2.2.2.2.1 == bt245.2.2.2.2.2.1 && (bt237.2.2.2.2.2.2.1 == bt245.2.2.2.2.2.2.1 && (bt237.2.2.2.2.2.2.2 == bt245.2.2.2.2.2.2.2)))))))) = true then ((impl_MergeAgg.f bt201.1 bt201.2.1 bt201.2.2.1 bt201.2.2.2.1 bt201.2.2.2.2.1 bt201.2.2.2.2.2.1 bt201.2.2.2.2.2.2.1 bt201.2.2.2.2.2.2.2.1 bt201.2.2.2.2.2.2.2.2.1 bt201.2.2.2.2.2.2.2.2.2.1 bt201.2.2.2.2.2.2.2.2.2.2.1 bt201.2.2.2.2.2.2.2.2.2.2.2.1 bt201.2.2.2.2.2.2.2.2.2.2.2.2.1 bt201.2.2.2.2.2.2.2.2.2.2.2.2.2.1 bt201.2.2.2.2.2.2.2.2.2.2.2.2.2.2.1 bt201.2.2.2.2.2.2.2.2.2.2.2.2.2.2.2).bind fun bt253 => ((impl_MergeAgg.f bt253.1 bt253.2.1 bt253.2.2.1 bt253.2.2.2.1 bt253.2.2.2.2.1 bt253.2.2.2.2.2.1 bt253.2.2.2.2.2.2.1 bt253.2.2.2.2.2.2.2 bt219.1 bt219.2.1 bt219.2.2.1 bt219.2.2.2.1 bt219.2.2.2.2.1 bt219.2.2.2.2.2.1 bt219.2.2.2.2.2.2.1 bt219.2.2.2.2.2.2.2.1).bind fun bt261 => ((impl_MergeAgg.f bt201.2.2.2.2.2.2.2.2.1 bt201.2.2.2.2.2.2.2.2.2.1 bt201.2.2.2.2.2.2.2.2.2.2.1 bt201.2.2.2.2.2.2.2.2.2.2.2.1 bt201.2.2.2.2.2.2.2.2.2.2.2.2.1 bt201.2.2.2.2.2.2.2.2.2.2.2.2.2.1 bt201.2.2.2.2.2.2.2.2.2.2.2.2.2.2.1 bt201.2.2.2.2.2.2.2.2.2.2.2.2.2.2.2 bt219.1 bt219.2.1 bt219.2.2.1 bt219.2.2.2.1 bt219.2.2.2.2.1 bt219.2.2.2.2.2.1 bt219.2.2.2.2.2.2.1 bt219.2.2.2.2.2.2.2.1).bind fun bt269 => ((impl_MergeAgg.f bt201.1 bt201.2.1 bt201.2.2.1 bt201.2.2.2.1 bt201.2.2.2.2.1 bt201.2.2.2.2.2.1 bt201.2.2.2.2.2.2.1 bt201.2.2.2.2.2.2.2.1 bt269.1 bt269.2.1 bt269.2.2.1 bt269.2.2.2.1 bt269.2.2.2.2.1 bt269.2.2.2.2.2.1 bt269.2.2.2.2.2.2.1 bt269.2.2.2.2.2.2.2).bind fun bt277 => (some (bt261.1 == bt277.1 && (bt261.2.1 == bt277.2.1 && (bt261.2.2.1 == bt277.2.2.1 && (bt261.2.2.2.1 == bt277.2.2.2.1 && (bt261.2.2.2.2.1 == bt277.2.2.2.2.1 && (bt261.2.2.2.2.2.1 == bt277.2.2.2.2.2.1 && (bt261.2.2.2.2.2.2.1 == bt277.2.2.2.2.2.2.1 && (bt261.2.2.2.2.2.2.2 == bt277.2.2.2.2.2.2.2))))))))))))) else (some false)))))) = some r := by rw [if_neg (show ¬ (false = true) by decide)] at H; exact H
    clear H
    have H := H1
    clear H1
    replace H := Option.bind_eq_some_iff.mp H
    obtain ⟨⟨t201, t202, t203, t204, t205, t206, t207, t208, t209, t210, t211, t212, t213, t214, t215, t216⟩, A60, H⟩ := H
    replace H : ((spec_DrawMergeAgg.f kj2 l1).bind fun bt219 => ((impl_MergeAgg.f t201 t202 t203 t204 t205 t206 t207 t208 t209 t210 t211 t212 t213 t214 t215 t216).bind fun bt237 => ((spec_MergeAgg.f kj2 t201 t202 t203 t204 t205 t206 t207 t208 t209 t210 t211 t212 t213 t214 t215 t216).bind fun bt245 => (if (bt237.1 == bt245.1 && (bt237.2.1 == bt245.2.1 && (bt237.2.2.1 == bt245.2.2.1 && (bt237.2.2.2.1 == bt245.2.2.2.1 && (bt237.2.2.2.2.1 == bt245.2.2.2.2.1 && (bt237.2.2.2.2.2.1 == bt245.2.2.2.2.2.1 && (bt237.2.2.2.2.2.2.1 == bt245.2.2.2.2.2.2.1 && (bt237.2.2.2.2.2.2.2 == bt245.2.2.2.2.2.2.2)))))))) = true then ((impl_MergeAgg.f t201 t202 t203 t204 t205 t206 t207 t208 t209 t210 t211 t212 t213 t214 t215 t216).bind fun bt253 => ((impl_MergeAgg.f bt253.1 bt253.2.1 bt253.2.2.1 bt253.2.2.2.1 bt253.2.2.2.2.1 bt253.2.2.2.2.2.1 bt253.2.2.2.2.2.2.1 bt253.2.2.2.2.2.2.2 bt219.1 bt219.2.1 bt219.2.2.1 bt219.2.2.2.1 bt219.2.2.2.2.1 bt219.2.2.2.2.2.1 bt219.2.2.2.2.2.2.1 bt219.2.2.2.2.2.2.2.1).bind fun bt261 => ((impl_MergeAgg.f t209 t210 t211 t212 t213 t214 t215 t216 bt219.1 bt219.2.1 bt219.2.2.1 bt219.2.2.2.1 bt219.2.2.2.2.1 bt219.2.2.2.2.2.1 bt219.2.2.2.2.2.2.1 bt219.2.2.2.2.2.2.2.1).bind fun bt269 => ((impl_MergeAgg.f t201 t202 t203 t204 t205 t206 t207 t208 bt269.1 bt269.2.1 bt269.2.2.1 bt269.2.2.2.1 bt269.2.2.2.2.1 bt269.2.2.2.2.2.1 bt269.2.2.2.2.2.2.1 bt269.2.2.2.2.2.2.2).bind fun bt277 => (some (bt261.1 == bt277.1 && (bt261.2.1 == bt277.2.1 && (bt261.2.2.1 == bt277.2.2.1 && (bt261.2.2.2.1 == bt277.2.2.2.1 && (bt261.2.2.2.2.1 == bt277.2.2.2.2.1 && (bt261.2.2.2.2.2.1 == bt277.2.2.2.2.2.1 && (bt261.2.2.2.2.2.2.1 == bt277.2.2.2.2.2.2.1 && (bt261.2.2.2.2.2.2.2 == bt277.2.2.2.2.2.2.2))))))))))))) else (some false))))) = some r := H
    have A6 := Aside0.mk A60
    clear A60
    replace H := Option.bind_eq_some_iff.mp H
    obtain ⟨⟨t219, t220, t221, t222, t223, t224, t225, t226, t227, t228, t229, t230, t231, t232, t233, t234⟩, A70, H⟩ := H
    replace H : ((impl_MergeAgg.f t201 t202 t203 t204 t205 t206 t207 t208 t209 t210 t211 t212 t213 t214 t215 t216).bind fun bt237 => ((spec_MergeAgg.f kj2 t201 t202 t203 t204 t205 t206 t207 t208 t209 t210 t211 t212 t213 t214 t215 t216).bind fun bt245 => (if (bt237.1 == bt245.1 && (bt237.2.1 == bt245.2.1 && (bt237.2.2.1 == bt245.2.2.1 && (bt237.2.2.2.1 == bt245.2.2.2.1 && (bt237.2.2.2.2.1 == bt245.2.2.2.2.1 && (bt237.2.2.2.2.2.1 == bt245.2.2.2.2.2.1 && (bt237.2.2.2.2.2.2.1 == bt245.2.2.2.2.2.2.1 && (bt237.2.2.2.2.2.2.2 == bt245.2.2.2.2.2.2.2)))))))) = true then ((impl_MergeAgg.f t201 t202 t203 t204 t205 t206 t207 t208 t209 t210 t211 t212 t213 t214 t215 t216).bind fun bt253 => ((impl_MergeAgg.f bt253.1 bt253.2.1 bt253.2.2.1 bt253.2.2.2.1 bt253.2.2.2.2.1 bt253.2.2.2.2.2.1 bt253.2.2.2.2.2.2.1 bt253.2.2.2.2.2.2.2 t219 t220 t221 t222 t223 t224 t225 t226).bind fun bt261 => ((impl_MergeAgg.f t209 t210 t211 t212 t213 t214 t215 t216 t219 t220 t221 t222 t223 t224 t225 t226).bind fun bt269 => ((impl_MergeAgg.f t201 t202 t203 t204 t205 t206 t207 t208 bt269.1 bt269.2.1 bt269.2.2.1 bt269.2.2.2.1 bt269.2.2.2.2.1 bt269.2.2.2.2.2.1 bt269.2.2.2.2.2.2.1 bt269.2.2.2.2.2.2.2).bind fun bt277 => (some (bt261.1 == bt277.1 && (bt261.2.1 == bt277.2.1 && (bt261.2.2.1 == bt277.2.2.1 && (bt261.2.2.2.1 == bt277.2.2.2.1 && (bt261.2.2.2.2.1 == bt277.2.2.2.2.1 && (bt261.2.2.2.2.2.1 == bt277.2.2.2.2.2.1 && (bt261.2.2.2.2.2.2.1 == bt277.2.2.2.2.2.2.1 && (bt261.2.2.2.2.2.2.2 == bt277.2.2.2.2.2.2.2))))))))))))) else (some false)))) = some r := H
    have A7 := Aside0.mk A70
    clear A70
    replace H := Option.bind_eq_some_iff.mp H
    obtain ⟨⟨t237, t238, t239, t240, t241, t242, t243, t244⟩, A80, H⟩ := H
    replace H : ((spec_MergeAgg.f kj2 t201 t202 t203 t204 t205 t206 t207 t208 t209 t210 t211 t212 t213 t214 t215 t216).bind fun bt245 => (if (t237 == bt245.1 && (t238 == bt245.2.1 && (t239 == bt245.2.2.1 && (t240 == bt245.2.2.2.1 && (t241 == bt245.2.2.2.2.1 && (t242 == bt245.2.2.2.2.2.1 && (t243 == bt245.2.2.2.2.2.2.1 && (t244 == bt245.2.2.2.2.2.2.2)))))))) = true then ((impl_MergeAgg.f t201 t202 t203 t204 t205 t206 t207 t208 t209 t210 t211 t212 t213 t214 t215 t216).bind fun bt253 => ((impl_MergeAgg.f bt253.1 bt253.2.1 bt253.2.2.1 bt253.2.2.2.1 bt253.2.2.2.2.1 bt253.2.2.2.2.2.1 bt253.2.2.2.2.2.2.1 bt253.2.2.2.2.2.2.2 t219 t220 t221 t222 t223 t224 t225 t226).bind fun bt261 => ((impl_MergeAgg.f t209 t210 t211 t212 t213 t214 t215 t216 t219 t220 t221 t222 t223 t224 t225 t226).bind fun bt269 => ((impl_MergeAgg.f t201 t202 t203 t204 t205 t206 t207 t208 bt269.1 bt269.2.1 bt269.2.2.1 bt269.2.2.2.1 bt269.2.2.2.2.1 bt269.2.2.2.2.2.1 bt269.2.2.2.2.2.2.1 bt269.2.2.2.2.2.2.2).bind fun bt277 => (some (bt261.1 == bt277.1 && (bt261.2.1 == bt277.2.1 && (bt261.2.2.1 == bt277.2.2.1 && (bt261.2.2.2.1 == bt277.2.2.2.1 && (bt261.2.2.2.2.1 == bt277.2.2.2.2.1 && (bt261.2.2.2.2.2.1 == bt277.2.2.2.2.2.1 && (bt261.2.2.2.2.2.2.1 == bt277.2.2.2.2.2.2.1 && (bt261.2.2.2.2.2.2.2 == bt277.2.2.2.2.2.2.2))))))))))))) else (some false))) = some r := H
    have A8 := Aside0.mk A80
    clear A80
    replace H := Option.bind_eq_some_iff.mp H
    obtain ⟨⟨t245, t246, t247, t248, t249, t250, t251, t252⟩, A90, H⟩ := H
    replace H : (if (t237 == t245 && (t238 == t246 && (t239 == t247 && (t240 == t248 && (t241 == t249 && (t242 == t250 && (t243 == t251 && (t244 == t252)))))))) = true then ((impl_MergeAgg.f t201 t202 t203 t204 t205 t206 t207 t208 t209 t210 t211 t212 t213 t214 t215 t216).bind fun bt253 => ((impl_MergeAgg.f bt253.1 bt253.2.1 bt253.2.2.1 bt253.2.2.2.1 bt253.2.2.2.2.1 bt253.2.2.2.2.2.1 bt253.2.2.2.2.2.2.1 bt253.2.2.2.2.2.2.2 t219 t220 t221 t222 t223 t224 t225 t226).bind fun bt261 => ((impl_MergeAgg.f t209 t210 t211 t212 t213 t214 t215 t216 t219 t220 t221 t222 t223 t224 t225 t226).bind fun bt269 => ((impl_MergeAgg.f t201 t202 t203 t204 t205 t206 t207 t208 bt269.1 bt269.2.1 bt269.2.2.1 bt269.2.2.2.1 bt269.2.2.2.2.1 bt269.2.2.2.2.2.1 bt269.2.2.2.2.2.2.1 bt269.2.2.2.2.2.2.2).bind fun bt277 => (some (bt261.1 == bt277.1 && (bt261.2.1 == bt277.2.1 && (bt261.2.2.1 == bt277.2.2.1 && (bt261.2.2.2.1 == bt277.2.2.2.1 && (bt261.2.2.2.2.1 == bt277.2.2.2.2.1 && (bt261.2.2.2.2.2.1 == bt277.2.2.2.2.2.1 && (bt261.2.2.2.2.2.2.1 == bt277.2.2.2.2.2.2.1 && (bt261.2.2.2.2.2.2.2 == bt277.2.2.2.2.2.2.2))))))))))))) else (some false)) = some r := H
    have A9 := Aside0.mk A90
    clear A90
    by_cases c10 : (t237 == t245 && (t238 == t246 && (t239 == t247 && (t240 == t248 && (t241 == t249 && (t242 == t250 && (t243 == t251 && (t244 == t252)))))))) = true
    ·rw [if_pos c10] at H
     have c10b0 : (t237 == t245 && (t238 == t246 && (t239 == t247 && (t240 == t248 && (t241 == t249 && (t242 == t250 && (t243 == t251 && (t244 == t252)))))))) = true := c10
     (try (have c10b1 : decide (t237 = t245 && (t238 == t246 && (t239 == t247 && (t240 == t248 && (t241 == t249 && (t242 == t250 && (t243 == t251 && (t244 == t252)))))))) = true := by simpa using c10))
     (try (have c10b2 : (t237 == t245 && (t238 == t246 && (t239 == t247 && (t240 == t248 && (t241 == t249 && (t242 == t250 && (t243 == t251 && (t244 == t252)))))))) = true := by simpa using c10))
     clear c10
     replace H := Option.bind_eq_some_iff.mp H
     obtain ⟨⟨t253, t254, t255, t256, t257, t258, t259, t260⟩, A110, H⟩ := H
     replace H : ((impl_MergeAgg.f t253 t254 t255 t256 t257 t258 t259 t260 t219 t220 t221 t222 t223 t224 t225 t226).bind fun bt261 => ((impl_MergeAgg.f t209 t210 t211 t212 t213 t214 t215 t216 t219 t220 t221 t222 t223 t224 t225 t226).bind fun bt269 => ((impl_MergeAgg.f t201 t202 t203 t204 t205 t206 t207 t208 bt269.1 bt269.2.1 bt269.2.2.1 bt269.2.2.2.1 bt269.2.2.2.2.1 bt269.2.2.2.2.2.1 bt269.2.2.2.2.2.2.1 bt269.2.2.2.2.2.2.2).bind fun bt277 => (some (bt261.1 == bt277.1 && (bt261.2.1 == bt277.2.1 && (bt261.2.2.1 == bt277.2.2.1 && (bt261.2.2.2.1 == bt277.2.2.2.1 && (bt261.2.2.2.2.1 == bt277.2.2.2.2.1 && (bt261.2.2.2.2.2.1 == bt277.2.2.2.2.2.1 && (bt261.2.2.2.2.2.2.1 == bt277.2.2.2.2.2.2.1 && (bt261.2.2.2.2.2.2.2 == bt277.2.2.2.2.2.2.2)))))))))))) = some r := H
     have A11 := Aside0.mk A110
     clear A110
     replace H := Option.bind_eq_some_iff.mp H
     obtain ⟨⟨t261, t262, t263, t264, t265, t266, t267, t268⟩, A120, H⟩ := H
     replace H : ((impl_MergeAgg.f t209 t210 t211 t212 t213 t214 t215 t216 t219 t220 t221 t222 t223 t224 t225 t226).bind fun bt269 => ((impl_MergeAgg.f t201 t202 t203 t204 t205 t206 t207 t208 bt269.1 bt269.2.1 bt269.2.2.1 bt269.2.2.2.1 bt269.2.2.2.2.1 bt269.2.2.2.2.2.1 bt269.2.2.2.2.2.2.1 bt269.2.2.2.2.2.2.2).bind fun bt277 => (some (t261 == bt277.1 && (t262 == bt277.2.1 && (t263 == bt277.2.2.1 && (t264 == bt277.2.2.2.1 && (t265 == bt277.2.2.2.2.1 && (t266 == bt277.2.2.2.2.2.1 && (t267 == bt277.2.2.2.2.2.2.1 && (t268 == bt277.2.2.2.2.2.2.2))))))))))) = some r := H
     have A12 := Aside0.mk A120
     clear A120
     replace H := Option.bind_eq_some_iff.mp H
     obtain ⟨⟨t269, t270, t271, t272, t273, t274, t275, t276⟩, A130, H⟩ := H
     replace H : ((impl_MergeAgg.f t201 t202 t203 t204 t205 t206 t207 t208 t269 t270 t271 t272 t273 t274 t275 t276).bind fun bt277 => (some (t261 == bt277.1 && (t262 == bt277.2.1 && (t263 == bt277.2.2.1 && (t264 == bt277.2.2.2.1 && (t265 == bt277.2.2.2.2.1 && (t266 == bt277.2.2.2.2.2.1 && (t267 == bt277.2.2.2.2.2.2.1 && (t268 == bt277.2.2.2.2.2.2.2)))))))))) = some r := H
     have A13 := Aside0.mk A130
     clear A130
     replace H := Option.bind_eq_some_iff.mp H
     obtain ⟨⟨t277, t278, t279, t280, t281, t282, t283, t284⟩, A140, H⟩ := H
     replace H : (some (t261 == t277 && (t262 == t278 && (t263 == t279 && (t264 == t280 && (t265 == t281 && (t266 == t282 && (t267 == t283 && (t268 == t284))))))))) = some r := H
     have A14 := Aside0.mk A140
     clear A140
     obtain rfl := Option.some.inj H
     try go_wp2_with (first | ((with_reducible refine gate_callee (f := 9) rfl ?_); refine goesL_ (some 19) rfl rfl Try.func9 (by kernel_rfl) rfl #[.slice A0 l0.length c0] rfl (by (try simp only [List.map_toArray, List.map_cons, List.map_nil]); first | done | rfl | (simp only [List.length_drop, List.length_take]; rfl)) ?_; (with_reducible refine (spec_DrawMergeAgg.calls kj2 _ _ l0 t201 t202 t203 t204 t205 t206 t207 t208 t209 t210 t211 t212 t213 t214 t215 t216 _ ?side1 ?side2 A6.out).mono ?_); (case side1 => repeat (first | exact (Kd.C_below HR0.out HB.out) | (with_reducible refine zJ ?_ _) | (with_reducible refine zK ?_ _) | (with_reducible refine zL ?_))); (case side2 => exact HC0.out); rintro e w15 ⟨rfl, hb⟩; refine ⟨_, rfl, ?_⟩; have n0_ := Aside0.mk (below_step (by repeat (first | (with_reducible first | exact HB.out | apply zA | apply zB | apply zC) | exact HB.out)) hb); clear HB; have HB := n0_; clear n0_; (try clear hb); (try clear hb2); (try clear hk); (try clear hi)) | ((with_reducible refine gate_dst (N := 5) rfl ?_); (try (refine gate_guard (by rfl) ?_; dsimp only)); refine box_event ?hg (N := 5) ?hd (cs := #[.int .i64 0, .int .i64 0, .int .i64 0, .int .i64 0, .int .i64 0, .int .i64 0, .int .i64 0, .int .i64 0]) (t := 24) ?hr ?_; (case hd => rfl); (case hg => rfl); (case hr => first | (go_simp; done) | (go_simp; rfl)); intro gb217 hg w16 hbox hb; have n0_ := Aside0.mk (below_step (by repeat (first | (with_reducible first | exact HB.out | apply zA | apply zB | apply zC) | exact HB.out)) hb); have n1_ := Aside0.mk (hbox); have n2_ := Aside0.mk ((by rw [hg]; exact (zW (by repeat (first | (with_reducible first | exact HB.out | apply zA | apply zB | apply zC) | exact HB.out))) : w.heap.size ≤ gb217)); have n3_ := Aside0.mk ((by rw [hg]; exact (zW (by repeat (first | (with_reducible first | exact HB.out | apply zA | apply zB | apply zC) | exact HB.out))) : w.heap.size ≤ gb217)); clear HB; have HB := n0_; have BK217 := n1_; have GW217 := n2_; have GE217 := n3_; clear n0_ n1_ n2_ n3_; clear hb hbox hg) | ((with_reducible refine gate_dst (N := 6) rfl ?_); (try (refine gate_guard (by rfl) ?_; dsimp only)); refine box_event ?hg (N := 6) ?hd (cs := #[.int .i64 0, .int .i64 0, .int .i64 0, .int .i64 0, .int .i64 0, .int .i64 0, .int .i64 0, .int .i64 0]) (t := 24) ?hr ?_; (case hd => rfl); (case hg => rfl); (case hr => first | (go_simp; done) | (go_simp; rfl)); intro gb218 hg w17 hbox hb; have n0_ := Aside0.mk (blk_below (g := gb217) (o := cs8 24 0 0 0 0 0 0 0 0) (by (with_reducible repeat (first | refine zE ?_ _ | refine zF ?_ | refine zD ?_ _)); exact BK217.out) hb); have n1_ := Aside0.mk (below_step (by repeat (first | (with_reducible first | exact HB.out | apply zA | apply zB | apply zC | refine below_set ?_ GE217.out) | exact HB.out)) hb); have n2_ := Aside0.mk (hbox); have n3_ := Aside0.mk ((by rw [hg]; exact (zW (by repeat (first | (with_reducible first | exact HB.out | apply zA | apply zB | apply zC | refine below_set ?_ GE217.out) | exact HB.out))) : w.heap.size ≤ gb218)); have n4_ := Aside0.mk ((by rw [hg]; exact (zW (by repeat (first | (with_reducible first | exact HB.out | apply zA | apply zB | apply zC | refine below_set ?_ GE217.out) | exact HB.out))) : w.heap.size ≤ gb218)); have n5_ := Aside0.mk ((by rw [hg]; exact Nat.ne_of_lt (blk_lt (g := gb217) (o := cs8 24 0 0 0 0 0 0 0 0) (by (with_reducible repeat (first | refine zE ?_ _ | refine zF ?_ | refine zD ?_ _)); exact BK217.out)) : gb217 ≠ gb218)); have n6_ := Aside0.mk ((by rw [hg]; exact Nat.ne_of_gt (blk_lt (g := gb217) (o := cs8 24 0 0 0 0 0 0 0 0) (by (with_reducible repeat (first | refine zE ?_ _ | refine zF ?_ | refine zD ?_ _)); exact BK217.out)) : gb218 ≠ gb217)); clear BK217; clear HB; have BK217 := n0_; have HB := n1_; have BK218 := n2_; have GW218 := n3_; have GE218 := n4_; have NB217_218 := n5_; have NB218_217 := n6_; clear n0_ n1_ n2_ n3_ n4_ n5_ n6_; clear hb hbox hg; have hnb18 := NB217_218.out; have hnc18 := NB218_217.out; have hcz19_0 : w17.cell? ⟨gb217, 0, none⟩ = some (.int .i64 0) := (zQ BK217.out 0).trans rfl; have hcz19_1 : w17.cell? ⟨gb217, 1, none⟩ = some (.int .i64 0) := (zQ BK217.out 1).trans rfl; have hcz19_2 : w17.cell? ⟨gb217, 2, none⟩ = some (.int .i64 0) := (zQ BK217.out 2).trans rfl; have hcz19_3 : w17.cell? ⟨gb217, 3, none⟩ = some (.int .i64 0) := (zQ BK217.out 3).trans rfl; have hcz19_4 : w17.cell? ⟨gb217, 4, none⟩ = some (.int .i64 0) := (zQ BK217.out 4).trans rfl; have hcz19_5 : w17.cell? ⟨gb217, 5, none⟩ = some (.int .i64 0) := (zQ BK217.out 5).trans rfl; have hcz19_6 : w17.cell? ⟨gb217, 6, none⟩ = some (.int .i64 0) := (zQ BK217.out 6).trans rfl; have hcz19_7 : w17.cell? ⟨gb217, 7, none⟩ = some (.int .i64 0) := (zQ BK217.out 7).trans rfl; have hfz19_0 := blk_frozen BK217.out 0; have hfz19_1 := blk_frozen BK217.out 1; have hfz19_2 := blk_frozen BK217.out 2; have hfz19_3 := blk_frozen BK217.out 3; have hfz19_4 := blk_frozen BK217.out 4; have hfz19_5 := blk_frozen BK217.out 5; have hfz19_6 := blk_frozen BK217.out 6; have hfz19_7 := blk_frozen BK217.out 7; have hcz20_0 : w17.cell? ⟨gb218, 0, none⟩ = some (.int .i64 0) := (zQ BK218.out 0).trans rfl; have hcz20_1 : w17.cell? ⟨gb218, 1, none⟩ = some (.int .i64 0) := (zQ BK218.out 1).trans rfl; have hcz20_2 : w17.cell? ⟨gb218, 2, none⟩ = some (.int .i64 0) := (zQ BK218.out 2).trans rfl; have hcz20_3 : w17.cell? ⟨gb218, 3, none⟩ = some (.int .i64 0) := (zQ BK218.out 3).trans rfl; have hcz20_4 : w17.cell? ⟨gb218, 4, none⟩ = some (.int .i64 0) := (zQ BK218.out 4).trans rfl; have hcz20_5 : w17.cell? ⟨gb218, 5, none⟩ = some (.int .i64 0) := (zQ BK218.out 5).trans rfl; have hcz20_6 : w17.cell? ⟨gb218, 6, none⟩ = some (.int .i64 0) := (zQ BK218.out 6).trans rfl; have hcz20_7 : w17.cell? ⟨gb218, 7, none⟩ = some (.int .i64 0) := (zQ BK218.out 7).trans rfl; have hfz20_0 := blk_frozen BK218.out 0; have hfz20_1 := blk_frozen BK218.out 1; have hfz20_2 := blk_frozen BK218.out 2; have hfz20_3 := blk_frozen BK218.out 3; have hfz20_4 := blk_frozen BK218.out 4; have hfz20_5 := blk_frozen BK218.out 5; have hfz20_6 := blk_frozen BK218.out 6; have hfz20_7 := blk_frozen BK218.out 7) | ((with_reducible refine gate_callee (f := 9) rfl ?_); refine goesL_ (some 24) rfl rfl Try.func9 (by kernel_rfl) rfl #[.slice A1 l1.length c1] rfl (by (try simp only [List.map_toArray, List.map_cons, List.map_nil]); first | done | rfl | (simp only [List.length_drop, List.length_take]; rfl)) ?_; (with_reducible refine (spec_DrawMergeAgg.calls kj2 _ _ l1 t219 t220 t221 t222 t223 t224 t225 t226 t227 t228 t229 t230 t231 t232 t233 t234 _ ?side1 ?side2 A7.out).mono ?_); (case side1 => exact Kd.C_below HR1.out (by repeat (first | (with_reducible first | exact HB.out | apply zA | apply zB | apply zC | refine below_set ?_ GE217.out | refine below_set ?_ GE218.out) | exact HB.out))); (case side2 => exact HC1.out); rintro e w21 ⟨rfl, hb⟩; refine ⟨_, rfl, ?_⟩; have n0_ := Aside0.mk (blk_below (g := gb217) (o := cs8 24 t201 t202 t203 t204 t205 t206 t207 t208) (by (with_reducible repeat (first | refine zE ?_ _ | refine zF ?_ | refine zD ?_ _)); refine blk_far ?_ NB217_218.out _; (with_reducible repeat (first | refine zE ?_ _ | refine zF ?_ | refine zD ?_ _)); refine blk_far ?_ NB217_218.out _; (with_reducible repeat (first | refine zE ?_ _ | refine zF ?_ | refine zD ?_ _)); refine blk_far ?_ NB217_218.out _; (with_reducible repeat (first | refine zE ?_ _ | refine zF ?_ | refine zD ?_ _)); refine blk_far ?_ NB217_218.out _; (with_reducible repeat (first | refine zE ?_ _ | refine zF ?_ | refine zD ?_ _)); refine blk_far ?_ NB217_218.out _; (with_reducible repeat (first | refine zE ?_ _ | refine zF ?_ | refine zD ?_ _)); refine blk_far ?_ NB217_218.out _; (with_reducible repeat (first | refine zE ?_ _ | refine zF ?_ | refine zD ?_ _)); refine blk_far ?_ NB217_218.out _; (with_reducible repeat (first | refine zE ?_ _ | refine zF ?_ | refine zD ?_ _)); refine blk_far ?_ NB217_218.out _; (with_reducible repeat (first | refine zE ?_ _ | refine zF ?_ | refine zD ?_ _)); refine blk_put (cs := #[.int .i64 t201, .int .i64 t202, .int .i64 t203, .int .i64 t204, .int .i64 t205, .int .i64 t206, .int .i64 t207, .int .i64 0]) ?_ 7 _ rfl; (with_reducible repeat (first | refine zE ?_ _ | refine zF ?_ | refine zD ?_ _)); refine blk_put (cs := #[.int .i64 t201, .int .i64 t202, .int .i64 t203, .int .i64 t204, .int .i64 t205, .int .i64 t206, .int .i64 0, .int .i64 0]) ?_ 6 _ rfl; (with_reducible repeat (first | refine zE ?_ _ | refine zF ?_ | refine zD ?_ _)); refine blk_put (cs := #[.int .i64 t201, .int .i64 t202, .int .i64 t203, .int .i64 t204, .int .i64 t205, .int .i64 0, .int .i64 0, .int .i64 0]) ?_ 5 _ rfl; (with_reducible repeat (first | refine zE ?_ _ | refine zF ?_ | refine zD ?_ _)); refine blk_put (cs := #[.int .i64 t201, .int .i64 t202, .int .i64 t203, .int .i64 t204, .int .i64 0, .int .i64 0, .int .i64 0, .int .i64 0]) ?_ 4 _ rfl; (with_reducible repeat (first | refine zE ?_ _ | refine zF ?_ | refine zD ?_ _)); refine blk_put (cs := #[.int .i64 t201, .int .i64 t202, .int .i64 t203, .int .i64 0, .int .i64 0, .int .i64 0, .int .i64 0, .int .i64 0]) ?_ 3 _ rfl; (with_reducible repeat (first | refine zE ?_ _ | refine zF ?_ | refine zD ?_ _)); refine blk_put (cs := #[.int .i64 t201, .int .i64 t202, .int .i64 0, .int .i64 0, .int .i64 0, .int .i64 0, .int .i64 0, .int .i64 0]) ?_ 2 _ rfl; (with_reducible repeat (first | refine zE ?_ _ | refine zF ?_ | refine zD ?_ _)); refine blk_put (cs := #[.int .i64 t201, .int .i64 0, .int .i64 0, .int .i64 0, .int .i64 0, .int .i64 0, .int .i64 0, .int .i64 0]) ?_ 1 _ rfl; (with_reducible repeat (first | refine zE ?_ _ | refine zF ?_ | refine zD ?_ _)); refine blk_put (cs := #[.int .i64 0, .int .i64 0, .int .i64 0, .int .i64 0, .int .i64 0, .int .i64 0, .int .i64 0, .int .i64 0]) ?_ 0 _ rfl; (with_reducible repeat (first | refine zE ?_ _ | refine zF ?_ | refine zD ?_ _)); exact BK217.out) hb); have n1_ := Aside0.mk (blk_below (g := gb218) (o := cs8 24 t209 t210 t211 t212 t213 t214 t215 t216) (by (with_reducible repeat (first | refine zE ?_ _ | refine zF ?_ | refine zD ?_ _)); refine blk_put (cs := #[.int .i64 t209, .int .i64 t210, .int .i64 t211, .int .i64 t212, .int .i64 t213, .int .i64 t214, .int .i64 t215, .int .i64 0]) ?_ 7 _ rfl; (with_reducible repeat (first | refine zE ?_ _ | refine zF ?_ | refine zD ?_ _)); refine blk_put (cs := #[.int .i64 t209, .int .i64 t210, .int .i64 t211, .int .i64 t212, .int .i64 t213, .int .i64 t214, .int .i64 0, .int .i64 0]) ?_ 6 _ rfl; (with_reducible repeat (first | refine zE ?_ _ | refine zF ?_ | refine zD ?_ _)); refine blk_put (cs := #[.int .i64 t209, .int .i64 t210, .int .i64 t211, .int .i64 t212, .int .i64 t213, .int .i64 0, .int .i64 0, .int .i64 0]) ?_ 5 _ rfl; (with_reducible repeat (first | refine zE ?_ _ | refine zF ?_ | refine zD ?_ _)); refine blk_put (cs := #[.int .i64 t209, .int .i64 t210, .int .i64 t211, .int .i64 t212, .int .i64 0, .int .i64 0, .int .i64 0, .int .i64 0]) ?_ 4 _ rfl; (with_reducible repeat (first | refine zE ?_ _ | refine zF ?_ | refine zD ?_ _)); refine blk_put (cs := #[.int .i64 t209, .int .i64 t210, .int .i64 t211, .int .i64 0, .int .i64 0, .int .i64 0, .int .i64 0, .int .i64 0]) ?_ 3 _ rfl; (with_reducible repeat (first | refine zE ?_ _ | refine zF ?_ | refine zD ?_ _)); refine blk_put (cs := #[.int .i64 t209, .int .i64 t210, .int .i64 0, .int .i64 0, .int .i64 0, .int .i64 0, .int .i64 0, .int .i64 0]) ?_ 2 _ rfl; (with_reducible repeat (first | refine zE ?_ _ | refine zF ?_ | refine zD ?_ _)); refine blk_put (cs := #[.int .i64 t209, .int .i64 0, .int .i64 0, .int .i64 0, .int .i64 0, .int .i64 0, .int .i64 0, .int .i64 0]) ?_ 1 _ rfl; (with_reducible repeat (first | refine zE ?_ _ | refine zF ?_ | refine zD ?_ _)); refine blk_put (cs := #[.int .i64 0, .int .i64 0, .int .i64 0, .int .i64 0, .int .i64 0, .int .i64 0, .int .i64 0, .int .i64 0]) ?_ 0 _ rfl; (with_reducible repeat (first | refine zE ?_ _ | refine zF ?_ | refine zD ?_ _)); refine blk_far ?_ NB218_217.out _; (with_reducible repeat (first | refine zE ?_ _ | refine zF ?_ | refine zD ?_ _)); refine blk_far ?_ NB218_217.out _; (with_reducible repeat (first | refine zE ?_ _ | refine zF ?_ | refine zD ?_ _)); refine blk_far ?_ NB218_217.out _; (with_reducible repeat (first | refine zE ?_ _ | refine zF ?_ | refine zD ?_ _)); refine blk_far ?_ NB218_217.out _; (with_reducible repeat (first | refine zE ?_ _ | refine zF ?_ | refine zD ?_ _)); refine blk_far ?_ NB218_217.out _; (with_reducible repeat (first | refine zE ?_ _ | refine zF ?_ | refine zD ?_ _)); refine blk_far ?_ NB218_217.out _; (with_reducible repeat (first | refine zE ?_ _ | refine zF ?_ | refine zD ?_ _)); refine blk_far ?_ NB218_217.out _; (with_reducible repeat (first | refine zE ?_ _ | refine zF ?_ | refine zD ?_ _)); refine blk_far ?_ NB218_217.out _; (with_reducible repeat (first | refine zE ?_ _ | refine zF ?_ | refine zD ?_ _)); exact BK218.out) hb); have n2_ := Aside0.mk (below_step (by repeat (first | (with_reducible first | exact HB.out | apply zA | apply zB | apply zC | refine below_set ?_ GE217.out | refine below_set ?_ GE218.out) | exact HB.out)) hb); clear BK217; clear BK218; clear HB; have BK217 := n0_; have BK218 := n1_; have HB := n2_; clear n0_ n1_ n2_; (try clear hb); (try clear hb2); (try clear hk); (try clear hi)) | ((with_reducible refine gate_dst (N := 7) rfl ?_); (try (refine gate_guard (by rfl) ?_; dsimp only)); refine box_event ?hg (N := 7) ?hd (cs := #[.int .i64 0, .int .i64 0, .int .i64 0, .int .i64 0, .int .i64 0, .int .i64 0, .int .i64 0, .int .i64 0]) (t := 24) ?hr ?_; (case hd => rfl); (case hg => rfl); (case hr => first | (go_simp; done) | (go_simp; rfl)); intro gb235 hg w22 hbox hb; have n0_ := Aside0.mk (blk_below (g := gb217) (o := cs8 24 t201 t202 t203 t204 t205 t206 t207 t208) (by (with_reducible repeat (first | refine zE ?_ _ | refine zF ?_ | refine zD ?_ _)); exact BK217.out) hb); have n1_ := Aside0.mk (blk_below (g := gb218) (o := cs8 24 t209 t210 t211 t212 t213 t214 t215 t216) (by (with_reducible repeat (first | refine zE ?_ _ | refine zF ?_ | refine zD ?_ _)); exact BK218.out) hb); have n2_ := Aside0.mk (below_step (by repeat (first | (with_reducible first | exact HB.out | apply zA | apply zB | apply zC | refine below_set ?_ GE217.out | refine below_set ?_ GE218.out) | exact HB.out)) hb); have n3_ := Aside0.mk (hbox); have n4_ := Aside0.mk ((by rw [hg]; exact (zW (by repeat (first | (with_reducible first | exact HB.out | apply zA | apply zB | apply zC | refine below_set ?_ GE217.out | refine below_set ?_ GE218.out) | exact HB.out))) : w.heap.size ≤ gb235)); have n5_ := Aside0.mk ((by rw [hg]; exact (zW (by repeat (first | (with_reducible first | exact HB.out | apply zA | apply zB | apply zC | refine below_set ?_ GE217.out | refine below_set ?_ GE218.out) | exact HB.out))) : w.heap.size ≤ gb235)); have n6_ := Aside0.mk ((by rw [hg]; exact Nat.ne_of_lt (blk_lt (g := gb217) (o := cs8 24 t201 t202 t203 t204 t205 t206 t207 t208) (by (with_reducible repeat (first | refine zE ?_ _ | refine zF ?_ | refine zD ?_ _)); exact BK217.out)) : gb217 ≠ gb235)); have n7_ := Aside0.mk ((by rw [hg]; exact Nat.ne_of_gt (blk_lt (g := gb217) (o := cs8 24 t201 t202 t203 t204 t205 t206 t207 t208) (by (with_reducible repeat (first | refine zE ?_ _ | refine zF ?_ | refine zD ?_ _)); exact BK217.out)) : gb235 ≠ gb217)); have n8_ := Aside0.mk ((by rw [hg]; exact Nat.ne_of_lt (blk_lt (g := gb218) (o := cs8 24 t209 t210 t211 t212 t213 t214 t215 t216) (by (with_reducible repeat (first | refine zE ?_ _ | refine zF ?_ | refine zD ?_ _)); exact BK218.out)) : gb218 ≠ gb235)); have n9_ := Aside0.mk ((by rw [hg]; exact Nat.ne_of_gt (blk_lt (g := gb218) (o := cs8 24 t209 t210 t211 t212 t213 t214 t215 t216) (by (with_reducible repeat (first | refine zE ?_ _ | refine zF ?_ | refine zD ?_ _)); exact BK218.out)) : gb235 ≠ gb218)); clear BK217; clear BK218; clear HB; have BK217 := n0_; have BK218 := n1_; have HB := n2_; have BK235 := n3_; have GW235 := n4_; have GE235 := n5_; have NB217_235 := n6_; have NB235_217 := n7_; have NB218_235 := n8_; have NB235_218 := n9_; clear n0_ n1_ n2_ n3_ n4_ n5_ n6_ n7_ n8_ n9_; clear hb hbox hg) | ((with_reducible refine gate_dst (N := 8) rfl ?_); (try (refine gate_guard (by rfl) ?_; dsimp only)); refine box_event ?hg (N := 8) ?hd (cs := #[.int .i64 0, .int .i64 0, .int .i64 0, .int .i64 0, .int .i64 0, .int .i64 0, .int .i64 0, .int .i64 0]) (t := 24) ?hr ?_; (case hd => rfl); (case hg => rfl); (case hr => first | (go_simp; done) | (go_simp; rfl)); intro gb236 hg w23 hbox hb; have n0_ := Aside0.mk (blk_below (g := gb217) (o := cs8 24 t201 t202 t203 t204 t205 t206 t207 t208) (by (with_reducible repeat (first | refine zE ?_ _ | refine zF ?_ | refine zD ?_ _)); exact BK217.out) hb); have n1_ := Aside0.mk (blk_below (g := gb218) (o := cs8 24 t209 t210 t211 t212 t213 t214 t215 t216) (by (with_reducible repeat (first | refine zE ?_ _ | refine zF ?_ | refine zD ?_ _)); exact BK218.out) hb); have n2_ := Aside0.mk (blk_below (g := gb235) (o := cs8 24 0 0 0 0 0 0 0 0) (by (with_reducible repeat (first | refine zE ?_ _ | refine zF ?_ | refine zD ?_ _)); exact BK235.out) hb); have n3_ := Aside0.mk (below_step (by repeat (first | (with_reducible first | exact HB.out | apply zA | apply zB | apply zC | refine below_set ?_ GE217.out | refine below_set ?_ GE218.out | refine below_set ?_ GE235.out) | exact HB.out)) hb); have n4_ := Aside0.mk (hbox); have n5_ := Aside0.mk ((by rw [hg]; exact (zW (by repeat (first | (with_reducible first | exact HB.out | apply zA | apply zB | apply zC | refine below_set ?_ GE217.out | refine below_set ?_ GE218.out | refine below_set ?_ GE235.out) | exact HB.out))) : w.heap.size ≤ gb236)); have n6_ := Aside0.mk ((by rw [hg]; exact (zW (by repeat (first | (with_reducible first | exact HB.out | apply zA | apply zB | apply zC | refine below_set ?_ GE217.out | refine below_set ?_ GE218.out | refine below_set ?_ GE235.out) | exact HB.out))) : w.heap.size ≤ gb236)); have n7_ := Aside0.mk ((by rw [hg]; exact Nat.ne_of_lt (blk_lt (g := gb217) (o := cs8 24 t201 t202 t203 t204 t205 t206 t207 t208) (by (with_reducible repeat (first | refine zE ?_ _ | refine zF ?_ | refine zD ?_ _)); exact BK217.out)) : gb217 ≠ gb236)); have n8_ := Aside0.mk ((by rw [hg]; exact Nat.ne_of_gt (blk_lt (g := gb217) (o := cs8 24 t201 t202 t203 t204 t205 t206 t207 t208) (by (with_reducible repeat (first | refine zE ?_ _ | refine zF ?_ | refine zD ?_ _)); exact BK217.out)) : gb236 ≠ gb217)); have n9_ := Aside0.mk ((by rw [hg]; exact Nat.ne_of_lt (blk_lt (g := gb218) (o := cs8 24 t209 t210 t211 t212 t213 t214 t215 t216) (by (with_reducible repeat (first | refine zE ?_ _ | refine zF ?_ | refine zD ?_ _)); exact BK218.out)) : gb218 ≠ gb236)); have n10_ := Aside0.mk ((by rw [hg]; exact Nat.ne_of_gt (blk_lt (g := gb218) (o := cs8 24 t209 t210 t211 t212 t213 t214 t215 t216) (by (with_reducible repeat (first | refine zE ?_ _ | refine zF ?_ | refine zD ?_ _)); exact BK218.out)) : gb236 ≠ gb218)); have n11_ := Aside0.mk ((by rw [hg]; exact Nat.ne_of_lt (blk_lt (g := gb235) (o := cs8 24 0 0 0 0 0 0 0 0) (by (with_reducible repeat (first | refine zE ?_ _ | refine zF ?_ | refine zD ?_ _)); exact BK235.out)) : gb235 ≠ gb236)); have n12_ := Aside0.mk ((by rw [hg]; exact Nat.ne_of_gt (blk_lt (g := gb235) (o := cs8 24 0 0 0 0 0 0 0 0) (by (with_reducible repeat (first | refine zE ?_ _ | refine zF ?_ | refine zD ?_ _)); exact BK235.out)) : gb236 ≠ gb235)); clear BK217; clear BK218; clear BK235; clear HB; have BK217 := n0_; have BK218 := n1_; have BK235 := n2_; have HB := n3_; have BK236 := n4_; have GW236 := n5_; have GE236 := n6_; have NB217_236 := n7_; have NB236_217 := n8_; have NB218_236 := n9_; have NB236_218 := n10_; have NB235_236 := n11_; have NB236_235 := n12_; clear n0_ n1_ n2_ n3_ n4_ n5_ n6_ n7_ n8_ n9_ n10_ n11_ n12_; clear hb hbox hg; have hnb24 := NB235_217.out; have hnc24 := NB217_235.out; have hnb25 := NB235_218.out; have hnc25 := NB218_235.out; have hnb26 := NB235_236.out; have hnc26 := NB236_235.out; have hcz27_0 : w23.cell? ⟨gb235, 0, none⟩ = some (.int .i64 0) := (zQ BK235.out 0).trans rfl; have hcz27_1 : w23.cell? ⟨gb235, 1, none⟩ = some (.int .i64 0) := (zQ BK235.out 1).trans rfl; have hcz27_2 : w23.cell? ⟨gb235, 2, none⟩ = some (.int .i64 0) := (zQ BK235.out 2).trans rfl; have hcz27_3 : w23.cell? ⟨gb235, 3, none⟩ = some (.int .i64 0) := (zQ BK235.out 3).trans rfl; have hcz27_4 : w23.cell? ⟨gb235, 4, none⟩ = some (.int .i64 0) := (zQ BK235.out 4).trans rfl; have hcz27_5 : w23.cell? ⟨gb235, 5, none⟩ = some (.int .i64 0) := (zQ BK235.out 5).trans rfl; have hcz27_6 : w23.cell? ⟨gb235, 6, none⟩ = some (.int .i64 0) := (zQ BK235.out 6).trans rfl; have hcz27_7 : w23.cell? ⟨gb235, 7, none⟩ = some (.int .i64 0) := (zQ BK235.out 7).trans rfl; have hfz27_0 := blk_frozen BK235.out 0; have hfz27_1 := blk_frozen BK235.out 1; have hfz27_2 := blk_frozen BK235.out 2; have hfz27_3 := blk_frozen BK235.out 3; have hfz27_4 := blk_frozen BK235.out 4; have hfz27_5 := blk_frozen BK235.out 5; have hfz27_6 := blk_frozen BK235.out 6; have hfz27_7 := blk_frozen BK235.out 7; have hnb28 := NB236_217.out; have hnc28 := NB217_236.out; have hnb29 := NB236_218.out; have hnc29 := NB218_236.out; have hcz30_0 : w23.cell? ⟨gb236, 0, none⟩ = some (.int .i64 0) := (zQ BK236.out 0).trans rfl; have hcz30_1 : w23.cell? ⟨gb236, 1, none⟩ = some (.int .i64 0) := (zQ BK236.out 1).trans rfl; have hcz30_2 : w23.cell? ⟨gb236, 2, none⟩ = some (.int .i64 0) := (zQ BK236.out 2).trans rfl; have hcz30_3 : w23.cell? ⟨gb236, 3, none⟩ = some (.int .i64 0) := (zQ BK236.out 3).trans rfl; have hcz30_4 : w23.cell? ⟨gb236, 4, none⟩ = some (.int .i64 0) := (zQ BK236.out 4).trans rfl; have hcz30_5 : w23.cell? ⟨gb236, 5, none⟩ = some (.int .i64 0) := (zQ BK236.out 5).trans rfl; have hcz30_6 : w23.cell? ⟨gb236, 6, none⟩ = some (.int .i64 0) := (zQ BK236.out 6).trans rfl; have hcz30_7 : w23.cell? ⟨gb236, 7, none⟩ = some (.int .i64 0) := (zQ BK236.out 7).trans rfl; have hfz30_0 := blk_frozen BK236.out 0; have hfz30_1 := blk_frozen BK236.out 1; have hfz30_2 := blk_frozen BK236.out 2; have hfz30_3 := blk_frozen BK236.out 3; have hfz30_4 := blk_frozen BK236.out 4; have hfz30_5 := blk_frozen BK236.out 5; have hfz30_6 := blk_frozen BK236.out 6; have hfz30_7 := blk_frozen BK236.out 7))
     have n0_ : Aside0 (((((((((((((((((w23.setCell ⟨gb235, 0, none⟩ (.int .i64 t219)).setCell ⟨gb235, 1, none⟩ (.int .i64 t220)).setCell ⟨gb235, 2, none⟩ (.int .i64 t221)).setCell ⟨gb235, 3, none⟩ (.int .i64 t222)).setCell ⟨gb235, 4, none⟩ (.int .i64 t223)).setCell ⟨gb235, 5, none⟩ (.int .i64 t224)).setCell ⟨gb235, 6, none⟩ (.int .i64 t225)).setCell ⟨gb235, 7, none⟩ (.int .i64 t226)).setCell ⟨gb236, 0, none⟩ (.int .i64 t227)).setCell ⟨gb236, 1, none⟩ (.int .i64 t228)).setCell ⟨gb236, 2, none⟩ (.int .i64 t229)).setCell ⟨gb236, 3, none⟩ (.int .i64 t230)).setCell ⟨gb236, 4, none⟩ (.int .i64 t231)).setCell ⟨gb236, 5, none⟩ (.int .i64 t232)).setCell ⟨gb236, 6, none⟩ (.int .i64 t233)).setCell ⟨gb236, 7, none⟩ (.int .i64 t234)).heap[gb217]? = some (.cells #[.int .i64 t201, .int .i64 t202, .int .i64 t203, .int .i64 t204, .int .i64 t205, .int .i64 t206, .int .i64 t207, .int .i64 t208] 24 (0, 0))) := ⟨by (with_reducible repeat (first | refine zE ?_ _ | refine zF ?_ | refine zD ?_ _)); refine blk_far ?_ NB217_236.out _; (with_reducible repeat (first | refine zE ?_ _ | refine zF ?_ | refine zD ?_ _)); refine blk_far ?_ NB217_236.out _; (with_reducible repeat (first | refine zE ?_ _ | refine zF ?_ | refine zD ?_ _)); refine blk_far ?_ NB217_236.out _; (with_reducible repeat (first | refine zE ?_ _ | refine zF ?_ | refine zD ?_ _)); refine blk_far ?_ NB217_236.out _; (with_reducible repeat (first | refine zE ?_ _ | refine zF ?_ | refine zD ?_ _)); refine blk_far ?_ NB217_236.out _; (with_reducible repeat (first | refine zE ?_ _ | refine zF ?_ | refine zD ?_ _)); refine blk_far ?_ NB217_236.out _; (with_reducible repeat (first | refine zE ?_ _ | refine zF ?_ | refine zD ?_ _)); refine blk_far ?_ NB217_236.out _; (with_reducible repeat (first | refine zE ?_ _ | refine zF ?_ | refine zD ?_ _)); refine blk_far ?_ NB217_236.out _; (with_reducible repeat (first | refine zE ?_ _ | refine zF ?_ | refine zD ?_ _)); refine blk_far ?_ NB217_235.out _; (with_reducible repeat (first | refine zE ?_ _ | refine zF ?_ | refine zD ?_ _)); refine blk_far ?_ NB217_235.out _; (with_reducible repeat (first | refine zE ?_ _ | refine zF ?_ | refine zD ?_ _)); refine blk_far ?_ NB217_235.out _; (with_reducible repeat (first | refine zE ?_ _ | refine zF ?_ | refine zD ?_ _)); refine blk_far ?_ NB217_235.out _; (with_reducible repeat (first | refine zE ?_ _ | refine zF ?_ | refine zD ?_ _)); refine blk_far ?_ NB217_235.out _; (with_reducible repeat (first | refine zE ?_ _ | refine zF ?_ | refine zD ?_ _)); refine blk_far ?_ NB217_235.out _; (with_reducible repeat (first | refine zE ?_ _ | refine zF ?_ | refine zD ?_ _)); refine blk_far ?_ NB217_235.out _; (with_reducible repeat (first | refine zE ?_ _ | refine zF ?_ | refine zD ?_ _)); refine blk_far ?_ NB217_235.out _; (with_reducible repeat (first | refine zE ?_ _ | refine zF ?_ | refine zD ?_ _)); exact BK217.out⟩
     have n1_ : Aside0 (((((((((((((((((w23.setCell ⟨gb235, 0, none⟩ (.int .i64 t219)).setCell ⟨gb235, 1, none⟩ (.int .i64 t220)).setCell ⟨gb235, 2, none⟩ (.int .i64 t221)).setCell ⟨gb235, 3, none⟩ (.int .i64 t222)).setCell ⟨gb235, 4, none⟩ (.int .i64 t223)).setCell ⟨gb235, 5, none⟩ (.int .i64 t224)).setCell ⟨gb235, 6, none⟩ (.int .i64 t225)).setCell ⟨gb235, 7, none⟩ (.int .i64 t226)).setCell ⟨gb236, 0, none⟩ (.int .i64 t227)).setCell ⟨gb236, 1, none⟩ (.int .i64 t228)).setCell ⟨gb236, 2, none⟩ (.int .i64 t229)).setCell ⟨gb236, 3, none⟩ (.int .i64 t230)).setCell ⟨gb236, 4, none⟩ (.int .i64 t231)).setCell ⟨gb236, 5, none⟩ (.int .i64 t232)).setCell ⟨gb236, 6, none⟩ (.int .i64 t233)).setCell ⟨gb236, 7, none⟩ (.int .i64 t234)).heap[gb218]? = some (.cells #[.int .i64 t209, .int .i64 t210, .int .i64 t211, .int .i64 t212, .int .i64 t213, .int .i64 t214, .int .i64 t215, .int .i64 t216] 24 (0, 0))) := ⟨by (with_reducible repeat (first | refine zE ?_ _ | refine zF ?_ | refine zD ?_ _)); refine blk_far ?_ NB218_236.out _; (with_reducible repeat (first | refine zE ?_ _ | refine zF ?_ | refine zD ?_ _)); refine blk_far ?_ NB218_236.out _; (with_reducible repeat (first | refine zE ?_ _ | refine zF ?_ | refine zD ?_ _)); refine blk_far ?_ NB218_236.out _; (with_reducible repeat (first | refine zE ?_ _ | refine zF ?_ | refine zD ?_ _)); refine blk_far ?_ NB218_236.out _; (with_reducible repeat (first | refine zE ?_ _ | refine zF ?_ | refine zD ?_ _)); refine blk_far ?_ NB218_236.out _; (with_reducible repeat (first | refine zE ?_ _ | refine zF ?_ | refine zD ?_ _)); refine blk_far ?_ NB218_236.out _; (with_reducible repeat (first | refine zE ?_ _ | refine zF ?_ | refine zD ?_ _)); refine blk_far ?_ NB218_236.out _; (with_reducible repeat (first | refine zE ?_ _ | refine zF ?_ | refine zD ?_ _)); refine blk_far ?_ NB218_236.out _; (with_reducible repeat (first | refine zE ?_ _ | refine zF ?_ | refine zD ?_ _)); refine blk_far ?_ NB218_235.out _; (with_reducible repeat (first | refine zE ?_ _ | refine zF ?_ | refine zD ?_ _)); refine blk_far ?_ NB218_235.out _; (with_reducible repeat (first | refine zE ?_ _ | refine zF ?_ | refine zD ?_ _)); refine blk_far ?_ NB218_235.out _; (with_reducible repeat (first | refine zE ?_ _ | refine zF ?_ | refine zD ?_ _)); refine blk_far ?_ NB218_235.out _; (with_reducible repeat (first | refine zE ?_ _ | refine zF ?_ | refine zD ?_ _)); refine blk_far ?_ NB218_235.out _; (with_reducible repeat (first | refine zE ?_ _ | refine zF ?_ | refine zD ?_ _)); refine blk_far ?_ NB218_235.out _; (with_reducible repeat (first | refine zE ?_ _ | refine zF ?_ | refine zD ?_ _)); refine blk_far ?_ NB218_235.out _; (with_reducible repeat (first | refine zE ?_ _ | refine zF ?_ | refine zD ?_ _)); refine blk_far ?_ NB218_235.out _; (with_reducible repeat (first | refine zE ?_ _ | refine zF ?_ | refine zD ?_ _)); exact BK218.out⟩
     have n2_ : Aside0 (((((((((((((((((w23.setCell ⟨gb235, 0, none⟩ (.int .i64 t219)).setCell ⟨gb235, 1, none⟩ (.int .i64 t220)).setCell ⟨gb235, 2, none⟩ (.int .i64 t221)).setCell ⟨gb235, 3, none⟩ (.int .i64 t222)).setCell ⟨gb235, 4, none⟩ (.int .i64 t223)).setCell ⟨gb235, 5, none⟩ (.int .i64 t224)).setCell ⟨gb235, 6, none⟩ (.int .i64 t225)).setCell ⟨gb235, 7, none⟩ (.int .i64 t226)).setCell ⟨gb236, 0, none⟩ (.int .i64 t227)).setCell ⟨gb236, 1, none⟩ (.int .i64 t228)).setCell ⟨gb236, 2, none⟩ (.int .i64 t229)).setCell ⟨gb236, 3, none⟩ (.int .i64 t230)).setCell ⟨gb236, 4, none⟩ (.int .i64 t231)).setCell ⟨gb236, 5, none⟩ (.int .i64 t232)).setCell ⟨gb236, 6, none⟩ (.int .i64 t233)).setCell ⟨gb236, 7, none⟩ (.int .i64 t234)).heap[gb235]? = some (.cells #[.int .i64 t219, .int .i64 t220, .int .i64 t221, .int .i64 t222, .int .i64 t223, .int .i64 t224, .int .i64 t225, .int .i64 t226] 24 (0, 0))) := ⟨by (with_reducible repeat (first | refine zE ?_ _ | refine zF ?_ | refine zD ?_ _)); refine blk_far ?_ NB235_236.out _; (with_reducible repeat (first | refine zE ?_ _ | refine zF ?_ | refine zD ?_ _)); refine blk_far ?_ NB235_236.out _; (with_reducible repeat (first | refine zE ?_ _ | refine zF ?_ | refine zD ?_ _)); refine blk_far ?_ NB235_236.out _; (with_reducible repeat (first | refine zE ?_ _ | refine zF ?_ | refine zD ?_ _)); refine blk_far ?_ NB235_236.out _; (with_reducible repeat (first | refine zE ?_ _ | refine zF ?_ | refine zD ?_ _)); refine blk_far ?_ NB235_236.out _; (with_reducible repeat (first | refine zE ?_ _ | refine zF ?_ | refine zD ?_ _)); refine blk_far ?_ NB235_236.out _; (with_reducible repeat (first | refine zE ?_ _ | refine zF ?_ | refine zD ?_ _)); refine blk_far ?_ NB235_236.out _; (with_reducible repeat (first | refine zE ?_ _ | refine zF ?_ | refine zD ?_ _)); refine blk_far ?_ NB235_236.out _; (with_reducible repeat (first | refine zE ?_ _ | refine zF ?_ | refine zD ?_ _)); refine blk_put (cs := #[.int .i64 t219, .int .i64 t220, .int .i64 t221, .int .i64 t222, .int .i64 t223, .int .i64 t224, .int .i64 t225, .int .i64 0]) ?_ 7 _ rfl; (with_reducible repeat (first | refine zE ?_ _ | refine zF ?_ | refine zD ?_ _)); refine blk_put (cs := #[.int .i64 t219, .int .i64 t220, .int .i64 t221, .int .i64 t222, .int .i64 t223, .int .i64 t224, .int .i64 0, .int .i64 0]) ?_ 6 _ rfl; (with_reducible repeat (first | refine zE ?_ _ | refine zF ?_ | refine zD ?_ _)); refine blk_put (cs := #[.int .i64 t219, .int .i64 t220, .int .i64 t221, .int .i64 t222, .int .i64 t223, .int .i64 0, .int .i64 0, .int .i64 0]) ?_ 5 _ rfl; (with_reducible repeat (first | refine zE ?_ _ | refine zF ?_ | refine zD ?_ _)); refine blk_put (cs := #[.int .i64 t219, .int .i64 t220, .int .i64 t221, .int .i64 t222, .int .i64 0, .int .i64 0, .int .i64 0, .int .i64 0]) ?_ 4 _ rfl; (with_reducible repeat (first | refine zE ?_ _ | refine zF ?_ | refine zD ?_ _)); refine blk_put (cs := #[.int .i64 t219, .int .i64 t220, .int .i64 t221, .int .i64 0, .int .i64 0, .int .i64 0, .int .i64 0, .int .i64 0]) ?_ 3 _ rfl; (with_reducible repeat (first | refine zE ?_ _ | refine zF ?_ | refine zD ?_ _)); refine blk_put (cs := #[.int .i64 t219, .int .i64 t220, .int .i64 0, .int .i64 0, .int .i64 0, .int .i64 0, .int .i64 0, .int .i64 0]) ?_ 2 _ rfl; (with_reducible repeat (first | refine zE ?_ _ | refine zF ?_ | refine zD ?_ _)); refine blk_put (cs := #[.int .i64 t219, .int .i64 0, .int .i64 0, .int .i64 0, .int .i64 0, .int .i64 0, .int .i64 0, .int .i64 0]) ?_ 1 _ rfl; (with_reducible repeat (first | refine zE ?_ _ | refine zF ?_ | refine zD ?_ _)); refine blk_put (cs := #[.int .i64 0, .int .i64 0, .int .i64 0, .int .i64 0, .int .i64 0, .int .i64 0, .int .i64 0, .int .i64 0]) ?_ 0 _ rfl; (with_reducible repeat (first | refine zE ?_ _ | refine zF ?_ | refine zD ?_ _)); exact BK235.out⟩
     have n3_ : Aside0 (((((((((((((((((w23.setCell ⟨gb235, 0, none⟩ (.int .i64 t219)).setCell ⟨gb235, 1, none⟩ (.int .i64 t220)).setCell ⟨gb235, 2, none⟩ (.int .i64 t221)).setCell ⟨gb235, 3, none⟩ (.int .i64 t222)).setCell ⟨gb235, 4, none⟩ (.int .i64 t223)).setCell ⟨gb235, 5, none⟩ (.int .i64 t224)).setCell ⟨gb235, 6, none⟩ (.int .i64 t225)).setCell ⟨gb235, 7, none⟩ (.int .i64 t226)).setCell ⟨gb236, 0, none⟩ (.int .i64 t227)).setCell ⟨gb236, 1, none⟩ (.int .i64 t228)).setCell ⟨gb236, 2, none⟩ (.int .i64 t229)).setCell ⟨gb236, 3, none⟩ (.int .i64 t230)).setCell ⟨gb236, 4, none⟩ (.int .i64 t231)).setCell ⟨gb236, 5, none⟩ (.int .i64 t232)).setCell ⟨gb236, 6, none⟩ (.int .i64 t233)).setCell ⟨gb236, 7, none⟩ (.int .i64 t234)).heap[gb236]? = some (.cells #[.int .i64 t227, .int .i64 t228, .int .i64 t229, .int .i64 t230, .int .i64 t231, .int .i64 t232, .int .i64 t233, .int .i64 t234] 24 (0, 0))) := ⟨by (with_reducible repeat (first | refine zE ?_ _ | refine zF ?_ | refine zD ?_ _)); refine blk_put (cs := #[.int .i64 t227, .int .i64 t228, .int .i64 t229, .int .i64 t230, .int .i64 t231, .int .i64 t232, .int .i64 t233, .int .i64 0]) ?_ 7 _ rfl; (with_reducible repeat (first | refine zE ?_ _ | refine zF ?_ | refine zD ?_ _)); refine blk_put (cs := #[.int .i64 t227, .int .i64 t228, .int .i64 t229, .int .i64 t230, .int .i64 t231, .int .i64 t232, .int .i64 0, .int .i64 0]) ?_ 6 _ rfl; (with_reducible repeat (first | refine zE ?_ _ | refine zF ?_ | refine zD ?_ _)); refine blk_put (cs := #[.int .i64 t227, .int .i64 t228, .int .i64 t229, .int .i64 t230, .int .i64 t231, .int .i64 0, .int .i64 0, .int .i64 0]) ?_ 5 _ rfl; (with_reducible repeat (first | refine zE ?_ _ | refine zF ?_ | refine zD ?_ _)); refine blk_put (cs := #[.int .i64 t227, .int .i64 t228, .int .i64 t229, .int .i64 t230, .int .i64 0, .int .i64 0, .int .i64 0, .int .i64 0]) ?_ 4 _ rfl; (with_reducible repeat (first | refine zE ?_ _ | refine zF ?_ | refine zD ?_ _)); refine blk_put (cs := #[.int .i64 t227, .int .i64 t228, .int .i64 t229, .int .i64 0, .int .i64 0, .int .i64 0, .int .i64 0, .int .i64 0]) ?_ 3 _ rfl; (with_reducible repeat (first | refine zE ?_ _ | refine zF ?_ | refine zD ?_ _)); refine blk_put (cs := #[.int .i64 t227, .int .i64 t228, .int .i64 0, .int .i64 0, .int .i64 0, .int .i64 0, .int .i64 0, .int .i64 0]) ?_ 2 _ rfl; (with_reducible repeat (first | refine zE ?_ _ | refine zF ?_ | refine zD ?_ _)); refine blk_put (cs := #[.int .i64 t227, .int .i64 0, .int .i64 0, .int .i64 0, .int .i64 0, .int .i64 0, .int .i64 0, .int .i64 0]) ?_ 1 _ rfl; (with_reducible repeat (first | refine zE ?_ _ | refine zF ?_ | refine zD ?_ _)); refine blk_put (cs := #[.int .i64 0, .int .i64 0, .int .i64 0, .int .i64 0, .int .i64 0, .int .i64 0, .int .i64 0, .int .i64 0]) ?_ 0 _ rfl; (with_reducible repeat (first | refine zE ?_ _ | refine zF ?_ | refine zD ?_ _)); refine blk_far ?_ NB236_235.out _; (with_reducible repeat (first | refine zE ?_ _ | refine zF ?_ | refine zD ?_ _)); refine blk_far ?_ NB236_235.out _; (with_reducible repeat (first | refine zE ?_ _ | refine zF ?_ | refine zD ?_ _)); refine blk_far ?_ NB236_235.out _; (with_reducible repeat (first | refine zE ?_ _ | refine zF ?_ | refine zD ?_ _)); refine blk_far ?_ NB236_235.out _; (with_reducible repeat (first | refine zE ?_ _ | refine zF ?_ | refine zD ?_ _)); refine blk_far ?_ NB236_235.out _; (with_reducible repeat (first | refine zE ?_ _ | refine zF ?_ | refine zD ?_ _)); refine blk_far ?_ NB236_235.out _; (with_reducible repeat (first | refine zE ?_ _ | refine zF ?_ | refine zD ?_ _)); refine blk_far ?_ NB236_235.out _; (with_reducible repeat (first | refine zE ?_ _ | refine zF ?_ | refine zD ?_ _)); refine blk_far ?_ NB236_235.out _; (with_reducible repeat (first | refine zE ?_ _ | refine zF ?_ | refine zD ?_ _)); exact BK236.out⟩
     have n4_ : Aside0 (Below w.heap.size w ((((((((((((((((w23.setCell ⟨gb235, 0, none⟩ (.int .i64 t219)).setCell ⟨gb235, 1, none⟩ (.int .i64 t220)).setCell ⟨gb235, 2, none⟩ (.int .i64 t221)).setCell ⟨gb235, 3, none⟩ (.int .i64 t222)).setCell ⟨gb235, 4, none⟩ (.int .i64 t223)).setCell ⟨gb235, 5, none⟩ (.int .i64 t224)).setCell ⟨gb235, 6, none⟩ (.int .i64 t225)).setCell ⟨gb235, 7, none⟩ (.int .i64 t226)).setCell ⟨gb236, 0, none⟩ (.int .i64 t227)).setCell ⟨gb236, 1, none⟩ (.int .i64 t228)).setCell ⟨gb236, 2, none⟩ (.int .i64 t229)).setCell ⟨gb236, 3, none⟩ (.int .i64 t230)).setCell ⟨gb236, 4, none⟩ (.int .i64 t231)).setCell ⟨gb236, 5, none⟩ (.int .i64 t232)).setCell ⟨gb236, 6, none⟩ (.int .i64 t233)).setCell ⟨gb236, 7, none⟩ (.int .i64 t234))) := ⟨by repeat (first | (with_reducible first | exact HB.out | apply zA | apply zB | apply zC | refine below_set ?_ GE217.out | refine below_set ?_ GE218.out | refine below_set ?_ GE235.out | refine below_set ?_ GE236.out) | exact HB.out)⟩
     (try clear BK217)
     (try clear BK218)
     (try clear BK235)
     (try clear BK236)
     (try clear HB)
     generalize ((((((((((((((((w23.setCell ⟨gb235, 0, none⟩ (.int .i64 t219)).setCell ⟨gb235, 1, none⟩ (.int .i64 t220)).setCell ⟨gb235, 2, none⟩ (.int .i64 t221)).setCell ⟨gb235, 3, none⟩ (.int .i64 t222)).setCell ⟨gb235, 4, none⟩ (.int .i64 t223)).setCell ⟨gb235, 5, none⟩ (.int .i64 t224)).setCell ⟨gb235, 6, none⟩ (.int .i64 t225)).setCell ⟨gb235, 7, none⟩ (.int .i64 t226)).setCell ⟨gb236, 0, none⟩ (.int .i64 t227)).setCell ⟨gb236, 1, none⟩ (.int .i64 t228)).setCell ⟨gb236, 2, none⟩ (.int .i64 t229)).setCell ⟨gb236, 3, none⟩ (.int .i64 t230)).setCell ⟨gb236, 4, none⟩ (.int .i64 t231)).setCell ⟨gb236, 5, none⟩ (.int .i64 t232)).setCell ⟨gb236, 6, none⟩ (.int .i64 t233)).setCell ⟨gb236, 7, none⟩ (.int .i64 t234)) = w31 at n0_ n1_ n2_ n3_ n4_ ⊢
     have BK217 := n0_
     have BK218 := n1_
     have BK235 := n2_
     have BK236 := n3_
     have HB := n4_
     clear n0_ n1_ n2_ n3_ n4_
     have n0_ := Aside0.mk (zF BK217.out)
     have n1_ := Aside0.mk (zF BK218.out)
     have n2_ := Aside0.mk (zF BK235.out)
     have n3_ := Aside0.mk (zF BK236.out)
     have n4_ := Aside0.mk (zC HB.out)
     clear BK217
     clear BK218
     clear BK235
     clear BK236
     clear HB
     have BK217 := n0_
     have BK218 := n1_
     have BK235 := n2_
     have BK236 := n3_
     have HB := n4_
     clear n0_ n1_ n2_ n3_ n4_
     refine start_ (n := 21) (S := fun w' => w'.cell? ⟨gb217, 0, none⟩ = some (.int .i64 t201) ∧ w'.cell? ⟨gb217, 1, none⟩ = some (.int .i64 t202) ∧ w'.cell? ⟨gb217, 2, none⟩ = some (.int .i64 t203) ∧ w'.cell? ⟨gb217, 3, none⟩ = some (.int .i64 t204) ∧ w'.cell? ⟨gb217, 4, none⟩ = some (.int .i64 t205) ∧ w'.cell? ⟨gb217, 5, none⟩ = some (.int .i64 t206) ∧ w'.cell? ⟨gb217, 6, none⟩ = some (.int .i64 t207) ∧ w'.cell? ⟨gb217, 7, none⟩ = some (.int .i64 t208) ∧ w'.cell? ⟨gb218, 0, none⟩ = some (.int .i64 t209) ∧ w'.cell? ⟨gb218, 1, none⟩ = some (.int .i64 t210) ∧ w'.cell? ⟨gb218, 2, none⟩ = some (.int .i64 t211) ∧ w'.cell? ⟨gb218, 3, none⟩ = some (.int .i64 t212) ∧ w'.cell? ⟨gb218, 4, none⟩ = some (.int .i64 t213) ∧ w'.cell? ⟨gb218, 5, none⟩ = some (.int .i64 t214) ∧ w'.cell? ⟨gb218, 6, none⟩ = some (.int .i64 t215) ∧ w'.cell? ⟨gb218, 7, none⟩ = some (.int .i64 t216) ∧ w'.cell? ⟨gb235, 0, none⟩ = some (.int .i64 t219) ∧ w'.cell? ⟨gb235, 1, none⟩ = some (.int .i64 t220) ∧ w'.cell? ⟨gb235, 2, none⟩ = some (.int .i64 t221) ∧ w'.cell? ⟨gb235, 3, none⟩ = some (.int .i64 t222) ∧ w'.cell? ⟨gb235, 4, none⟩ = some (.int .i64 t223) ∧ w'.cell? ⟨gb235, 5, none⟩ = some (.int .i64 t224) ∧ w'.cell? ⟨gb235, 6, none⟩ = some (.int .i64 t225) ∧ w'.cell? ⟨gb235, 7, none⟩ = some (.int .i64 t226)) (ds := []) #[false, false, false, false, false, false, false, false, false, false, false, false, false, false, false, false, false, false, false, false, false] (by kernel_rfl) rfl rfl ⟨(zQ BK217.out 0).trans rfl, (zQ BK217.out 1).trans rfl, (zQ BK217.out 2).trans rfl, (zQ BK217.out 3).trans rfl, (zQ BK217.out 4).trans rfl, (zQ BK217.out 5).trans rfl, (zQ BK217.out 6).trans rfl, (zQ BK217.out 7).trans rfl, (zQ BK218.out 0).trans rfl, (zQ BK218.out 1).trans rfl, (zQ BK218.out 2).trans rfl, (zQ BK218.out 3).trans rfl, (zQ BK218.out 4).trans rfl, (zQ BK218.out 5).trans rfl, (zQ BK218.out 6).trans rfl, (zQ BK218.out 7).trans rfl, (zQ BK235.out 0).trans rfl, (zQ BK235.out 1).trans rfl, (zQ BK235.out 2).trans rfl, (zQ BK235.out 3).trans rfl, (zQ BK235.out 4).trans rfl, (zQ BK235.out 5).trans rfl, (zQ BK235.out 6).trans rfl, (zQ BK235.out 7).trans rfl⟩ (fun hHeld => ?_); refine with_tabW laws_FnAggs.tab5 laws_FnAggs.bits5 (fun HT_ HW_ => ?_)
     generalize w31.drew = w32 at BK217 BK218 BK235 BK236 HB hHeld ⊢
     refine take_ (i := 0) (N := some 27) (v := ?_) (a' := ?_) #[true, false, false, false, false, false, false, false, false, false, false, false, false, false, false, false, false, false, false, false, false] rfl rfl (take_ofW HT_.out HW_.out (by kernel_rfl)) (fun _ _ _ h => h) (Or.inl ⟨by rfl, ?_⟩) hHeld ?_ ?_
     rotate_left
     ·rintro w' ⟨s0, s1, s2, s3, s4, s5, s6, s7, s8, s9, s10, s11, s12, s13, s14, s15, s16, s17, s18, s19, s20, s21, s22, s23⟩
      go_simp
      with_reducible rfl
     rotate_left
     ·simp only [Act.put, zT, zU, zV, i64_w, i32_w]
      rfl
     refine take_ (i := 1) (N := some 28) (v := ?_) (a' := ?_) #[true, true, false, false, false, false, false, false, false, false, false, false, false, false, false, false, false, false, false, false, false] rfl rfl (take_ofW HT_.out HW_.out (by kernel_rfl)) (fun _ _ _ h => h) (Or.inl ⟨by rfl, ?_⟩) hHeld ?_ ?_
     rotate_left
     ·rintro w' ⟨s0, s1, s2, s3, s4, s5, s6, s7, s8, s9, s10, s11, s12, s13, s14, s15, s16, s17, s18, s19, s20, s21, s22, s23⟩
      go_simp
      with_reducible rfl
     rotate_left
     ·simp only [Act.put, zT, zU, zV, i64_w, i32_w]
      rfl
     refine take_ (i := 3) (N := some 30) (v := ?_) (a' := ?_) #[true, true, false, true, false, false, false, false, false, false, false, false, false, false, false, false, false, false, false, false, false] rfl rfl (take_ofW HT_.out HW_.out (by kernel_rfl)) (fun _ _ _ h => h) (Or.inl ⟨by rfl, ?_⟩) hHeld ?_ ?_
     rotate_left
     ·rintro w' ⟨s0, s1, s2, s3, s4, s5, s6, s7, s8, s9, s10, s11, s12, s13, s14, s15, s16, s17, s18, s19, s20, s21, s22, s23⟩
      go_simp
      with_reducible rfl
     rotate_left
     ·simp only [Act.put, zT, zU, zV, i64_w, i32_w]
      rfl
     refine take_ (i := 4) (N := some 31) (v := ?_) (a' := ?_) #[true, true, false, true, true, false, false, false, false, false, false, false, false, false, false, false, false, false, false, false, false] rfl rfl (take_ofW HT_.out HW_.out (by kernel_rfl)) (fun _ _ _ h => h) (Or.inl ⟨by rfl, ?_⟩) hHeld ?_ ?_
     rotate_left
     ·rintro w' ⟨s0, s1, s2, s3, s4, s5, s6, s7, s8, s9, s10, s11, s12, s13, s14, s15, s16, s17, s18, s19, s20, s21, s22, s23⟩
      go_simp
      with_reducible rfl
     rotate_left
     ·simp only [Act.put, zT, zU, zV, i64_w, i32_w]
      rfl
     refine one_ (i := 2) (N := some 29) #[true, true, true, true, true, false, false, false, false, false, false, false, false, false, false, false, false, false, false, false, false] rfl rfl (one_of HT_.out (by kernel_rfl)) (by decide) (fun K hK => ?_)
     refine goes_ Try.func10 (by kernel_rfl) rfl #[.agg #[.int .i64 t201, .int .i64 t202, .int .i64 t203, .int .i64 t204, .int .i64 t205, .int .i64 t206, .int .i64 t207, .int .i64 t208], .agg #[.int .i64 t209, .int .i64 t210, .int .i64 t211, .int .i64 t212, .int .i64 t213, .int .i64 t214, .int .i64 t215, .int .i64 t216]] (by rfl) rfl rfl (by (try simp only [List.map_toArray, List.map_cons, List.map_nil]); first | done | rfl | (simp only [List.length_drop, List.length_take]; rfl)) ?_
     with_reducible refine (impl_MergeAgg.calls t201 t202 t203 t204 t205 t206 t207 t208 t209 t210 t211 t212 t213 t214 t215 t216 t237 t238 t239 t240 t241 t242 t243 t244 _ A8.out).mono ?_
     rintro e w33 ⟨rfl, hb⟩
     refine ⟨_, rfl, ?_⟩
     have n0_ := Aside0.mk (blk_below (g := gb217) (o := cs8 24 t201 t202 t203 t204 t205 t206 t207 t208) (by (with_reducible repeat (first | refine zE ?_ _ | refine zF ?_ | refine zD ?_ _)); exact BK217.out) hb)
     have n1_ := Aside0.mk (blk_below (g := gb218) (o := cs8 24 t209 t210 t211 t212 t213 t214 t215 t216) (by (with_reducible repeat (first | refine zE ?_ _ | refine zF ?_ | refine zD ?_ _)); exact BK218.out) hb)
     have n2_ := Aside0.mk (blk_below (g := gb235) (o := cs8 24 t219 t220 t221 t222 t223 t224 t225 t226) (by (with_reducible repeat (first | refine zE ?_ _ | refine zF ?_ | refine zD ?_ _)); exact BK235.out) hb)
     have n3_ := Aside0.mk (blk_below (g := gb236) (o := cs8 24 t227 t228 t229 t230 t231 t232 t233 t234) (by (with_reducible repeat (first | refine zE ?_ _ | refine zF ?_ | refine zD ?_ _)); exact BK236.out) hb)
     have n4_ := Aside0.mk (below_step (by repeat (first | (with_reducible first | exact HB.out | apply zA | apply zB | apply zC | refine below_set ?_ GE217.out | refine below_set ?_ GE218.out | refine below_set ?_ GE235.out | refine below_set ?_ GE236.out) | exact HB.out)) hb)
     clear BK217
     clear BK218
     clear BK235
     clear BK236
     clear HB
     have BK217 := n0_
     have BK218 := n1_
     have BK235 := n2_
     have BK236 := n3_
     have HB := n4_
     clear n0_ n1_ n2_ n3_ n4_
     (try clear hb)
     (try clear hb2)
     (try clear hk)
     (try clear hi)
     refine hK.out _ _ ⟨(zQ BK217.out 0).trans rfl, (zQ BK217.out 1).trans rfl, (zQ BK217.out 2).trans rfl, (zQ BK217.out 3).trans rfl, (zQ BK217.out 4).trans rfl, (zQ BK217.out 5).trans rfl, (zQ BK217.out 6).trans rfl, (zQ BK217.out 7).trans rfl, (zQ BK218.out 0).trans rfl, (zQ BK218.out 1).trans rfl, (zQ BK218.out 2).trans rfl, (zQ BK218.out 3).trans rfl, (zQ BK218.out 4).trans rfl, (zQ BK218.out 5).trans rfl, (zQ BK218.out 6).trans rfl, (zQ BK218.out 7).trans rfl, (zQ BK235.out 0).trans rfl, (zQ BK235.out 1).trans rfl, (zQ BK235.out 2).trans rfl, (zQ BK235.out 3).trans rfl, (zQ BK235.out 4).trans rfl, (zQ BK235.out 5).trans rfl, (zQ BK235.out 6).trans rfl, (zQ BK235.out 7).trans rfl⟩ (fun hHeld => ?_)
     clear hK K
     refine norm_ (a' := ?_) ?_ ?_
     rotate_left
     ·show Act.put _ (some 29) _ = _
      simp only [Act.put, zT, zU, zV, i64_w, i32_w]
      rfl
     refine one_ (i := 5) (N := some 32) #[true, true, true, true, true, true, false, false, false, false, false, false, false, false, false, false, false, false, false, false, false] rfl rfl (one_of HT_.out (by kernel_rfl)) (by decide) (fun K hK => ?_)
     refine goes_ Try.func11 (by kernel_rfl) rfl #[.agg #[.int .i64 t201, .int .i64 t202, .int .i64 t203, .int .i64 t204, .int .i64 t205, .int .i64 t206, .int .i64 t207, .int .i64 t208], .agg #[.int .i64 t209, .int .i64 t210, .int .i64 t211, .int .i64 t212, .int .i64 t213, .int .i64 t214, .int .i64 t215, .int .i64 t216]] (by rfl) rfl rfl (by (try simp only [List.map_toArray, List.map_cons, List.map_nil]); first | done | rfl | (simp only [List.length_drop, List.length_take]; rfl)) ?_
     with_reducible refine (spec_MergeAgg.calls kj2 t201 t202 t203 t204 t205 t206 t207 t208 t209 t210 t211 t212 t213 t214 t215 t216 t245 t246 t247 t248 t249 t250 t251 t252 _ A9.out).mono ?_
     rintro e w34 ⟨rfl, hb⟩
     refine ⟨_, rfl, ?_⟩
     have n0_ := Aside0.mk (blk_below (g := gb217) (o := cs8 24 t201 t202 t203 t204 t205 t206 t207 t208) (by (with_reducible repeat (first | refine zE ?_ _ | refine zF ?_ | refine zD ?_ _)); exact BK217.out) hb)
     have n1_ := Aside0.mk (blk_below (g := gb218) (o := cs8 24 t209 t210 t211 t212 t213 t214 t215 t216) (by (with_reducible repeat (first | refine zE ?_ _ | refine zF ?_ | refine zD ?_ _)); exact BK218.out) hb)
     have n2_ := Aside0.mk (blk_below (g := gb235) (o := cs8 24 t219 t220 t221 t222 t223 t224 t225 t226) (by (with_reducible repeat (first | refine zE ?_ _ | refine zF ?_ | refine zD ?_ _)); exact BK235.out) hb)
     have n3_ := Aside0.mk (blk_below (g := gb236) (o := cs8 24 t227 t228 t229 t230 t231 t232 t233 t234) (by (with_reducible repeat (first | refine zE ?_ _ | refine zF ?_ | refine zD ?_ _)); exact BK236.out) hb)
     have n4_ := Aside0.mk (below_step (by repeat (first | (with_reducible first | exact HB.out | apply zA | apply zB | apply zC | refine below_set ?_ GE217.out | refine below_set ?_ GE218.out | refine below_set ?_ GE235.out | refine below_set ?_ GE236.out) | exact HB.out)) hb)
     clear BK217
     clear BK218
     clear BK235
     clear BK236
     clear HB
     have BK217 := n0_
     have BK218 := n1_
     have BK235 := n2_
     have BK236 := n3_
     have HB := n4_
     clear n0_ n1_ n2_ n3_ n4_
     (try clear hb)
     (try clear hb2)
     (try clear hk)
     (try clear hi)
     refine hK.out _ _ ⟨(zQ BK217.out 0).trans rfl, (zQ BK217.out 1).trans rfl, (zQ BK217.out 2).trans rfl, (zQ BK217.out 3).trans rfl, (zQ BK217.out 4).trans rfl, (zQ BK217.out 5).trans rfl, (zQ BK217.out 6).trans rfl, (zQ BK217.out 7).trans rfl, (zQ BK218.out 0).trans rfl, (zQ BK218.out 1).trans rfl, (zQ BK218.out 2).trans rfl, (zQ BK218.out 3).trans rfl, (zQ BK218.out 4).trans rfl, (zQ BK218.out 5).trans rfl, (zQ BK218.out 6).trans rfl, (zQ BK218.out 7).trans rfl, (zQ BK235.out 0).trans rfl, (zQ BK235.out 1).trans rfl, (zQ BK235.out 2).trans rfl, (zQ BK235.out 3).trans rfl, (zQ BK235.out 4).trans rfl, (zQ BK235.out 5).trans rfl, (zQ BK235.out 6).trans rfl, (zQ BK235.out 7).trans rfl⟩ (fun hHeld => ?_)
     clear hK K
     refine norm_ (a' := ?_) ?_ ?_
     rotate_left
     ·show Act.put _ (some 32) _ = _
      simp only [Act.put, zT, zU, zV, i64_w, i32_w]
      rfl
     refine pure_ (i := 6) (N := some 33) (v := ?_) (a' := ?_) #[true, true, true, true, true, true, true, false, false, false, false, false, false, false, false, false, false, false, false, false, false] rfl rfl (any_of HT_.out (by kernel_rfl)) (fun _ _ _ h => h) (Or.inl ⟨by rfl, ?_⟩) ?_ ?_
     rotate_left
     ·intro w'
      go_simp
      with_reducible rfl
     rotate_left
     ·simp only [Act.put, zT, zU, zV, i64_w, i32_w]
      rfl
     refine pure_ (i := 7) (N := some 34) (v := ?_) (a' := ?_) #[true, true, true, true, true, true, true, true, false, false, false, false, false, false, false, false, false, false, false, false, false] rfl rfl (any_of HT_.out (by kernel_rfl)) (fun _ _ _ h => h) (Or.inl ⟨by rfl, ?_⟩) ?_ ?_
     rotate_left
     ·intro w'
      go_simp
      with_reducible rfl
     rotate_left
     ·simp only [Act.put, zT, zU, zV, i64_w, i32_w]
      rfl
     refine take_ (i := 8) (N := some 35) (v := ?_) (a' := ?_) #[true, true, true, true, true, true, true, true, true, false, false, false, false, false, false, false, false, false, false, false, false] rfl rfl (take_ofW HT_.out HW_.out (by kernel_rfl)) (fun _ _ _ h => h) (Or.inl ⟨by rfl, ?_⟩) hHeld ?_ ?_
     rotate_left
     ·rintro w' ⟨s0, s1, s2, s3, s4, s5, s6, s7, s8, s9, s10, s11, s12, s13, s14, s15, s16, s17, s18, s19, s20, s21, s22, s23⟩
      go_simp
      with_reducible rfl
     rotate_left
     ·simp only [Act.put, zT, zU, zV, i64_w, i32_w]
      rfl
     refine take_ (i := 9) (N := some 36) (v := ?_) (a' := ?_) #[true, true, true, true, true, true, true, true, true, true, false, false, false, false, false, false, false, false, false, false, false] rfl rfl (take_ofW HT_.out HW_.out (by kernel_rfl)) (fun _ _ _ h => h) (Or.inl ⟨by rfl, ?_⟩) hHeld ?_ ?_
     rotate_left
     ·rintro w' ⟨s0, s1, s2, s3, s4, s5, s6, s7, s8, s9, s10, s11, s12, s13, s14, s15, s16, s17, s18, s19, s20, s21, s22, s23⟩
      go_simp
      with_reducible rfl
     rotate_left
     ·simp only [Act.put, zT, zU, zV, i64_w, i32_w]
      rfl
     refine take_ (i := 11) (N := some 38) (v := ?_) (a' := ?_) #[true, true, true, true, true, true, true, true, true, true, false, true, false, false, false, false, false, false, false, false, false] rfl rfl (take_ofW HT_.out HW_.out (by kernel_rfl)) (fun _ _ _ h => h) (Or.inl ⟨by rfl, ?_⟩) hHeld ?_ ?_
     rotate_left
     ·rintro w' ⟨s0, s1, s2, s3, s4, s5, s6, s7, s8, s9, s10, s11, s12, s13, s14, s15, s16, s17, s18, s19, s20, s21, s22, s23⟩
      go_simp
      with_reducible rfl
     rotate_left
     ·simp only [Act.put, zT, zU, zV, i64_w, i32_w]
      rfl
     refine take_ (i := 13) (N := some 40) (v := ?_) (a' := ?_) #[true, true, true, true, true, true, true, true, true, true, false, true, false, true, false, false, false, false, false, false, false] rfl rfl (take_ofW HT_.out HW_.out (by kernel_rfl)) (fun _ _ _ h => h) (Or.inl ⟨by rfl, ?_⟩) hHeld ?_ ?_
     rotate_left
     ·rintro w' ⟨s0, s1, s2, s3, s4, s5, s6, s7, s8, s9, s10, s11, s12, s13, s14, s15, s16, s17, s18, s19, s20, s21, s22, s23⟩
      go_simp
      with_reducible rfl
     rotate_left
     ·simp only [Act.put, zT, zU, zV, i64_w, i32_w]
      rfl
     refine take_ (i := 14) (N := some 41) (v := ?_) (a' := ?_) #[true, true, true, true, true, true, true, true, true, true, false, true, false, true, true, false, false, false, false, false, false] rfl rfl (take_ofW HT_.out HW_.out (by kernel_rfl)) (fun _ _ _ h => h) (Or.inl ⟨by rfl, ?_⟩) hHeld ?_ ?_
     rotate_left
     ·rintro w' ⟨s0, s1, s2, s3, s4, s5, s6, s7, s8, s9, s10, s11, s12, s13, s14, s15, s16, s17, s18, s19, s20, s21, s22, s23⟩
      go_simp
      with_reducible rfl
     rotate_left
     ·simp only [Act.put, zT, zU, zV, i64_w, i32_w]
      rfl
     refine take_ (i := 15) (N := some 42) (v := ?_) (a' := ?_) #[true, true, true, true, true, true, true, true, true, true, false, true, false, true, true, true, false, false, false, false, false] rfl rfl (take_ofW HT_.out HW_.out (by kernel_rfl)) (fun _ _ _ h => h) (Or.inl ⟨by rfl, ?_⟩) hHeld ?_ ?_
     rotate_left
     ·rintro w' ⟨s0, s1, s2, s3, s4, s5, s6, s7, s8, s9, s10, s11, s12, s13, s14, s15, s16, s17, s18, s19, s20, s21, s22, s23⟩
      go_simp
      with_reducible rfl
     rotate_left
     ·simp only [Act.put, zT, zU, zV, i64_w, i32_w]
      rfl
     refine one_ (i := 10) (N := some 37) #[true, true, true, true, true, true, true, true, true, true, true, true, false, true, true, true, false, false, false, false, false] rfl rfl (one_of HT_.out (by kernel_rfl)) (by decide) (fun K hK => ?_)
     refine goes_ Try.func10 (by kernel_rfl) rfl #[.agg #[.int .i64 t201, .int .i64 t202, .int .i64 t203, .int .i64 t204, .int .i64 t205, .int .i64 t206, .int .i64 t207, .int .i64 t208], .agg #[.int .i64 t209, .int .i64 t210, .int .i64 t211, .int .i64 t212, .int .i64 t213, .int .i64 t214, .int .i64 t215, .int .i64 t216]] (by rfl) rfl rfl (by (try simp only [List.map_toArray, List.map_cons, List.map_nil]); first | done | rfl | (simp only [List.length_drop, List.length_take]; rfl)) ?_
     with_reducible refine (impl_MergeAgg.calls t201 t202 t203 t204 t205 t206 t207 t208 t209 t210 t211 t212 t213 t214 t215 t216 t253 t254 t255 t256 t257 t258 t259 t260 _ A11.out).mono ?_
     rintro e w35 ⟨rfl, hb⟩
     refine ⟨_, rfl, ?_⟩
     have n0_ := Aside0.mk (blk_below (g := gb217) (o := cs8 24 t201 t202 t203 t204 t205 t206 t207 t208) (by (with_reducible repeat (first | refine zE ?_ _ | refine zF ?_ | refine zD ?_ _)); exact BK217.out) hb)
     have n1_ := Aside0.mk (blk_below (g := gb218) (o := cs8 24 t209 t210 t211 t212 t213 t214 t215 t216) (by (with_reducible repeat (first | refine zE ?_ _ | refine zF ?_ | refine zD ?_ _)); exact BK218.out) hb)
     have n2_ := Aside0.mk (blk_below (g := gb235) (o := cs8 24 t219 t220 t221 t222 t223 t224 t225 t226) (by (with_reducible repeat (first | refine zE ?_ _ | refine zF ?_ | refine zD ?_ _)); exact BK235.out) hb)
     have n3_ := Aside0.mk (blk_below (g := gb236) (o := cs8 24 t227 t228 t229 t230 t231 t232 t233 t234) (by (with_reducible repeat (first | refine zE ?_ _ | refine zF ?_ | refine zD ?_ _)); exact BK236.out) hb)
     have n4_ := Aside0.mk (below_step (by repeat (first | (with_reducible first | exact HB.out | apply zA | apply zB | apply zC | refine below_set ?_ GE217.out | refine below_set ?_ GE218.out | refine below_set ?_ GE235.out | refine below_set ?_ GE236.out) | exact HB.out)) hb)
     clear BK217
     clear BK218
     clear BK235
     clear BK236
     clear HB
     have BK217 := n0_
     have BK218 := n1_
     have BK235 := n2_
     have BK236 := n3_
     have HB := n4_
     clear n0_ n1_ n2_ n3_ n4_
     (try clear hb)
     (try clear hb2)
     (try clear hk)
     (try clear hi)
     refine hK.out _ _ ⟨(zQ BK217.out 0).trans rfl, (zQ BK217.out 1).trans rfl, (zQ BK217.out 2).trans rfl, (zQ BK217.out 3).trans rfl, (zQ BK217.out 4).trans rfl, (zQ BK217.out 5).trans rfl, (zQ BK217.out 6).trans rfl, (zQ BK217.out 7).trans rfl, (zQ BK218.out 0).trans rfl, (zQ BK218.out 1).trans rfl, (zQ BK218.out 2).trans rfl, (zQ BK218.out 3).trans rfl, (zQ BK218.out 4).trans rfl, (zQ BK218.out 5).trans rfl, (zQ BK218.out 6).trans rfl, (zQ BK218.out 7).trans rfl, (zQ BK235.out 0).trans rfl, (zQ BK235.out 1).trans rfl, (zQ BK235.out 2).trans rfl, (zQ BK235.out 3).trans rfl, (zQ BK235.out 4).trans rfl, (zQ BK235.out 5).trans rfl, (zQ BK235.out 6).trans rfl, (zQ BK235.out 7).trans rfl⟩ (fun hHeld => ?_)
     clear hK K
     refine norm_ (a' := ?_) ?_ ?_
     rotate_left
     ·show Act.put _ (some 37) _ = _
      simp only [Act.put, zT, zU, zV, i64_w, i32_w]
      rfl
     refine one_ (i := 12) (N := some 39) #[true, true, true, true, true, true, true, true, true, true, true, true, true, true, true, true, false, false, false, false, false] rfl rfl (one_of HT_.out (by kernel_rfl)) (by decide) (fun K hK => ?_)
     refine goes_ Try.func10 (by kernel_rfl) rfl #[.agg #[.int .i64 t253, .int .i64 t254, .int .i64 t255, .int .i64 t256, .int .i64 t257, .int .i64 t258, .int .i64 t259, .int .i64 t260], .agg #[.int .i64 t219, .int .i64 t220, .int .i64 t221, .int .i64 t222, .int .i64 t223, .int .i64 t224, .int .i64 t225, .int .i64 t226]] (by rfl) rfl rfl (by (try simp only [List.map_toArray, List.map_cons, List.map_nil]); first | done | rfl | (simp only [List.length_drop, List.length_take]; rfl)) ?_
     with_reducible refine (impl_MergeAgg.calls t253 t254 t255 t256 t257 t258 t259 t260 t219 t220 t221 t222 t223 t224 t225 t226 t261 t262 t263 t264 t265 t266 t267 t268 _ A12.out).mono ?_
     rintro e w36 ⟨rfl, hb⟩
     refine ⟨_, rfl, ?_⟩
     have n0_ := Aside0.mk (blk_below (g := gb217) (o := cs8 24 t201 t202 t203 t204 t205 t206 t207 t208) (by (with_reducible repeat (first | refine zE ?_ _ | refine zF ?_ | refine zD ?_ _)); exact BK217.out) hb)
     have n1_ := Aside0.mk (blk_below (g := gb218) (o := cs8 24 t209 t210 t211 t212 t213 t214 t215 t216) (by (with_reducible repeat (first | refine zE ?_ _ | refine zF ?_ | refine zD ?_ _)); exact BK218.out) hb)
     have n2_ := Aside0.mk (blk_below (g := gb235) (o := cs8 24 t219 t220 t221 t222 t223 t224 t225 t226) (by (with_reducible repeat (first | refine zE ?_ _ | refine zF ?_ | refine zD ?_ _)); exact BK235.out) hb)
     have n3_ := Aside0.mk (blk_below (g := gb236) (o := cs8 24 t227 t228 t229 t230 t231 t232 t233 t234) (by (with_reducible repeat (first | refine zE ?_ _ | refine zF ?_ | refine zD ?_ _)); exact BK236.out) hb)
     have n4_ := Aside0.mk (below_step (by repeat (first | (with_reducible first | exact HB.out | apply zA | apply zB | apply zC | refine below_set ?_ GE217.out | refine below_set ?_ GE218.out | refine below_set ?_ GE235.out | refine below_set ?_ GE236.out) | exact HB.out)) hb)
     clear BK217
     clear BK218
     clear BK235
     clear BK236
     clear HB
     have BK217 := n0_
     have BK218 := n1_
     have BK235 := n2_
     have BK236 := n3_
     have HB := n4_
     clear n0_ n1_ n2_ n3_ n4_
     (try clear hb)
     (try clear hb2)
     (try clear hk)
     (try clear hi)
     refine hK.out _ _ ⟨(zQ BK217.out 0).trans rfl, (zQ BK217.out 1).trans rfl, (zQ BK217.out 2).trans rfl, (zQ BK217.out 3).trans rfl, (zQ BK217.out 4).trans rfl, (zQ BK217.out 5).trans rfl, (zQ BK217.out 6).trans rfl, (zQ BK217.out 7).trans rfl, (zQ BK218.out 0).trans rfl, (zQ BK218.out 1).trans rfl, (zQ BK218.out 2).trans rfl, (zQ BK218.out 3).trans rfl, (zQ BK218.out 4).trans rfl, (zQ BK218.out 5).trans rfl, (zQ BK218.out 6).trans rfl, (zQ BK218.out 7).trans rfl, (zQ BK235.out 0).trans rfl, (zQ BK235.out 1).trans rfl, (zQ BK235.out 2).trans rfl, (zQ BK235.out 3).trans rfl, (zQ BK235.out 4).trans rfl, (zQ BK235.out 5).trans rfl, (zQ BK235.out 6).trans rfl, (zQ BK235.out 7).trans rfl⟩ (fun hHeld => ?_)
     clear hK K
     refine norm_ (a' := ?_) ?_ ?_
     rotate_left
     ·show Act.put _ (some 39) _ = _
      simp only [Act.put, zT, zU, zV, i64_w, i32_w]
      rfl
     refine one_ (i := 16) (N := some 43) #[true, true, true, true, true, true, true, true, true, true, true, true, true, true, true, true, true, false, false, false, false] rfl rfl (one_of HT_.out (by kernel_rfl)) (by decide) (fun K hK => ?_)
     refine goes_ Try.func10 (by kernel_rfl) rfl #[.agg #[.int .i64 t209, .int .i64 t210, .int .i64 t211, .int .i64 t212, .int .i64 t213, .int .i64 t214, .int .i64 t215, .int .i64 t216], .agg #[.int .i64 t219, .int .i64 t220, .int .i64 t221, .int .i64 t222, .int .i64 t223, .int .i64 t224, .int .i64 t225, .int .i64 t226]] (by rfl) rfl rfl (by (try simp only [List.map_toArray, List.map_cons, List.map_nil]); first | done | rfl | (simp only [List.length_drop, List.length_take]; rfl)) ?_
     with_reducible refine (impl_MergeAgg.calls t209 t210 t211 t212 t213 t214 t215 t216 t219 t220 t221 t222 t223 t224 t225 t226 t269 t270 t271 t272 t273 t274 t275 t276 _ A13.out).mono ?_
     rintro e w37 ⟨rfl, hb⟩
     refine ⟨_, rfl, ?_⟩
     have n0_ := Aside0.mk (blk_below (g := gb217) (o := cs8 24 t201 t202 t203 t204 t205 t206 t207 t208) (by (with_reducible repeat (first | refine zE ?_ _ | refine zF ?_ | refine zD ?_ _)); exact BK217.out) hb)
     have n1_ := Aside0.mk (blk_below (g := gb218) (o := cs8 24 t209 t210 t211 t212 t213 t214 t215 t216) (by (with_reducible repeat (first | refine zE ?_ _ | refine zF ?_ | refine zD ?_ _)); exact BK218.out) hb)
     have n2_ := Aside0.mk (blk_below (g := gb235) (o := cs8 24 t219 t220 t221 t222 t223 t224 t225 t226) (by (with_reducible repeat (first | refine zE ?_ _ | refine zF ?_ | refine zD ?_ _)); exact BK235.out) hb)
     have n3_ := Aside0.mk (blk_below (g := gb236) (o := cs8 24 t227 t228 t229 t230 t231 t232 t233 t234) (by (with_reducible repeat (first | refine zE ?_ _ | refine zF ?_ | refine zD ?_ _)); exact BK236.out) hb)
     have n4_ := Aside0.mk (below_step (by repeat (first | (with_reducible first | exact HB.out | apply zA | apply zB | apply zC | refine below_set ?_ GE217.out | refine below_set ?_ GE218.out | refine below_set ?_ GE235.out | refine below_set ?_ GE236.out) | exact HB.out)) hb)
     clear BK217
     clear BK218
     clear BK235
     clear BK236
     clear HB
     have BK217 := n0_
     have BK218 := n1_
     have BK235 := n2_
     have BK236 := n3_
     have HB := n4_
     clear n0_ n1_ n2_ n3_ n4_
     (try clear hb)
     (try clear hb2)
     (try clear hk)
     (try clear hi)
     refine hK.out _ _ ⟨(zQ BK217.out 0).trans rfl, (zQ BK217.out 1).trans rfl, (zQ BK217.out 2).trans rfl, (zQ BK217.out 3).trans rfl, (zQ BK217.out 4).trans rfl, (zQ BK217.out 5).trans rfl, (zQ BK217.out 6).trans rfl, (zQ BK217.out 7).trans rfl, (zQ BK218.out 0).trans rfl, (zQ BK218.out 1).trans rfl, (zQ BK218.out 2).trans rfl, (zQ BK218.out 3).trans rfl, (zQ BK218.out 4).trans rfl, (zQ BK218.out 5).trans rfl, (zQ BK218.out 6).trans rfl, (zQ BK218.out 7).trans rfl, (zQ BK235.out 0).trans rfl, (zQ BK235.out 1).trans rfl, (zQ BK235.out 2).trans rfl, (zQ BK235.out 3).trans rfl, (zQ BK235.out 4).trans rfl, (zQ BK235.out 5).trans rfl, (zQ BK235.out 6).trans rfl, (zQ BK235.out 7).trans rfl⟩ (fun hHeld => ?_)
     clear hK K
     refine norm_ (a' := ?_) ?_ ?_
     rotate_left
     ·show Act.put _ (some 43) _ = _
      simp only [Act.put, zT, zU, zV, i64_w, i32_w]
      rfl
     refine one_ (i := 17) (N := some 44) #[true, true, true, true, true, true, true, true, true, true, true, true, true, true, true, true, true, true, false, false, false] rfl rfl (one_of HT_.out (by kernel_rfl)) (by decide) (fun K hK => ?_)
     refine goes_ Try.func10 (by kernel_rfl) rfl #[.agg #[.int .i64 t201, .int .i64 t202, .int .i64 t203, .int .i64 t204, .int .i64 t205, .int .i64 t206, .int .i64 t207, .int .i64 t208], .agg #[.int .i64 t269, .int .i64 t270, .int .i64 t271, .int .i64 t272, .int .i64 t273, .int .i64 t274, .int .i64 t275, .int .i64 t276]] (by rfl) rfl rfl (by (try simp only [List.map_toArray, List.map_cons, List.map_nil]); first | done | rfl | (simp only [List.length_drop, List.length_take]; rfl)) ?_
     with_reducible refine (impl_MergeAgg.calls t201 t202 t203 t204 t205 t206 t207 t208 t269 t270 t271 t272 t273 t274 t275 t276 t277 t278 t279 t280 t281 t282 t283 t284 _ A14.out).mono ?_
     rintro e w38 ⟨rfl, hb⟩
     refine ⟨_, rfl, ?_⟩
     have n0_ := Aside0.mk (blk_below (g := gb217) (o := cs8 24 t201 t202 t203 t204 t205 t206 t207 t208) (by (with_reducible repeat (first | refine zE ?_ _ | refine zF ?_ | refine zD ?_ _)); exact BK217.out) hb)
     have n1_ := Aside0.mk (blk_below (g := gb218) (o := cs8 24 t209 t210 t211 t212 t213 t214 t215 t216) (by (with_reducible repeat (first | refine zE ?_ _ | refine zF ?_ | refine zD ?_ _)); exact BK218.out) hb)
     have n2_ := Aside0.mk (blk_below (g := gb235) (o := cs8 24 t219 t220 t221 t222 t223 t224 t225 t226) (by (with_reducible repeat (first | refine zE ?_ _ | refine zF ?_ | refine zD ?_ _)); exact BK235.out) hb)
     have n3_ := Aside0.mk (blk_below (g := gb236) (o := cs8 24 t227 t228 t229 t230 t231 t232 t233 t234) (by (with_reducible repeat (first | refine zE ?_ _ | refine zF ?_ | refine zD ?_ _)); exact BK236.out) hb)
     have n4_ := Aside0.mk (below_step (by repeat (first | (with_reducible first | exact HB.out | apply zA | apply zB | apply zC | refine below_set ?_ GE217.out | refine below_set ?_ GE218.out | refine below_set ?_ GE235.out | refine below_set ?_ GE236.out) | exact HB.out)) hb)
     clear BK217
     clear BK218
     clear BK235
     clear BK236
     clear HB
     have BK217 := n0_
     have BK218 := n1_
     have BK235 := n2_
     have BK236 := n3_
     have HB := n4_
     clear n0_ n1_ n2_ n3_ n4_
     (try clear hb)
     (try clear hb2)
     (try clear hk)
     (try clear hi)
     refine hK.out _ _ ⟨(zQ BK217.out 0).trans rfl, (zQ BK217.out 1).trans rfl, (zQ BK217.out 2).trans rfl, (zQ BK217.out 3).trans rfl, (zQ BK217.out 4).trans rfl, (zQ BK217.out 5).trans rfl, (zQ BK217.out 6).trans rfl, (zQ BK217.out 7).trans rfl, (zQ BK218.out 0).trans rfl, (zQ BK218.out 1).trans rfl, (zQ BK218.out 2).trans rfl, (zQ BK218.out 3).trans rfl, (zQ BK218.out 4).trans rfl, (zQ BK218.out 5).trans rfl, (zQ BK218.out 6).trans rfl, (zQ BK218.out 7).trans rfl, (zQ BK235.out 0).trans rfl, (zQ BK235.out 1).trans rfl, (zQ BK235.out 2).trans rfl, (zQ BK235.out 3).trans rfl, (zQ BK235.out 4).trans rfl, (zQ BK235.out 5).trans rfl, (zQ BK235.out 6).trans rfl, (zQ BK235.out 7).trans rfl⟩ (fun hHeld => ?_)
     clear hK K
     refine norm_ (a' := ?_) ?_ ?_
     rotate_left
     ·show Act.put _ (some 44) _ = _
      simp only [Act.put, zT, zU, zV, i64_w, i32_w]
      rfl
     refine pure_ (i := 18) (N := some 45) (v := ?_) (a' := ?_) #[true, true, true, true, true, true, true, true, true, true, true, true, true, true, true, true, true, true, true, false, false] rfl rfl (any_of HT_.out (by kernel_rfl)) (fun _ _ _ h => h) (Or.inl ⟨by rfl, ?_⟩) ?_ ?_
     rotate_left
     ·intro w'
      go_simp
      with_reducible rfl
     rotate_left
     ·simp only [Act.put, zT, zU, zV, i64_w, i32_w]
      rfl
     refine pure_ (i := 19) (N := some 46) (v := ?_) (a' := ?_) #[true, true, true, true, true, true, true, true, true, true, true, true, true, true, true, true, true, true, true, true, false] rfl rfl (any_of HT_.out (by kernel_rfl)) (fun _ _ _ h => h) (Or.inl ⟨by rfl, ?_⟩) ?_ ?_
     rotate_left
     ·intro w'
      go_simp
      with_reducible rfl
     rotate_left
     ·simp only [Act.put, zT, zU, zV, i64_w, i32_w]
      rfl
     refine pure_ (i := 20) (N := some 4) (v := ?_) (a' := ?_) #[true, true, true, true, true, true, true, true, true, true, true, true, true, true, true, true, true, true, true, true, true] rfl rfl (any_of HT_.out (by kernel_rfl)) (fun _ _ _ h => h) (Or.inl ⟨by rfl, ?_⟩) ?_ ?_
     rotate_left
     ·intro w'
      go_simp
      with_reducible rfl
     rotate_left
     ·simp only [Act.put, zT, zU, zV, i64_w, i32_w]
      rfl
     refine done_ (done_of HT_.out (by kernel_rfl)) ?_
     try go_wp2
     go_ret
     exact ⟨by first | rfl | (simp [errW_none, errW_some] <;> rfl) | (simp [*, errW_none, errW_some] <;> rfl), by repeat (first | (with_reducible first | exact HB.out | apply zA | apply zB | apply zC | refine below_set ?_ GE217.out | refine below_set ?_ GE218.out | refine below_set ?_ GE235.out | refine below_set ?_ GE236.out) | exact HB.out)⟩
    ·rw [if_neg c10] at H
     have c10b0 : (t237 == t245 && (t238 == t246 && (t239 == t247 && (t240 == t248 && (t241 == t249 && (t242 == t250 && (t243 == t251 && (t244 == t252)))))))) = false := by simpa using c10
     (try (have c10b1 : decide (t237 = t245 && (t238 == t246 && (t239 == t247 && (t240 == t248 && (t241 == t249 && (t242 == t250 && (t243 == t251 && (t244 == t252)))))))) = false := by simpa using c10))
     (try (have c10b2 : (t237 == t245 && (t238 == t246 && (t239 == t247 && (t240 == t248 && (t241 == t249 && (t242 == t250 && (t243 == t251 && (t244 == t252)))))))) = false := by simpa using c10))
     (try (have c10b3 : ¬ (t237 = t245 && (t238 == t246 && (t239 == t247 && (t240 == t248 && (t241 == t249 && (t242 == t250 && (t243 == t251 && (t244 == t252)))))))) := by simpa using c10))
     clear c10
     obtain rfl := Option.some.inj H
     try go_wp2_with (first | ((with_reducible refine gate_callee (f := 9) rfl ?_); refine goesL_ (some 19) rfl rfl Try.func9 (by kernel_rfl) rfl #[.slice A0 l0.length c0] rfl (by (try simp only [List.map_toArray, List.map_cons, List.map_nil]); first | done | rfl | (simp only [List.length_drop, List.length_take]; rfl)) ?_; (with_reducible refine (spec_DrawMergeAgg.calls kj2 _ _ l0 t201 t202 t203 t204 t205 t206 t207 t208 t209 t210 t211 t212 t213 t214 t215 t216 _ ?side1 ?side2 A6.out).mono ?_); (case side1 => repeat (first | exact (Kd.C_below HR0.out HB.out) | (with_reducible refine zJ ?_ _) | (with_reducible refine zK ?_ _) | (with_reducible refine zL ?_))); (case side2 => exact HC0.out); rintro e w39 ⟨rfl, hb⟩; refine ⟨_, rfl, ?_⟩; have n0_ := Aside0.mk (below_step (by repeat (first | (with_reducible first | exact HB.out | apply zA | apply zB | apply zC) | exact HB.out)) hb); clear HB; have HB := n0_; clear n0_; (try clear hb); (try clear hb2); (try clear hk); (try clear hi)) | ((with_reducible refine gate_dst (N := 5) rfl ?_); (try (refine gate_guard (by rfl) ?_; dsimp only)); refine box_event ?hg (N := 5) ?hd (cs := #[.int .i64 0, .int .i64 0, .int .i64 0, .int .i64 0, .int .i64 0, .int .i64 0, .int .i64 0, .int .i64 0]) (t := 24) ?hr ?_; (case hd => rfl); (case hg => rfl); (case hr => first | (go_simp; done) | (go_simp; rfl)); intro gb217 hg w40 hbox hb; have n0_ := Aside0.mk (below_step (by repeat (first | (with_reducible first | exact HB.out | apply zA | apply zB | apply zC) | exact HB.out)) hb); have n1_ := Aside0.mk (hbox); have n2_ := Aside0.mk ((by rw [hg]; exact (zW (by repeat (first | (with_reducible first | exact HB.out | apply zA | apply zB | apply zC) | exact HB.out))) : w.heap.size ≤ gb217)); have n3_ := Aside0.mk ((by rw [hg]; exact (zW (by repeat (first | (with_reducible first | exact HB.out | apply zA | apply zB | apply zC) | exact HB.out))) : w.heap.size ≤ gb217)); clear HB; have HB := n0_; have BK217 := n1_; have GW217 := n2_; have GE217 := n3_; clear n0_ n1_ n2_ n3_; clear hb hbox hg) | ((with_reducible refine gate_dst (N := 6) rfl ?_); (try (refine gate_guard (by rfl) ?_; dsimp only)); refine box_event ?hg (N := 6) ?hd (cs := #[.int .i64 0, .int .i64 0, .int .i64 0, .int .i64 0, .int .i64 0, .int .i64 0, .int .i64 0, .int .i64 0]) (t := 24) ?hr ?_; (case hd => rfl); (case hg => rfl); (case hr => first | (go_simp; done) | (go_simp; rfl)); intro gb218 hg w41 hbox hb; have n0_ := Aside0.mk (blk_below (g := gb217) (o := cs8 24 0 0 0 0 0 0 0 0) (by (with_reducible repeat (first | refine zE ?_ _ | refine zF ?_ | refine zD ?_ _)); exact BK217.out) hb); have n1_ := Aside0.mk (below_step (by repeat (first | (with_reducible first | exact HB.out | apply zA | apply zB | apply zC | refine below_set ?_ GE217.out) | exact HB.out)) hb); have n2_ := Aside0.mk (hbox); have n3_ := Aside0.mk ((by rw [hg]; exact (zW (by repeat (first | (with_reducible first | exact HB.out | apply zA | apply zB | apply zC | refine below_set ?_ GE217.out) | exact HB.out))) : w.heap.size ≤ gb218)); have n4_ := Aside0.mk ((by rw [hg]; exact (zW (by repeat (first | (with_reducible first | exact HB.out | apply zA | apply zB | apply zC | refine below_set ?_ GE217.out) | exact HB.out))) : w.heap.size ≤ gb218)); have n5_ := Aside0.mk ((by rw [hg]; exact Nat.ne_of_lt (blk_lt (g := gb217) (o := cs8 24 0 0 0 0 0 0 0 0) (by (with_reducible repeat (first | refine zE ?_ _ | refine zF ?_ | refine zD ?_ _)); exact BK217.out)) : gb217 ≠ gb218)); have n6_ := Aside0.mk ((by rw [hg]; exact Nat.ne_of_gt (blk_lt (g := gb217) (o := cs8 24 0 0 0 0 0 0 0 0) (by (with_reducible repeat (first | refine zE ?_ _ | refine zF ?_ | refine zD ?_ _)); exact BK217.out)) : gb218 ≠ gb217)); clear BK217; clear HB; have BK217 := n0_; have HB := n1_; have BK218 := n2_; have GW218 := n3_; have GE218 := n4_; have NB217_218 := n5_; have NB218_217 := n6_; clear n0_ n1_ n2_ n3_ n4_ n5_ n6_; clear hb hbox hg; have hnb42 := NB217_218.out; have hnc42 := NB218_217.out; have hcz43_0 : w41.cell? ⟨gb217, 0, none⟩ = some (.int .i64 0) := (zQ BK217.out 0).trans rfl; have hcz43_1 : w41.cell? ⟨gb217, 1, none⟩ = some (.int .i64 0) := (zQ BK217.out 1).trans rfl; have hcz43_2 : w41.cell? ⟨gb217, 2, none⟩ = some (.int .i64 0) := (zQ BK217.out 2).trans rfl; have hcz43_3 : w41.cell? ⟨gb217, 3, none⟩ = some (.int .i64 0) := (zQ BK217.out 3).trans rfl; have hcz43_4 : w41.cell? ⟨gb217, 4, none⟩ = some (.int .i64 0) := (zQ BK217.out 4).trans rfl; have hcz43_5 : w41.cell? ⟨gb217, 5, none⟩ = some (.int .i64 0) := (zQ BK217.out 5).trans rfl; have hcz43_6 : w41.cell? ⟨gb217, 6, none⟩ = some (.int .i64 0) := (zQ BK217.out 6).trans rfl; have hcz43_7 : w41.cell? ⟨gb217, 7, none⟩ = some (.int .i64 0) := (zQ BK217.out 7).trans rfl; have hfz43_0 := blk_frozen BK217.out 0; have hfz43_1 := blk_frozen BK217.out 1; have hfz43_2 := blk_frozen BK217.out 2; have hfz43_3 := blk_frozen BK217.out 3; have hfz43_4 := blk_frozen BK217.out 4; have hfz43_5 := blk_frozen BK217.out 5; have hfz43_6 := blk_frozen BK217.out 6; have hfz43_7 := blk_frozen BK217.out 7; have hcz44_0 : w41.cell? ⟨gb218, 0, none⟩ = some (.int .i64 0) := (zQ BK218.out 0).trans rfl; have hcz44_1 : w41.cell? ⟨gb218, 1, none⟩ = some (.int .i64 0) := (zQ BK218.out 1).trans rfl; have hcz44_2 : w41.cell? ⟨gb218, 2, none⟩ = some (.int .i64 0) := (zQ BK218.out 2).trans rfl; have hcz44_3 : w41.cell? ⟨gb218, 3, none⟩ = some (.int .i64 0) := (zQ BK218.out 3).trans rfl; have hcz44_4 : w41.cell? ⟨gb218, 4, none⟩ = some (.int .i64 0) := (zQ BK218.out 4).trans rfl; have hcz44_5 : w41.cell? ⟨gb218, 5, none⟩ = some (.int .i64 0) := (zQ BK218.out 5).trans rfl; have hcz44_6 : w41.cell? ⟨gb218, 6, none⟩ = some (.int .i64 0) := (zQ BK218.out 6).trans rfl; have hcz44_7 : w41.cell? ⟨gb218, 7, none⟩ = some (.int .i64 0) := (zQ BK218.out 7).trans rfl; have hfz44_0 := blk_frozen BK218.out 0; have hfz44_1 := blk_frozen BK218.out 1; have hfz44_2 := blk_frozen BK218.out 2; have hfz44_3 := blk_frozen BK218.out 3; have hfz44_4 := blk_frozen BK218.out 4; have hfz44_5 := blk_frozen BK218.out 5; have hfz44_6 := blk_frozen BK218.out 6; have hfz44_7 := blk_frozen BK218.out 7) | ((with_reducible refine gate_callee (f := 9) rfl ?_); refine goesL_ (some 24) rfl rfl Try.func9 (by kernel_rfl) rfl #[.slice A1 l1.length c1] rfl (by (try simp only [List.map_toArray, List.map_cons, List.map_nil]); first | done | rfl | (simp only [List.length_drop, List.length_take]; rfl)) ?_; (with_reducible refine (spec_DrawMergeAgg.calls kj2 _ _ l1 t219 t220 t221 t222 t223 t224 t225 t226 t227 t228 t229 t230 t231 t232 t233 t234 _ ?side1 ?side2 A7.out).mono ?_); (case side1 => exact Kd.C_below HR1.out (by repeat (first | (with_reducible first | exact HB.out | apply zA | apply zB | apply zC | refine below_set ?_ GE217.out | refine below_set ?_ GE218.out) | exact HB.out))); (case side2 => exact HC1.out); rintro e w45 ⟨rfl, hb⟩; refine ⟨_, rfl, ?_⟩; have n0_ := Aside0.mk (blk_below (g := gb217) (o := cs8 24 t201 t202 t203 t204 t205 t206 t207 t208) (by (with_reducible repeat (first | refine zE ?_ _ | refine zF ?_ | refine zD ?_ _)); refine blk_far ?_ NB217_218.out _; (with_reducible repeat (first | refine zE ?_ _ | refine zF ?_ | refine zD ?_ _)); refine blk_far ?_ NB217_218.out _; (with_reducible repeat (first | refine zE ?_ _ | refine zF ?_ | refine zD ?_ _)); refine blk_far ?_ NB217_218.out _; (with_reducible repeat (first | refine zE ?_ _ | refine zF ?_ | refine zD ?_ _)); refine blk_far ?_ NB217_218.out _; (with_reducible repeat (first | refine zE ?_ _ | refine zF ?_ | refine zD ?_ _)); refine blk_far ?_ NB217_218.out _; (with_reducible repeat (first | refine zE ?_ _ | refine zF ?_ | refine zD ?_ _)); refine blk_far ?_ NB217_218.out _; (with_reducible repeat (first | refine zE ?_ _ | refine zF ?_ | refine zD ?_ _)); refine blk_far ?_ NB217_218.out _; (with_reducible repeat (first | refine zE ?_ _ | refine zF ?_ | refine zD ?_ _)); refine blk_far ?_ NB217_218.out _; (with_reducible repeat (first | refine zE ?_ _ | refine zF ?_ | refine zD ?_ _)); refine blk_put (cs := #[.int .i64 t201, .int .i64 t202, .int .i64 t203, .int .i64 t204, .int .i64 t205, .int .i64 t206, .int .i64 t207, .int .i64 0]) ?_ 7 _ rfl; (with_reducible repeat (first | refine zE ?_ _ | refine zF ?_ | refine zD ?_ _)); refine blk_put (cs := #[.int .i64 t201, .int .i64 t202, .int .i64 t203, .int .i64 t204, .int .i64 t205, .int .i64 t206, .int .i64 0, .int .i64 0]) ?_ 6 _ rfl; (with_reducible repeat (first | refine zE ?_ _ | refine zF ?_ | refine zD ?_ _)); refine blk_put (cs := #[.int .i64 t201, .int .i64 t202, .int .i64 t203, .int .i64 t204, .int .i64 t205, .int .i64 0, .int .i64 0, .int .i64 0]) ?_ 5 _ rfl; (with_reducible repeat (first | refine zE ?_ _ | refine zF ?_ | refine zD ?_ _)); refine blk_put (cs := #[.int .i64 t201, .int .i64 t202, .int .i64 t203, .int .i64 t204, .int .i64 0, .int .i64 0, .int .i64 0, .int .i64 0]) ?_ 4 _ rfl; (with_reducible repeat (first | refine zE ?_ _ | refine zF ?_ | refine zD ?_ _)); refine blk_put (cs := #[.int .i64 t201, .int .i64 t202, .int .i64 t203, .int .i64 0, .int .i64 0, .int .i64 0, .int .i64 0, .int .i64 0]) ?_ 3 _ rfl; (with_reducible repeat (first | refine zE ?_ _ | refine zF ?_ | refine zD ?_ _)); refine blk_put (cs := #[.int .i64 t201, .int .i64 t202, .int .i64 0, .int .i64 0, .int .i64 0, .int .i64 0, .int .i64 0, .int .i64 0]) ?_ 2 _ rfl; (with_reducible repeat (first | refine zE ?_ _ | refine zF ?_ | refine zD ?_ _)); refine blk_put (cs := #[.int .i64 t201, .int .i64 0, .int .i64 0, .int .i64 0, .int .i64 0, .int .i64 0, .int .i64 0, .int .i64 0]) ?_ 1 _ rfl; (with_reducible repeat (first | refine zE ?_ _ | refine zF ?_ | refine zD ?_ _)); refine blk_put (cs := #[.int .i64 0, .int .i64 0, .int .i64 0, .int .i64 0, .int .i64 0, .int .i64 0, .int .i64 0, .int .i64 0]) ?_ 0 _ rfl; (with_reducible repeat (first | refine zE ?_ _ | refine zF ?_ | refine zD ?_ _)); exact BK217.out) hb); have n1_ := Aside0.mk (blk_below (g := gb218) (o := cs8 24 t209 t210 t211 t212 t213 t214 t215 t216) (by (with_reducible repeat (first | refine zE ?_ _ | refine zF ?_ | refine zD ?_ _)); refine blk_put (cs := #[.int .i64 t209, .int .i64 t210, .int .i64 t211, .int .i64 t212, .int .i64 t213, .int .i64 t214, .int .i64 t215, .int .i64 0]) ?_ 7 _ rfl; (with_reducible repeat (first | refine zE ?_ _ | refine zF ?_ | refine zD ?_ _)); refine blk_put (cs := #[.int .i64 t209, .int .i64 t210, .int .i64 t211, .int .i64 t212, .int .i64 t213, .int .i64 t214, .int .i64 0, .int .i64 0]) ?_ 6 _ rfl; (with_reducible repeat (first | refine zE ?_ _ | refine zF ?_ | refine zD ?_ _)); refine blk_put (cs := #[.int .i64 t209, .int .i64 t210, .int .i64 t211, .int .i64 t212, .int .i64 t213, .int .i64 0, .int .i64 0, .int .i64 0]) ?_ 5 _ rfl; (with_reducible repeat (first | refine zE ?_ _ | refine zF ?_ | refine zD ?_ _)); refine blk_put (cs := #[.int .i64 t209, .int .i64 t210, .int .i64 t211, .int .i64 t212, .int .i64 0, .int .i64 0, .int .i64 0, .int .i64 0]) ?_ 4 _ rfl; (with_reducible repeat (first | refine zE ?_ _ | refine zF ?_ | refine zD ?_ _)); refine blk_put (cs := #[.int .i64 t209, .int .i64 t210, .int .i64 t211, .int .i64 0, .int .i64 0, .int .i64 0, .int .i64 0, .int .i64 0]) ?_ 3 _ rfl; (with_reducible repeat (first | refine zE ?_ _ | refine zF ?_ | refine zD ?_ _)); refine blk_put (cs := #[.int .i64 t209, .int .i64 t210, .int .i64 0, .int .i64 0, .int .i64 0, .int .i64 0, .int .i64 0, .int .i64 0]) ?_ 2 _ rfl; (with_reducible repeat (first | refine zE ?_ _ | refine zF ?_ | refine zD ?_ _)); refine blk_put (cs := #[.int .i64 t209, .int .i64 0, .int .i64 0, .int .i64 0, .int .i64 0, .int .i64 0, .int .i64 0, .int .i64 0]) ?_ 1 _ rfl; (with_reducible repeat (first | refine zE ?_ _ | refine zF ?_ | refine zD ?_ _)); refine blk_put (cs := #[.int .i64 0, .int .i64 0, .int .i64 0, .int .i64 0, .int .i64 0, .int .i64 0, .int .i64 0, .int .i64 0]) ?_ 0 _ rfl; (with_reducible repeat (first | refine zE ?_ _ | refine zF ?_ | refine zD ?_ _)); refine blk_far ?_ NB218_217.out _; (with_reducible repeat (first | refine zE ?_ _ | refine zF ?_ | refine zD ?_ _)); refine blk_far ?_ NB218_217.out _; (with_reducible repeat (first | refine zE ?_ _ | refine zF ?_ | refine zD ?_ _)); refine blk_far ?_ NB218_217.out _; (with_reducible repeat (first | refine zE ?_ _ | refine zF ?_ | refine zD ?_ _)); refine blk_far ?_ NB218_217.out _; (with_reducible repeat (first | refine zE ?_ _ | refine zF ?_ | refine zD ?_ _)); refine blk_far ?_ NB218_217.out _; (with_reducible repeat (first | refine zE ?_ _ | refine zF ?_ | refine zD ?_ _)); refine blk_far ?_ NB218_217.out _; (with_reducible repeat (first | refine zE ?_ _ | refine zF ?_ | refine zD ?_ _)); refine blk_far ?_ NB218_217.out _; (with_reducible repeat (first | refine zE ?_ _ | refine zF ?_ | refine zD ?_ _)); refine blk_far ?_ NB218_217.out _; (with_reducible repeat (first | refine zE ?_ _ | refine zF ?_ | refine zD ?_ _)); exact BK218.out) hb); have n2_ := Aside0.mk (below_step (by repeat (first | (with_reducible first | exact HB.out | apply zA | apply zB | apply zC | refine below_set ?_ GE217.out | refine below_set ?_ GE218.out) | exact HB.out)) hb); clear BK217; clear BK218; clear HB; have BK217 := n0_; have BK218 := n1_; have HB := n2_; clear n0_ n1_ n2_; (try clear hb); (try clear hb2); (try clear hk); (try clear hi)) | ((with_reducible refine gate_dst (N := 7) rfl ?_); (try (refine gate_guard (by rfl) ?_; dsimp only)); refine box_event ?hg (N := 7) ?hd (cs := #[.int .i64 0, .int .i64 0, .int .i64 0, .int .i64 0, .int .i64 0, .int .i64 0, .int .i64 0, .int .i64 0]) (t := 24) ?hr ?_; (case hd => rfl); (case hg => rfl); (case hr => first | (go_simp; done) | (go_simp; rfl)); intro gb235 hg w46 hbox hb; have n0_ := Aside0.mk (blk_below (g := gb217) (o := cs8 24 t201 t202 t203 t204 t205 t206 t207 t208) (by (with_reducible repeat (first | refine zE ?_ _ | refine zF ?_ | refine zD ?_ _)); exact BK217.out) hb); have n1_ := Aside0.mk (blk_below (g := gb218) (o := cs8 24 t209 t210 t211 t212 t213 t214 t215 t216) (by (with_reducible repeat (first | refine zE ?_ _ | refine zF ?_ | refine zD ?_ _)); exact BK218.out) hb); have n2_ := Aside0.mk (below_step (by repeat (first | (with_reducible first | exact HB.out | apply zA | apply zB | apply zC | refine below_set ?_ GE217.out | refine below_set ?_ GE218.out) | exact HB.out)) hb); have n3_ := Aside0.mk (hbox); have n4_ := Aside0.mk ((by rw [hg]; exact (zW (by repeat (first | (with_reducible first | exact HB.out | apply zA | apply zB | apply zC | refine below_set ?_ GE217.out | refine below_set ?_ GE218.out) | exact HB.out))) : w.heap.size ≤ gb235)); have n5_ := Aside0.mk ((by rw [hg]; exact (zW (by repeat (first | (with_reducible first | exact HB.out | apply zA | apply zB | apply zC | refine below_set ?_ GE217.out | refine below_set ?_ GE218.out) | exact HB.out))) : w.heap.size ≤ gb235)); have n6_ := Aside0.mk ((by rw [hg]; exact Nat.ne_of_lt (blk_lt (g := gb217) (o := cs8 24 t201 t202 t203 t204 t205 t206 t207 t208) (by (with_reducible repeat (first | refine zE ?_ _ | refine zF ?_ | refine zD ?_ _)); exact BK217.out)) : gb217 ≠ gb235)); have n7_ := Aside0.mk ((by rw [hg]; exact Nat.ne_of_gt (blk_lt (g := gb217) (o := cs8 24 t201 t202 t203 t204 t205 t206 t207 t208) (by (with_reducible repeat (first | refine zE ?_ _ | refine zF ?_ | refine zD ?_ _)); exact BK217.out)) : gb235 ≠ gb217)); have n8_ := Aside0.mk ((by rw [hg]; exact Nat.ne_of_lt (blk_lt (g := gb218) (o := cs8 24 t209 t210 t211 t212 t213 t214 t215 t216) (by (with_reducible repeat (first | refine zE ?_ _ | refine zF ?_ | refine zD ?_ _)); exact BK218.out)) : gb218 ≠ gb235)); have n9_ := Aside0.mk ((by rw [hg]; exact Nat.ne_of_gt (blk_lt (g := gb218) (o := cs8 24 t209 t210 t211 t212 t213 t214 t215 t216) (by (with_reducible repeat (first | refine zE ?_ _ | refine zF ?_ | refine zD ?_ _)); exact BK218.out)) : gb235 ≠ gb218)); clear BK217; clear BK218; clear HB; have BK217 := n0_; have BK218 := n1_; have HB := n2_; have BK235 := n3_; have GW235 := n4_; have GE235 := n5_; have NB217_235 := n6_; have NB235_217 := n7_; have NB218_235 := n8_; have NB235_218 := n9_; clear n0_ n1_ n2_ n3_ n4_ n5_ n6_ n7_ n8_ n9_; clear hb hbox hg) | ((with_reducible refine gate_dst (N := 8) rfl ?_); (try (refine gate_guard (by rfl) ?_; dsimp only)); refine box_event ?hg (N := 8) ?hd (cs := #[.int .i64 0, .int .i64 0, .int .i64 0, .int .i64 0, .int .i64 0, .int .i64 0, .int .i64 0, .int .i64 0]) (t := 24) ?hr ?_; (case hd => rfl); (case hg => rfl); (case hr => first | (go_simp; done) | (go_simp; rfl)); intro gb236 hg w47 hbox hb; have n0_ := Aside0.mk (blk_below (g := gb217) (o := cs8 24 t201 t202 t203 t204 t205 t206 t207 t208) (by (with_reducible repeat (first | refine zE ?_ _ | refine zF ?_ | refine zD ?_ _)); exact BK217.out) hb); have n1_ := Aside0.mk (blk_below (g := gb218) (o := cs8 24 t209 t210 t211 t212 t213 t214 t215 t216) (by (with_reducible repeat (first | refine zE ?_ _ | refine zF ?_ | refine zD ?_ _)); exact BK218.out) hb); have n2_ := Aside0.mk (blk_below (g := gb235) (o := cs8 24 0 0 0 0 0 0 0 0) (by (with_reducible repeat (first | refine zE ?_ _ | refine zF ?_ | refine zD ?_ _)); exact BK235.out) hb); have n3_ := Aside0.mk (below_step (by repeat (first | (with_reducible first | exact HB.out | apply zA | apply zB | apply zC | refine below_set ?_ GE217.out | refine below_set ?_ GE218.out | refine below_set ?_ GE235.out) | exact HB.out)) hb); have n4_ := Aside0.mk (hbox); have n5_ := Aside0.mk ((by rw [hg]; exact (zW (by repeat (first | (with_reducible first | exact HB.out | apply zA | apply zB | apply zC | refine below_set ?_ GE217.out | refine below_set ?_ GE218.out | refine below_set ?_ GE235.out) | exact HB.out))) : w.heap.size ≤ gb236)); have n6_ := Aside0.mk ((by rw [hg]; exact (zW (by repeat (first | (with_reducible first | exact HB.out | apply zA | apply zB | apply zC | refine below_set ?_ GE217.out | refine below_set ?_ GE218.out | refine below_set ?_ GE235.out) | exact HB.out))) : w.heap.size ≤ gb236)); have n7_ := Aside0.mk ((by rw [hg]; exact Nat.ne_of_lt (blk_lt (g := gb217) (o := cs8 24 t201 t202 t203 t204 t205 t206 t207 t208) (by (with_reducible repeat (first | refine zE ?_ _ | refine zF ?_ | refine zD ?_ _)); exact BK217.out)) : gb217 ≠ gb236)); have n8_ := Aside0.mk ((by rw [hg]; exact Nat.ne_of_gt (blk_lt (g := gb217) (o := cs8 24 t201 t202 t203 t204 t205 t206 t207 t208) (by (with_reducible repeat (first | refine zE ?_ _ | refine zF ?_ | refine zD ?_ _)); exact BK217.out)) : gb236 ≠ gb217)); have n9_ := Aside0.mk ((by rw [hg]; exact Nat.ne_of_lt (blk_lt (g := gb218) (o := cs8 24 t209 t210 t211 t212 t213 t214 t215 t216) (by (with_reducible repeat (first | refine zE ?_ _ | refine zF ?_ | refine zD ?_ _)); exact BK218.out)) : gb218 ≠ gb236)); have n10_ := Aside0.mk ((by rw [hg]; exact Nat.ne_of_gt (blk_lt (g := gb218) (o := cs8 24 t209 t210 t211 t212 t213 t214 t215 t216) (by (with_reducible repeat (first | refine zE ?_ _ | refine zF ?_ | refine zD ?_ _)); exact BK218.out)) : gb236 ≠ gb218)); have n11_ := Aside0.mk ((by rw [hg]; exact Nat.ne_of_lt (blk_lt (g := gb235) (o := cs8 24 0 0 0 0 0 0 0 0) (by (with_reducible repeat (first | refine zE ?_ _ | refine zF ?_ | refine zD ?_ _)); exact BK235.out)) : gb235 ≠ gb236)); have n12_ := Aside0.mk ((by rw [hg]; exact Nat.ne_of_gt (blk_lt (g := gb235) (o := cs8 24 0 0 0 0 0 0 0 0) (by (with_reducible repeat (first | refine zE ?_ _ | refine zF ?_ | refine zD ?_ _)); exact BK235.out)) : gb236 ≠ gb235)); clear BK217; clear BK218; clear BK235; clear HB; have BK217 := n0_; have BK218 := n1_; have BK235 := n2_; have HB := n3_; have BK236 := n4_; have GW236 := n5_; have GE236 := n6_; have NB217_236 := n7_; have NB236_217 := n8_; have NB218_236 := n9_; have NB236_218 := n10_; have NB235_236 := n11_; have NB236_235 := n12_; clear n0_ n1_ n2_ n3_ n4_ n5_ n6_ n7_ n8_ n9_ n10_ n11_ n12_; clear hb hbox hg; have hnb48 := NB235_217.out; have hnc48 := NB217_235.out; have hnb49 := NB235_218.out; have hnc49 := NB218_235.out; have hnb50 := NB235_236.out; have hnc50 := NB236_235.out; have hcz51_0 : w47.cell? ⟨gb235, 0, none⟩ = some (.int .i64 0) := (zQ BK235.out 0).trans rfl; have hcz51_1 : w47.cell? ⟨gb235, 1, none⟩ = some (.int .i64 0) := (zQ BK235.out 1).trans rfl; have hcz51_2 : w47.cell? ⟨gb235, 2, none⟩ = some (.int .i64 0) := (zQ BK235.out 2).trans rfl; have hcz51_3 : w47.cell? ⟨gb235, 3, none⟩ = some (.int .i64 0) := (zQ BK235.out 3).trans rfl; have hcz51_4 : w47.cell? ⟨gb235, 4, none⟩ = some (.int .i64 0) := (zQ BK235.out 4).trans rfl; have hcz51_5 : w47.cell? ⟨gb235, 5, none⟩ = some (.int .i64 0) := (zQ BK235.out 5).trans rfl; have hcz51_6 : w47.cell? ⟨gb235, 6, none⟩ = some (.int .i64 0) := (zQ BK235.out 6).trans rfl; have hcz51_7 : w47.cell? ⟨gb235, 7, none⟩ = some (.int .i64 0) := (zQ BK235.out 7).trans rfl; have hfz51_0 := blk_frozen BK235.out 0; have hfz51_1 := blk_frozen BK235.out 1; have hfz51_2 := blk_frozen BK235.out 2; have hfz51_3 := blk_frozen BK235.out 3; have hfz51_4 := blk_frozen BK235.out 4; have hfz51_5 := blk_frozen BK235.out 5; have hfz51_6 := blk_frozen BK235.out 6; have hfz51_7 := blk_frozen BK235.out 7; have hnb52 := NB236_217.out; have hnc52 := NB217_236.out; have hnb53 := NB236_218.out; have hnc53 := NB218_236.out; have hcz54_0 : w47.cell? ⟨gb236, 0, none⟩ = some (.int .i64 0) := (zQ BK236.out 0).trans rfl; have hcz54_1 : w47.cell? ⟨gb236, 1, none⟩ = some (.int .i64 0) := (zQ BK236.out 1).trans rfl; have hcz54_2 : w47.cell? ⟨gb236, 2, none⟩ = some (.int .i64 0) := (zQ BK236.out 2).trans rfl; have hcz54_3 : w47.cell? ⟨gb236, 3, none⟩ = some (.int .i64 0) := (zQ BK236.out 3).trans rfl; have hcz54_4 : w47.cell? ⟨gb236, 4, none⟩ = some (.int .i64 0) := (zQ BK236.out 4).trans rfl; have hcz54_5 : w47.cell? ⟨gb236, 5, none⟩ = some (.int .i64 0) := (zQ BK236.out 5).trans rfl; have hcz54_6 : w47.cell? ⟨gb236, 6, none⟩ = some (.int .i64 0) := (zQ BK236.out 6).trans rfl; have hcz54_7 : w47.cell? ⟨gb236, 7, none⟩ = some (.int .i64 0) := (zQ BK236.out 7).trans rfl; have hfz54_0 := blk_frozen BK236.out 0; have hfz54_1 := blk_frozen BK236.out 1; have hfz54_2 := blk_frozen BK236.out 2; have hfz54_3 := blk_frozen BK236.out 3; have hfz54_4 := blk_frozen BK236.out 4; have hfz54_5 := blk_frozen BK236.out 5; have hfz54_6 := blk_frozen BK236.out 6; have hfz54_7 := blk_frozen BK236.out 7))
     have n0_ : Aside0 (((((((((((((((((w47.setCell ⟨gb235, 0, none⟩ (.int .i64 t219)).setCell ⟨gb235, 1, none⟩ (.int .i64 t220)).setCell ⟨gb235, 2, none⟩ (.int .i64 t221)).setCell ⟨gb235, 3, none⟩ (.int .i64 t222)).setCell ⟨gb235, 4, none⟩ (.int .i64 t223)).setCell ⟨gb235, 5, none⟩ (.int .i64 t224)).setCell ⟨gb235, 6, none⟩ (.int .i64 t225)).setCell ⟨gb235, 7, none⟩ (.int .i64 t226)).setCell ⟨gb236, 0, none⟩ (.int .i64 t227)).setCell ⟨gb236, 1, none⟩ (.int .i64 t228)).setCell ⟨gb236, 2, none⟩ (.int .i64 t229)).setCell ⟨gb236, 3, none⟩ (.int .i64 t230)).setCell ⟨gb236, 4, none⟩ (.int .i64 t231)).setCell ⟨gb236, 5, none⟩ (.int .i64 t232)).setCell ⟨gb236, 6, none⟩ (.int .i64 t233)).setCell ⟨gb236, 7, none⟩ (.int .i64 t234)).heap[gb217]? = some (.cells #[.int .i64 t201, .int .i64 t202, .int .i64 t203, .int .i64 t204, .int .i64 t205, .int .i64 t206, .int .i64 t207, .int .i64 t208] 24 (0, 0))) := ⟨by (with_reducible repeat (first | refine zE ?_ _ | refine zF ?_ | refine zD ?_ _)); refine blk_far ?_ NB217_236.out _; (with_reducible repeat (first | refine zE ?_ _ | refine zF ?_ | refine zD ?_ _)); refine blk_far ?_ NB217_236.out _; (with_reducible repeat (first | refine zE ?_ _ | refine zF ?_ | refine zD ?_ _)); refine blk_far ?_ NB217_236.out _; (with_reducible repeat (first | refine zE ?_ _ | refine zF ?_ | refine zD ?_ _)); refine blk_far ?_ NB217_236.out _; (with_reducible repeat (first | refine zE ?_ _ | refine zF ?_ | refine zD ?_ _)); refine blk_far ?_ NB217_236.out _; (with_reducible repeat (first | refine zE ?_ _ | refine zF ?_ | refine zD ?_ _)); refine blk_far ?_ NB217_236.out _; (with_reducible repeat (first | refine zE ?_ _ | refine zF ?_ | refine zD ?_ _)); refine blk_far ?_ NB217_236.out _; (with_reducible repeat (first | refine zE ?_ _ | refine zF ?_ | refine zD ?_ _)); refine blk_far ?_ NB217_236.out _; (with_reducible repeat (first | refine zE ?_ _ | refine zF ?_ | refine zD ?_ _)); refine blk_far ?_ NB217_235.out _; (with_reducible repeat (first | refine zE ?_ _ | refine zF ?_ | refine zD ?_ _)); refine blk_far ?_ NB217_235.out _; (with_reducible repeat (first | refine zE ?_ _ | refine zF ?_ | refine zD ?_ _)); refine blk_far ?_ NB217_235.out _; (with_reducible repeat (first | refine zE ?_ _ | refine zF ?_ | refine zD ?_ _)); refine blk_far ?_ NB217_235.out _; (with_reducible repeat (first | refine zE ?_ _ | refine zF ?_ | refine zD ?_ _)); refine blk_far ?_ NB217_235.out _; (with_reducible repeat (first | refine zE ?_ _ | refine zF ?_ | refine zD ?_ _)); refine blk_far ?_ NB217_235.out _; (with_reducible repeat (first | refine zE ?_ _ | refine zF ?_ | refine zD ?_ _)); refine blk_far ?_ NB217_235.out _; (with_reducible repeat (first | refine zE ?_ _ | refine zF ?_ | refine zD ?_ _)); refine blk_far ?_ NB217_235.out _; (with_reducible repeat (first | refine zE ?_ _ | refine zF ?_ | refine zD ?_ _)); exact BK217.out⟩
     have n1_ : Aside0 (((((((((((((((((w47.setCell ⟨gb235, 0, none⟩ (.int .i64 t219)).setCell ⟨gb235, 1, none⟩ (.int .i64 t220)).setCell ⟨gb235, 2, none⟩ (.int .i64 t221)).setCell ⟨gb235, 3, none⟩ (.int .i64 t222)).setCell ⟨gb235, 4, none⟩ (.int .i64 t223)).setCell ⟨gb235, 5, none⟩ (.int .i64 t224)).setCell ⟨gb235, 6, none⟩ (.int .i64 t225)).setCell ⟨gb235, 7, none⟩ (.int .i64 t226)).setCell ⟨gb236, 0, none⟩ (.int .i64 t227)).setCell ⟨gb236, 1, none⟩ (.int .i64 t228)).setCell ⟨gb236, 2, none⟩ (.int .i64 t229)).setCell ⟨gb236, 3, none⟩ (.int .i64 t230)).setCell ⟨gb236, 4, none⟩ (.int .i64 t231)).setCell ⟨gb236, 5, none⟩ (.int .i64 t232)).setCell ⟨gb236, 6, none⟩ (.int .i64 t233)).setCell ⟨gb236, 7, none⟩ (.int .i64 t234)).heap[gb218]? = some (.cells #[.int .i64 t209, .int .i64 t210, .int .i64 t211, .int .i64 t212, .int .i64 t213, .int .i64 t214, .int .i64 t215, .int .i64 t216] 24 (0, 0))) := ⟨by (with_reducible repeat (first | refine zE ?_ _ | refine zF ?_ | refine zD ?_ _)); refine blk_far ?_ NB218_236.out _; (with_reducible repeat (first | refine zE ?_ _ | refine zF ?_ | refine zD ?_ _)); refine blk_far ?_ NB218_236.out _; (with_reducible repeat (first | refine zE ?_ _ | refine zF ?_ | refine zD ?_ _)); refine blk_far ?_ NB218_236.out _; (with_reducible repeat (first | refine zE ?_ _ | refine zF ?_ | refine zD ?_ _)); refine blk_far ?_ NB218_236.out _; (with_reducible repeat (first | refine zE ?_ _ | refine zF ?_ | refine zD ?_ _)); refine blk_far ?_ NB218_236.out _; (with_reducible repeat (first | refine zE ?_ _ | refine zF ?_ | refine zD ?_ _)); refine blk_far ?_ NB218_236.out _; (with_reducible repeat (first | refine zE ?_ _ | refine zF ?_ | refine zD ?_ _)); refine blk_far ?_ NB218_236.out _; (with_reducible repeat (first | refine zE ?_ _ | refine zF ?_ | refine zD ?_ _)); refine blk_far ?_ NB218_236.out _; (with_reducible repeat (first | refine zE ?_ _ | refine zF ?_ | refine zD ?_ _)); refine blk_far ?_ NB218_235.out _; (with_reducible repeat (first | refine zE ?_ _ | refine zF ?_ | refine zD ?_ _)); refine blk_far ?_ NB218_235.out _; (with_reducible repeat (first | refine zE ?_ _ | refine zF ?_ | refine zD ?_ _)); refine blk_far ?_ NB218_235.out _; (with_reducible repeat (first | refine zE ?_ _ | refine zF ?_ | refine zD ?_ _)); refine blk_far ?_ NB218_235.out _; (with_reducible repeat (first | refine zE ?_ _ | refine zF ?_ | refine zD ?_ _)); refine blk_far ?_ NB218_235.out _; (with_reducible repeat (first | refine zE ?_ _ | refine zF ?_ | refine zD ?_ _)); refine blk_far ?_ NB218_235.out _; (with_reducible repeat (first | refine zE ?_ _ | refine zF ?_ | refine zD ?_ _)); refine blk_far ?_ NB218_235.out _; (with_reducible repeat (first | refine zE ?_ _ | refine zF ?_ | refine zD ?_ _)); refine blk_far ?_ NB218_235.out _; (with_reducible repeat (first | refine zE ?_ _ | refine zF ?_ | refine zD ?_ _)); exact BK218.out⟩
     have n2_ : Aside0 (((((((((((((((((w47.setCell ⟨gb235, 0, none⟩ (.int .i64 t219)).setCell ⟨gb235, 1, none⟩ (.int .i64 t220)).setCell ⟨gb235, 2, none⟩ (.int .i64 t221)).setCell ⟨gb235, 3, none⟩ (.int .i64 t222)).setCell ⟨gb235, 4, none⟩ (.int .i64 t223)).setCell ⟨gb235, 5, none⟩ (.int .i64 t224)).setCell ⟨gb235, 6, none⟩ (.int .i64 t225)).setCell ⟨gb235, 7, none⟩ (.int .i64 t226)).setCell ⟨gb236, 0, none⟩ (.int .i64 t227)).setCell ⟨gb236, 1, none⟩ (.int .i64 t228)).setCell ⟨gb236, 2, none⟩ (.int .i64 t229)).setCell ⟨gb236, 3, none⟩ (.int .i64 t230)).setCell ⟨gb236, 4, none⟩ (.int .i64 t231)).setCell ⟨gb236, 5, none⟩ (.int .i64 t232)).setCell ⟨gb236, 6, none⟩ (.int .i64 t233)).setCell ⟨gb236, 7, none⟩ (.int .i64 t234)).heap[gb235]? = some (.cells #[.int .i64 t219, .int .i64 t220, .int .i64 t221, .int .i64 t222, .int .i64 t223, .int .i64 t224, .int .i64 t225, .int .i64 t226] 24 (0, 0))) := ⟨by (with_reducible repeat (first | refine zE ?_ _ | refine zF ?_ | refine zD ?_ _)); refine blk_far ?_ NB235_236.out _; (with_reducible repeat (first | refine zE ?_ _ | refine zF ?_ | refine zD ?_ _)); refine blk_far ?_ NB235_236.out _; (with_reducible repeat (first | refine zE ?_ _ | refine zF ?_ | refine zD ?_ _)); refine blk_far ?_ NB235_236.out _; (with_reducible repeat (first | refine zE ?_ _ | refine zF ?_ | refine zD ?_ _)); refine blk_far ?_ NB235_236.out _; (with_reducible repeat (first | refine zE ?_ _ | refine zF ?_ | refine zD ?_ _)); refine blk_far ?_ NB235_236.out _; (with_reducible repeat (first | refine zE ?_ _ | refine zF ?_ | refine zD ?_ _)); refine blk_far ?_ NB235_236.out _; (with_reducible repeat (first | refine zE ?_ _ | refine zF ?_ | refine zD ?_ _)); refine blk_far ?_ NB235_236.out _; (with_reducible repeat (first | refine zE ?_ _ | refine zF ?_ | refine zD ?_ _)); refine blk_far ?_ NB235_236.out _; (with_reducible repeat (first | refine zE ?_ _ | refine zF ?_ | refine zD ?_ _)); refine blk_put (cs := #[.int .i64 t219, .int .i64 t220, .int .i64 t221, .int .i64 t222, .int .i64 t223, .int .i64 t224, .int .i64 t225, .int .i64 0]) ?_ 7 _ rfl; (with_reducible repeat (first | refine zE ?_ _ | refine zF ?_ | refine zD ?_ _)); refine blk_put (cs := #[.int .i64 t219, .int .i64 t220, .int .i64 t221, .int .i64 t222, .int .i64 t223, .int .i64 t224, .int .i64 0, .int .i64 0]) ?_ 6 _ rfl; (with_reducible repeat (first | refine zE ?_ _ | refine zF ?_ | refine zD ?_ _)); refine blk_put (cs := #[.int .i64 t219, .int .i64 t220, .int .i64 t221, .int .i64 t222, .int .i64 t223, .int .i64 0, .int .i64 0, .int .i64 0]) ?_ 5 _ rfl; (with_reducible repeat (first | refine zE ?_ _ | refine zF ?_ | refine zD ?_ _)); refine blk_put (cs := #[.int .i64 t219, .int .i64 t220, .int .i64 t221, .int .i64 t222, .int .i64 0, .int .i64 0, .int .i64 0, .int .i64 0]) ?_ 4 _ rfl; (with_reducible repeat (first | refine zE ?_ _ | refine zF ?_ | refine zD ?_ _)); refine blk_put (cs := #[.int .i64 t219, .int .i64 t220, .int .i64 t221, .int .i64 0, .int .i64 0, .int .i64 0, .int .i64 0, .int .i64 0]) ?_ 3 _ rfl; (with_reducible repeat (first | refine zE ?_ _ | refine zF ?_ | refine zD ?_ _)); refine blk_put (cs := #[.int .i64 t219, .int .i64 t220, .int .i64 0, .int .i64 0, .int .i64 0, .int .i64 0, .int .i64 0, .int .i64 0]) ?_ 2 _ rfl; (with_reducible repeat (first | refine zE ?_ _ | refine zF ?_ | refine zD ?_ _)); refine blk_put (cs := #[.int .i64 t219, .int .i64 0, .int .i64 0, .int .i64 0, .int .i64 0, .int .i64 0, .int .i64 0, .int .i64 0]) ?_ 1 _ rfl; (with_reducible repeat (first | refine zE ?_ _ | refine zF ?_ | refine zD ?_ _)); refine blk_put (cs := #[.int .i64 0, .int .i64 0, .int .i64 0, .int .i64 0, .int .i64 0, .int .i64 0, .int .i64 0, .int .i64 0]) ?_ 0 _ rfl; (with_reducible repeat (first | refine zE ?_ _ | refine zF ?_ | refine zD ?_ _)); exact BK235.out⟩
     have n3_ : Aside0 (((((((((((((((((w47.setCell ⟨gb235, 0, none⟩ (.int .i64 t219)).setCell ⟨gb235, 1, none⟩ (.int .i64 t220)).setCell ⟨gb235, 2, none⟩ (.int .i64 t221)).setCell ⟨gb235, 3, none⟩ (.int .i64 t222)).setCell ⟨gb235, 4, none⟩ (.int .i64 t223)).setCell ⟨gb235, 5, none⟩ (.int .i64 t224)).setCell ⟨gb235, 6, none⟩ (.int .i64 t225)).setCell ⟨gb235, 7, none⟩ (.int .i64 t226)).setCell ⟨gb236, 0, none⟩ (.int .i64 t227)).setCell ⟨gb236, 1, none⟩ (.int .i64 t228)).setCell ⟨gb236, 2, none⟩ (.int .i64 t229)).setCell ⟨gb236, 3, none⟩ (.int .i64 t230)).setCell ⟨gb236, 4, none⟩ (.int .i64 t231)).setCell ⟨gb236, 5, none⟩ (.int .i64 t232)).setCell ⟨gb236, 6, none⟩ (.int .i64 t233)).setCell ⟨gb236, 7, none⟩ (.int .i64 t234)).heap[gb236]? = some (.cells #[.int .i64 t227, .int .i64 t228, .int .i64 t229, .int .i64 t230, .int .i64 t231, .int .i64 t232, .int .i64 t233, .int .i64 t234] 24 (0, 0))) := ⟨by (with_reducible repeat (first | refine zE ?_ _ | refine zF ?_ | refine zD ?_ _)); refine blk_put (cs := #[.int .i64 t227, .int .i64 t228, .int .i64 t229, .int .i64 t230, .int .i64 t231, .int .i64 t232, .int .i64 t233, .int .i64 0]) ?_ 7 _ rfl; (with_reducible repeat (first | refine zE ?_ _ | refine zF ?_ | refine zD ?_ _)); refine blk_put (cs := #[.int .i64 t227, .int .i64 t228, .int .i64 t229, .int .i64 t230, .int .i64 t231, .int .i64 t232, .int .i64 0, .int .i64 0]) ?_ 6 _ rfl; (with_reducible repeat (first | refine zE ?_ _ | refine zF ?_ | refine zD ?_ _)); refine blk_put (cs := #[.int .i64 t227, .int .i64 t228, .int .i64 t229, .int .i64 t230, .int .i64 t231, .int .i64 0, .int .i64 0, .int .i64 0]) ?_ 5 _ rfl; (with_reducible repeat (first | refine zE ?_ _ | refine zF ?_ | refine zD ?_ _)); refine blk_put (cs := #[.int .i64 t227, .int .i64 t228, .int .i64 t229, .int .i64 t230, .int .i64 0, .int .i64 0, .int .i64 0, .int .i64 0]) ?_ 4 _ rfl; (with_reducible repeat (first | refine zE ?_ _ | refine zF ?_ | refine zD ?_ _)); refine blk_put (cs := #[.int .i64 t227, .int .i64 t228, .int .i64 t229, .int .i64 0, .int .i64 0, .int .i64 0, .int .i64 0, .int .i64 0]) ?_ 3 _ rfl; (with_reducible repeat (first | refine zE ?_ _ | refine zF ?_ | refine zD ?_ _)); refine blk_put (cs := #[.int .i64 t227, .int .i64 t228, .int .i64 0, .int .i64 0, .int .i64 0, .int .i64 0, .int .i64 0, .int .i64 0]) ?_ 2 _ rfl; (with_reducible repeat (first | refine zE ?_ _ | refine zF ?_ | refine zD ?_ _)); refine blk_put (cs := #[.int .i64 t227, .int .i64 0, .int .i64 0, .int .i64 0, .int .i64 0, .int .i64 0, .int .i64 0, .int .i64 0]) ?_ 1 _ rfl; (with_reducible repeat (first | refine zE ?_ _ | refine zF ?_ | refine zD ?_ _)); refine blk_put (cs := #[.int .i64 0, .int .i64 0, .int .i64 0, .int .i64 0, .int .i64 0, .int .i64 0, .int .i64 0, .int .i64 0]) ?_ 0 _ rfl; (with_reducible repeat (first | refine zE ?_ _ | refine zF ?_ | refine zD ?_ _)); refine blk_far ?_ NB236_235.out _; (with_reducible repeat (first | refine zE ?_ _ | refine zF ?_ | refine zD ?_ _)); refine blk_far ?_ NB236_235.out _; (with_reducible repeat (first | refine zE ?_ _ | refine zF ?_ | refine zD ?_ _)); refine blk_far ?_ NB236_235.out _; (with_reducible repeat (first | refine zE ?_ _ | refine zF ?_ | refine zD ?_ _)); refine blk_far ?_ NB236_235.out _; (with_reducible repeat (first | refine zE ?_ _ | refine zF ?_ | refine zD ?_ _)); refine blk_far ?_ NB236_235.out _; (with_reducible repeat (first | refine zE ?_ _ | refine zF ?_ | refine zD ?_ _)); refine blk_far ?_ NB236_235.out _; (with_reducible repeat (first | refine zE ?_ _ | refine zF ?_ | refine zD ?_ _)); refine blk_far ?_ NB236_235.out _; (with_reducible repeat (first | refine zE ?_ _ | refine zF ?_ | refine zD ?_ _)); refine blk_far ?_ NB236_235.out _; (with_reducible repeat (first | refine zE ?_ _ | refine zF ?_ | refine zD ?_ _)); exact BK236.out⟩
     have n4_ : Aside0 (Below w.heap.size w ((((((((((((((((w47.setCell ⟨gb235, 0, none⟩ (.int .i64 t219)).setCell ⟨gb235, 1, none⟩ (.int .i64 t220)).setCell ⟨gb235, 2, none⟩ (.int .i64 t221)).setCell ⟨gb235, 3, none⟩ (.int .i64 t222)).setCell ⟨gb235, 4, none⟩ (.int .i64 t223)).setCell ⟨gb235, 5, none⟩ (.int .i64 t224)).setCell ⟨gb235, 6, none⟩ (.int .i64 t225)).setCell ⟨gb235, 7, none⟩ (.int .i64 t226)).setCell ⟨gb236, 0, none⟩ (.int .i64 t227)).setCell ⟨gb236, 1, none⟩ (.int .i64 t228)).setCell ⟨gb236, 2, none⟩ (.int .i64 t229)).setCell ⟨gb236, 3, none⟩ (.int .i64 t230)).setCell ⟨gb236, 4, none⟩ (.int .i64 t231)).setCell ⟨gb236, 5, none⟩ (.int .i64 t232)).setCell ⟨gb236, 6, none⟩ (.int .i64 t233)).setCell ⟨gb236, 7, none⟩ (.int .i64 t234))) := ⟨by repeat (first | (with_reducible first | exact HB.out | apply zA | apply zB | apply zC | refine below_set ?_ GE217.out | refine below_set ?_ GE218.out | refine below_set ?_ GE235.out | refine below_set ?_ GE236.out) | exact HB.out)⟩
     (try clear BK217)
     (try clear BK218)
     (try clear BK235)
     (try clear BK236)
     (try clear HB)
     generalize ((((((((((((((((w47.setCell ⟨gb235, 0, none⟩ (.int .i64 t219)).setCell ⟨gb235, 1, none⟩ (.int .i64 t220)).setCell ⟨gb235, 2, none⟩ (.int .i64 t221)).setCell ⟨gb235, 3, none⟩ (.int .i64 t222)).setCell ⟨gb235, 4, none⟩ (.int .i64 t223)).setCell ⟨gb235, 5, none⟩ (.int .i64 t224)).setCell ⟨gb235, 6, none⟩ (.int .i64 t225)).setCell ⟨gb235, 7, none⟩ (.int .i64 t226)).setCell ⟨gb236, 0, none⟩ (.int .i64 t227)).setCell ⟨gb236, 1, none⟩ (.int .i64 t228)).setCell ⟨gb236, 2, none⟩ (.int .i64 t229)).setCell ⟨gb236, 3, none⟩ (.int .i64 t230)).setCell ⟨gb236, 4, none⟩ (.int .i64 t231)).setCell ⟨gb236, 5, none⟩ (.int .i64 t232)).setCell ⟨gb236, 6, none⟩ (.int .i64 t233)).setCell ⟨gb236, 7, none⟩ (.int .i64 t234)) = w55 at n0_ n1_ n2_ n3_ n4_ ⊢
     have BK217 := n0_
     have BK218 := n1_
     have BK235 := n2_
     have BK236 := n3_
     have HB := n4_
     clear n0_ n1_ n2_ n3_ n4_
     have n0_ := Aside0.mk (zF BK217.out)
     have n1_ := Aside0.mk (zF BK218.out)
     have n2_ := Aside0.mk (zF BK235.out)
     have n3_ := Aside0.mk (zF BK236.out)
     have n4_ := Aside0.mk (zC HB.out)
     clear BK217
     clear BK218
     clear BK235
     clear BK236
     clear HB
     have BK217 := n0_
     have BK218 := n1_
     have BK235 := n2_
     have BK236 := n3_
     have HB := n4_
     clear n0_ n1_ n2_ n3_ n4_
     refine start_ (n := 21) (S := fun w' => w'.cell? ⟨gb217, 0, none⟩ = some (.int .i64 t201) ∧ w'.cell? ⟨gb217, 1, none⟩ = some (.int .i64 t202) ∧ w'.cell? ⟨gb217, 2, none⟩ = some (.int .i64 t203) ∧ w'.cell? ⟨gb217, 3, none⟩ = some (.int .i64 t204) ∧ w'.cell? ⟨gb217, 4, none⟩ = some (.int .i64 t205) ∧ w'.cell? ⟨gb217, 5, none⟩ = some (.int .i64 t206) ∧ w'.cell? ⟨gb217, 6, none⟩ = some (.int .i64 t207) ∧ w'.cell? ⟨gb217, 7, none⟩ = some (.int .i64 t208) ∧ w'.cell? ⟨gb218, 0, none⟩ = some (.int .i64 t209) ∧ w'.cell? ⟨gb218, 1, none⟩ = some (.int .i64 t210) ∧ w'.cell? ⟨gb218, 2, none⟩ = some (.int .i64 t211) ∧ w'.cell? ⟨gb218, 3, none⟩ = some (.int .i64 t212) ∧ w'.cell? ⟨gb218, 4, none⟩ = some (.int .i64 t213) ∧ w'.cell? ⟨gb218, 5, none⟩ = some (.int .i64 t214) ∧ w'.cell? ⟨gb218, 6, none⟩ = some (.int .i64 t215) ∧ w'.cell? ⟨gb218, 7, none⟩ = some (.int .i64 t216)) (ds := []) #[false, false, false, false, false, false, false, false, false, false, false, false, false, false, false, false, false, false, false, false, false] (by kernel_rfl) rfl rfl ⟨(zQ BK217.out 0).trans rfl, (zQ BK217.out 1).trans rfl, (zQ BK217.out 2).trans rfl, (zQ BK217.out 3).trans rfl, (zQ BK217.out 4).trans rfl, (zQ BK217.out 5).trans rfl, (zQ BK217.out 6).trans rfl, (zQ BK217.out 7).trans rfl, (zQ BK218.out 0).trans rfl, (zQ BK218.out 1).trans rfl, (zQ BK218.out 2).trans rfl, (zQ BK218.out 3).trans rfl, (zQ BK218.out 4).trans rfl, (zQ BK218.out 5).trans rfl, (zQ BK218.out 6).trans rfl, (zQ BK218.out 7).trans rfl⟩ (fun hHeld => ?_); refine with_tabW laws_FnAggs.tab5 laws_FnAggs.bits5 (fun HT_ HW_ => ?_)
     generalize w55.drew = w56 at BK217 BK218 BK235 BK236 HB hHeld ⊢
     refine take_ (i := 0) (N := some 27) (v := ?_) (a' := ?_) #[true, false, false, false, false, false, false, false, false, false, false, false, false, false, false, false, false, false, false, false, false] rfl rfl (take_ofW HT_.out HW_.out (by kernel_rfl)) (fun _ _ _ h => h) (Or.inl ⟨by rfl, ?_⟩) hHeld ?_ ?_
     rotate_left
     ·rintro w' ⟨s0, s1, s2, s3, s4, s5, s6, s7, s8, s9, s10, s11, s12, s13, s14, s15⟩
      go_simp
      with_reducible rfl
     rotate_left
     ·simp only [Act.put, zT, zU, zV, i64_w, i32_w]
      rfl
     refine take_ (i := 1) (N := some 28) (v := ?_) (a' := ?_) #[true, true, false, false, false, false, false, false, false, false, false, false, false, false, false, false, false, false, false, false, false] rfl rfl (take_ofW HT_.out HW_.out (by kernel_rfl)) (fun _ _ _ h => h) (Or.inl ⟨by rfl, ?_⟩) hHeld ?_ ?_
     rotate_left
     ·rintro w' ⟨s0, s1, s2, s3, s4, s5, s6, s7, s8, s9, s10, s11, s12, s13, s14, s15⟩
      go_simp
      with_reducible rfl
     rotate_left
     ·simp only [Act.put, zT, zU, zV, i64_w, i32_w]
      rfl
     refine take_ (i := 3) (N := some 30) (v := ?_) (a' := ?_) #[true, true, false, true, false, false, false, false, false, false, false, false, false, false, false, false, false, false, false, false, false] rfl rfl (take_ofW HT_.out HW_.out (by kernel_rfl)) (fun _ _ _ h => h) (Or.inl ⟨by rfl, ?_⟩) hHeld ?_ ?_
     rotate_left
     ·rintro w' ⟨s0, s1, s2, s3, s4, s5, s6, s7, s8, s9, s10, s11, s12, s13, s14, s15⟩
      go_simp
      with_reducible rfl
     rotate_left
     ·simp only [Act.put, zT, zU, zV, i64_w, i32_w]
      rfl
     refine take_ (i := 4) (N := some 31) (v := ?_) (a' := ?_) #[true, true, false, true, true, false, false, false, false, false, false, false, false, false, false, false, false, false, false, false, false] rfl rfl (take_ofW HT_.out HW_.out (by kernel_rfl)) (fun _ _ _ h => h) (Or.inl ⟨by rfl, ?_⟩) hHeld ?_ ?_
     rotate_left
     ·rintro w' ⟨s0, s1, s2, s3, s4, s5, s6, s7, s8, s9, s10, s11, s12, s13, s14, s15⟩
      go_simp
      with_reducible rfl
     rotate_left
     ·simp only [Act.put, zT, zU, zV, i64_w, i32_w]
      rfl
     refine one_ (i := 2) (N := some 29) #[true, true, true, true, true, false, false, false, false, false, false, false, false, false, false, false, false, false, false, false, false] rfl rfl (one_of HT_.out (by kernel_rfl)) (by decide) (fun K hK => ?_)
     refine goes_ Try.func10 (by kernel_rfl) rfl #[.agg #[.int .i64 t201, .int .i64 t202, .int .i64 t203, .int .i64 t204, .int .i64 t205, .int .i64 t206, .int .i64 t207, .int .i64 t208], .agg #[.int .i64 t209, .int .i64 t210, .int .i64 t211, .int .i64 t212, .int .i64 t213, .int .i64 t214, .int .i64 t215, .int .i64 t216]] (by rfl) rfl rfl (by (try simp only [List.map_toArray, List.map_cons, List.map_nil]); first | done | rfl | (simp only [List.length_drop, List.length_take]; rfl)) ?_
     with_reducible refine (impl_MergeAgg.calls t201 t202 t203 t204 t205 t206 t207 t208 t209 t210 t211 t212 t213 t214 t215 t216 t237 t238 t239 t240 t241 t242 t243 t244 _ A8.out).mono ?_
     rintro e w57 ⟨rfl, hb⟩
     refine ⟨_, rfl, ?_⟩
     have n0_ := Aside0.mk (blk_below (g := gb217) (o := cs8 24 t201 t202 t203 t204 t205 t206 t207 t208) (by (with_reducible repeat (first | refine zE ?_ _ | refine zF ?_ | refine zD ?_ _)); exact BK217.out) hb)
     have n1_ := Aside0.mk (blk_below (g := gb218) (o := cs8 24 t209 t210 t211 t212 t213 t214 t215 t216) (by (with_reducible repeat (first | refine zE ?_ _ | refine zF ?_ | refine zD ?_ _)); exact BK218.out) hb)
     have n2_ := Aside0.mk (blk_below (g := gb235) (o := cs8 24 t219 t220 t221 t222 t223 t224 t225 t226) (by (with_reducible repeat (first | refine zE ?_ _ | refine zF ?_ | refine zD ?_ _)); exact BK235.out) hb)
     have n3_ := Aside0.mk (blk_below (g := gb236) (o := cs8 24 t227 t228 t229 t230 t231 t232 t233 t234) (by (with_reducible repeat (first | refine zE ?_ _ | refine zF ?_ | refine zD ?_ _)); exact BK236.out) hb)
     have n4_ := Aside0.mk (below_step (by repeat (first | (with_reducible first | exact HB.out | apply zA | apply zB | apply zC | refine below_set ?_ GE217.out | refine below_set ?_ GE218.out | refine below_set ?_ GE235.out | refine below_set ?_ GE236.out) | exact HB.out)) hb)
     clear BK217
     clear BK218
     clear BK235
     clear BK236
     clear HB
     have BK217 := n0_
     have BK218 := n1_
     have BK235 := n2_
     have BK236 := n3_
     have HB := n4_
     clear n0_ n1_ n2_ n3_ n4_
     (try clear hb)
     (try clear hb2)
     (try clear hk)
     (try clear hi)
     refine hK.out _ _ ⟨(zQ BK217.out 0).trans rfl, (zQ BK217.out 1).trans rfl, (zQ BK217.out 2).trans rfl, (zQ BK217.out 3).trans rfl, (zQ BK217.out 4).trans rfl, (zQ BK217.out 5).trans rfl, (zQ BK217.out 6).trans rfl, (zQ BK217.out 7).trans rfl, (zQ BK218.out 0).trans rfl, (zQ BK218.out 1).trans rfl, (zQ BK218.out 2).trans rfl, (zQ BK218.out 3).trans rfl, (zQ BK218.out 4).trans rfl, (zQ BK218.out 5).trans rfl, (zQ BK218.out 6).trans rfl, (zQ BK218.out 7).trans rfl⟩ (fun hHeld => ?_)
     clear hK K
     refine norm_ (a' := ?_) ?_ ?_
     rotate_left
     ·show Act.put _ (some 29) _ = _
      simp only [Act.put, zT, zU, zV, i64_w, i32_w]
      rfl
     refine one_ (i := 5) (N := some 32) #[true, true, true, true, true, true, false, false, false, false, false, false, false, false, false, false, false, false, false, false, false] rfl rfl (one_of HT_.out (by kernel_rfl)) (by decide) (fun K hK => ?_)
     refine goes_ Try.func11 (by kernel_rfl) rfl #[.agg #[.int .i64 t201, .int .i64 t202, .int .i64 t203, .int .i64 t204, .int .i64 t205, .int .i64 t206, .int .i64 t207, .int .i64 t208], .agg #[.int .i64 t209, .int .i64 t210, .int .i64 t211, .int .i64 t212, .int .i64 t213, .int .i64 t214, .int .i64 t215, .int .i64 t216]] (by rfl) rfl rfl (by (try simp only [List.map_toArray, List.map_cons, List.map_nil]); first | done | rfl | (simp only [List.length_drop, List.length_take]; rfl)) ?_
     with_reducible refine (spec_MergeAgg.calls kj2 t201 t202 t203 t204 t205 t206 t207 t208 t209 t210 t211 t212 t213 t214 t215 t216 t245 t246 t247 t248 t249 t250 t251 t252 _ A9.out).mono ?_
     rintro e w58 ⟨rfl, hb⟩
     refine ⟨_, rfl, ?_⟩
     have n0_ := Aside0.mk (blk_below (g := gb217) (o := cs8 24 t201 t202 t203 t204 t205 t206 t207 t208) (by (with_reducible repeat (first | refine zE ?_ _ | refine zF ?_ | refine zD ?_ _)); exact BK217.out) hb)
     have n1_ := Aside0.mk (blk_below (g := gb218) (o := cs8 24 t209 t210 t211 t212 t213 t214 t215 t216) (by (with_reducible repeat (first | refine zE ?_ _ | refine zF ?_ | refine zD ?_ _)); exact BK218.out) hb)
     have n2_ := Aside0.mk (blk_below (g := gb235) (o := cs8 24 t219 t220 t221 t222 t223 t224 t225 t226) (by (with_reducible repeat (first | refine zE ?_ _ | refine zF ?_ | refine zD ?_ _)); exact BK235.out) hb)
     have n3_ := Aside0.mk (blk_below (g := gb236) (o := cs8 24 t227 t228 t229 t230 t231 t232 t233 t234) (by (with_reducible repeat (first | refine zE ?_ _ | refine zF ?_ | refine zD ?_ _)); exact BK236.out) hb)
     have n4_ := Aside0.mk (below_step (by repeat (first | (with_reducible first | exact HB.out | apply zA | apply zB | apply zC | refine below_set ?_ GE217.out | refine below_set ?_ GE218.out | refine below_set ?_ GE235.out | refine below_set ?_ GE236.out) | exact HB.out)) hb)
     clear BK217
     clear BK218
     clear BK235
     clear BK236
     clear HB
     have BK217 := n0_
     have BK218 := n1_
     have BK235 := n2_
     have BK236 := n3_
     have HB := n4_
     clear n0_ n1_ n2_ n3_ n4_
     (try clear hb)
     (try clear hb2)
     (try clear hk)
     (try clear hi)
     refine hK.out _ _ ⟨(zQ BK217.out 0).trans rfl, (zQ BK217.out 1).trans rfl, (zQ BK217.out 2).trans rfl, (zQ BK217.out 3).trans rfl, (zQ BK217.out 4).trans rfl, (zQ BK217.out 5).trans rfl, (zQ BK217.out 6).trans rfl, (zQ BK217.out 7).trans rfl, (zQ BK218.out 0).trans rfl, (zQ BK218.out 1).trans rfl, (zQ BK218.out 2).trans rfl, (zQ BK218.out 3).trans rfl, (zQ BK218.out 4).trans rfl, (zQ BK218.out 5).trans rfl, (zQ BK218.out 6).trans rfl, (zQ BK218.out 7).trans rfl⟩ (fun hHeld => ?_)
     clear hK K
     refine norm_ (a' := ?_) ?_ ?_
     rotate_left
     ·show Act.put _ (some 32) _ = _
      simp only [Act.put, zT, zU, zV, i64_w, i32_w]
      rfl
     refine pure_ (i := 6) (N := some 33) (v := ?_) (a' := ?_) #[true, true, true, true, true, true, true, false, false, false, false, false, false, false, false, false, false, false, false, false, false] rfl rfl (any_of HT_.out (by kernel_rfl)) (fun _ _ _ h => h) (Or.inl ⟨by rfl, ?_⟩) ?_ ?_
     rotate_left
     ·intro w'
      go_simp
      with_reducible rfl
     rotate_left
     ·simp only [Act.put, zT, zU, zV, i64_w, i32_w]
      rfl
     refine pure_ (i := 7) (N := some 34) (v := ?_) (a' := ?_) #[true, true, true, true, true, true, true, true, false, false, false, false, false, false, false, false, false, false, false, false, false] rfl rfl (any_of HT_.out (by kernel_rfl)) (fun _ _ _ h => h) (Or.inl ⟨by rfl, ?_⟩) ?_ ?_
     rotate_left
     ·intro w'
      go_simp
      with_reducible rfl
     rotate_left
     ·simp only [Act.put, zT, zU, zV, i64_w, i32_w]
      rfl
     refine pure_ (i := 8) (N := some 35) (v := undef) (a' := ?_) #[true, true, true, true, true, true, true, true, true, false, false, false, false, false, false, false, false, false, false, false, false] rfl rfl (any_of HT_.out (by kernel_rfl)) (fun _ _ _ h => h) (Or.inr ⟨by rfl, rfl⟩) ?_ ?_
     rotate_left
     ·simp only [Act.put, zT, zU, zV, i64_w, i32_w]
      rfl
     refine pure_ (i := 9) (N := some 36) (v := undef) (a' := ?_) #[true, true, true, true, true, true, true, true, true, true, false, false, false, false, false, false, false, false, false, false, false] rfl rfl (any_of HT_.out (by kernel_rfl)) (fun _ _ _ h => h) (Or.inr ⟨by rfl, rfl⟩) ?_ ?_
     rotate_left
     ·simp only [Act.put, zT, zU, zV, i64_w, i32_w]
      rfl
     refine pure_ (i := 10) (N := some 37) (v := undef) (a' := ?_) #[true, true, true, true, true, true, true, true, true, true, true, false, false, false, false, false, false, false, false, false, false] rfl rfl (any_of HT_.out (by kernel_rfl)) (fun _ _ _ h => h) (Or.inr ⟨by rfl, rfl⟩) ?_ ?_
     rotate_left
     ·simp only [Act.put, zT, zU, zV, i64_w, i32_w]
      rfl
     refine pure_ (i := 11) (N := some 38) (v := undef) (a' := ?_) #[true, true, true, true, true, true, true, true, true, true, true, true, false, false, false, false, false, false, false, false, false] rfl rfl (any_of HT_.out (by kernel_rfl)) (fun _ _ _ h => h) (Or.inr ⟨by rfl, rfl⟩) ?_ ?_
     rotate_left
     ·simp only [Act.put, zT, zU, zV, i64_w, i32_w]
      rfl
     refine pure_ (i := 12) (N := some 39) (v := undef) (a' := ?_) #[true, true, true, true, true, true, true, true, true, true, true, true, true, false, false, false, false, false, false, false, false] rfl rfl (any_of HT_.out (by kernel_rfl)) (fun _ _ _ h => h) (Or.inr ⟨by rfl, rfl⟩) ?_ ?_
     rotate_left
     ·simp only [Act.put, zT, zU, zV, i64_w, i32_w]
      rfl
     refine pure_ (i := 13) (N := some 40) (v := undef) (a' := ?_) #[true, true, true, true, true, true, true, true, true, true, true, true, true, true, false, false, false, false, false, false, false] rfl rfl (any_of HT_.out (by kernel_rfl)) (fun _ _ _ h => h) (Or.inr ⟨by rfl, rfl⟩) ?_ ?_
     rotate_left
     ·simp only [Act.put, zT, zU, zV, i64_w, i32_w]
      rfl
     refine pure_ (i := 14) (N := some 41) (v := undef) (a' := ?_) #[true, true, true, true, true, true, true, true, true, true, true, true, true, true, true, false, false, false, false, false, false] rfl rfl (any_of HT_.out (by kernel_rfl)) (fun _ _ _ h => h) (Or.inr ⟨by rfl, rfl⟩) ?_ ?_
     rotate_left
     ·simp only [Act.put, zT, zU, zV, i64_w, i32_w]
      rfl
     refine pure_ (i := 15) (N := some 42) (v := undef) (a' := ?_) #[true, true, true, true, true, true, true, true, true, true, true, true, true, true, true, true, false, false, false, false, false] rfl rfl (any_of HT_.out (by kernel_rfl)) (fun _ _ _ h => h) (Or.inr ⟨by rfl, rfl⟩) ?_ ?_
     rotate_left
     ·simp only [Act.put, zT, zU, zV, i64_w, i32_w]
      rfl
     refine pure_ (i := 16) (N := some 43) (v := undef) (a' := ?_) #[true, true, true, true, true, true, true, true, true, true, true, true, true, true, true, true, true, false, false, false, false] rfl rfl (any_of HT_.out (by kernel_rfl)) (fun _ _ _ h => h) (Or.inr ⟨by rfl, rfl⟩) ?_ ?_
     rotate_left
     ·simp only [Act.put, zT, zU, zV, i64_w, i32_w]
      rfl
     refine pure_ (i := 17) (N := some 44) (v := undef) (a' := ?_) #[true, true, true, true, true, true, true, true, true, true, true, true, true, true, true, true, true, true, false, false, false] rfl rfl (any_of HT_.out (by kernel_rfl)) (fun _ _ _ h => h) (Or.inr ⟨by rfl, rfl⟩) ?_ ?_
     rotate_left
     ·simp only [Act.put, zT, zU, zV, i64_w, i32_w]
      rfl
     refine pure_ (i := 18) (N := some 45) (v := undef) (a' := ?_) #[true, true, true, true, true, true, true, true, true, true, true, true, true, true, true, true, true, true, true, false, false] rfl rfl (any_of HT_.out (by kernel_rfl)) (fun _ _ _ h => h) (Or.inr ⟨by rfl, rfl⟩) ?_ ?_
     rotate_left
     ·simp only [Act.put, zT, zU, zV, i64_w, i32_w]
      rfl
     refine pure_ (i := 19) (N := some 46) (v := ?_) (a' := ?_) #[true, true, true, true, true, true, true, true, true, true, true, true, true, true, true, true, true, true, true, true, false] rfl rfl (any_of HT_.out (by kernel_rfl)) (fun _ _ _ h => h) (Or.inl ⟨by rfl, ?_⟩) ?_ ?_
     rotate_left
     ·intro w'
      go_simp
      with_reducible rfl
     rotate_left
     ·simp only [Act.put, zT, zU, zV, i64_w, i32_w]
      rfl
     refine pure_ (i := 20) (N := some 4) (v := ?_) (a' := ?_) #[true, true, true, true, true, true, true, true, true, true, true, true, true, true, true, true, true, true, true, true, true] rfl rfl (any_of HT_.out (by kernel_rfl)) (fun _ _ _ h => h) (Or.inl ⟨by rfl, ?_⟩) ?_ ?_
     rotate_left
     ·intro w'
      go_simp
      with_reducible rfl
     rotate_left
     ·simp only [Act.put, zT, zU, zV, i64_w, i32_w]
      rfl
     refine done_ (done_of HT_.out (by kernel_rfl)) ?_
     try go_wp2
     go_ret
     exact ⟨by first | rfl | (simp [errW_none, errW_some] <;> rfl) | (simp [*, errW_none, errW_some] <;> rfl), by repeat (first | (with_reducible first | exact HB.out | apply zA | apply zB | apply zC | refine below_set ?_ GE217.out | refine below_set ?_ GE218.out | refine below_set ?_ GE235.out | refine below_set ?_ GE236.out) | exact HB.out)⟩

/-- THE ONE PURE STATEMENT of laws_FnAggs: yours. -/
def laws_FnAggs.Pure : Prop := ∀ (l0 : List Int) (l1 : List Int), l0.length ≤ maxLen → l0.length * 1 ≤ 140737488351232 → (∀ x ∈ l0, (Lit.int .u8 x).wf = true) → l1.length ≤ maxLen → l1.length * 1 ≤ 140737488351232 → (∀ x ∈ l1, (Lit.int .u8 x).wf = true) → ∃ k, laws_FnAggs.f k l0 l1 = some true
theorem laws_FnAggs.walk (P : laws_FnAggs.Pure) (a0 : Option Addr) (len0 cap0 : Nat) (z0 : List Int) (a1 : Option Addr) (len1 cap1 : Nat) (z1 : List Int) (w : World) (w0 : (a0 = none ∧ len0 = 0 ∧ cap0 = 0 ∧ z0 = []) ∨ ∃ x, a0 = some x ∧ len0 ≤ cap0 ∧ cap0 ≤ maxLen ∧ z0.length = cap0 ∧ (∀ i, i < z0.length → w.cell? (x.add i) = some (.int .u8 (z0.getD i 0))) ∧ ∀ n ∈ z0, (Lit.int .u8 n).wf = true) (y0 : len0 * 1 ≤ 140737488351232) (w1 : (a1 = none ∧ len1 = 0 ∧ cap1 = 0 ∧ z1 = []) ∨ ∃ x, a1 = some x ∧ len1 ≤ cap1 ∧ cap1 ≤ maxLen ∧ z1.length = cap1 ∧ (∀ i, i < z1.length → w.cell? (x.add i) = some (.int .u8 (z1.getD i 0))) ∧ ∀ n ∈ z1, (Lit.int .u8 n).wf = true) (y1 : len1 * 1 ≤ 140737488351232) :
  Calls Try.prog 3 #[.slice a0 len0 cap0, .slice a1 len1 cap1] w fun e w' => e = .returned (.bool true) ∧ Below w.heap.size w w' := by
 obtain ⟨l0, rfl, hr0, hm0, hw0, hc0⟩ := ReadsInt.ofRowC w0
 obtain ⟨l1, rfl, hr1, hm1, hw1, hc1⟩ := ReadsInt.ofRowC w1
 obtain ⟨k, h⟩ := P l0 l1 hm0 y0 hw0 hm1 y1 hw1
 refine (laws_FnAggs.calls k _ _ l0 _ _ l1 true w (Kd.C_of_reads (d := (0 : Int)) (h1 := fun _ => rfl) hr0) hc0 (Kd.C_of_reads (d := (0 : Int)) (h1 := fun _ => rfl) hr1) hc1 h).mono ?_
 rintro e w' ⟨rfl, hd⟩
 exact ⟨rfl, hd⟩

end Go.Proofs.Ytppifefhpjhmaaa.PFnAggs
