-- Written by a program of this session (xprint.py, over the kit's print).
import Derived.Test.YtppifefhpjhmaaaPFnExactDownAggsx0
import Derived.Test.YtppifefhpjhmaaaPFnExactDownAggsx5
import Derived.Test.YtppifefhpjhmaaaPFnExactDownAggsx6
import Derived.Test.YtppifefhpjhmaaaPFnExactDownAggsx7
namespace Go.Proofs.Ytppifefhpjhmaaa.PFnExactDownAggs
open Go.RowKit Go.Proofs.YtppifefhpjhmaaaW.PrintWords Go.Proofs.YtppifefhpjhmaaaW.PrintLast Go.Proofs.YtppifefhpjhmaaaW.PrintMore Go.Proofs.Ytppifefhpjhmaaa.XWords
attribute [local go_sem] max2_int min2_int max_two min_two max_three min_three max_four min_four   -- for this text's walks alone
set_option linter.unusedVariables false
set_option linter.unusedSimpArgs false

/-! ### impl_DownAggs: function 29 -/
mutual
def impl_DownAggs.j0 : Nat → List (S24) → Int → Int → Bool → Option ((List (S24)))
 | 0, _, _, _, _ => none
 | k + 1, x0, x1, x2, x28 => if x28 = true then (some ([] : List (S24))) else (impl_DownAggs.l0 k x1 x2 ([] : List (S24)) x0 (x0.length : Int) 0)
def impl_DownAggs.l0 : Nat → Int → Int → List (S24) → List (S24) → Int → Int → Option ((List (S24)))
 | 0, _, _, _, _, _, _ => none
 | k + 1, x1, x2, x7, x29, x30, x31 => if x31 < x30 then (if 0 ≤ x31 then (if x31 < (x29.length : Int) then ((impl_windowOf.f ((rd_T24 x29 x31).f0) (wrap64 (x1 * x2))).bind fun t164 => (if (x7.length : Int) > 0 then (if 0 ≤ (wrap64 ((x7.length : Int) - 1)) then (if (wrap64 ((x7.length : Int) - 1)) < (x7.length : Int) then (if ((rd_T24 x7 (wrap64 ((x7.length : Int) - 1))).f0) = t164 then ((impl_MergeAgg.f ((rd_T24 x7 (wrap64 ((x7.length : Int) - 1))).f0) ((rd_T24 x7 (wrap64 ((x7.length : Int) - 1))).f1) ((rd_T24 x7 (wrap64 ((x7.length : Int) - 1))).f2) ((rd_T24 x7 (wrap64 ((x7.length : Int) - 1))).f3) ((rd_T24 x7 (wrap64 ((x7.length : Int) - 1))).f4) ((rd_T24 x7 (wrap64 ((x7.length : Int) - 1))).f5) ((rd_T24 x7 (wrap64 ((x7.length : Int) - 1))).f6) ((rd_T24 x7 (wrap64 ((x7.length : Int) - 1))).f7) t164 ((rd_T24 x29 x31).f1) ((rd_T24 x29 x31).f2) ((rd_T24 x29 x31).f3) ((rd_T24 x29 x31).f4) ((rd_T24 x29 x31).f5) ((rd_T24 x29 x31).f6) ((rd_T24 x29 x31).f7)).bind fun bt167 => (impl_DownAggs.l0 k x1 x2 (x7.set ((wrap64 ((x7.length : Int) - 1)) : Int).toNat (⟨bt167.1, bt167.2.1, bt167.2.2.1, bt167.2.2.2.1, bt167.2.2.2.2.1, bt167.2.2.2.2.2.1, bt167.2.2.2.2.2.2.1, bt167.2.2.2.2.2.2.2⟩ : S24)) x29 x30 (wrap64 (x31 + 1)))) else (if x7.length < 2199023255552 then (impl_DownAggs.l0 k x1 x2 (x7 ++ [(⟨t164, (rd_T24 x29 x31).f1, (rd_T24 x29 x31).f2, (rd_T24 x29 x31).f3, (rd_T24 x29 x31).f4, (rd_T24 x29 x31).f5, (rd_T24 x29 x31).f6, (rd_T24 x29 x31).f7⟩ : S24)]) x29 x30 (wrap64 (x31 + 1))) else (none))) else (none)) else (none)) else (if x7.length < 2199023255552 then (impl_DownAggs.l0 k x1 x2 (x7 ++ [(⟨t164, (rd_T24 x29 x31).f1, (rd_T24 x29 x31).f2, (rd_T24 x29 x31).f3, (rd_T24 x29 x31).f4, (rd_T24 x29 x31).f5, (rd_T24 x29 x31).f6, (rd_T24 x29 x31).f7⟩ : S24)]) x29 x30 (wrap64 (x31 + 1))) else (none)))) else (none)) else (none)) else (some x7)
end
def impl_DownAggs.f (k : Nat) (l0 : List (S24)) (a1 : Int) (a2 : Int) : Option ((List (S24))) := (impl_GoodAggs.f k l0 a1).bind fun t161 => (if t161 = true then (if a2 < 1 then (impl_DownAggs.j0 k l0 a1 a2 true) else (if a2 > 1000 then (impl_DownAggs.j0 k l0 a1 a2 true) else (impl_DownAggs.j0 k l0 a1 a2 (decide ((wrap64 (a1 * a2)) > 1000000))))) else (impl_DownAggs.j0 k l0 a1 a2 true))
theorem impl_DownAggs.mono_l : ∀ k, (∀ y0 y1 y2 y3, LeO (impl_DownAggs.j0 k y0 y1 y2 y3) (impl_DownAggs.j0 (k + 1) y0 y1 y2 y3)) ∧ (∀ y0 y1 y2 y3 y4 y5, LeO (impl_DownAggs.l0 k y0 y1 y2 y3 y4 y5) (impl_DownAggs.l0 (k + 1) y0 y1 y2 y3 y4 y5))
 | 0 => ⟨fun _ _ _ _ r h => by simp [impl_DownAggs.j0] at h, fun _ _ _ _ _ _ r h => by simp [impl_DownAggs.l0] at h⟩
 | k + 1 => by
  obtain ⟨ih0, ih1⟩ := impl_DownAggs.mono_l k
  refine ⟨?_, ?_⟩
  ·intro y0 y1 y2 y3
   unfold impl_DownAggs.j0
   repeat' first
   | (with_reducible exact ih0 _ _ _ _)
   | (with_reducible exact ih1 _ _ _ _ _ _)
   | (with_reducible exact impl_GoodAggs.mono _ _ _)
   | (with_reducible exact LeO.refl _)
   | (with_reducible exact LeO.none _)
   | (with_reducible refine LeO.ite ?_ ?_)
   | (with_reducible refine LeO.bind ?_ (fun _ => ?_))
   | exact ih0 _ _ _ _
   | exact ih1 _ _ _ _ _ _
   | exact impl_GoodAggs.mono _ _ _
   | exact LeO.none _
   | refine LeO.ite ?_ ?_
   | refine LeO.bind ?_ (fun _ => ?_)
  ·intro y0 y1 y2 y3 y4 y5
   unfold impl_DownAggs.l0
   repeat' first
   | (with_reducible exact ih0 _ _ _ _)
   | (with_reducible exact ih1 _ _ _ _ _ _)
   | (with_reducible exact impl_GoodAggs.mono _ _ _)
   | (with_reducible exact LeO.refl _)
   | (with_reducible exact LeO.none _)
   | (with_reducible refine LeO.ite ?_ ?_)
   | (with_reducible refine LeO.bind ?_ (fun _ => ?_))
   | exact ih0 _ _ _ _
   | exact ih1 _ _ _ _ _ _
   | exact impl_GoodAggs.mono _ _ _
   | exact LeO.none _
   | refine LeO.ite ?_ ?_
   | refine LeO.bind ?_ (fun _ => ?_)
theorem impl_DownAggs.mono : ∀ a0 a1 a2 k, LeO (impl_DownAggs.f k a0 a1 a2) (impl_DownAggs.f (k + 1) a0 a1 a2) := by
 intro a0 a1 a2 k
 obtain ⟨ih0, ih1⟩ := impl_DownAggs.mono_l k
 unfold impl_DownAggs.f
 repeat' first
   | (with_reducible exact ih0 _ _ _ _)
   | (with_reducible exact ih1 _ _ _ _ _ _)
   | (with_reducible exact impl_GoodAggs.mono _ _ _)
   | (with_reducible exact LeO.refl _)
   | (with_reducible exact LeO.none _)
   | (with_reducible refine LeO.ite ?_ ?_)
   | (with_reducible refine LeO.bind ?_ (fun _ => ?_))
   | exact ih0 _ _ _ _
   | exact ih1 _ _ _ _ _ _
   | exact impl_GoodAggs.mono _ _ _
   | exact LeO.none _
   | refine LeO.ite ?_ ?_
   | refine LeO.bind ?_ (fun _ => ?_)
def impl_DownAggs.T9 : Bool × List (List Nat × List Nat) := (true, [([], []), ([0], [0]), ([1], [1]), ([2], [2]), ([2], [2]), ([4, 2], [2, 4]), ([3, 5, 2], [2, 3, 5]), ([6, 2], [2, 6]), ([7, 2], [2, 7]), ([2], [2]), ([9, 2], [2, 9]), ([8, 10, 2], [2, 8, 10]), ([2, 11], [2, 11])])
def impl_DownAggs.B9 : List Nat := [0, 1, 3, 7, 7, 23, 63, 127, 255, 7, 519, 2047, 4095]
theorem impl_DownAggs.tab9 : rtab .any (opsOf Try.f29 9) = impl_DownAggs.T9 := by kernel_rfl
theorem impl_DownAggs.bits9 : waitsOk impl_DownAggs.T9.2 impl_DownAggs.B9 = true := by kernel_rfl
def impl_DownAggs.T10 : Bool × List (List Nat × List Nat) := (true, [([], []), ([], []), ([1], [1]), ([], []), ([], []), ([4], [4]), ([3, 5], [3, 5]), ([6], [6]), ([], []), ([7, 8], [7, 8]), ([0, 2, 0, 1, 2, 3, 4, 5, 6, 7, 8, 9], [0, 2]), ([10, 9, 9, 0, 1, 2, 3, 4, 5, 6, 7, 8, 9], [9, 10])])
def impl_DownAggs.B10 : List Nat := [0, 0, 2, 0, 0, 16, 56, 120, 0, 504, 1023, 2047]
theorem impl_DownAggs.tab10 : rtab .any (opsOf Try.f29 10) = impl_DownAggs.T10 := by kernel_rfl
theorem impl_DownAggs.bits10 : waitsOk impl_DownAggs.T10.2 impl_DownAggs.B10 = true := by kernel_rfl
set_option maxHeartbeats 8000000 in
set_option maxRecDepth 100000 in
theorem impl_DownAggs.calls (k : Nat) (A0 : Option Addr) (c0 : Nat) (l0 : List (S24)) (a1 : Int) (a2 : Int) (r : List (S24)) (w : World) (hr0 : Kd.C k24 w A0 l0.length l0) (hc0 : l0.length ≤ c0) (h : impl_DownAggs.f k l0 a1 a2 = some r) :
  Calls Try.prog 29 #[.slice A0 l0.length c0, .int .i64 a1, .int .i64 a2] w fun e w' => ∃ v0_ : Value, e = .returned (v0_) ∧ Kd.R k24 24 w' w.heap.size (fun _ => True) v0_ r ∧ Below w.heap.size w w' := by
 have hu24 := Try.underlying24
 have HR0 := Aside0.mk hr0
 have HC0 := Aside0.mk hc0
 clear hr0 hc0
 have HB := Aside0.mk (Below.refl w.heap.size w)
 have H : ((impl_GoodAggs.f k l0 a1).bind fun t161 => (if t161 = true then (if a2 < 1 then (impl_DownAggs.j0 k l0 a1 a2 true) else (if a2 > 1000 then (impl_DownAggs.j0 k l0 a1 a2 true) else (impl_DownAggs.j0 k l0 a1 a2 (decide ((wrap64 (a1 * a2)) > 1000000))))) else (impl_DownAggs.j0 k l0 a1 a2 true))) = some r := h
 clear h
 have HC4 := Aside0.mk H
 clear H
 go_enter Try.func29, Try.ntmps29
 go_upto_region 1 with (fail)
 go_cut [28] (fun v28 wc => ∃ (kq : Nat) (x28_3 : Bool), v28 = .bool x28_3 ∧ Aside0 (impl_DownAggs.j0 kq l0 a1 a2 x28_3 = some r) ∧ Aside0 (kq ≤ k) ∧ Aside0 (Below w.heap.size w wc))
 case first =>
  have H := HC4.out
  clear HC4
  replace H := Option.bind_eq_some_iff.mp H
  obtain ⟨t161, A50, H⟩ := H
  replace H : (if t161 = true then (if a2 < 1 then (impl_DownAggs.j0 k l0 a1 a2 true) else (if a2 > 1000 then (impl_DownAggs.j0 k l0 a1 a2 true) else (impl_DownAggs.j0 k l0 a1 a2 (decide ((wrap64 (a1 * a2)) > 1000000))))) else (impl_DownAggs.j0 k l0 a1 a2 true)) = some r := H
  have A5 := Aside0.mk A50
  clear A50
  by_cases c6 : t161 = true
  ·subst c6
   have H1 : (if a2 < 1 then (impl_DownAggs.j0 k l0 a1 a2 true) else (if a2 > 1000 then (impl_DownAggs.j0 k l0 a1 a2 true) else (impl_DownAggs.j0 k l0 a1 a2 (decide ((wrap64 (a1 * a2)) > 1000000))))) = some r := by rw [if_pos rfl] at H; exact H
   clear H
   have H := H1
   clear H1
   by_cases c7 : a2 < 1
   ·rw [if_pos c7] at H
    have c7b0 : decide (a2 < 1) = true := decide_eq_true c7
    clear c7
    (first | rw [c7b0] | (simp only [i64_w, i32_w]; rw [c7b0]) | skip)
    have H' := Aside0.mk H
    clear H
    go_wp2_with (first | ((with_reducible refine gate_callee (f := 15) rfl ?_); refine goesL_ (some 13) rfl rfl Try.func15 (by kernel_rfl) rfl #[.slice A0 l0.length c0, .int .i64 a1] rfl (by (try simp only [List.map_toArray, List.map_cons, List.map_nil]); first | done | rfl | (simp only [List.length_drop, List.length_take]; rfl)) ?_; (with_reducible refine (impl_GoodAggs.calls k _ _ l0 a1 true _ ?side1 ?side2 A5.out).mono ?_); (case side1 => repeat (first | exact (Kd.C_below HR0.out HB.out) | (with_reducible refine zJ ?_ _) | (with_reducible refine zK ?_ _) | (with_reducible refine zL ?_))); (case side2 => exact HC0.out); rintro e w8 ⟨rfl, hb⟩; refine ⟨_, rfl, ?_⟩; have n0_ := Aside0.mk (below_step (by repeat (first | (with_reducible first | exact HB.out | apply zA | apply zB | apply zC) | exact HB.out)) hb); clear HB; have HB := n0_; clear n0_; (try clear hb); (try clear hb2); (try clear hk); (try clear hi)))
    go_meet
    case rel => exact ⟨_, (true), (by first | rfl | (simp; done) | (simp [*]; done)), H', ⟨by first | omega | exact Nat.le_refl _⟩, ⟨by repeat (first | (with_reducible first | exact HB.out | apply zA | apply zB | apply zC) | exact HB.out)⟩⟩
   ·rw [if_neg c7] at H
    have c7b0 : decide (a2 < 1) = false := decide_eq_false c7
    clear c7
    (first | rw [c7b0] | (simp only [i64_w, i32_w]; rw [c7b0]) | skip)
    by_cases c9 : a2 > 1000
    ·rw [if_pos c9] at H
     have c9b0 : decide (1000 < a2) = true := decide_eq_true c9
     clear c9
     have H' := Aside0.mk H
     clear H
     go_wp2_with (first | ((with_reducible refine gate_callee (f := 15) rfl ?_); refine goesL_ (some 13) rfl rfl Try.func15 (by kernel_rfl) rfl #[.slice A0 l0.length c0, .int .i64 a1] rfl (by (try simp only [List.map_toArray, List.map_cons, List.map_nil]); first | done | rfl | (simp only [List.length_drop, List.length_take]; rfl)) ?_; (with_reducible refine (impl_GoodAggs.calls k _ _ l0 a1 true _ ?side1 ?side2 A5.out).mono ?_); (case side1 => repeat (first | exact (Kd.C_below HR0.out HB.out) | (with_reducible refine zJ ?_ _) | (with_reducible refine zK ?_ _) | (with_reducible refine zL ?_))); (case side2 => exact HC0.out); rintro e w10 ⟨rfl, hb⟩; refine ⟨_, rfl, ?_⟩; have n0_ := Aside0.mk (below_step (by repeat (first | (with_reducible first | exact HB.out | apply zA | apply zB | apply zC) | exact HB.out)) hb); clear HB; have HB := n0_; clear n0_; (try clear hb); (try clear hb2); (try clear hk); (try clear hi)))
     go_meet
     case rel => exact ⟨_, (true), (by first | rfl | (simp; done) | (simp [*]; done)), H', ⟨by first | omega | exact Nat.le_refl _⟩, ⟨by repeat (first | (with_reducible first | exact HB.out | apply zA | apply zB | apply zC) | exact HB.out)⟩⟩
    ·rw [if_neg c9] at H
     have c9b0 : decide (1000 < a2) = false := decide_eq_false c9
     clear c9
     have H' := Aside0.mk H
     clear H
     go_wp2_with (first | ((with_reducible refine gate_callee (f := 15) rfl ?_); refine goesL_ (some 13) rfl rfl Try.func15 (by kernel_rfl) rfl #[.slice A0 l0.length c0, .int .i64 a1] rfl (by (try simp only [List.map_toArray, List.map_cons, List.map_nil]); first | done | rfl | (simp only [List.length_drop, List.length_take]; rfl)) ?_; (with_reducible refine (impl_GoodAggs.calls k _ _ l0 a1 true _ ?side1 ?side2 A5.out).mono ?_); (case side1 => repeat (first | exact (Kd.C_below HR0.out HB.out) | (with_reducible refine zJ ?_ _) | (with_reducible refine zK ?_ _) | (with_reducible refine zL ?_))); (case side2 => exact HC0.out); rintro e w11 ⟨rfl, hb⟩; refine ⟨_, rfl, ?_⟩; have n0_ := Aside0.mk (below_step (by repeat (first | (with_reducible first | exact HB.out | apply zA | apply zB | apply zC) | exact HB.out)) hb); clear HB; have HB := n0_; clear n0_; (try clear hb); (try clear hb2); (try clear hk); (try clear hi)))
     go_meet
     case rel => exact ⟨_, (decide ((wrap64 (a1 * a2)) > 1000000)), (by first | rfl | (simp; done) | (simp [*]; done)), H', ⟨by first | omega | exact Nat.le_refl _⟩, ⟨by repeat (first | (with_reducible first | exact HB.out | apply zA | apply zB | apply zC) | exact HB.out)⟩⟩
  ·replace c6 := Bool.eq_false_iff.mpr c6
   subst c6
   have H1 : (impl_DownAggs.j0 k l0 a1 a2 true) = some r := by rw [if_neg (show ¬ (false = true) by decide)] at H; exact H
   clear H
   have H := H1
   clear H1
   have H' := Aside0.mk H
   clear H
   go_wp2_with (first | ((with_reducible refine gate_callee (f := 15) rfl ?_); refine goesL_ (some 13) rfl rfl Try.func15 (by kernel_rfl) rfl #[.slice A0 l0.length c0, .int .i64 a1] rfl (by (try simp only [List.map_toArray, List.map_cons, List.map_nil]); first | done | rfl | (simp only [List.length_drop, List.length_take]; rfl)) ?_; (with_reducible refine (impl_GoodAggs.calls k _ _ l0 a1 false _ ?side1 ?side2 A5.out).mono ?_); (case side1 => repeat (first | exact (Kd.C_below HR0.out HB.out) | (with_reducible refine zJ ?_ _) | (with_reducible refine zK ?_ _) | (with_reducible refine zL ?_))); (case side2 => exact HC0.out); rintro e w12 ⟨rfl, hb⟩; refine ⟨_, rfl, ?_⟩; have n0_ := Aside0.mk (below_step (by repeat (first | (with_reducible first | exact HB.out | apply zA | apply zB | apply zC) | exact HB.out)) hb); clear HB; have HB := n0_; clear n0_; (try clear hb); (try clear hb2); (try clear hk); (try clear hi)))
   go_meet
   case rel => exact ⟨_, (true), (by first | rfl | (simp; done) | (simp [*]; done)), H', ⟨by first | omega | exact Nat.le_refl _⟩, ⟨by repeat (first | (with_reducible first | exact HB.out | apply zA | apply zB | apply zC) | exact HB.out)⟩⟩
 case rest =>
  clear HC4
  try clear c1
  try clear c2
  try clear p2
  try clear c6
  try clear p6
  try clear c7
  try clear c7b0
  try clear c9
  try clear c9b0
  obtain ⟨kq, x28_3, rfl, HA, HJ3, HB⟩ := hcut
  cases kq with
  | zero => exact absurd HA.out (by simp [impl_DownAggs.j0])
  | succ kj3 =>
   have H := HA.out
   clear HA
   simp only [impl_DownAggs.j0] at H
   by_cases c13 : x28_3 = true
   ·subst c13
    have H1 : (some ([] : List (S24))) = some r := by rw [if_pos rfl] at H; exact H
    clear H
    have H := H1
    clear H1
    obtain rfl := Option.some.inj H
    go_wp2
    go_ret
    exact ⟨_, by first | rfl | (simp [errW_none, errW_some] <;> rfl) | (simp [*, errW_none, errW_some] <;> rfl), by first | exact Kd.R_nil _ _ _ _ _ | exact Kd.N_nil _ _ _ _ _ | exact Kd.V_nil _ _ _ _ _ | exact Kd.Q_nil _ _ _ _ _ | exact Kd.S_nil _ _ _ _ _, by repeat (first | (with_reducible first | exact HB.out | apply zA | apply zB | apply zC) | exact HB.out)⟩
   ·replace c13 := Bool.eq_false_iff.mpr c13
    subst c13
    have H1 : (impl_DownAggs.l0 kj3 a1 a2 ([] : List (S24)) l0 (l0.length : Int) 0) = some r := by rw [if_neg (show ¬ (false = true) by decide)] at H; exact H
    clear H
    have H := H1
    clear H1
    have H' := Aside0.mk H
    clear H
    go_wp2
    go_loopg [7, 31] kj3 (fun kq v7 v31 w' => ∃ (x7_2 : List (S24)) (x31_2 : Int), v31 = .int .i64 x31_2 ∧ Aside0 (impl_DownAggs.l0 kq a1 a2 x7_2 l0 (l0.length : Int) x31_2 = some r) ∧ Aside0 (kq ≤ kj3) ∧ Aside0 (Kd.R k24 24 w' w.heap.size (fun _ => True) v7 x7_2) ∧ Aside0 (Below w.heap.size w w'))
    case atStart => exact ⟨(([] : List (S24))), (0), (by first | rfl | (simp; done) | (simp [*]; done)), H', ⟨Nat.le_refl _⟩, ⟨by first | exact Kd.R_nil _ _ _ _ _ | exact Kd.N_nil _ _ _ _ _ | exact Kd.V_nil _ _ _ _ _ | exact Kd.Q_nil _ _ _ _ _ | exact Kd.S_nil _ _ _ _ _⟩, ⟨by repeat (first | (with_reducible first | exact HB.out | apply zA | apply zB | apply zC) | exact HB.out)⟩⟩
    case round =>
     clear H'
     try clear c1
     try clear c2
     try clear p2
     try clear c6
     try clear p6
     try clear c7
     try clear c7b0
     try clear c9
     try clear c9b0
     try clear c13
     try clear p2
     try clear p6
     obtain ⟨x7_2, x31_2, rfl, HA, HK2, HO_7, HB⟩ := hrel
     cases gk with
     | zero => exact absurd HA.out (by simp [impl_DownAggs.l0])
     | succ k2 =>
      have H := HA.out
      clear HA
      simp only [impl_DownAggs.l0] at H
      by_cases c14 : x31_2 < (l0.length : Int)
      ·rw [if_pos c14] at H
       have c14b0 : decide (x31_2 < (l0.length : Int)) = true := decide_eq_true c14
       clear c14
       by_cases c15 : 0 ≤ x31_2
       ·rw [if_pos c15] at H
        have c15b0 : decide (0 ≤ x31_2) = true := decide_eq_true c15
        clear c15
        by_cases c16 : x31_2 < (l0.length : Int)
        ·rw [if_pos c16] at H
         have c16b0 : decide (x31_2 < (l0.length : Int)) = true := decide_eq_true c16
         clear c16
         replace H := Option.bind_eq_some_iff.mp H
         obtain ⟨t164, A170, H⟩ := H
         replace H : (if (x7_2.length : Int) > 0 then (if 0 ≤ (wrap64 ((x7_2.length : Int) - 1)) then (if (wrap64 ((x7_2.length : Int) - 1)) < (x7_2.length : Int) then (if ((rd_T24 x7_2 (wrap64 ((x7_2.length : Int) - 1))).f0) = t164 then ((impl_MergeAgg.f ((rd_T24 x7_2 (wrap64 ((x7_2.length : Int) - 1))).f0) ((rd_T24 x7_2 (wrap64 ((x7_2.length : Int) - 1))).f1) ((rd_T24 x7_2 (wrap64 ((x7_2.length : Int) - 1))).f2) ((rd_T24 x7_2 (wrap64 ((x7_2.length : Int) - 1))).f3) ((rd_T24 x7_2 (wrap64 ((x7_2.length : Int) - 1))).f4) ((rd_T24 x7_2 (wrap64 ((x7_2.length : Int) - 1))).f5) ((rd_T24 x7_2 (wrap64 ((x7_2.length : Int) - 1))).f6) ((rd_T24 x7_2 (wrap64 ((x7_2.length : Int) - 1))).f7) t164 ((rd_T24 l0 x31_2).f1) ((rd_T24 l0 x31_2).f2) ((rd_T24 l0 x31_2).f3) ((rd_T24 l0 x31_2).f4) ((rd_T24 l0 x31_2).f5) ((rd_T24 l0 x31_2).f6) ((rd_T24 l0 x31_2).f7)).bind fun bt167 => (impl_DownAggs.l0 k2 a1 a2 (x7_2.set ((wrap64 ((x7_2.length : Int) - 1)) : Int).toNat (⟨bt167.1, bt167.2.1, bt167.2.2.1, bt167.2.2.2.1, bt167.2.2.2.2.1, bt167.2.2.2.2.2.1, bt167.2.2.2.2.2.2.1, bt167.2.2.2.2.2.2.2⟩ : S24)) l0 (l0.length : Int) (wrap64 (x31_2 + 1)))) else (if x7_2.length < 2199023255552 then (impl_DownAggs.l0 k2 a1 a2 (x7_2 ++ [(⟨t164, (rd_T24 l0 x31_2).f1, (rd_T24 l0 x31_2).f2, (rd_T24 l0 x31_2).f3, (rd_T24 l0 x31_2).f4, (rd_T24 l0 x31_2).f5, (rd_T24 l0 x31_2).f6, (rd_T24 l0 x31_2).f7⟩ : S24)]) l0 (l0.length : Int) (wrap64 (x31_2 + 1))) else (none))) else (none)) else (none)) else (if x7_2.length < 2199023255552 then (impl_DownAggs.l0 k2 a1 a2 (x7_2 ++ [(⟨t164, (rd_T24 l0 x31_2).f1, (rd_T24 l0 x31_2).f2, (rd_T24 l0 x31_2).f3, (rd_T24 l0 x31_2).f4, (rd_T24 l0 x31_2).f5, (rd_T24 l0 x31_2).f6, (rd_T24 l0 x31_2).f7⟩ : S24)]) l0 (l0.length : Int) (wrap64 (x31_2 + 1))) else (none))) = some r := H
         have A17 := Aside0.mk A170
         clear A170
         by_cases c18 : (x7_2.length : Int) > 0
         ·rw [if_pos c18] at H
          have c18b0 : decide (0 < (x7_2.length : Int)) = true := decide_eq_true c18
          have c18b1 : decide (0 < x7_2.length) = true := decide_eq_true (by omega)
          clear c18
          obtain ⟨ji19, hji19⟩ : ∃ j_ : Int, (wrap64 ((x7_2.length : Int) - 1)) = j_ := ⟨_, rfl⟩
          replace H : (if 0 ≤ (ji19) then (if (ji19) < (x7_2.length : Int) then (if ((rd_T24 x7_2 (ji19)).f0) = t164 then ((impl_MergeAgg.f ((rd_T24 x7_2 (ji19)).f0) ((rd_T24 x7_2 (ji19)).f1) ((rd_T24 x7_2 (ji19)).f2) ((rd_T24 x7_2 (ji19)).f3) ((rd_T24 x7_2 (ji19)).f4) ((rd_T24 x7_2 (ji19)).f5) ((rd_T24 x7_2 (ji19)).f6) ((rd_T24 x7_2 (ji19)).f7) t164 ((rd_T24 l0 x31_2).f1) ((rd_T24 l0 x31_2).f2) ((rd_T24 l0 x31_2).f3) ((rd_T24 l0 x31_2).f4) ((rd_T24 l0 x31_2).f5) ((rd_T24 l0 x31_2).f6) ((rd_T24 l0 x31_2).f7)).bind fun bt167 => (impl_DownAggs.l0 k2 a1 a2 (x7_2.set ((ji19) : Int).toNat (⟨bt167.1, bt167.2.1, bt167.2.2.1, bt167.2.2.2.1, bt167.2.2.2.2.1, bt167.2.2.2.2.2.1, bt167.2.2.2.2.2.2.1, bt167.2.2.2.2.2.2.2⟩ : S24)) l0 (l0.length : Int) (wrap64 (x31_2 + 1)))) else (if x7_2.length < 2199023255552 then (impl_DownAggs.l0 k2 a1 a2 (x7_2 ++ [(⟨t164, (rd_T24 l0 x31_2).f1, (rd_T24 l0 x31_2).f2, (rd_T24 l0 x31_2).f3, (rd_T24 l0 x31_2).f4, (rd_T24 l0 x31_2).f5, (rd_T24 l0 x31_2).f6, (rd_T24 l0 x31_2).f7⟩ : S24)]) l0 (l0.length : Int) (wrap64 (x31_2 + 1))) else (none))) else (none)) else (none)) = some r := by first | (rw [hji19] at H; exact H) | (simp only [hji19] at H ⊢; exact H)
          (try rw [hji19] at A17)
          have hji19w : (IntKind.i64.wrap ((x7_2.length : Int) - 1)) = ji19 := (i64_w _).trans hji19
          by_cases c20 : 0 ≤ (ji19)
          ·rw [if_pos c20] at H
           have c20b0 : decide (0 ≤ (ji19)) = true := decide_eq_true c20
           clear c20
           by_cases c21 : (ji19) < (x7_2.length : Int)
           ·rw [if_pos c21] at H
            have c21b0 : decide ((ji19) < (x7_2.length : Int)) = true := decide_eq_true c21
            clear c21
            by_cases c22 : ((rd_T24 x7_2 (ji19)).f0) = t164
            ·rw [if_pos c22] at H
             have c22b0 : (((rd_T24 x7_2 (ji19)).f0) == t164) = true := beq_iff_eq.mpr c22
             have c22b1 : (((rd_T24 x7_2 (ji19)).f0) != t164) = false := bne_eq_false_iff_eq.mpr c22
             clear c22
             replace H := Option.bind_eq_some_iff.mp H
             obtain ⟨⟨t167, t168, t169, t170, t171, t172, t173, t174⟩, A230, H⟩ := H
             replace H : (impl_DownAggs.l0 k2 a1 a2 (x7_2.set ((ji19) : Int).toNat (⟨t167, t168, t169, t170, t171, t172, t173, t174⟩ : S24)) l0 (l0.length : Int) (wrap64 (x31_2 + 1))) = some r := H
             have A23 := Aside0.mk A230
             clear A230
             obtain ⟨y175, hy175⟩ : ∃ y_ : List (S24), y_ = (x7_2.set ((ji19) : Int).toNat (⟨t167, t168, t169, t170, t171, t172, t173, t174⟩ : S24)) := ⟨_, rfl⟩
             replace H : (impl_DownAggs.l0 k2 a1 a2 y175 l0 (l0.length : Int) (wrap64 (x31_2 + 1))) = some r := by first | (rw [hy175]; with_reducible exact H) | (have H2_ := (Option.bind_some _ _).symm.trans H; rw [hy175]; with_reducible exact H2_) | (have H2_ := (Option.bind_some _ _).symm.trans H; with_reducible exact H2_) | with_reducible exact H | (rw [hy175]; exact H) | exact H
             have Ny175 := Aside0.mk hy175
             clear hy175
             have H' := Aside0.mk H
             clear H
             have p162 : 0 ≤ (x31_2 : Int) := zX (by first | (with_reducible assumption) | assumption)
             have q162 : x31_2 < (l0.length : Int) := zX (by first | (with_reducible assumption) | assumption)
             obtain ⟨ad162, e162, hx162_0, hx162_1, hx162_2, hx162_3, hx162_4, hx162_5, hx162_6, hx162_7⟩ := at_T24 HR0.out x31_2 p162 q162
             cases e162
             replace hx162_0 := (HB.out.cell (zR w _ hx162_0)).trans hx162_0
             replace hx162_1 := (HB.out.cell (zR w _ hx162_1)).trans hx162_1
             replace hx162_2 := (HB.out.cell (zR w _ hx162_2)).trans hx162_2
             replace hx162_3 := (HB.out.cell (zR w _ hx162_3)).trans hx162_3
             replace hx162_4 := (HB.out.cell (zR w _ hx162_4)).trans hx162_4
             replace hx162_5 := (HB.out.cell (zR w _ hx162_5)).trans hx162_5
             replace hx162_6 := (HB.out.cell (zR w _ hx162_6)).trans hx162_6
             replace hx162_7 := (HB.out.cell (zR w _ hx162_7)).trans hx162_7
             replace p162 := eq_true p162
             replace q162 := eq_true q162
             try go_wp2_with (first | ((with_reducible refine gate_dst (N := 9) rfl ?_); refine box_event ?hg (N := 9) ?hd (cs := #[.int .i64 0, .int .i64 0, .int .i64 0, .int .i64 0, .int .i64 0, .int .i64 0, .int .i64 0, .int .i64 0]) (t := 24) ?hr ?_; (case hd => rfl); (case hg => rfl); (case hr => first | (go_simp; done) | (go_simp; rfl)); intro gb163 hg w25 hbox hb; have n0_ := Aside0.mk (Kd.R_below (Kd.R_elderB (by (with_reducible repeat (first | apply zG | apply zH | apply zI)); exact HO_7.out) gb163 (Nat.le_of_eq hg.symm)) hb); have n1_ := Aside0.mk (below_step (by repeat (first | (with_reducible first | exact HB.out | apply zA | apply zB | apply zC) | exact HB.out)) hb); have n2_ := Aside0.mk (hbox); have n3_ := Aside0.mk ((by rw [hg]; exact (zW (by repeat (first | (with_reducible first | exact HB.out | apply zA | apply zB | apply zC) | exact HB.out))) : w.heap.size ≤ gb163)); have n4_ := Aside0.mk ((by rw [hg]; exact (zW (by repeat (first | (with_reducible first | exact HB.out | apply zA | apply zB | apply zC) | exact HB.out))) : w.heap.size ≤ gb163)); clear HO_7; clear HB; have HO_7 := n0_; have HB := n1_; have BK163 := n2_; have GW163 := n3_; have GE163 := n4_; clear n0_ n1_ n2_ n3_ n4_; clear hb hbox hg; have hcz26_0 : w25.cell? ⟨gb163, 0, none⟩ = some (.int .i64 0) := (zQ BK163.out 0).trans rfl; have hcz26_1 : w25.cell? ⟨gb163, 1, none⟩ = some (.int .i64 0) := (zQ BK163.out 1).trans rfl; have hcz26_2 : w25.cell? ⟨gb163, 2, none⟩ = some (.int .i64 0) := (zQ BK163.out 2).trans rfl; have hcz26_3 : w25.cell? ⟨gb163, 3, none⟩ = some (.int .i64 0) := (zQ BK163.out 3).trans rfl; have hcz26_4 : w25.cell? ⟨gb163, 4, none⟩ = some (.int .i64 0) := (zQ BK163.out 4).trans rfl; have hcz26_5 : w25.cell? ⟨gb163, 5, none⟩ = some (.int .i64 0) := (zQ BK163.out 5).trans rfl; have hcz26_6 : w25.cell? ⟨gb163, 6, none⟩ = some (.int .i64 0) := (zQ BK163.out 6).trans rfl; have hcz26_7 : w25.cell? ⟨gb163, 7, none⟩ = some (.int .i64 0) := (zQ BK163.out 7).trans rfl; have hfz26_0 := blk_frozen BK163.out 0; have hfz26_1 := blk_frozen BK163.out 1; have hfz26_2 := blk_frozen BK163.out 2; have hfz26_3 := blk_frozen BK163.out 3; have hfz26_4 := blk_frozen BK163.out 4; have hfz26_5 := blk_frozen BK163.out 5; have hfz26_6 := blk_frozen BK163.out 6; have hfz26_7 := blk_frozen BK163.out 7) | ((with_reducible refine gate_callee (f := 61) rfl ?_); refine goesL_ (some 40) rfl rfl Try.func61 (by kernel_rfl) rfl #[.int .i64 ((rd_T24 l0 x31_2).f0), .int .i64 (wrap64 (a1 * a2))] rfl (by (try simp only [List.map_toArray, List.map_cons, List.map_nil]); first | done | rfl | (simp only [List.length_drop, List.length_take]; rfl)) ?_; (with_reducible refine (impl_windowOf.calls ((rd_T24 l0 x31_2).f0) (wrap64 (a1 * a2)) t164 _ A17.out).mono ?_); rintro e w' ⟨rfl, ⟨nd, rfl⟩⟩; refine ⟨_, rfl, ?_⟩; obtain ⟨Ao27, co27, eo27⟩ := Kd.R_slice HO_7.out; subst eo27))
             have n0_ : Aside0 (Kd.R k24 24 ((((((((((w25.setCell ⟨gb163, 0, none⟩ (.int .i64 ((rd_T24 l0 x31_2).f0))).setCell ⟨gb163, 1, none⟩ (.int .i64 ((rd_T24 l0 x31_2).f1))).setCell ⟨gb163, 2, none⟩ (.int .i64 ((rd_T24 l0 x31_2).f2))).setCell ⟨gb163, 3, none⟩ (.int .i64 ((rd_T24 l0 x31_2).f3))).setCell ⟨gb163, 4, none⟩ (.int .i64 ((rd_T24 l0 x31_2).f4))).setCell ⟨gb163, 5, none⟩ (.int .i64 ((rd_T24 l0 x31_2).f5))).setCell ⟨gb163, 6, none⟩ (.int .i64 ((rd_T24 l0 x31_2).f6))).setCell ⟨gb163, 7, none⟩ (.int .i64 ((rd_T24 l0 x31_2).f7))).drewN nd).setCell ⟨gb163, 0, none⟩ (.int .i64 t164)) w.heap.size (fun k_ => k_ ≠ gb163) (.slice Ao27 x7_2.length co27) x7_2) := ⟨by (with_reducible repeat (first | apply zG | apply zH | apply zI)); exact Kd.R_mono (Kd.R_far (p := ⟨gb163, 0, none⟩) (zH (Kd.R_far (p := ⟨gb163, 7, none⟩) (Kd.R_far (p := ⟨gb163, 6, none⟩) (Kd.R_far (p := ⟨gb163, 5, none⟩) (Kd.R_far (p := ⟨gb163, 4, none⟩) (Kd.R_far (p := ⟨gb163, 3, none⟩) (Kd.R_far (p := ⟨gb163, 2, none⟩) (Kd.R_far (p := ⟨gb163, 1, none⟩) (Kd.R_far (p := ⟨gb163, 0, none⟩) (Kd.R_mono HO_7.out (fun k_ hk => (⟨hk, hk.2⟩ : _ ∧ k_ ≠ gb163))) (fun _ hk => hk.2) (.int .i64 ((rd_T24 l0 x31_2).f0))) (fun _ hk => hk.2) (.int .i64 ((rd_T24 l0 x31_2).f1))) (fun _ hk => hk.2) (.int .i64 ((rd_T24 l0 x31_2).f2))) (fun _ hk => hk.2) (.int .i64 ((rd_T24 l0 x31_2).f3))) (fun _ hk => hk.2) (.int .i64 ((rd_T24 l0 x31_2).f4))) (fun _ hk => hk.2) (.int .i64 ((rd_T24 l0 x31_2).f5))) (fun _ hk => hk.2) (.int .i64 ((rd_T24 l0 x31_2).f6))) (fun _ hk => hk.2) (.int .i64 ((rd_T24 l0 x31_2).f7))) _) (fun _ hk => hk.2) (.int .i64 t164)) (fun _ hk => hk.1.2)⟩
             have n1_ : Aside0 (((((((((((w25.setCell ⟨gb163, 0, none⟩ (.int .i64 ((rd_T24 l0 x31_2).f0))).setCell ⟨gb163, 1, none⟩ (.int .i64 ((rd_T24 l0 x31_2).f1))).setCell ⟨gb163, 2, none⟩ (.int .i64 ((rd_T24 l0 x31_2).f2))).setCell ⟨gb163, 3, none⟩ (.int .i64 ((rd_T24 l0 x31_2).f3))).setCell ⟨gb163, 4, none⟩ (.int .i64 ((rd_T24 l0 x31_2).f4))).setCell ⟨gb163, 5, none⟩ (.int .i64 ((rd_T24 l0 x31_2).f5))).setCell ⟨gb163, 6, none⟩ (.int .i64 ((rd_T24 l0 x31_2).f6))).setCell ⟨gb163, 7, none⟩ (.int .i64 ((rd_T24 l0 x31_2).f7))).drewN nd).setCell ⟨gb163, 0, none⟩ (.int .i64 t164)).heap[gb163]? = some (.cells #[.int .i64 t164, .int .i64 ((rd_T24 l0 x31_2).f1), .int .i64 ((rd_T24 l0 x31_2).f2), .int .i64 ((rd_T24 l0 x31_2).f3), .int .i64 ((rd_T24 l0 x31_2).f4), .int .i64 ((rd_T24 l0 x31_2).f5), .int .i64 ((rd_T24 l0 x31_2).f6), .int .i64 ((rd_T24 l0 x31_2).f7)] 24 (0, 0))) := ⟨by (with_reducible repeat (first | refine zE ?_ _ | refine zF ?_ | refine zD ?_ _)); refine blk_put (cs := #[.int .i64 ((rd_T24 l0 x31_2).f0), .int .i64 ((rd_T24 l0 x31_2).f1), .int .i64 ((rd_T24 l0 x31_2).f2), .int .i64 ((rd_T24 l0 x31_2).f3), .int .i64 ((rd_T24 l0 x31_2).f4), .int .i64 ((rd_T24 l0 x31_2).f5), .int .i64 ((rd_T24 l0 x31_2).f6), .int .i64 ((rd_T24 l0 x31_2).f7)]) ?_ 0 _ rfl; (with_reducible repeat (first | refine zE ?_ _ | refine zF ?_ | refine zD ?_ _)); refine blk_put (cs := #[.int .i64 ((rd_T24 l0 x31_2).f0), .int .i64 ((rd_T24 l0 x31_2).f1), .int .i64 ((rd_T24 l0 x31_2).f2), .int .i64 ((rd_T24 l0 x31_2).f3), .int .i64 ((rd_T24 l0 x31_2).f4), .int .i64 ((rd_T24 l0 x31_2).f5), .int .i64 ((rd_T24 l0 x31_2).f6), .int .i64 0]) ?_ 7 _ rfl; (with_reducible repeat (first | refine zE ?_ _ | refine zF ?_ | refine zD ?_ _)); refine blk_put (cs := #[.int .i64 ((rd_T24 l0 x31_2).f0), .int .i64 ((rd_T24 l0 x31_2).f1), .int .i64 ((rd_T24 l0 x31_2).f2), .int .i64 ((rd_T24 l0 x31_2).f3), .int .i64 ((rd_T24 l0 x31_2).f4), .int .i64 ((rd_T24 l0 x31_2).f5), .int .i64 0, .int .i64 0]) ?_ 6 _ rfl; (with_reducible repeat (first | refine zE ?_ _ | refine zF ?_ | refine zD ?_ _)); refine blk_put (cs := #[.int .i64 ((rd_T24 l0 x31_2).f0), .int .i64 ((rd_T24 l0 x31_2).f1), .int .i64 ((rd_T24 l0 x31_2).f2), .int .i64 ((rd_T24 l0 x31_2).f3), .int .i64 ((rd_T24 l0 x31_2).f4), .int .i64 0, .int .i64 0, .int .i64 0]) ?_ 5 _ rfl; (with_reducible repeat (first | refine zE ?_ _ | refine zF ?_ | refine zD ?_ _)); refine blk_put (cs := #[.int .i64 ((rd_T24 l0 x31_2).f0), .int .i64 ((rd_T24 l0 x31_2).f1), .int .i64 ((rd_T24 l0 x31_2).f2), .int .i64 ((rd_T24 l0 x31_2).f3), .int .i64 0, .int .i64 0, .int .i64 0, .int .i64 0]) ?_ 4 _ rfl; (with_reducible repeat (first | refine zE ?_ _ | refine zF ?_ | refine zD ?_ _)); refine blk_put (cs := #[.int .i64 ((rd_T24 l0 x31_2).f0), .int .i64 ((rd_T24 l0 x31_2).f1), .int .i64 ((rd_T24 l0 x31_2).f2), .int .i64 0, .int .i64 0, .int .i64 0, .int .i64 0, .int .i64 0]) ?_ 3 _ rfl; (with_reducible repeat (first | refine zE ?_ _ | refine zF ?_ | refine zD ?_ _)); refine blk_put (cs := #[.int .i64 ((rd_T24 l0 x31_2).f0), .int .i64 ((rd_T24 l0 x31_2).f1), .int .i64 0, .int .i64 0, .int .i64 0, .int .i64 0, .int .i64 0, .int .i64 0]) ?_ 2 _ rfl; (with_reducible repeat (first | refine zE ?_ _ | refine zF ?_ | refine zD ?_ _)); refine blk_put (cs := #[.int .i64 ((rd_T24 l0 x31_2).f0), .int .i64 0, .int .i64 0, .int .i64 0, .int .i64 0, .int .i64 0, .int .i64 0, .int .i64 0]) ?_ 1 _ rfl; (with_reducible repeat (first | refine zE ?_ _ | refine zF ?_ | refine zD ?_ _)); refine blk_put (cs := #[.int .i64 0, .int .i64 0, .int .i64 0, .int .i64 0, .int .i64 0, .int .i64 0, .int .i64 0, .int .i64 0]) ?_ 0 _ rfl; (with_reducible repeat (first | refine zE ?_ _ | refine zF ?_ | refine zD ?_ _)); exact BK163.out⟩
             have n2_ : Aside0 (Below w.heap.size w ((((((((((w25.setCell ⟨gb163, 0, none⟩ (.int .i64 ((rd_T24 l0 x31_2).f0))).setCell ⟨gb163, 1, none⟩ (.int .i64 ((rd_T24 l0 x31_2).f1))).setCell ⟨gb163, 2, none⟩ (.int .i64 ((rd_T24 l0 x31_2).f2))).setCell ⟨gb163, 3, none⟩ (.int .i64 ((rd_T24 l0 x31_2).f3))).setCell ⟨gb163, 4, none⟩ (.int .i64 ((rd_T24 l0 x31_2).f4))).setCell ⟨gb163, 5, none⟩ (.int .i64 ((rd_T24 l0 x31_2).f5))).setCell ⟨gb163, 6, none⟩ (.int .i64 ((rd_T24 l0 x31_2).f6))).setCell ⟨gb163, 7, none⟩ (.int .i64 ((rd_T24 l0 x31_2).f7))).drewN nd).setCell ⟨gb163, 0, none⟩ (.int .i64 t164))) := ⟨by repeat (first | (with_reducible first | exact HB.out | apply zA | apply zB | apply zC | refine below_set ?_ GE163.out) | exact HB.out)⟩
             (try clear HO_7)
             (try clear BK163)
             (try clear HB)
             generalize ((((((((((w25.setCell ⟨gb163, 0, none⟩ (.int .i64 ((rd_T24 l0 x31_2).f0))).setCell ⟨gb163, 1, none⟩ (.int .i64 ((rd_T24 l0 x31_2).f1))).setCell ⟨gb163, 2, none⟩ (.int .i64 ((rd_T24 l0 x31_2).f2))).setCell ⟨gb163, 3, none⟩ (.int .i64 ((rd_T24 l0 x31_2).f3))).setCell ⟨gb163, 4, none⟩ (.int .i64 ((rd_T24 l0 x31_2).f4))).setCell ⟨gb163, 5, none⟩ (.int .i64 ((rd_T24 l0 x31_2).f5))).setCell ⟨gb163, 6, none⟩ (.int .i64 ((rd_T24 l0 x31_2).f6))).setCell ⟨gb163, 7, none⟩ (.int .i64 ((rd_T24 l0 x31_2).f7))).drewN nd).setCell ⟨gb163, 0, none⟩ (.int .i64 t164)) = w28 at n0_ n1_ n2_ ⊢
             have HO_7 := n0_
             have BK163 := n1_
             have HB := n2_
             clear n0_ n1_ n2_
             (try (rw [drewN_self w28]; generalize hq_ : World.drewN w28 _ = w28; have n0_ : Aside0 (Kd.R k24 24 w28 w.heap.size (fun k_ => k_ ≠ gb163) (.slice Ao27 x7_2.length co27) x7_2) := ⟨by rw [← hq_]; exact (by (with_reducible repeat (first | apply zG | apply zH | apply zI)); exact HO_7.out)⟩; have n1_ : Aside0 (w28.heap[gb163]? = some (.cells #[.int .i64 t164, .int .i64 ((rd_T24 l0 x31_2).f1), .int .i64 ((rd_T24 l0 x31_2).f2), .int .i64 ((rd_T24 l0 x31_2).f3), .int .i64 ((rd_T24 l0 x31_2).f4), .int .i64 ((rd_T24 l0 x31_2).f5), .int .i64 ((rd_T24 l0 x31_2).f6), .int .i64 ((rd_T24 l0 x31_2).f7)] 24 (0, 0))) := ⟨by rw [← hq_]; exact (by (with_reducible repeat (first | refine zE ?_ _ | refine zF ?_ | refine zD ?_ _)); exact BK163.out)⟩; have n2_ : Aside0 (Below w.heap.size w w28) := ⟨by rw [← hq_]; exact (by repeat (first | (with_reducible first | exact HB.out | apply zA | apply zB | apply zC | refine below_set ?_ GE163.out) | exact HB.out))⟩; clear HO_7 BK163 HB hq_; have HO_7 := n0_; have BK163 := n1_; have HB := n2_; clear n0_ n1_ n2_))
             have n0_ := Aside0.mk (zI HO_7.out)
             have n1_ := Aside0.mk (zF BK163.out)
             have n2_ := Aside0.mk (zC HB.out)
             try clear HO_7
             clear BK163
             clear HB
             have HO_7 := n0_
             have BK163 := n1_
             have HB := n2_
             clear n0_ n1_ n2_
             have p165 : 0 ≤ ((ji19) : Int) := zX (by first | (with_reducible assumption) | assumption)
             have q165 : (ji19) < (x7_2.length : Int) := zX (by first | (with_reducible assumption) | assumption)
             obtain ⟨ad165, e165, hx165_0, hx165_1, hx165_2, hx165_3, hx165_4, hx165_5, hx165_6, hx165_7⟩ := at_T24 (Kd.R_reads' HO_7.out).2.2 (ji19) p165 q165
             cases e165
             replace p165 := eq_true p165
             replace q165 := eq_true q165
             refine start_ (n := 13) (S := fun w' => w'.cell? ⟨gb163, 0, none⟩ = some (.int .i64 t164) ∧ w'.cell? ⟨gb163, 1, none⟩ = some (.int .i64 ((rd_T24 l0 x31_2).f1)) ∧ w'.cell? ⟨gb163, 2, none⟩ = some (.int .i64 ((rd_T24 l0 x31_2).f2)) ∧ w'.cell? ⟨gb163, 3, none⟩ = some (.int .i64 ((rd_T24 l0 x31_2).f3)) ∧ w'.cell? ⟨gb163, 4, none⟩ = some (.int .i64 ((rd_T24 l0 x31_2).f4)) ∧ w'.cell? ⟨gb163, 5, none⟩ = some (.int .i64 ((rd_T24 l0 x31_2).f5)) ∧ w'.cell? ⟨gb163, 6, none⟩ = some (.int .i64 ((rd_T24 l0 x31_2).f6)) ∧ w'.cell? ⟨gb163, 7, none⟩ = some (.int .i64 ((rd_T24 l0 x31_2).f7)) ∧ w'.cell? (ad165.add (((ji19)).toNat * 8)) = some (.int .i64 ((rd_T24 x7_2 (ji19)).f0)) ∧ w'.cell? ⟨(ad165.add (((ji19)).toNat * 8)).block, (ad165.add (((ji19)).toNat * 8)).off + 1, none⟩ = some (.int .i64 ((rd_T24 x7_2 (ji19)).f1)) ∧ w'.cell? ⟨(ad165.add (((ji19)).toNat * 8)).block, (ad165.add (((ji19)).toNat * 8)).off + 2, none⟩ = some (.int .i64 ((rd_T24 x7_2 (ji19)).f2)) ∧ w'.cell? ⟨(ad165.add (((ji19)).toNat * 8)).block, (ad165.add (((ji19)).toNat * 8)).off + 3, none⟩ = some (.int .i64 ((rd_T24 x7_2 (ji19)).f3)) ∧ w'.cell? ⟨(ad165.add (((ji19)).toNat * 8)).block, (ad165.add (((ji19)).toNat * 8)).off + 4, none⟩ = some (.int .i64 ((rd_T24 x7_2 (ji19)).f4)) ∧ w'.cell? ⟨(ad165.add (((ji19)).toNat * 8)).block, (ad165.add (((ji19)).toNat * 8)).off + 5, none⟩ = some (.int .i64 ((rd_T24 x7_2 (ji19)).f5)) ∧ w'.cell? ⟨(ad165.add (((ji19)).toNat * 8)).block, (ad165.add (((ji19)).toNat * 8)).off + 6, none⟩ = some (.int .i64 ((rd_T24 x7_2 (ji19)).f6)) ∧ w'.cell? ⟨(ad165.add (((ji19)).toNat * 8)).block, (ad165.add (((ji19)).toNat * 8)).off + 7, none⟩ = some (.int .i64 ((rd_T24 x7_2 (ji19)).f7))) (ds := []) #[false, false, false, false, false, false, false, false, false, false, false, false, false] (by kernel_rfl) rfl rfl ⟨(zQ BK163.out 0).trans rfl, (zQ BK163.out 1).trans rfl, (zQ BK163.out 2).trans rfl, (zQ BK163.out 3).trans rfl, (zQ BK163.out 4).trans rfl, (zQ BK163.out 5).trans rfl, (zQ BK163.out 6).trans rfl, (zQ BK163.out 7).trans rfl, hx165_0, hx165_1, hx165_2, hx165_3, hx165_4, hx165_5, hx165_6, hx165_7⟩ (fun hHeld => ?_); refine with_tabW impl_DownAggs.tab9 impl_DownAggs.bits9 (fun HT_ HW_ => ?_)
             generalize w28.drew = w29 at HO_7 BK163 HB hx165_0 hx165_1 hx165_2 hx165_3 hx165_4 hx165_5 hx165_6 hx165_7 hHeld ⊢
             refine pure_ (i := 0) (N := some 44) (v := ?_) (a' := ?_) #[true, false, false, false, false, false, false, false, false, false, false, false, false] rfl rfl (any_of HT_.out (by kernel_rfl)) (fun _ _ _ h => h) (Or.inl ⟨by rfl, ?_⟩) ?_ ?_
             rotate_left
             ·intro w'
              go_simp
              with_reducible rfl
             rotate_left
             ·simp only [Act.put, zT, zU, zV, i64_w, i32_w]
              rfl
             refine pure_ (i := 1) (N := some 45) (v := ?_) (a' := ?_) #[true, true, false, false, false, false, false, false, false, false, false, false, false] rfl rfl (any_of HT_.out (by kernel_rfl)) (fun _ _ _ h => h) (Or.inl ⟨by rfl, ?_⟩) ?_ ?_
             rotate_left
             ·intro w'
              go_simp
              with_reducible rfl
             rotate_left
             ·simp only [Act.put, zT, zU, zV, i64_w, i32_w]
              rfl
             refine pure_ (i := 2) (N := some 46) (v := ?_) (a' := ?_) #[true, true, true, false, false, false, false, false, false, false, false, false, false] rfl rfl (any_of HT_.out (by kernel_rfl)) (fun _ _ _ h => h) (Or.inl ⟨by rfl, ?_⟩) ?_ ?_
             rotate_left
             ·intro w'
              go_simp
              with_reducible rfl
             rotate_left
             ·simp only [Act.put, zT, zU, zV, i64_w, i32_w]
              rfl
             refine pure_ (i := 3) (N := some 47) (v := ?_) (a' := ?_) #[true, true, true, true, false, false, false, false, false, false, false, false, false] rfl rfl (any_of HT_.out (by kernel_rfl)) (fun _ _ _ h => h) (Or.inl ⟨by rfl, ?_⟩) ?_ ?_
             rotate_left
             ·intro w'
              go_simp
              with_reducible rfl
             rotate_left
             ·simp only [Act.put, zT, zU, zV, i64_w, i32_w]
              rfl
             refine pure_ (i := 4) (N := some 48) (v := ?_) (a' := ?_) #[true, true, true, true, true, false, false, false, false, false, false, false, false] rfl rfl (any_of HT_.out (by kernel_rfl)) (fun _ _ _ h => h) (Or.inl ⟨by rfl, ?_⟩) ?_ ?_
             rotate_left
             ·intro w'
              go_simp
              with_reducible rfl
             rotate_left
             ·simp only [Act.put, zT, zU, zV, i64_w, i32_w]
              rfl
             refine pure_ (i := 5) (N := some 49) (v := ?_) (a' := ?_) #[true, true, true, true, true, true, false, false, false, false, false, false, false] rfl rfl (any_of HT_.out (by kernel_rfl)) (fun _ _ _ h => h) (Or.inl ⟨by rfl, ?_⟩) ?_ ?_
             rotate_left
             ·intro w'
              go_simp
              with_reducible rfl
             rotate_left
             ·simp only [Act.put, zT, zU, zV, i64_w, i32_w]
              rfl
             refine pure_ (i := 6) (N := some 50) (v := ?_) (a' := ?_) #[true, true, true, true, true, true, true, false, false, false, false, false, false] rfl rfl (any_of HT_.out (by kernel_rfl)) (fun _ _ _ h => h) (Or.inl ⟨by rfl, ?_⟩) ?_ ?_
             rotate_left
             ·intro w'
              go_simp
              with_reducible rfl
             rotate_left
             ·simp only [Act.put, zT, zU, zV, i64_w, i32_w]
              rfl
             refine pure_ (i := 7) (N := some 51) (v := ?_) (a' := ?_) #[true, true, true, true, true, true, true, true, false, false, false, false, false] rfl rfl (any_of HT_.out (by kernel_rfl)) (fun _ _ _ h => h) (Or.inl ⟨by rfl, ?_⟩) ?_ ?_
             rotate_left
             ·intro w'
              go_simp
              with_reducible rfl
             rotate_left
             ·simp only [Act.put, zT, zU, zV, i64_w, i32_w]
              rfl
             refine pure_ (i := 9) (N := some 53) (v := ?_) (a' := ?_) #[true, true, true, true, true, true, true, true, false, true, false, false, false] rfl rfl (any_of HT_.out (by kernel_rfl)) (fun _ _ _ h => h) (Or.inl ⟨by rfl, ?_⟩) ?_ ?_
             rotate_left
             ·intro w'
              go_simp
              with_reducible rfl
             rotate_left
             ·simp only [Act.put, zT, zU, zV, i64_w, i32_w]
              rfl
             refine take_ (i := 8) (N := some 52) (v := ?_) (a' := ?_) #[true, true, true, true, true, true, true, true, true, true, false, false, false] rfl rfl (take_ofW HT_.out HW_.out (by kernel_rfl)) (fun _ _ _ h => h) (Or.inl ⟨by rfl, ?_⟩) hHeld ?_ ?_
             rotate_left
             ·rintro w' ⟨s0, s1, s2, s3, s4, s5, s6, s7, s8, s9, s10, s11, s12, s13, s14, s15⟩
              go_simp
              with_reducible rfl
             rotate_left
             ·simp only [Act.put, zT, zU, zV, i64_w, i32_w]
              rfl
             refine take_ (i := 10) (N := some 54) (v := ?_) (a' := ?_) #[true, true, true, true, true, true, true, true, true, true, true, false, false] rfl rfl (take_ofW HT_.out HW_.out (by kernel_rfl)) (fun _ _ _ h => h) (Or.inl ⟨by rfl, ?_⟩) hHeld ?_ ?_
             rotate_left
             ·rintro w' ⟨s0, s1, s2, s3, s4, s5, s6, s7, s8, s9, s10, s11, s12, s13, s14, s15⟩
              go_simp
              with_reducible rfl
             rotate_left
             ·simp only [Act.put, zT, zU, zV, i64_w, i32_w]
              rfl
             refine pure_ (i := 11) (N := some 55) (v := ?_) (a' := ?_) #[true, true, true, true, true, true, true, true, true, true, true, true, false] rfl rfl (any_of HT_.out (by kernel_rfl)) (fun _ _ _ h => h) (Or.inl ⟨by rfl, ?_⟩) ?_ ?_
             rotate_left
             ·intro w'
              go_simp
              with_reducible rfl
             rotate_left
             ·simp only [Act.put, zT, zU, zV, i64_w, i32_w]
              rfl
             refine pure_ (i := 12) (N := some 56) (v := ?_) (a' := ?_) #[true, true, true, true, true, true, true, true, true, true, true, true, true] rfl rfl (any_of HT_.out (by kernel_rfl)) (fun _ _ _ h => h) (Or.inl ⟨by rfl, ?_⟩) ?_ ?_
             rotate_left
             ·intro w'
              go_simp
              with_reducible rfl
             rotate_left
             ·simp only [Act.put, zT, zU, zV, i64_w, i32_w]
              rfl
             refine done_ (done_of HT_.out (by kernel_rfl)) ?_
             try go_wp2
             have n0_ := Aside0.mk (zI HO_7.out)
             have n1_ := Aside0.mk (zF BK163.out)
             have n2_ := Aside0.mk (zC HB.out)
             try clear HO_7
             clear BK163
             clear HB
             have HO_7 := n0_
             have BK163 := n1_
             have HB := n2_
             clear n0_ n1_ n2_
             have p166 : 0 ≤ ((ji19) : Int) := zX (by first | (with_reducible assumption) | assumption)
             have q166 : (ji19) < (x7_2.length : Int) := zX (by first | (with_reducible assumption) | assumption)
             obtain ⟨ad166, e166, hx166_0, hx166_1, hx166_2, hx166_3, hx166_4, hx166_5, hx166_6, hx166_7⟩ := at_T24 (Kd.R_reads' HO_7.out).2.2 (ji19) p166 q166
             obtain rfl : ad165 = ad166 := (by injection e166)
             replace p166 := eq_true p166
             replace q166 := eq_true q166
             refine start_ (n := 12) (S := fun w' => w'.cell? ⟨gb163, 0, none⟩ = some (.int .i64 t164) ∧ w'.cell? ⟨gb163, 1, none⟩ = some (.int .i64 ((rd_T24 l0 x31_2).f1)) ∧ w'.cell? ⟨gb163, 2, none⟩ = some (.int .i64 ((rd_T24 l0 x31_2).f2)) ∧ w'.cell? ⟨gb163, 3, none⟩ = some (.int .i64 ((rd_T24 l0 x31_2).f3)) ∧ w'.cell? ⟨gb163, 4, none⟩ = some (.int .i64 ((rd_T24 l0 x31_2).f4)) ∧ w'.cell? ⟨gb163, 5, none⟩ = some (.int .i64 ((rd_T24 l0 x31_2).f5)) ∧ w'.cell? ⟨gb163, 6, none⟩ = some (.int .i64 ((rd_T24 l0 x31_2).f6)) ∧ w'.cell? ⟨gb163, 7, none⟩ = some (.int .i64 ((rd_T24 l0 x31_2).f7)) ∧ w'.cell? (ad165.add (((ji19)).toNat * 8)) = some (.int .i64 ((rd_T24 x7_2 (ji19)).f0)) ∧ w'.cell? ⟨(ad165.add (((ji19)).toNat * 8)).block, (ad165.add (((ji19)).toNat * 8)).off + 1, none⟩ = some (.int .i64 ((rd_T24 x7_2 (ji19)).f1)) ∧ w'.cell? ⟨(ad165.add (((ji19)).toNat * 8)).block, (ad165.add (((ji19)).toNat * 8)).off + 2, none⟩ = some (.int .i64 ((rd_T24 x7_2 (ji19)).f2)) ∧ w'.cell? ⟨(ad165.add (((ji19)).toNat * 8)).block, (ad165.add (((ji19)).toNat * 8)).off + 3, none⟩ = some (.int .i64 ((rd_T24 x7_2 (ji19)).f3)) ∧ w'.cell? ⟨(ad165.add (((ji19)).toNat * 8)).block, (ad165.add (((ji19)).toNat * 8)).off + 4, none⟩ = some (.int .i64 ((rd_T24 x7_2 (ji19)).f4)) ∧ w'.cell? ⟨(ad165.add (((ji19)).toNat * 8)).block, (ad165.add (((ji19)).toNat * 8)).off + 5, none⟩ = some (.int .i64 ((rd_T24 x7_2 (ji19)).f5)) ∧ w'.cell? ⟨(ad165.add (((ji19)).toNat * 8)).block, (ad165.add (((ji19)).toNat * 8)).off + 6, none⟩ = some (.int .i64 ((rd_T24 x7_2 (ji19)).f6)) ∧ w'.cell? ⟨(ad165.add (((ji19)).toNat * 8)).block, (ad165.add (((ji19)).toNat * 8)).off + 7, none⟩ = some (.int .i64 ((rd_T24 x7_2 (ji19)).f7))) (ds := [11]) #[false, false, false, false, false, false, false, false, false, false, false, false] (by kernel_rfl) rfl rfl ⟨(zQ BK163.out 0).trans rfl, (zQ BK163.out 1).trans rfl, (zQ BK163.out 2).trans rfl, (zQ BK163.out 3).trans rfl, (zQ BK163.out 4).trans rfl, (zQ BK163.out 5).trans rfl, (zQ BK163.out 6).trans rfl, (zQ BK163.out 7).trans rfl, hx166_0, hx166_1, hx166_2, hx166_3, hx166_4, hx166_5, hx166_6, hx166_7⟩ (fun hHeld => ?_); refine with_tabW impl_DownAggs.tab10 impl_DownAggs.bits10 (fun HT_ HW_ => ?_)
             generalize w29.drew = w30 at HO_7 BK163 HB hx166_0 hx166_1 hx166_2 hx166_3 hx166_4 hx166_5 hx166_6 hx166_7 hHeld ⊢
             refine pure_ (i := 0) (N := some 57) (v := ?_) (a' := ?_) #[true, false, false, false, false, false, false, false, false, false, false, false] rfl rfl (any_of HT_.out (by kernel_rfl)) (fun _ _ _ h => h) (Or.inl ⟨by rfl, ?_⟩) ?_ ?_
             rotate_left
             ·intro w'
              go_simp
              with_reducible rfl
             rotate_left
             ·simp only [Act.put, zT, zU, zV, i64_w, i32_w]
              rfl
             refine pure_ (i := 1) (N := some 58) (v := ?_) (a' := ?_) #[true, true, false, false, false, false, false, false, false, false, false, false] rfl rfl (any_of HT_.out (by kernel_rfl)) (fun _ _ _ h => h) (Or.inl ⟨by rfl, ?_⟩) ?_ ?_
             rotate_left
             ·intro w'
              go_simp
              with_reducible rfl
             rotate_left
             ·simp only [Act.put, zT, zU, zV, i64_w, i32_w]
              rfl
             refine pure_ (i := 2) (N := some 59) (v := ?_) (a' := ?_) #[true, true, true, false, false, false, false, false, false, false, false, false] rfl rfl (any_of HT_.out (by kernel_rfl)) (fun _ _ _ h => h) (Or.inl ⟨by rfl, ?_⟩) ?_ ?_
             rotate_left
             ·intro w'
              go_simp
              with_reducible rfl
             rotate_left
             ·simp only [Act.put, zT, zU, zV, i64_w, i32_w]
              rfl
             refine pure_ (i := 3) (N := some 60) (v := ?_) (a' := ?_) #[true, true, true, true, false, false, false, false, false, false, false, false] rfl rfl (any_of HT_.out (by kernel_rfl)) (fun _ _ _ h => h) (Or.inl ⟨by rfl, ?_⟩) ?_ ?_
             rotate_left
             ·intro w'
              go_simp
              with_reducible rfl
             rotate_left
             ·simp only [Act.put, zT, zU, zV, i64_w, i32_w]
              rfl
             refine pure_ (i := 4) (N := some 61) (v := ?_) (a' := ?_) #[true, true, true, true, true, false, false, false, false, false, false, false] rfl rfl (any_of HT_.out (by kernel_rfl)) (fun _ _ _ h => h) (Or.inl ⟨by rfl, ?_⟩) ?_ ?_
             rotate_left
             ·intro w'
              go_simp
              with_reducible rfl
             rotate_left
             ·simp only [Act.put, zT, zU, zV, i64_w, i32_w]
              rfl
             refine pure_ (i := 5) (N := some 62) (v := ?_) (a' := ?_) #[true, true, true, true, true, true, false, false, false, false, false, false] rfl rfl (any_of HT_.out (by kernel_rfl)) (fun _ _ _ h => h) (Or.inl ⟨by rfl, ?_⟩) ?_ ?_
             rotate_left
             ·intro w'
              go_simp
              with_reducible rfl
             rotate_left
             ·simp only [Act.put, zT, zU, zV, i64_w, i32_w]
              rfl
             refine pure_ (i := 6) (N := some 63) (v := ?_) (a' := ?_) #[true, true, true, true, true, true, true, false, false, false, false, false] rfl rfl (any_of HT_.out (by kernel_rfl)) (fun _ _ _ h => h) (Or.inl ⟨by rfl, ?_⟩) ?_ ?_
             rotate_left
             ·intro w'
              go_simp
              with_reducible rfl
             rotate_left
             ·simp only [Act.put, zT, zU, zV, i64_w, i32_w]
              rfl
             refine take_ (i := 7) (N := some 64) (v := ?_) (a' := ?_) #[true, true, true, true, true, true, true, true, false, false, false, false] rfl rfl (take_ofW HT_.out HW_.out (by kernel_rfl)) (fun _ _ _ h => h) (Or.inl ⟨by rfl, ?_⟩) hHeld ?_ ?_
             rotate_left
             ·rintro w' ⟨s0, s1, s2, s3, s4, s5, s6, s7, s8, s9, s10, s11, s12, s13, s14, s15⟩
              go_simp
              with_reducible rfl
             rotate_left
             ·simp only [Act.put, zT, zU, zV, i64_w, i32_w]
              rfl
             refine take_ (i := 8) (N := some 65) (v := ?_) (a' := ?_) #[true, true, true, true, true, true, true, true, true, false, false, false] rfl rfl (take_ofW HT_.out HW_.out (by kernel_rfl)) (fun _ _ _ h => h) (Or.inl ⟨by rfl, ?_⟩) hHeld ?_ ?_
             rotate_left
             ·rintro w' ⟨s0, s1, s2, s3, s4, s5, s6, s7, s8, s9, s10, s11, s12, s13, s14, s15⟩
              go_simp
              with_reducible rfl
             rotate_left
             ·simp only [Act.put, zT, zU, zV, i64_w, i32_w]
              rfl
             refine one_ (i := 9) (N := some 66) #[true, true, true, true, true, true, true, true, true, true, false, false] rfl rfl (one_of HT_.out (by kernel_rfl)) (by decide) (fun K hK => ?_)
             refine goes_ Try.func10 (by kernel_rfl) rfl #[.agg #[.int .i64 ((rd_T24 x7_2 (ji19)).f0), .int .i64 ((rd_T24 x7_2 (ji19)).f1), .int .i64 ((rd_T24 x7_2 (ji19)).f2), .int .i64 ((rd_T24 x7_2 (ji19)).f3), .int .i64 ((rd_T24 x7_2 (ji19)).f4), .int .i64 ((rd_T24 x7_2 (ji19)).f5), .int .i64 ((rd_T24 x7_2 (ji19)).f6), .int .i64 ((rd_T24 x7_2 (ji19)).f7)], .agg #[.int .i64 t164, .int .i64 ((rd_T24 l0 x31_2).f1), .int .i64 ((rd_T24 l0 x31_2).f2), .int .i64 ((rd_T24 l0 x31_2).f3), .int .i64 ((rd_T24 l0 x31_2).f4), .int .i64 ((rd_T24 l0 x31_2).f5), .int .i64 ((rd_T24 l0 x31_2).f6), .int .i64 ((rd_T24 l0 x31_2).f7)]] (by rfl) rfl rfl (by (try simp only [List.map_toArray, List.map_cons, List.map_nil]); first | done | (simp only [hji19]; rfl) | rfl | (simp only [List.length_drop, List.length_take]; rfl)) ?_
             with_reducible refine (impl_MergeAgg.calls ((rd_T24 x7_2 (ji19)).f0) ((rd_T24 x7_2 (ji19)).f1) ((rd_T24 x7_2 (ji19)).f2) ((rd_T24 x7_2 (ji19)).f3) ((rd_T24 x7_2 (ji19)).f4) ((rd_T24 x7_2 (ji19)).f5) ((rd_T24 x7_2 (ji19)).f6) ((rd_T24 x7_2 (ji19)).f7) t164 ((rd_T24 l0 x31_2).f1) ((rd_T24 l0 x31_2).f2) ((rd_T24 l0 x31_2).f3) ((rd_T24 l0 x31_2).f4) ((rd_T24 l0 x31_2).f5) ((rd_T24 l0 x31_2).f6) ((rd_T24 l0 x31_2).f7) t167 t168 t169 t170 t171 t172 t173 t174 _ A23.out).mono ?_
             rintro e w31 ⟨rfl, hb⟩
             have HS8_ := (hb.cell (zR _ _ (hHeld.2.2.2.2.2.2.2.2.1))).trans (hHeld.2.2.2.2.2.2.2.2.1)
             have HS9_ := (hb.cell (zR _ _ (hHeld.2.2.2.2.2.2.2.2.2.1))).trans (hHeld.2.2.2.2.2.2.2.2.2.1)
             have HS10_ := (hb.cell (zR _ _ (hHeld.2.2.2.2.2.2.2.2.2.2.1))).trans (hHeld.2.2.2.2.2.2.2.2.2.2.1)
             have HS11_ := (hb.cell (zR _ _ (hHeld.2.2.2.2.2.2.2.2.2.2.2.1))).trans (hHeld.2.2.2.2.2.2.2.2.2.2.2.1)
             have HS12_ := (hb.cell (zR _ _ (hHeld.2.2.2.2.2.2.2.2.2.2.2.2.1))).trans (hHeld.2.2.2.2.2.2.2.2.2.2.2.2.1)
             have HS13_ := (hb.cell (zR _ _ (hHeld.2.2.2.2.2.2.2.2.2.2.2.2.2.1))).trans (hHeld.2.2.2.2.2.2.2.2.2.2.2.2.2.1)
             have HS14_ := (hb.cell (zR _ _ (hHeld.2.2.2.2.2.2.2.2.2.2.2.2.2.2.1))).trans (hHeld.2.2.2.2.2.2.2.2.2.2.2.2.2.2.1)
             have HS15_ := (hb.cell (zR _ _ (hHeld.2.2.2.2.2.2.2.2.2.2.2.2.2.2.2))).trans (hHeld.2.2.2.2.2.2.2.2.2.2.2.2.2.2.2)
             refine ⟨_, rfl, ?_⟩
             have n0_ := Aside0.mk (Kd.R_below (by (with_reducible repeat (first | apply zG | apply zH | apply zI)); exact HO_7.out) hb)
             have n1_ := Aside0.mk (blk_below (g := gb163) (o := cs8 24 t164 ((rd_T24 l0 x31_2).f1) ((rd_T24 l0 x31_2).f2) ((rd_T24 l0 x31_2).f3) ((rd_T24 l0 x31_2).f4) ((rd_T24 l0 x31_2).f5) ((rd_T24 l0 x31_2).f6) ((rd_T24 l0 x31_2).f7)) (by (with_reducible repeat (first | refine zE ?_ _ | refine zF ?_ | refine zD ?_ _)); exact BK163.out) hb)
             have n2_ := Aside0.mk (below_step (by repeat (first | (with_reducible first | exact HB.out | apply zA | apply zB | apply zC | refine below_set ?_ GE163.out) | exact HB.out)) hb)
             try clear HO_7
             clear BK163
             clear HB
             have HO_7 := n0_
             have BK163 := n1_
             have HB := n2_
             clear n0_ n1_ n2_
             (try clear hb)
             (try clear hb2)
             (try clear hk)
             (try clear hi)
             have p24 : 0 ≤ ((ji19) : Int) := zX (by first | (with_reducible assumption) | assumption)
             have q24 : ((ji19) : Int) < ((x7_2.length : Int) : Int) := zX (by first | (with_reducible assumption) | assumption)
             obtain ⟨go24, co24, eo24, gb24, gl24, cl24, HG24⟩ := Kd.R_form HO_7.out (by omega)
             (first | cases eo24 | (injection eo24 with ea_ en_ ec_; (first | subst ea_ | (injection ea_ with ea_; subst ea_)); subst ec_; clear en_))
             have GB24 := Aside0.mk gb24
             have GG24 := Aside0.mk HG24
             clear gb24 gl24 HG24
             (first | simp only [add_plain] at hx165_0 | skip)
             (first | simp only [add_plain] at hx165_1 | skip)
             (first | simp only [add_plain] at hx165_2 | skip)
             (first | simp only [add_plain] at hx165_3 | skip)
             (first | simp only [add_plain] at hx165_4 | skip)
             (first | simp only [add_plain] at hx165_5 | skip)
             (first | simp only [add_plain] at hx165_6 | skip)
             (first | simp only [add_plain] at hx165_7 | skip)
             (first | simp only [add_plain] at hx166_0 | skip)
             (first | simp only [add_plain] at hx166_1 | skip)
             (first | simp only [add_plain] at hx166_2 | skip)
             (first | simp only [add_plain] at hx166_3 | skip)
             (first | simp only [add_plain] at hx166_4 | skip)
             (first | simp only [add_plain] at hx166_5 | skip)
             (first | simp only [add_plain] at hx166_6 | skip)
             (first | simp only [add_plain] at hx166_7 | skip)
             obtain ⟨ce24, hcl24, hM24, hcc24, hfr24⟩ := Kd.R_elem HO_7.out z24 ((ji19) : Int) p24 q24
             obtain rfl := k24_openM hM24
             have hx24_0 : World.cell? _ ⟨go24, ((ji19) : Int).toNat * 8, none⟩ = some (.int .i64 ((rd_T24 x7_2 (ji19)).f0)) := hcc24 0 _ rfl
             have hx24_1 : World.cell? _ ⟨go24, ((ji19) : Int).toNat * 8 + 1, none⟩ = some (.int .i64 ((rd_T24 x7_2 (ji19)).f1)) := hcc24 1 _ rfl
             have hx24_2 : World.cell? _ ⟨go24, ((ji19) : Int).toNat * 8 + 2, none⟩ = some (.int .i64 ((rd_T24 x7_2 (ji19)).f2)) := hcc24 2 _ rfl
             have hx24_3 : World.cell? _ ⟨go24, ((ji19) : Int).toNat * 8 + 3, none⟩ = some (.int .i64 ((rd_T24 x7_2 (ji19)).f3)) := hcc24 3 _ rfl
             have hx24_4 : World.cell? _ ⟨go24, ((ji19) : Int).toNat * 8 + 4, none⟩ = some (.int .i64 ((rd_T24 x7_2 (ji19)).f4)) := hcc24 4 _ rfl
             have hx24_5 : World.cell? _ ⟨go24, ((ji19) : Int).toNat * 8 + 5, none⟩ = some (.int .i64 ((rd_T24 x7_2 (ji19)).f5)) := hcc24 5 _ rfl
             have hx24_6 : World.cell? _ ⟨go24, ((ji19) : Int).toNat * 8 + 6, none⟩ = some (.int .i64 ((rd_T24 x7_2 (ji19)).f6)) := hcc24 6 _ rfl
             have hx24_7 : World.cell? _ ⟨go24, ((ji19) : Int).toNat * 8 + 7, none⟩ = some (.int .i64 ((rd_T24 x7_2 (ji19)).f7)) := hcc24 7 _ rfl
             have hf24_0 : World.frozen? _ ⟨go24, ((ji19) : Int).toNat * 8, none⟩ = false := hfr24 0
             have hf24_1 : World.frozen? _ ⟨go24, ((ji19) : Int).toNat * 8 + 1, none⟩ = false := hfr24 1
             have hf24_2 : World.frozen? _ ⟨go24, ((ji19) : Int).toNat * 8 + 2, none⟩ = false := hfr24 2
             have hf24_3 : World.frozen? _ ⟨go24, ((ji19) : Int).toNat * 8 + 3, none⟩ = false := hfr24 3
             have hf24_4 : World.frozen? _ ⟨go24, ((ji19) : Int).toNat * 8 + 4, none⟩ = false := hfr24 4
             have hf24_5 : World.frozen? _ ⟨go24, ((ji19) : Int).toNat * 8 + 5, none⟩ = false := hfr24 5
             have hf24_6 : World.frozen? _ ⟨go24, ((ji19) : Int).toNat * 8 + 6, none⟩ = false := hfr24 6
             have hf24_7 : World.frozen? _ ⟨go24, ((ji19) : Int).toNat * 8 + 7, none⟩ = false := hfr24 7
             clear hcl24 hcc24 hfr24 hM24
             replace p24 := eq_true p24
             replace q24 := eq_true q24
             obtain ⟨ce32, hcl32, hM32, hcc32, hfr32⟩ := Kd.R_elem HO_7.out z24 ((ji19) : Int) (zX (by first | (with_reducible assumption) | assumption)) (by have h_ : ((ji19) : Int) < ((x7_2.length : Int) : Int) := zX (by first | (with_reducible assumption) | assumption); first | exact h_ | (have e_ := (Kd.R_reads' HO_7.out).1; omega) | simpa using h_)
             obtain rfl := k24_openM hM32
             have HP32 := (Kd.R_seg HO_7.out ((ji19) : Int) (zX (by first | (with_reducible assumption) | assumption)) (by have h_ : ((ji19) : Int) < ((x7_2.length : Int) : Int) := zX (by first | (with_reducible assumption) | assumption); first | exact h_ | (have e_ := (Kd.R_reads' HO_7.out).1; omega) | simpa using h_) (seg := [.int .i64 t167, .int .i64 t168, .int .i64 t169, .int .i64 t170, .int .i64 t171, .int .i64 t172, .int .i64 t173, .int .i64 t174]) (j := 0) hcl32 hcc32 (show 8 ≤ 8 from by decide) (x' := (⟨t167, t168, t169, t170, t171, t172, t173, t174⟩ : S24)) (k24_mkM _ _ _ (⟨t167, t168, t169, t170, t171, t172, t173, t174⟩ : S24) ) (fun _ hk => hk)).1
             rw [← Ny175.out] at HP32
             have HQ32 := Aside0.mk HP32
             clear hcl32 hcc32 hfr32 hM32 HP32
             refine hK.out _ _ ⟨(zQ BK163.out 0).trans rfl, (zQ BK163.out 1).trans rfl, (zQ BK163.out 2).trans rfl, (zQ BK163.out 3).trans rfl, (zQ BK163.out 4).trans rfl, (zQ BK163.out 5).trans rfl, (zQ BK163.out 6).trans rfl, (zQ BK163.out 7).trans rfl, HS8_, HS9_, HS10_, HS11_, HS12_, HS13_, HS14_, HS15_⟩ (fun hHeld => ?_)
             clear hK K
             refine norm_ (a' := ?_) ?_ ?_
             rotate_left
             ·show Act.put _ (some 66) _ = _
              simp only [Act.put, zT, zU, zV, i64_w, i32_w]
              rfl
             refine pure_ (i := 10) (N := some 67) (v := ?_) (a' := ?_) #[true, true, true, true, true, true, true, true, true, true, true, false] rfl rfl (any_of HT_.out (by kernel_rfl)) (fun _ _ _ h => h) (Or.inl ⟨by rfl, ?_⟩) ?_ ?_
             rotate_left
             ·intro w'
              go_simp
              with_reducible rfl
             rotate_left
             ·simp only [Act.put, zT, zU, zV, i64_w, i32_w]
              rfl
             refine last_ (i := 11) (N := none) #[true, true, true, true, true, true, true, true, true, true, true, true] rfl rfl (one_of HT_.out (by kernel_rfl)) (by decide) (fun K hK => ?_)
             refine skip_ (w1 := ?_) (by rfl) rfl ?_ ?_
             rotate_left
             ·go_simp
              rfl
             refine hK.out _ _ ?_
             clear hK K
             refine done_ (done_of HT_.out (by kernel_rfl)) ?_
             try go_wp2
             go_roundg k2
             case measure => have := HJ3.out; have := HK2.out; omega
             case rel => exact ⟨(y175), (wrap64 (x31_2 + 1)), (by first | rfl | (simp; done) | (simp [*]; done)), H', ⟨by have := HJ3.out; have := HK2.out; omega⟩, ⟨by (with_reducible repeat (first | apply zG | apply zH | apply zI)); exact Kd.R_mono HQ32.out (fun _ hk => trivial)⟩, ⟨by repeat (first | (with_reducible first | exact HB.out | apply zA | apply zB | apply zC | refine below_set ?_ GB24.out | refine below_set ?_ GB24.out | refine below_set ?_ GB24.out | refine below_set ?_ GB24.out | refine below_set ?_ GB24.out | refine below_set ?_ GB24.out | refine below_set ?_ GB24.out | refine below_set ?_ GB24.out | refine below_set ?_ GE163.out) | exact HB.out)⟩⟩
            ·rw [if_neg c22] at H
             have c22b0 : (((rd_T24 x7_2 (ji19)).f0) == t164) = false := beq_eq_false_iff_ne.mpr c22
             have c22b1 : (((rd_T24 x7_2 (ji19)).f0) != t164) = true := bne_iff_ne.mpr c22
             by_cases c33 : x7_2.length < 2199023255552
             ·rw [if_pos c33] at H
              have LMc33 := Aside0.mk c33
              clear c33
              obtain ⟨y176, hy176⟩ : ∃ y_ : List (S24), y_ = (x7_2 ++ [(⟨t164, (rd_T24 l0 x31_2).f1, (rd_T24 l0 x31_2).f2, (rd_T24 l0 x31_2).f3, (rd_T24 l0 x31_2).f4, (rd_T24 l0 x31_2).f5, (rd_T24 l0 x31_2).f6, (rd_T24 l0 x31_2).f7⟩ : S24)]) := ⟨_, rfl⟩
              replace H : (impl_DownAggs.l0 k2 a1 a2 y176 l0 (l0.length : Int) (wrap64 (x31_2 + 1))) = some r := by first | (rw [hy176]; with_reducible exact H) | (have H2_ := (Option.bind_some _ _).symm.trans H; rw [hy176]; with_reducible exact H2_) | (have H2_ := (Option.bind_some _ _).symm.trans H; with_reducible exact H2_) | with_reducible exact H | (rw [hy176]; exact H) | exact H
              have Ny176 := Aside0.mk hy176
              clear hy176
              have H' := Aside0.mk H
              clear H
              have p162 : 0 ≤ (x31_2 : Int) := zX (by first | (with_reducible assumption) | assumption)
              have q162 : x31_2 < (l0.length : Int) := zX (by first | (with_reducible assumption) | assumption)
              obtain ⟨ad162, e162, hx162_0, hx162_1, hx162_2, hx162_3, hx162_4, hx162_5, hx162_6, hx162_7⟩ := at_T24 HR0.out x31_2 p162 q162
              cases e162
              replace hx162_0 := (HB.out.cell (zR w _ hx162_0)).trans hx162_0
              replace hx162_1 := (HB.out.cell (zR w _ hx162_1)).trans hx162_1
              replace hx162_2 := (HB.out.cell (zR w _ hx162_2)).trans hx162_2
              replace hx162_3 := (HB.out.cell (zR w _ hx162_3)).trans hx162_3
              replace hx162_4 := (HB.out.cell (zR w _ hx162_4)).trans hx162_4
              replace hx162_5 := (HB.out.cell (zR w _ hx162_5)).trans hx162_5
              replace hx162_6 := (HB.out.cell (zR w _ hx162_6)).trans hx162_6
              replace hx162_7 := (HB.out.cell (zR w _ hx162_7)).trans hx162_7
              replace p162 := eq_true p162
              replace q162 := eq_true q162
              try go_wp2_with (first | ((with_reducible refine gate_dst (N := 9) rfl ?_); refine box_event ?hg (N := 9) ?hd (cs := #[.int .i64 0, .int .i64 0, .int .i64 0, .int .i64 0, .int .i64 0, .int .i64 0, .int .i64 0, .int .i64 0]) (t := 24) ?hr ?_; (case hd => rfl); (case hg => rfl); (case hr => first | (go_simp; done) | (go_simp; rfl)); intro gb163 hg w34 hbox hb; have n0_ := Aside0.mk (Kd.R_below (Kd.R_elderB (by (with_reducible repeat (first | apply zG | apply zH | apply zI)); exact HO_7.out) gb163 (Nat.le_of_eq hg.symm)) hb); have n1_ := Aside0.mk (below_step (by repeat (first | (with_reducible first | exact HB.out | apply zA | apply zB | apply zC) | exact HB.out)) hb); have n2_ := Aside0.mk (hbox); have n3_ := Aside0.mk ((by rw [hg]; exact (zW (by repeat (first | (with_reducible first | exact HB.out | apply zA | apply zB | apply zC) | exact HB.out))) : w.heap.size ≤ gb163)); have n4_ := Aside0.mk ((by rw [hg]; exact (zW (by repeat (first | (with_reducible first | exact HB.out | apply zA | apply zB | apply zC) | exact HB.out))) : w.heap.size ≤ gb163)); clear HO_7; clear HB; have HO_7 := n0_; have HB := n1_; have BK163 := n2_; have GW163 := n3_; have GE163 := n4_; clear n0_ n1_ n2_ n3_ n4_; clear hb hbox hg; have hcz35_0 : w34.cell? ⟨gb163, 0, none⟩ = some (.int .i64 0) := (zQ BK163.out 0).trans rfl; have hcz35_1 : w34.cell? ⟨gb163, 1, none⟩ = some (.int .i64 0) := (zQ BK163.out 1).trans rfl; have hcz35_2 : w34.cell? ⟨gb163, 2, none⟩ = some (.int .i64 0) := (zQ BK163.out 2).trans rfl; have hcz35_3 : w34.cell? ⟨gb163, 3, none⟩ = some (.int .i64 0) := (zQ BK163.out 3).trans rfl; have hcz35_4 : w34.cell? ⟨gb163, 4, none⟩ = some (.int .i64 0) := (zQ BK163.out 4).trans rfl; have hcz35_5 : w34.cell? ⟨gb163, 5, none⟩ = some (.int .i64 0) := (zQ BK163.out 5).trans rfl; have hcz35_6 : w34.cell? ⟨gb163, 6, none⟩ = some (.int .i64 0) := (zQ BK163.out 6).trans rfl; have hcz35_7 : w34.cell? ⟨gb163, 7, none⟩ = some (.int .i64 0) := (zQ BK163.out 7).trans rfl; have hfz35_0 := blk_frozen BK163.out 0; have hfz35_1 := blk_frozen BK163.out 1; have hfz35_2 := blk_frozen BK163.out 2; have hfz35_3 := blk_frozen BK163.out 3; have hfz35_4 := blk_frozen BK163.out 4; have hfz35_5 := blk_frozen BK163.out 5; have hfz35_6 := blk_frozen BK163.out 6; have hfz35_7 := blk_frozen BK163.out 7) | ((with_reducible refine gate_callee (f := 61) rfl ?_); refine goesL_ (some 40) rfl rfl Try.func61 (by kernel_rfl) rfl #[.int .i64 ((rd_T24 l0 x31_2).f0), .int .i64 (wrap64 (a1 * a2))] rfl (by (try simp only [List.map_toArray, List.map_cons, List.map_nil]); first | done | rfl | (simp only [List.length_drop, List.length_take]; rfl)) ?_; (with_reducible refine (impl_windowOf.calls ((rd_T24 l0 x31_2).f0) (wrap64 (a1 * a2)) t164 _ A17.out).mono ?_); rintro e w' ⟨rfl, ⟨nd, rfl⟩⟩; refine ⟨_, rfl, ?_⟩; obtain ⟨Ao36, co36, eo36⟩ := Kd.R_slice HO_7.out; subst eo36))
              have n0_ : Aside0 (Kd.R k24 24 ((((((((((w34.setCell ⟨gb163, 0, none⟩ (.int .i64 ((rd_T24 l0 x31_2).f0))).setCell ⟨gb163, 1, none⟩ (.int .i64 ((rd_T24 l0 x31_2).f1))).setCell ⟨gb163, 2, none⟩ (.int .i64 ((rd_T24 l0 x31_2).f2))).setCell ⟨gb163, 3, none⟩ (.int .i64 ((rd_T24 l0 x31_2).f3))).setCell ⟨gb163, 4, none⟩ (.int .i64 ((rd_T24 l0 x31_2).f4))).setCell ⟨gb163, 5, none⟩ (.int .i64 ((rd_T24 l0 x31_2).f5))).setCell ⟨gb163, 6, none⟩ (.int .i64 ((rd_T24 l0 x31_2).f6))).setCell ⟨gb163, 7, none⟩ (.int .i64 ((rd_T24 l0 x31_2).f7))).drewN nd).setCell ⟨gb163, 0, none⟩ (.int .i64 t164)) w.heap.size (fun k_ => k_ ≠ gb163) (.slice Ao36 x7_2.length co36) x7_2) := ⟨by (with_reducible repeat (first | apply zG | apply zH | apply zI)); exact Kd.R_mono (Kd.R_far (p := ⟨gb163, 0, none⟩) (zH (Kd.R_far (p := ⟨gb163, 7, none⟩) (Kd.R_far (p := ⟨gb163, 6, none⟩) (Kd.R_far (p := ⟨gb163, 5, none⟩) (Kd.R_far (p := ⟨gb163, 4, none⟩) (Kd.R_far (p := ⟨gb163, 3, none⟩) (Kd.R_far (p := ⟨gb163, 2, none⟩) (Kd.R_far (p := ⟨gb163, 1, none⟩) (Kd.R_far (p := ⟨gb163, 0, none⟩) (Kd.R_mono HO_7.out (fun k_ hk => (⟨hk, hk.2⟩ : _ ∧ k_ ≠ gb163))) (fun _ hk => hk.2) (.int .i64 ((rd_T24 l0 x31_2).f0))) (fun _ hk => hk.2) (.int .i64 ((rd_T24 l0 x31_2).f1))) (fun _ hk => hk.2) (.int .i64 ((rd_T24 l0 x31_2).f2))) (fun _ hk => hk.2) (.int .i64 ((rd_T24 l0 x31_2).f3))) (fun _ hk => hk.2) (.int .i64 ((rd_T24 l0 x31_2).f4))) (fun _ hk => hk.2) (.int .i64 ((rd_T24 l0 x31_2).f5))) (fun _ hk => hk.2) (.int .i64 ((rd_T24 l0 x31_2).f6))) (fun _ hk => hk.2) (.int .i64 ((rd_T24 l0 x31_2).f7))) _) (fun _ hk => hk.2) (.int .i64 t164)) (fun _ hk => hk.1.2)⟩
              have n1_ : Aside0 (((((((((((w34.setCell ⟨gb163, 0, none⟩ (.int .i64 ((rd_T24 l0 x31_2).f0))).setCell ⟨gb163, 1, none⟩ (.int .i64 ((rd_T24 l0 x31_2).f1))).setCell ⟨gb163, 2, none⟩ (.int .i64 ((rd_T24 l0 x31_2).f2))).setCell ⟨gb163, 3, none⟩ (.int .i64 ((rd_T24 l0 x31_2).f3))).setCell ⟨gb163, 4, none⟩ (.int .i64 ((rd_T24 l0 x31_2).f4))).setCell ⟨gb163, 5, none⟩ (.int .i64 ((rd_T24 l0 x31_2).f5))).setCell ⟨gb163, 6, none⟩ (.int .i64 ((rd_T24 l0 x31_2).f6))).setCell ⟨gb163, 7, none⟩ (.int .i64 ((rd_T24 l0 x31_2).f7))).drewN nd).setCell ⟨gb163, 0, none⟩ (.int .i64 t164)).heap[gb163]? = some (.cells #[.int .i64 t164, .int .i64 ((rd_T24 l0 x31_2).f1), .int .i64 ((rd_T24 l0 x31_2).f2), .int .i64 ((rd_T24 l0 x31_2).f3), .int .i64 ((rd_T24 l0 x31_2).f4), .int .i64 ((rd_T24 l0 x31_2).f5), .int .i64 ((rd_T24 l0 x31_2).f6), .int .i64 ((rd_T24 l0 x31_2).f7)] 24 (0, 0))) := ⟨by (with_reducible repeat (first | refine zE ?_ _ | refine zF ?_ | refine zD ?_ _)); refine blk_put (cs := #[.int .i64 ((rd_T24 l0 x31_2).f0), .int .i64 ((rd_T24 l0 x31_2).f1), .int .i64 ((rd_T24 l0 x31_2).f2), .int .i64 ((rd_T24 l0 x31_2).f3), .int .i64 ((rd_T24 l0 x31_2).f4), .int .i64 ((rd_T24 l0 x31_2).f5), .int .i64 ((rd_T24 l0 x31_2).f6), .int .i64 ((rd_T24 l0 x31_2).f7)]) ?_ 0 _ rfl; (with_reducible repeat (first | refine zE ?_ _ | refine zF ?_ | refine zD ?_ _)); refine blk_put (cs := #[.int .i64 ((rd_T24 l0 x31_2).f0), .int .i64 ((rd_T24 l0 x31_2).f1), .int .i64 ((rd_T24 l0 x31_2).f2), .int .i64 ((rd_T24 l0 x31_2).f3), .int .i64 ((rd_T24 l0 x31_2).f4), .int .i64 ((rd_T24 l0 x31_2).f5), .int .i64 ((rd_T24 l0 x31_2).f6), .int .i64 0]) ?_ 7 _ rfl; (with_reducible repeat (first | refine zE ?_ _ | refine zF ?_ | refine zD ?_ _)); refine blk_put (cs := #[.int .i64 ((rd_T24 l0 x31_2).f0), .int .i64 ((rd_T24 l0 x31_2).f1), .int .i64 ((rd_T24 l0 x31_2).f2), .int .i64 ((rd_T24 l0 x31_2).f3), .int .i64 ((rd_T24 l0 x31_2).f4), .int .i64 ((rd_T24 l0 x31_2).f5), .int .i64 0, .int .i64 0]) ?_ 6 _ rfl; (with_reducible repeat (first | refine zE ?_ _ | refine zF ?_ | refine zD ?_ _)); refine blk_put (cs := #[.int .i64 ((rd_T24 l0 x31_2).f0), .int .i64 ((rd_T24 l0 x31_2).f1), .int .i64 ((rd_T24 l0 x31_2).f2), .int .i64 ((rd_T24 l0 x31_2).f3), .int .i64 ((rd_T24 l0 x31_2).f4), .int .i64 0, .int .i64 0, .int .i64 0]) ?_ 5 _ rfl; (with_reducible repeat (first | refine zE ?_ _ | refine zF ?_ | refine zD ?_ _)); refine blk_put (cs := #[.int .i64 ((rd_T24 l0 x31_2).f0), .int .i64 ((rd_T24 l0 x31_2).f1), .int .i64 ((rd_T24 l0 x31_2).f2), .int .i64 ((rd_T24 l0 x31_2).f3), .int .i64 0, .int .i64 0, .int .i64 0, .int .i64 0]) ?_ 4 _ rfl; (with_reducible repeat (first | refine zE ?_ _ | refine zF ?_ | refine zD ?_ _)); refine blk_put (cs := #[.int .i64 ((rd_T24 l0 x31_2).f0), .int .i64 ((rd_T24 l0 x31_2).f1), .int .i64 ((rd_T24 l0 x31_2).f2), .int .i64 0, .int .i64 0, .int .i64 0, .int .i64 0, .int .i64 0]) ?_ 3 _ rfl; (with_reducible repeat (first | refine zE ?_ _ | refine zF ?_ | refine zD ?_ _)); refine blk_put (cs := #[.int .i64 ((rd_T24 l0 x31_2).f0), .int .i64 ((rd_T24 l0 x31_2).f1), .int .i64 0, .int .i64 0, .int .i64 0, .int .i64 0, .int .i64 0, .int .i64 0]) ?_ 2 _ rfl; (with_reducible repeat (first | refine zE ?_ _ | refine zF ?_ | refine zD ?_ _)); refine blk_put (cs := #[.int .i64 ((rd_T24 l0 x31_2).f0), .int .i64 0, .int .i64 0, .int .i64 0, .int .i64 0, .int .i64 0, .int .i64 0, .int .i64 0]) ?_ 1 _ rfl; (with_reducible repeat (first | refine zE ?_ _ | refine zF ?_ | refine zD ?_ _)); refine blk_put (cs := #[.int .i64 0, .int .i64 0, .int .i64 0, .int .i64 0, .int .i64 0, .int .i64 0, .int .i64 0, .int .i64 0]) ?_ 0 _ rfl; (with_reducible repeat (first | refine zE ?_ _ | refine zF ?_ | refine zD ?_ _)); exact BK163.out⟩
              have n2_ : Aside0 (Below w.heap.size w ((((((((((w34.setCell ⟨gb163, 0, none⟩ (.int .i64 ((rd_T24 l0 x31_2).f0))).setCell ⟨gb163, 1, none⟩ (.int .i64 ((rd_T24 l0 x31_2).f1))).setCell ⟨gb163, 2, none⟩ (.int .i64 ((rd_T24 l0 x31_2).f2))).setCell ⟨gb163, 3, none⟩ (.int .i64 ((rd_T24 l0 x31_2).f3))).setCell ⟨gb163, 4, none⟩ (.int .i64 ((rd_T24 l0 x31_2).f4))).setCell ⟨gb163, 5, none⟩ (.int .i64 ((rd_T24 l0 x31_2).f5))).setCell ⟨gb163, 6, none⟩ (.int .i64 ((rd_T24 l0 x31_2).f6))).setCell ⟨gb163, 7, none⟩ (.int .i64 ((rd_T24 l0 x31_2).f7))).drewN nd).setCell ⟨gb163, 0, none⟩ (.int .i64 t164))) := ⟨by repeat (first | (with_reducible first | exact HB.out | apply zA | apply zB | apply zC | refine below_set ?_ GE163.out) | exact HB.out)⟩
              (try clear HO_7)
              (try clear BK163)
              (try clear HB)
              generalize ((((((((((w34.setCell ⟨gb163, 0, none⟩ (.int .i64 ((rd_T24 l0 x31_2).f0))).setCell ⟨gb163, 1, none⟩ (.int .i64 ((rd_T24 l0 x31_2).f1))).setCell ⟨gb163, 2, none⟩ (.int .i64 ((rd_T24 l0 x31_2).f2))).setCell ⟨gb163, 3, none⟩ (.int .i64 ((rd_T24 l0 x31_2).f3))).setCell ⟨gb163, 4, none⟩ (.int .i64 ((rd_T24 l0 x31_2).f4))).setCell ⟨gb163, 5, none⟩ (.int .i64 ((rd_T24 l0 x31_2).f5))).setCell ⟨gb163, 6, none⟩ (.int .i64 ((rd_T24 l0 x31_2).f6))).setCell ⟨gb163, 7, none⟩ (.int .i64 ((rd_T24 l0 x31_2).f7))).drewN nd).setCell ⟨gb163, 0, none⟩ (.int .i64 t164)) = w37 at n0_ n1_ n2_ ⊢
              have HO_7 := n0_
              have BK163 := n1_
              have HB := n2_
              clear n0_ n1_ n2_
              (try (rw [drewN_self w37]; generalize hq_ : World.drewN w37 _ = w37; have n0_ : Aside0 (Kd.R k24 24 w37 w.heap.size (fun k_ => k_ ≠ gb163) (.slice Ao36 x7_2.length co36) x7_2) := ⟨by rw [← hq_]; exact (by (with_reducible repeat (first | apply zG | apply zH | apply zI)); exact HO_7.out)⟩; have n1_ : Aside0 (w37.heap[gb163]? = some (.cells #[.int .i64 t164, .int .i64 ((rd_T24 l0 x31_2).f1), .int .i64 ((rd_T24 l0 x31_2).f2), .int .i64 ((rd_T24 l0 x31_2).f3), .int .i64 ((rd_T24 l0 x31_2).f4), .int .i64 ((rd_T24 l0 x31_2).f5), .int .i64 ((rd_T24 l0 x31_2).f6), .int .i64 ((rd_T24 l0 x31_2).f7)] 24 (0, 0))) := ⟨by rw [← hq_]; exact (by (with_reducible repeat (first | refine zE ?_ _ | refine zF ?_ | refine zD ?_ _)); exact BK163.out)⟩; have n2_ : Aside0 (Below w.heap.size w w37) := ⟨by rw [← hq_]; exact (by repeat (first | (with_reducible first | exact HB.out | apply zA | apply zB | apply zC | refine below_set ?_ GE163.out) | exact HB.out))⟩; clear HO_7 BK163 HB hq_; have HO_7 := n0_; have BK163 := n1_; have HB := n2_; clear n0_ n1_ n2_))
              have n0_ := Aside0.mk (zI HO_7.out)
              have n1_ := Aside0.mk (zF BK163.out)
              have n2_ := Aside0.mk (zC HB.out)
              try clear HO_7
              clear BK163
              clear HB
              have HO_7 := n0_
              have BK163 := n1_
              have HB := n2_
              clear n0_ n1_ n2_
              have p165 : 0 ≤ ((ji19) : Int) := zX (by first | (with_reducible assumption) | assumption)
              have q165 : (ji19) < (x7_2.length : Int) := zX (by first | (with_reducible assumption) | assumption)
              obtain ⟨ad165, e165, hx165_0, hx165_1, hx165_2, hx165_3, hx165_4, hx165_5, hx165_6, hx165_7⟩ := at_T24 (Kd.R_reads' HO_7.out).2.2 (ji19) p165 q165
              cases e165
              replace p165 := eq_true p165
              replace q165 := eq_true q165
              refine start_ (n := 13) (S := fun w' => w'.cell? ⟨gb163, 0, none⟩ = some (.int .i64 t164) ∧ w'.cell? ⟨gb163, 1, none⟩ = some (.int .i64 ((rd_T24 l0 x31_2).f1)) ∧ w'.cell? ⟨gb163, 2, none⟩ = some (.int .i64 ((rd_T24 l0 x31_2).f2)) ∧ w'.cell? ⟨gb163, 3, none⟩ = some (.int .i64 ((rd_T24 l0 x31_2).f3)) ∧ w'.cell? ⟨gb163, 4, none⟩ = some (.int .i64 ((rd_T24 l0 x31_2).f4)) ∧ w'.cell? ⟨gb163, 5, none⟩ = some (.int .i64 ((rd_T24 l0 x31_2).f5)) ∧ w'.cell? ⟨gb163, 6, none⟩ = some (.int .i64 ((rd_T24 l0 x31_2).f6)) ∧ w'.cell? ⟨gb163, 7, none⟩ = some (.int .i64 ((rd_T24 l0 x31_2).f7)) ∧ w'.cell? (ad165.add (((ji19)).toNat * 8)) = some (.int .i64 ((rd_T24 x7_2 (ji19)).f0)) ∧ w'.cell? ⟨(ad165.add (((ji19)).toNat * 8)).block, (ad165.add (((ji19)).toNat * 8)).off + 1, none⟩ = some (.int .i64 ((rd_T24 x7_2 (ji19)).f1)) ∧ w'.cell? ⟨(ad165.add (((ji19)).toNat * 8)).block, (ad165.add (((ji19)).toNat * 8)).off + 2, none⟩ = some (.int .i64 ((rd_T24 x7_2 (ji19)).f2)) ∧ w'.cell? ⟨(ad165.add (((ji19)).toNat * 8)).block, (ad165.add (((ji19)).toNat * 8)).off + 3, none⟩ = some (.int .i64 ((rd_T24 x7_2 (ji19)).f3)) ∧ w'.cell? ⟨(ad165.add (((ji19)).toNat * 8)).block, (ad165.add (((ji19)).toNat * 8)).off + 4, none⟩ = some (.int .i64 ((rd_T24 x7_2 (ji19)).f4)) ∧ w'.cell? ⟨(ad165.add (((ji19)).toNat * 8)).block, (ad165.add (((ji19)).toNat * 8)).off + 5, none⟩ = some (.int .i64 ((rd_T24 x7_2 (ji19)).f5)) ∧ w'.cell? ⟨(ad165.add (((ji19)).toNat * 8)).block, (ad165.add (((ji19)).toNat * 8)).off + 6, none⟩ = some (.int .i64 ((rd_T24 x7_2 (ji19)).f6)) ∧ w'.cell? ⟨(ad165.add (((ji19)).toNat * 8)).block, (ad165.add (((ji19)).toNat * 8)).off + 7, none⟩ = some (.int .i64 ((rd_T24 x7_2 (ji19)).f7))) (ds := []) #[false, false, false, false, false, false, false, false, false, false, false, false, false] (by kernel_rfl) rfl rfl ⟨(zQ BK163.out 0).trans rfl, (zQ BK163.out 1).trans rfl, (zQ BK163.out 2).trans rfl, (zQ BK163.out 3).trans rfl, (zQ BK163.out 4).trans rfl, (zQ BK163.out 5).trans rfl, (zQ BK163.out 6).trans rfl, (zQ BK163.out 7).trans rfl, hx165_0, hx165_1, hx165_2, hx165_3, hx165_4, hx165_5, hx165_6, hx165_7⟩ (fun hHeld => ?_); refine with_tabW impl_DownAggs.tab9 impl_DownAggs.bits9 (fun HT_ HW_ => ?_)
              generalize w37.drew = w38 at HO_7 BK163 HB hx165_0 hx165_1 hx165_2 hx165_3 hx165_4 hx165_5 hx165_6 hx165_7 hHeld ⊢
              refine pure_ (i := 0) (N := some 44) (v := ?_) (a' := ?_) #[true, false, false, false, false, false, false, false, false, false, false, false, false] rfl rfl (any_of HT_.out (by kernel_rfl)) (fun _ _ _ h => h) (Or.inl ⟨by rfl, ?_⟩) ?_ ?_
              rotate_left
              ·intro w'
               go_simp
               with_reducible rfl
              rotate_left
              ·simp only [Act.put, zT, zU, zV, i64_w, i32_w]
               rfl
              refine pure_ (i := 1) (N := some 45) (v := ?_) (a' := ?_) #[true, true, false, false, false, false, false, false, false, false, false, false, false] rfl rfl (any_of HT_.out (by kernel_rfl)) (fun _ _ _ h => h) (Or.inl ⟨by rfl, ?_⟩) ?_ ?_
              rotate_left
              ·intro w'
               go_simp
               with_reducible rfl
              rotate_left
              ·simp only [Act.put, zT, zU, zV, i64_w, i32_w]
               rfl
              refine pure_ (i := 2) (N := some 46) (v := ?_) (a' := ?_) #[true, true, true, false, false, false, false, false, false, false, false, false, false] rfl rfl (any_of HT_.out (by kernel_rfl)) (fun _ _ _ h => h) (Or.inl ⟨by rfl, ?_⟩) ?_ ?_
              rotate_left
              ·intro w'
               go_simp
               with_reducible rfl
              rotate_left
              ·simp only [Act.put, zT, zU, zV, i64_w, i32_w]
               rfl
              refine pure_ (i := 3) (N := some 47) (v := ?_) (a' := ?_) #[true, true, true, true, false, false, false, false, false, false, false, false, false] rfl rfl (any_of HT_.out (by kernel_rfl)) (fun _ _ _ h => h) (Or.inl ⟨by rfl, ?_⟩) ?_ ?_
              rotate_left
              ·intro w'
               go_simp
               with_reducible rfl
              rotate_left
              ·simp only [Act.put, zT, zU, zV, i64_w, i32_w]
               rfl
              refine pure_ (i := 4) (N := some 48) (v := ?_) (a' := ?_) #[true, true, true, true, true, false, false, false, false, false, false, false, false] rfl rfl (any_of HT_.out (by kernel_rfl)) (fun _ _ _ h => h) (Or.inl ⟨by rfl, ?_⟩) ?_ ?_
              rotate_left
              ·intro w'
               go_simp
               with_reducible rfl
              rotate_left
              ·simp only [Act.put, zT, zU, zV, i64_w, i32_w]
               rfl
              refine pure_ (i := 5) (N := some 49) (v := ?_) (a' := ?_) #[true, true, true, true, true, true, false, false, false, false, false, false, false] rfl rfl (any_of HT_.out (by kernel_rfl)) (fun _ _ _ h => h) (Or.inl ⟨by rfl, ?_⟩) ?_ ?_
              rotate_left
              ·intro w'
               go_simp
               with_reducible rfl
              rotate_left
              ·simp only [Act.put, zT, zU, zV, i64_w, i32_w]
               rfl
              refine pure_ (i := 6) (N := some 50) (v := ?_) (a' := ?_) #[true, true, true, true, true, true, true, false, false, false, false, false, false] rfl rfl (any_of HT_.out (by kernel_rfl)) (fun _ _ _ h => h) (Or.inl ⟨by rfl, ?_⟩) ?_ ?_
              rotate_left
              ·intro w'
               go_simp
               with_reducible rfl
              rotate_left
              ·simp only [Act.put, zT, zU, zV, i64_w, i32_w]
               rfl
              refine pure_ (i := 7) (N := some 51) (v := ?_) (a' := ?_) #[true, true, true, true, true, true, true, true, false, false, false, false, false] rfl rfl (any_of HT_.out (by kernel_rfl)) (fun _ _ _ h => h) (Or.inl ⟨by rfl, ?_⟩) ?_ ?_
              rotate_left
              ·intro w'
               go_simp
               with_reducible rfl
              rotate_left
              ·simp only [Act.put, zT, zU, zV, i64_w, i32_w]
               rfl
              refine pure_ (i := 9) (N := some 53) (v := ?_) (a' := ?_) #[true, true, true, true, true, true, true, true, false, true, false, false, false] rfl rfl (any_of HT_.out (by kernel_rfl)) (fun _ _ _ h => h) (Or.inl ⟨by rfl, ?_⟩) ?_ ?_
              rotate_left
              ·intro w'
               go_simp
               with_reducible rfl
              rotate_left
              ·simp only [Act.put, zT, zU, zV, i64_w, i32_w]
               rfl
              refine take_ (i := 8) (N := some 52) (v := ?_) (a' := ?_) #[true, true, true, true, true, true, true, true, true, true, false, false, false] rfl rfl (take_ofW HT_.out HW_.out (by kernel_rfl)) (fun _ _ _ h => h) (Or.inl ⟨by rfl, ?_⟩) hHeld ?_ ?_
              rotate_left
              ·rintro w' ⟨s0, s1, s2, s3, s4, s5, s6, s7, s8, s9, s10, s11, s12, s13, s14, s15⟩
               go_simp
               with_reducible rfl
              rotate_left
              ·simp only [Act.put, zT, zU, zV, i64_w, i32_w]
               rfl
              refine take_ (i := 10) (N := some 54) (v := ?_) (a' := ?_) #[true, true, true, true, true, true, true, true, true, true, true, false, false] rfl rfl (take_ofW HT_.out HW_.out (by kernel_rfl)) (fun _ _ _ h => h) (Or.inl ⟨by rfl, ?_⟩) hHeld ?_ ?_
              rotate_left
              ·rintro w' ⟨s0, s1, s2, s3, s4, s5, s6, s7, s8, s9, s10, s11, s12, s13, s14, s15⟩
               go_simp
               with_reducible rfl
              rotate_left
              ·simp only [Act.put, zT, zU, zV, i64_w, i32_w]
               rfl
              refine pure_ (i := 11) (N := some 55) (v := ?_) (a' := ?_) #[true, true, true, true, true, true, true, true, true, true, true, true, false] rfl rfl (any_of HT_.out (by kernel_rfl)) (fun _ _ _ h => h) (Or.inl ⟨by rfl, ?_⟩) ?_ ?_
              rotate_left
              ·intro w'
               go_simp
               with_reducible rfl
              rotate_left
              ·simp only [Act.put, zT, zU, zV, i64_w, i32_w]
               rfl
              refine pure_ (i := 12) (N := some 56) (v := ?_) (a' := ?_) #[true, true, true, true, true, true, true, true, true, true, true, true, true] rfl rfl (any_of HT_.out (by kernel_rfl)) (fun _ _ _ h => h) (Or.inl ⟨by rfl, ?_⟩) ?_ ?_
              rotate_left
              ·intro w'
               go_simp
               with_reducible rfl
              rotate_left
              ·simp only [Act.put, zT, zU, zV, i64_w, i32_w]
               rfl
              refine done_ (done_of HT_.out (by kernel_rfl)) ?_
              have hcz39_0 : w38.cell? ⟨gb163, 0, none⟩ = some (.int .i64 t164) := (zQ BK163.out 0).trans rfl
              have hcz39_1 : w38.cell? ⟨gb163, 1, none⟩ = some (.int .i64 ((rd_T24 l0 x31_2).f1)) := (zQ BK163.out 1).trans rfl
              have hcz39_2 : w38.cell? ⟨gb163, 2, none⟩ = some (.int .i64 ((rd_T24 l0 x31_2).f2)) := (zQ BK163.out 2).trans rfl
              have hcz39_3 : w38.cell? ⟨gb163, 3, none⟩ = some (.int .i64 ((rd_T24 l0 x31_2).f3)) := (zQ BK163.out 3).trans rfl
              have hcz39_4 : w38.cell? ⟨gb163, 4, none⟩ = some (.int .i64 ((rd_T24 l0 x31_2).f4)) := (zQ BK163.out 4).trans rfl
              have hcz39_5 : w38.cell? ⟨gb163, 5, none⟩ = some (.int .i64 ((rd_T24 l0 x31_2).f5)) := (zQ BK163.out 5).trans rfl
              have hcz39_6 : w38.cell? ⟨gb163, 6, none⟩ = some (.int .i64 ((rd_T24 l0 x31_2).f6)) := (zQ BK163.out 6).trans rfl
              have hcz39_7 : w38.cell? ⟨gb163, 7, none⟩ = some (.int .i64 ((rd_T24 l0 x31_2).f7)) := (zQ BK163.out 7).trans rfl
              have hfz39_0 := blk_frozen BK163.out 0
              have hfz39_1 := blk_frozen BK163.out 1
              have hfz39_2 := blk_frozen BK163.out 2
              have hfz39_3 := blk_frozen BK163.out 3
              have hfz39_4 := blk_frozen BK163.out 4
              have hfz39_5 := blk_frozen BK163.out 5
              have hfz39_6 := blk_frozen BK163.out 6
              have hfz39_7 := blk_frozen BK163.out 7
              try go_wp2_with (first | ((with_reducible refine gate_builtin (b := .append) (xs := #[.tmp 68, .tmp 70]) rfl ?_); at_builtin; refine Kd.R_append k24 (w0 := w) w.heap.size rfl (.tmp 68) (.tmp 70) 32 24 (.agg #[(.int .i64 0), (.int .i64 0), (.int .i64 0), (.int .i64 0), (.int .i64 0), (.int .i64 0), (.int .i64 0), (.int .i64 0)]) 64 rfl Try.underlying32 info24 rfl (by decide) (by omega) (.slice (some ad165) x7_2.length co36) x7_2 (⟨t164, (rd_T24 l0 x31_2).f1, (rd_T24 l0 x31_2).f2, (rd_T24 l0 x31_2).f3, (rd_T24 l0 x31_2).f4, (rd_T24 l0 x31_2).f5, (rd_T24 l0 x31_2).f6, (rd_T24 l0 x31_2).f7⟩ : S24) [.int .i64 t164, .int .i64 ((rd_T24 l0 x31_2).f1), .int .i64 ((rd_T24 l0 x31_2).f2), .int .i64 ((rd_T24 l0 x31_2).f3), .int .i64 ((rd_T24 l0 x31_2).f4), .int .i64 ((rd_T24 l0 x31_2).f5), .int .i64 ((rd_T24 l0 x31_2).f6), .int .i64 ((rd_T24 l0 x31_2).f7)] (fun k_ => k_ ≠ gb163) (fun _ => False) rfl rfl ?aP (fun _ hk => hk.elim) ?aF ?aO ?aB ?aS ?aL ?_; (case aP => exact k24_mkM _ _ _ (⟨t164, (rd_T24 l0 x31_2).f1, (rd_T24 l0 x31_2).f2, (rd_T24 l0 x31_2).f3, (rd_T24 l0 x31_2).f4, (rd_T24 l0 x31_2).f5, (rd_T24 l0 x31_2).f6, (rd_T24 l0 x31_2).f7⟩ : S24)); (case aB => exact (by repeat (first | (with_reducible first | exact HB.out | apply zA | apply zB | apply zC | refine below_set ?_ GE163.out) | exact HB.out))); (case aF => exact (fun k_ hk => Kd.freshB (g := gb163) (o := cs8 24 t164 ((rd_T24 l0 x31_2).f1) ((rd_T24 l0 x31_2).f2) ((rd_T24 l0 x31_2).f3) ((rd_T24 l0 x31_2).f4) ((rd_T24 l0 x31_2).f5) ((rd_T24 l0 x31_2).f6) ((rd_T24 l0 x31_2).f7)) (by (with_reducible repeat (first | refine zE ?_ _ | refine zF ?_ | refine zD ?_ _)); exact BK163.out) k_ hk)); (case aO => exact (by (with_reducible repeat (first | apply zG | apply zH | apply zI)); exact HO_7.out)); (case aS => exact (zW (by repeat (first | (with_reducible first | exact HB.out | apply zA | apply zB | apply zC | refine below_set ?_ GE163.out) | exact HB.out)))); (case aL => have := LMc33.out; omega); intro v177 w40 ho hb hg hat; rw [← Ny176.out] at ho; have n0_ := Aside0.mk (blk_grown (g := gb163) (o := cs8 24 t164 ((rd_T24 l0 x31_2).f1) ((rd_T24 l0 x31_2).f2) ((rd_T24 l0 x31_2).f3) ((rd_T24 l0 x31_2).f4) ((rd_T24 l0 x31_2).f5) ((rd_T24 l0 x31_2).f6) ((rd_T24 l0 x31_2).f7)) (by (with_reducible repeat (first | refine zE ?_ _ | refine zF ?_ | refine zD ?_ _)); exact BK163.out) hg (Kd.R_away HO_7.out (fun _ hk => hk))); have n1_ := Aside0.mk (hb); have n2_ := Aside0.mk (ho); clear BK163; clear HB; clear HO_7; have BK163 := n0_; have HB := n1_; have HO178 := n2_; clear n0_ n1_ n2_; clear ho hb hg hat))
              go_roundg k2
              case measure => have := HJ3.out; have := HK2.out; omega
              case rel => exact ⟨(y176), (wrap64 (x31_2 + 1)), (by first | rfl | (simp; done) | (simp [*]; done)), H', ⟨by have := HJ3.out; have := HK2.out; omega⟩, ⟨by (with_reducible repeat (first | apply zG | apply zH | apply zI)); exact Kd.R_mono HO178.out (fun _ hk => trivial)⟩, ⟨by repeat (first | (with_reducible first | exact HB.out | apply zA | apply zB | apply zC | refine below_set ?_ GE163.out) | exact HB.out)⟩⟩
             ·rw [if_neg c33] at H
              exact absurd H (by simp)
           ·rw [if_neg c21] at H
            exact absurd H (by simp)
          ·rw [if_neg c20] at H
           exact absurd H (by simp)
         ·rw [if_neg c18] at H
          have c18b0 : decide (0 < (x7_2.length : Int)) = false := decide_eq_false c18
          have c18b1 : decide (0 < x7_2.length) = false := decide_eq_false (by omega)
          clear c18
          by_cases c41 : x7_2.length < 2199023255552
          ·rw [if_pos c41] at H
           have LMc41 := Aside0.mk c41
           clear c41
           obtain ⟨y179, hy179⟩ : ∃ y_ : List (S24), y_ = (x7_2 ++ [(⟨t164, (rd_T24 l0 x31_2).f1, (rd_T24 l0 x31_2).f2, (rd_T24 l0 x31_2).f3, (rd_T24 l0 x31_2).f4, (rd_T24 l0 x31_2).f5, (rd_T24 l0 x31_2).f6, (rd_T24 l0 x31_2).f7⟩ : S24)]) := ⟨_, rfl⟩
           replace H : (impl_DownAggs.l0 k2 a1 a2 y179 l0 (l0.length : Int) (wrap64 (x31_2 + 1))) = some r := by first | (rw [hy179]; with_reducible exact H) | (have H2_ := (Option.bind_some _ _).symm.trans H; rw [hy179]; with_reducible exact H2_) | (have H2_ := (Option.bind_some _ _).symm.trans H; with_reducible exact H2_) | with_reducible exact H | (rw [hy179]; exact H) | exact H
           have Ny179 := Aside0.mk hy179
           clear hy179
           have H' := Aside0.mk H
           clear H
           have p162 : 0 ≤ (x31_2 : Int) := zX (by first | (with_reducible assumption) | assumption)
           have q162 : x31_2 < (l0.length : Int) := zX (by first | (with_reducible assumption) | assumption)
           obtain ⟨ad162, e162, hx162_0, hx162_1, hx162_2, hx162_3, hx162_4, hx162_5, hx162_6, hx162_7⟩ := at_T24 HR0.out x31_2 p162 q162
           cases e162
           replace hx162_0 := (HB.out.cell (zR w _ hx162_0)).trans hx162_0
           replace hx162_1 := (HB.out.cell (zR w _ hx162_1)).trans hx162_1
           replace hx162_2 := (HB.out.cell (zR w _ hx162_2)).trans hx162_2
           replace hx162_3 := (HB.out.cell (zR w _ hx162_3)).trans hx162_3
           replace hx162_4 := (HB.out.cell (zR w _ hx162_4)).trans hx162_4
           replace hx162_5 := (HB.out.cell (zR w _ hx162_5)).trans hx162_5
           replace hx162_6 := (HB.out.cell (zR w _ hx162_6)).trans hx162_6
           replace hx162_7 := (HB.out.cell (zR w _ hx162_7)).trans hx162_7
           replace p162 := eq_true p162
           replace q162 := eq_true q162
           try go_wp2_with (first | ((with_reducible refine gate_dst (N := 9) rfl ?_); refine box_event ?hg (N := 9) ?hd (cs := #[.int .i64 0, .int .i64 0, .int .i64 0, .int .i64 0, .int .i64 0, .int .i64 0, .int .i64 0, .int .i64 0]) (t := 24) ?hr ?_; (case hd => rfl); (case hg => rfl); (case hr => first | (go_simp; done) | (go_simp; rfl)); intro gb163 hg w42 hbox hb; have n0_ := Aside0.mk (Kd.R_below (Kd.R_elderB (by (with_reducible repeat (first | apply zG | apply zH | apply zI)); exact HO_7.out) gb163 (Nat.le_of_eq hg.symm)) hb); have n1_ := Aside0.mk (below_step (by repeat (first | (with_reducible first | exact HB.out | apply zA | apply zB | apply zC) | exact HB.out)) hb); have n2_ := Aside0.mk (hbox); have n3_ := Aside0.mk ((by rw [hg]; exact (zW (by repeat (first | (with_reducible first | exact HB.out | apply zA | apply zB | apply zC) | exact HB.out))) : w.heap.size ≤ gb163)); have n4_ := Aside0.mk ((by rw [hg]; exact (zW (by repeat (first | (with_reducible first | exact HB.out | apply zA | apply zB | apply zC) | exact HB.out))) : w.heap.size ≤ gb163)); clear HO_7; clear HB; have HO_7 := n0_; have HB := n1_; have BK163 := n2_; have GW163 := n3_; have GE163 := n4_; clear n0_ n1_ n2_ n3_ n4_; clear hb hbox hg; have hcz43_0 : w42.cell? ⟨gb163, 0, none⟩ = some (.int .i64 0) := (zQ BK163.out 0).trans rfl; have hcz43_1 : w42.cell? ⟨gb163, 1, none⟩ = some (.int .i64 0) := (zQ BK163.out 1).trans rfl; have hcz43_2 : w42.cell? ⟨gb163, 2, none⟩ = some (.int .i64 0) := (zQ BK163.out 2).trans rfl; have hcz43_3 : w42.cell? ⟨gb163, 3, none⟩ = some (.int .i64 0) := (zQ BK163.out 3).trans rfl; have hcz43_4 : w42.cell? ⟨gb163, 4, none⟩ = some (.int .i64 0) := (zQ BK163.out 4).trans rfl; have hcz43_5 : w42.cell? ⟨gb163, 5, none⟩ = some (.int .i64 0) := (zQ BK163.out 5).trans rfl; have hcz43_6 : w42.cell? ⟨gb163, 6, none⟩ = some (.int .i64 0) := (zQ BK163.out 6).trans rfl; have hcz43_7 : w42.cell? ⟨gb163, 7, none⟩ = some (.int .i64 0) := (zQ BK163.out 7).trans rfl; have hfz43_0 := blk_frozen BK163.out 0; have hfz43_1 := blk_frozen BK163.out 1; have hfz43_2 := blk_frozen BK163.out 2; have hfz43_3 := blk_frozen BK163.out 3; have hfz43_4 := blk_frozen BK163.out 4; have hfz43_5 := blk_frozen BK163.out 5; have hfz43_6 := blk_frozen BK163.out 6; have hfz43_7 := blk_frozen BK163.out 7) | ((with_reducible refine gate_callee (f := 61) rfl ?_); refine goesL_ (some 40) rfl rfl Try.func61 (by kernel_rfl) rfl #[.int .i64 ((rd_T24 l0 x31_2).f0), .int .i64 (wrap64 (a1 * a2))] rfl (by (try simp only [List.map_toArray, List.map_cons, List.map_nil]); first | done | rfl | (simp only [List.length_drop, List.length_take]; rfl)) ?_; (with_reducible refine (impl_windowOf.calls ((rd_T24 l0 x31_2).f0) (wrap64 (a1 * a2)) t164 _ A17.out).mono ?_); rintro e w' ⟨rfl, ⟨nd, rfl⟩⟩; refine ⟨_, rfl, ?_⟩; obtain ⟨Ao44, co44, eo44⟩ := Kd.R_slice HO_7.out; subst eo44))
           have n0_ : Aside0 (Kd.R k24 24 ((((((((((w42.setCell ⟨gb163, 0, none⟩ (.int .i64 ((rd_T24 l0 x31_2).f0))).setCell ⟨gb163, 1, none⟩ (.int .i64 ((rd_T24 l0 x31_2).f1))).setCell ⟨gb163, 2, none⟩ (.int .i64 ((rd_T24 l0 x31_2).f2))).setCell ⟨gb163, 3, none⟩ (.int .i64 ((rd_T24 l0 x31_2).f3))).setCell ⟨gb163, 4, none⟩ (.int .i64 ((rd_T24 l0 x31_2).f4))).setCell ⟨gb163, 5, none⟩ (.int .i64 ((rd_T24 l0 x31_2).f5))).setCell ⟨gb163, 6, none⟩ (.int .i64 ((rd_T24 l0 x31_2).f6))).setCell ⟨gb163, 7, none⟩ (.int .i64 ((rd_T24 l0 x31_2).f7))).drewN nd).setCell ⟨gb163, 0, none⟩ (.int .i64 t164)) w.heap.size (fun k_ => k_ ≠ gb163) (.slice Ao44 x7_2.length co44) x7_2) := ⟨by (with_reducible repeat (first | apply zG | apply zH | apply zI)); exact Kd.R_mono (Kd.R_far (p := ⟨gb163, 0, none⟩) (zH (Kd.R_far (p := ⟨gb163, 7, none⟩) (Kd.R_far (p := ⟨gb163, 6, none⟩) (Kd.R_far (p := ⟨gb163, 5, none⟩) (Kd.R_far (p := ⟨gb163, 4, none⟩) (Kd.R_far (p := ⟨gb163, 3, none⟩) (Kd.R_far (p := ⟨gb163, 2, none⟩) (Kd.R_far (p := ⟨gb163, 1, none⟩) (Kd.R_far (p := ⟨gb163, 0, none⟩) (Kd.R_mono HO_7.out (fun k_ hk => (⟨hk, hk.2⟩ : _ ∧ k_ ≠ gb163))) (fun _ hk => hk.2) (.int .i64 ((rd_T24 l0 x31_2).f0))) (fun _ hk => hk.2) (.int .i64 ((rd_T24 l0 x31_2).f1))) (fun _ hk => hk.2) (.int .i64 ((rd_T24 l0 x31_2).f2))) (fun _ hk => hk.2) (.int .i64 ((rd_T24 l0 x31_2).f3))) (fun _ hk => hk.2) (.int .i64 ((rd_T24 l0 x31_2).f4))) (fun _ hk => hk.2) (.int .i64 ((rd_T24 l0 x31_2).f5))) (fun _ hk => hk.2) (.int .i64 ((rd_T24 l0 x31_2).f6))) (fun _ hk => hk.2) (.int .i64 ((rd_T24 l0 x31_2).f7))) _) (fun _ hk => hk.2) (.int .i64 t164)) (fun _ hk => hk.1.2)⟩
           have n1_ : Aside0 (((((((((((w42.setCell ⟨gb163, 0, none⟩ (.int .i64 ((rd_T24 l0 x31_2).f0))).setCell ⟨gb163, 1, none⟩ (.int .i64 ((rd_T24 l0 x31_2).f1))).setCell ⟨gb163, 2, none⟩ (.int .i64 ((rd_T24 l0 x31_2).f2))).setCell ⟨gb163, 3, none⟩ (.int .i64 ((rd_T24 l0 x31_2).f3))).setCell ⟨gb163, 4, none⟩ (.int .i64 ((rd_T24 l0 x31_2).f4))).setCell ⟨gb163, 5, none⟩ (.int .i64 ((rd_T24 l0 x31_2).f5))).setCell ⟨gb163, 6, none⟩ (.int .i64 ((rd_T24 l0 x31_2).f6))).setCell ⟨gb163, 7, none⟩ (.int .i64 ((rd_T24 l0 x31_2).f7))).drewN nd).setCell ⟨gb163, 0, none⟩ (.int .i64 t164)).heap[gb163]? = some (.cells #[.int .i64 t164, .int .i64 ((rd_T24 l0 x31_2).f1), .int .i64 ((rd_T24 l0 x31_2).f2), .int .i64 ((rd_T24 l0 x31_2).f3), .int .i64 ((rd_T24 l0 x31_2).f4), .int .i64 ((rd_T24 l0 x31_2).f5), .int .i64 ((rd_T24 l0 x31_2).f6), .int .i64 ((rd_T24 l0 x31_2).f7)] 24 (0, 0))) := ⟨by (with_reducible repeat (first | refine zE ?_ _ | refine zF ?_ | refine zD ?_ _)); refine blk_put (cs := #[.int .i64 ((rd_T24 l0 x31_2).f0), .int .i64 ((rd_T24 l0 x31_2).f1), .int .i64 ((rd_T24 l0 x31_2).f2), .int .i64 ((rd_T24 l0 x31_2).f3), .int .i64 ((rd_T24 l0 x31_2).f4), .int .i64 ((rd_T24 l0 x31_2).f5), .int .i64 ((rd_T24 l0 x31_2).f6), .int .i64 ((rd_T24 l0 x31_2).f7)]) ?_ 0 _ rfl; (with_reducible repeat (first | refine zE ?_ _ | refine zF ?_ | refine zD ?_ _)); refine blk_put (cs := #[.int .i64 ((rd_T24 l0 x31_2).f0), .int .i64 ((rd_T24 l0 x31_2).f1), .int .i64 ((rd_T24 l0 x31_2).f2), .int .i64 ((rd_T24 l0 x31_2).f3), .int .i64 ((rd_T24 l0 x31_2).f4), .int .i64 ((rd_T24 l0 x31_2).f5), .int .i64 ((rd_T24 l0 x31_2).f6), .int .i64 0]) ?_ 7 _ rfl; (with_reducible repeat (first | refine zE ?_ _ | refine zF ?_ | refine zD ?_ _)); refine blk_put (cs := #[.int .i64 ((rd_T24 l0 x31_2).f0), .int .i64 ((rd_T24 l0 x31_2).f1), .int .i64 ((rd_T24 l0 x31_2).f2), .int .i64 ((rd_T24 l0 x31_2).f3), .int .i64 ((rd_T24 l0 x31_2).f4), .int .i64 ((rd_T24 l0 x31_2).f5), .int .i64 0, .int .i64 0]) ?_ 6 _ rfl; (with_reducible repeat (first | refine zE ?_ _ | refine zF ?_ | refine zD ?_ _)); refine blk_put (cs := #[.int .i64 ((rd_T24 l0 x31_2).f0), .int .i64 ((rd_T24 l0 x31_2).f1), .int .i64 ((rd_T24 l0 x31_2).f2), .int .i64 ((rd_T24 l0 x31_2).f3), .int .i64 ((rd_T24 l0 x31_2).f4), .int .i64 0, .int .i64 0, .int .i64 0]) ?_ 5 _ rfl; (with_reducible repeat (first | refine zE ?_ _ | refine zF ?_ | refine zD ?_ _)); refine blk_put (cs := #[.int .i64 ((rd_T24 l0 x31_2).f0), .int .i64 ((rd_T24 l0 x31_2).f1), .int .i64 ((rd_T24 l0 x31_2).f2), .int .i64 ((rd_T24 l0 x31_2).f3), .int .i64 0, .int .i64 0, .int .i64 0, .int .i64 0]) ?_ 4 _ rfl; (with_reducible repeat (first | refine zE ?_ _ | refine zF ?_ | refine zD ?_ _)); refine blk_put (cs := #[.int .i64 ((rd_T24 l0 x31_2).f0), .int .i64 ((rd_T24 l0 x31_2).f1), .int .i64 ((rd_T24 l0 x31_2).f2), .int .i64 0, .int .i64 0, .int .i64 0, .int .i64 0, .int .i64 0]) ?_ 3 _ rfl; (with_reducible repeat (first | refine zE ?_ _ | refine zF ?_ | refine zD ?_ _)); refine blk_put (cs := #[.int .i64 ((rd_T24 l0 x31_2).f0), .int .i64 ((rd_T24 l0 x31_2).f1), .int .i64 0, .int .i64 0, .int .i64 0, .int .i64 0, .int .i64 0, .int .i64 0]) ?_ 2 _ rfl; (with_reducible repeat (first | refine zE ?_ _ | refine zF ?_ | refine zD ?_ _)); refine blk_put (cs := #[.int .i64 ((rd_T24 l0 x31_2).f0), .int .i64 0, .int .i64 0, .int .i64 0, .int .i64 0, .int .i64 0, .int .i64 0, .int .i64 0]) ?_ 1 _ rfl; (with_reducible repeat (first | refine zE ?_ _ | refine zF ?_ | refine zD ?_ _)); refine blk_put (cs := #[.int .i64 0, .int .i64 0, .int .i64 0, .int .i64 0, .int .i64 0, .int .i64 0, .int .i64 0, .int .i64 0]) ?_ 0 _ rfl; (with_reducible repeat (first | refine zE ?_ _ | refine zF ?_ | refine zD ?_ _)); exact BK163.out⟩
           have n2_ : Aside0 (Below w.heap.size w ((((((((((w42.setCell ⟨gb163, 0, none⟩ (.int .i64 ((rd_T24 l0 x31_2).f0))).setCell ⟨gb163, 1, none⟩ (.int .i64 ((rd_T24 l0 x31_2).f1))).setCell ⟨gb163, 2, none⟩ (.int .i64 ((rd_T24 l0 x31_2).f2))).setCell ⟨gb163, 3, none⟩ (.int .i64 ((rd_T24 l0 x31_2).f3))).setCell ⟨gb163, 4, none⟩ (.int .i64 ((rd_T24 l0 x31_2).f4))).setCell ⟨gb163, 5, none⟩ (.int .i64 ((rd_T24 l0 x31_2).f5))).setCell ⟨gb163, 6, none⟩ (.int .i64 ((rd_T24 l0 x31_2).f6))).setCell ⟨gb163, 7, none⟩ (.int .i64 ((rd_T24 l0 x31_2).f7))).drewN nd).setCell ⟨gb163, 0, none⟩ (.int .i64 t164))) := ⟨by repeat (first | (with_reducible first | exact HB.out | apply zA | apply zB | apply zC | refine below_set ?_ GE163.out) | exact HB.out)⟩
           (try clear HO_7)
           (try clear BK163)
           (try clear HB)
           generalize ((((((((((w42.setCell ⟨gb163, 0, none⟩ (.int .i64 ((rd_T24 l0 x31_2).f0))).setCell ⟨gb163, 1, none⟩ (.int .i64 ((rd_T24 l0 x31_2).f1))).setCell ⟨gb163, 2, none⟩ (.int .i64 ((rd_T24 l0 x31_2).f2))).setCell ⟨gb163, 3, none⟩ (.int .i64 ((rd_T24 l0 x31_2).f3))).setCell ⟨gb163, 4, none⟩ (.int .i64 ((rd_T24 l0 x31_2).f4))).setCell ⟨gb163, 5, none⟩ (.int .i64 ((rd_T24 l0 x31_2).f5))).setCell ⟨gb163, 6, none⟩ (.int .i64 ((rd_T24 l0 x31_2).f6))).setCell ⟨gb163, 7, none⟩ (.int .i64 ((rd_T24 l0 x31_2).f7))).drewN nd).setCell ⟨gb163, 0, none⟩ (.int .i64 t164)) = w45 at n0_ n1_ n2_ ⊢
           have HO_7 := n0_
           have BK163 := n1_
           have HB := n2_
           clear n0_ n1_ n2_
           (try (rw [drewN_self w45]; generalize hq_ : World.drewN w45 _ = w45; have n0_ : Aside0 (Kd.R k24 24 w45 w.heap.size (fun k_ => k_ ≠ gb163) (.slice Ao44 x7_2.length co44) x7_2) := ⟨by rw [← hq_]; exact (by (with_reducible repeat (first | apply zG | apply zH | apply zI)); exact HO_7.out)⟩; have n1_ : Aside0 (w45.heap[gb163]? = some (.cells #[.int .i64 t164, .int .i64 ((rd_T24 l0 x31_2).f1), .int .i64 ((rd_T24 l0 x31_2).f2), .int .i64 ((rd_T24 l0 x31_2).f3), .int .i64 ((rd_T24 l0 x31_2).f4), .int .i64 ((rd_T24 l0 x31_2).f5), .int .i64 ((rd_T24 l0 x31_2).f6), .int .i64 ((rd_T24 l0 x31_2).f7)] 24 (0, 0))) := ⟨by rw [← hq_]; exact (by (with_reducible repeat (first | refine zE ?_ _ | refine zF ?_ | refine zD ?_ _)); exact BK163.out)⟩; have n2_ : Aside0 (Below w.heap.size w w45) := ⟨by rw [← hq_]; exact (by repeat (first | (with_reducible first | exact HB.out | apply zA | apply zB | apply zC | refine below_set ?_ GE163.out) | exact HB.out))⟩; clear HO_7 BK163 HB hq_; have HO_7 := n0_; have BK163 := n1_; have HB := n2_; clear n0_ n1_ n2_))
           have n0_ := Aside0.mk (zI HO_7.out)
           have n1_ := Aside0.mk (zF BK163.out)
           have n2_ := Aside0.mk (zC HB.out)
           try clear HO_7
           clear BK163
           clear HB
           have HO_7 := n0_
           have BK163 := n1_
           have HB := n2_
           clear n0_ n1_ n2_
           refine start_ (n := 13) (S := fun w' => True) (ds := []) #[false, false, false, false, false, false, false, false, false, false, false, false, false] (by kernel_rfl) rfl rfl trivial (fun hHeld => ?_); refine with_tabW impl_DownAggs.tab9 impl_DownAggs.bits9 (fun HT_ HW_ => ?_)
           generalize w45.drew = w46 at HO_7 BK163 HB hHeld ⊢
           refine pure_ (i := 0) (N := some 44) (v := ?_) (a' := ?_) #[true, false, false, false, false, false, false, false, false, false, false, false, false] rfl rfl (any_of HT_.out (by kernel_rfl)) (fun _ _ _ h => h) (Or.inl ⟨by rfl, ?_⟩) ?_ ?_
           rotate_left
           ·intro w'
            go_simp
            with_reducible rfl
           rotate_left
           ·simp only [Act.put, zT, zU, zV, i64_w, i32_w]
            rfl
           refine pure_ (i := 1) (N := some 45) (v := ?_) (a' := ?_) #[true, true, false, false, false, false, false, false, false, false, false, false, false] rfl rfl (any_of HT_.out (by kernel_rfl)) (fun _ _ _ h => h) (Or.inl ⟨by rfl, ?_⟩) ?_ ?_
           rotate_left
           ·intro w'
            go_simp
            with_reducible rfl
           rotate_left
           ·simp only [Act.put, zT, zU, zV, i64_w, i32_w]
            rfl
           refine pure_ (i := 2) (N := some 46) (v := ?_) (a' := ?_) #[true, true, true, false, false, false, false, false, false, false, false, false, false] rfl rfl (any_of HT_.out (by kernel_rfl)) (fun _ _ _ h => h) (Or.inl ⟨by rfl, ?_⟩) ?_ ?_
           rotate_left
           ·intro w'
            go_simp
            with_reducible rfl
           rotate_left
           ·simp only [Act.put, zT, zU, zV, i64_w, i32_w]
            rfl
           refine pure_ (i := 3) (N := some 47) (v := undef) (a' := ?_) #[true, true, true, true, false, false, false, false, false, false, false, false, false] rfl rfl (any_of HT_.out (by kernel_rfl)) (fun _ _ _ h => h) (Or.inr ⟨by rfl, rfl⟩) ?_ ?_
           rotate_left
           ·simp only [Act.put, zT, zU, zV, i64_w, i32_w]
            rfl
           refine pure_ (i := 4) (N := some 48) (v := undef) (a' := ?_) #[true, true, true, true, true, false, false, false, false, false, false, false, false] rfl rfl (any_of HT_.out (by kernel_rfl)) (fun _ _ _ h => h) (Or.inr ⟨by rfl, rfl⟩) ?_ ?_
           rotate_left
           ·simp only [Act.put, zT, zU, zV, i64_w, i32_w]
            rfl
           refine pure_ (i := 5) (N := some 49) (v := undef) (a' := ?_) #[true, true, true, true, true, true, false, false, false, false, false, false, false] rfl rfl (any_of HT_.out (by kernel_rfl)) (fun _ _ _ h => h) (Or.inr ⟨by rfl, rfl⟩) ?_ ?_
           rotate_left
           ·simp only [Act.put, zT, zU, zV, i64_w, i32_w]
            rfl
           refine pure_ (i := 6) (N := some 50) (v := undef) (a' := ?_) #[true, true, true, true, true, true, true, false, false, false, false, false, false] rfl rfl (any_of HT_.out (by kernel_rfl)) (fun _ _ _ h => h) (Or.inr ⟨by rfl, rfl⟩) ?_ ?_
           rotate_left
           ·simp only [Act.put, zT, zU, zV, i64_w, i32_w]
            rfl
           refine pure_ (i := 7) (N := some 51) (v := undef) (a' := ?_) #[true, true, true, true, true, true, true, true, false, false, false, false, false] rfl rfl (any_of HT_.out (by kernel_rfl)) (fun _ _ _ h => h) (Or.inr ⟨by rfl, rfl⟩) ?_ ?_
           rotate_left
           ·simp only [Act.put, zT, zU, zV, i64_w, i32_w]
            rfl
           refine pure_ (i := 8) (N := some 52) (v := undef) (a' := ?_) #[true, true, true, true, true, true, true, true, true, false, false, false, false] rfl rfl (any_of HT_.out (by kernel_rfl)) (fun _ _ _ h => h) (Or.inr ⟨by rfl, rfl⟩) ?_ ?_
           rotate_left
           ·simp only [Act.put, zT, zU, zV, i64_w, i32_w]
            rfl
           refine pure_ (i := 9) (N := some 53) (v := undef) (a' := ?_) #[true, true, true, true, true, true, true, true, true, true, false, false, false] rfl rfl (any_of HT_.out (by kernel_rfl)) (fun _ _ _ h => h) (Or.inr ⟨by rfl, rfl⟩) ?_ ?_
           rotate_left
           ·simp only [Act.put, zT, zU, zV, i64_w, i32_w]
            rfl
           refine pure_ (i := 10) (N := some 54) (v := undef) (a' := ?_) #[true, true, true, true, true, true, true, true, true, true, true, false, false] rfl rfl (any_of HT_.out (by kernel_rfl)) (fun _ _ _ h => h) (Or.inr ⟨by rfl, rfl⟩) ?_ ?_
           rotate_left
           ·simp only [Act.put, zT, zU, zV, i64_w, i32_w]
            rfl
           refine pure_ (i := 11) (N := some 55) (v := undef) (a' := ?_) #[true, true, true, true, true, true, true, true, true, true, true, true, false] rfl rfl (any_of HT_.out (by kernel_rfl)) (fun _ _ _ h => h) (Or.inr ⟨by rfl, rfl⟩) ?_ ?_
           rotate_left
           ·simp only [Act.put, zT, zU, zV, i64_w, i32_w]
            rfl
           refine pure_ (i := 12) (N := some 56) (v := ?_) (a' := ?_) #[true, true, true, true, true, true, true, true, true, true, true, true, true] rfl rfl (any_of HT_.out (by kernel_rfl)) (fun _ _ _ h => h) (Or.inl ⟨by rfl, ?_⟩) ?_ ?_
           rotate_left
           ·intro w'
            go_simp
            with_reducible rfl
           rotate_left
           ·simp only [Act.put, zT, zU, zV, i64_w, i32_w]
            rfl
           refine done_ (done_of HT_.out (by kernel_rfl)) ?_
           have hcz47_0 : w46.cell? ⟨gb163, 0, none⟩ = some (.int .i64 t164) := (zQ BK163.out 0).trans rfl
           have hcz47_1 : w46.cell? ⟨gb163, 1, none⟩ = some (.int .i64 ((rd_T24 l0 x31_2).f1)) := (zQ BK163.out 1).trans rfl
           have hcz47_2 : w46.cell? ⟨gb163, 2, none⟩ = some (.int .i64 ((rd_T24 l0 x31_2).f2)) := (zQ BK163.out 2).trans rfl
           have hcz47_3 : w46.cell? ⟨gb163, 3, none⟩ = some (.int .i64 ((rd_T24 l0 x31_2).f3)) := (zQ BK163.out 3).trans rfl
           have hcz47_4 : w46.cell? ⟨gb163, 4, none⟩ = some (.int .i64 ((rd_T24 l0 x31_2).f4)) := (zQ BK163.out 4).trans rfl
           have hcz47_5 : w46.cell? ⟨gb163, 5, none⟩ = some (.int .i64 ((rd_T24 l0 x31_2).f5)) := (zQ BK163.out 5).trans rfl
           have hcz47_6 : w46.cell? ⟨gb163, 6, none⟩ = some (.int .i64 ((rd_T24 l0 x31_2).f6)) := (zQ BK163.out 6).trans rfl
           have hcz47_7 : w46.cell? ⟨gb163, 7, none⟩ = some (.int .i64 ((rd_T24 l0 x31_2).f7)) := (zQ BK163.out 7).trans rfl
           have hfz47_0 := blk_frozen BK163.out 0
           have hfz47_1 := blk_frozen BK163.out 1
           have hfz47_2 := blk_frozen BK163.out 2
           have hfz47_3 := blk_frozen BK163.out 3
           have hfz47_4 := blk_frozen BK163.out 4
           have hfz47_5 := blk_frozen BK163.out 5
           have hfz47_6 := blk_frozen BK163.out 6
           have hfz47_7 := blk_frozen BK163.out 7
           try go_wp2_with (first | ((with_reducible refine gate_builtin (b := .append) (xs := #[.tmp 68, .tmp 70]) rfl ?_); at_builtin; refine Kd.R_append k24 (w0 := w) w.heap.size rfl (.tmp 68) (.tmp 70) 32 24 (.agg #[(.int .i64 0), (.int .i64 0), (.int .i64 0), (.int .i64 0), (.int .i64 0), (.int .i64 0), (.int .i64 0), (.int .i64 0)]) 64 rfl Try.underlying32 info24 rfl (by decide) (by omega) (.slice Ao44 x7_2.length co44) x7_2 (⟨t164, (rd_T24 l0 x31_2).f1, (rd_T24 l0 x31_2).f2, (rd_T24 l0 x31_2).f3, (rd_T24 l0 x31_2).f4, (rd_T24 l0 x31_2).f5, (rd_T24 l0 x31_2).f6, (rd_T24 l0 x31_2).f7⟩ : S24) [.int .i64 t164, .int .i64 ((rd_T24 l0 x31_2).f1), .int .i64 ((rd_T24 l0 x31_2).f2), .int .i64 ((rd_T24 l0 x31_2).f3), .int .i64 ((rd_T24 l0 x31_2).f4), .int .i64 ((rd_T24 l0 x31_2).f5), .int .i64 ((rd_T24 l0 x31_2).f6), .int .i64 ((rd_T24 l0 x31_2).f7)] (fun k_ => k_ ≠ gb163) (fun _ => False) rfl rfl ?aP (fun _ hk => hk.elim) ?aF ?aO ?aB ?aS ?aL ?_; (case aP => exact k24_mkM _ _ _ (⟨t164, (rd_T24 l0 x31_2).f1, (rd_T24 l0 x31_2).f2, (rd_T24 l0 x31_2).f3, (rd_T24 l0 x31_2).f4, (rd_T24 l0 x31_2).f5, (rd_T24 l0 x31_2).f6, (rd_T24 l0 x31_2).f7⟩ : S24)); (case aB => exact (by repeat (first | (with_reducible first | exact HB.out | apply zA | apply zB | apply zC | refine below_set ?_ GE163.out) | exact HB.out))); (case aF => exact (fun k_ hk => Kd.freshB (g := gb163) (o := cs8 24 t164 ((rd_T24 l0 x31_2).f1) ((rd_T24 l0 x31_2).f2) ((rd_T24 l0 x31_2).f3) ((rd_T24 l0 x31_2).f4) ((rd_T24 l0 x31_2).f5) ((rd_T24 l0 x31_2).f6) ((rd_T24 l0 x31_2).f7)) (by (with_reducible repeat (first | refine zE ?_ _ | refine zF ?_ | refine zD ?_ _)); exact BK163.out) k_ hk)); (case aO => exact (by (with_reducible repeat (first | apply zG | apply zH | apply zI)); exact HO_7.out)); (case aS => exact (zW (by repeat (first | (with_reducible first | exact HB.out | apply zA | apply zB | apply zC | refine below_set ?_ GE163.out) | exact HB.out)))); (case aL => have := LMc41.out; omega); intro v180 w48 ho hb hg hat; rw [← Ny179.out] at ho; have n0_ := Aside0.mk (blk_grown (g := gb163) (o := cs8 24 t164 ((rd_T24 l0 x31_2).f1) ((rd_T24 l0 x31_2).f2) ((rd_T24 l0 x31_2).f3) ((rd_T24 l0 x31_2).f4) ((rd_T24 l0 x31_2).f5) ((rd_T24 l0 x31_2).f6) ((rd_T24 l0 x31_2).f7)) (by (with_reducible repeat (first | refine zE ?_ _ | refine zF ?_ | refine zD ?_ _)); exact BK163.out) hg (Kd.R_away HO_7.out (fun _ hk => hk))); have n1_ := Aside0.mk (hb); have n2_ := Aside0.mk (ho); clear BK163; clear HB; clear HO_7; have BK163 := n0_; have HB := n1_; have HO181 := n2_; clear n0_ n1_ n2_; clear ho hb hg hat))
           go_roundg k2
           case measure => have := HJ3.out; have := HK2.out; omega
           case rel => exact ⟨(y179), (wrap64 (x31_2 + 1)), (by first | rfl | (simp; done) | (simp [*]; done)), H', ⟨by have := HJ3.out; have := HK2.out; omega⟩, ⟨by (with_reducible repeat (first | apply zG | apply zH | apply zI)); exact Kd.R_mono HO181.out (fun _ hk => trivial)⟩, ⟨by repeat (first | (with_reducible first | exact HB.out | apply zA | apply zB | apply zC | refine below_set ?_ GE163.out) | exact HB.out)⟩⟩
          ·rw [if_neg c41] at H
           exact absurd H (by simp)
        ·rw [if_neg c16] at H
         exact absurd H (by simp)
       ·rw [if_neg c15] at H
        exact absurd H (by simp)
      ·rw [if_neg c14] at H
       have c14b0 : decide (x31_2 < (l0.length : Int)) = false := decide_eq_false c14
       clear c14
       obtain rfl := Option.some.inj H
       go_wp2
       go_ret
       exact ⟨_, by first | rfl | (simp [errW_none, errW_some] <;> rfl) | (simp [*, errW_none, errW_some] <;> rfl), by (with_reducible repeat (first | apply zG | apply zH | apply zI)); exact HO_7.out, by repeat (first | (with_reducible first | exact HB.out | apply zA | apply zB | apply zC) | exact HB.out)⟩

end Go.Proofs.Ytppifefhpjhmaaa.PFnExactDownAggs
