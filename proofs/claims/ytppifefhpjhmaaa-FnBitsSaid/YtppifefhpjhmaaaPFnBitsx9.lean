-- Written by a program of this session (xprint.py, over the kit's print).
import Derived.Test.YtppifefhpjhmaaaPFnBitsx0
import Derived.Test.YtppifefhpjhmaaaPFnBitsx4
import Derived.Test.YtppifefhpjhmaaaPFnBitsx5
import Derived.Test.YtppifefhpjhmaaaPFnBitsx6
import Derived.Test.YtppifefhpjhmaaaPFnBitsx7
import Derived.Test.YtppifefhpjhmaaaPFnBitsx8
namespace Go.Proofs.Ytppifefhpjhmaaa.PFnBits
open Go.RowKit Go.Proofs.YtppifefhpjhmaaaW.PrintWords Go.Proofs.YtppifefhpjhmaaaW.PrintLast Go.Proofs.YtppifefhpjhmaaaW.PrintMore Go.Proofs.Ytppifefhpjhmaaa.XWords
attribute [local go_sem] max2_int min2_int max_two min_two max_three min_three max_four min_four   -- for this text's walks alone
set_option linter.unusedVariables false
set_option linter.unusedSimpArgs false

/-! ### laws_FnBits: function 5 -/
mutual
def laws_FnBits.j0 : Nat → Int → Int → Bool → List Int → Int → List Int → Int → Option (Bool)
 | 0, _, _, _, _, _, _, _ => none
 | k + 1, x4, x5, x45, x264000, x264001, x269000, x269001 => if x45 = true then (if x269001 = 0 then (some ((x269000.length : Int) == 0)) else (some false)) else ((impl_TakeBits.f k x269000 x269001 x264001 x5).bind fun bt270 => (if x5 < 64 then (if 0 ≤ (IntKind.u64.wrap (x5)) then (laws_FnBits.j1 k x5 bt270.1 bt270.2 (Go.bits .and .i64 x4 (wrap64 ((shl .i64 1 (IntKind.u64.wrap (x5))) - 1))) x264000 x264001 x269000 x269001) else (none)) else (laws_FnBits.j1 k x5 bt270.1 bt270.2 x4 x264000 x264001 x269000 x269001)))
def laws_FnBits.j1 : Nat → Int → Int → Bool → Int → List Int → Int → List Int → Int → Option (Bool)
 | 0, _, _, _, _, _, _, _, _ => none
 | k + 1, x5, x7, x8, x9, x264000, x264001, x269000, x269001 => if x8 = true then (if x7 = x9 then (if x269001 = (wrap64 (x264001 + x5)) then ((impl_GoodBits.f k x269000 x269001).bind fun t272 => (laws_FnBits.j2 k (!t272) x264000 x264001 x269000 x269001)) else (laws_FnBits.j2 k true x264000 x264001 x269000 x269001)) else (laws_FnBits.j2 k true x264000 x264001 x269000 x269001)) else (laws_FnBits.j2 k true x264000 x264001 x269000 x269001)
def laws_FnBits.j2 : Nat → Bool → List Int → Int → List Int → Int → Option (Bool)
 | 0, _, _, _, _, _ => none
 | k + 1, x92, x264000, x264001, x269000, x269001 => if x92 = true then (some false) else (laws_FnBits.l0 k 0 x264000 x264001 x269000 x269001)
def laws_FnBits.l0 : Nat → Int → List Int → Int → List Int → Int → Option (Bool)
 | 0, _, _, _, _, _ => none
 | k + 1, x10, x264000, x264001, x269000, x269001 => if x10 < x264001 then (laws_FnBits.j4 k x10 (decide (x10 < 200)) x264000 x264001 x269000 x269001) else (laws_FnBits.j4 k x10 false x264000 x264001 x269000 x269001)
def laws_FnBits.j4 : Nat → Int → Bool → List Int → Int → List Int → Int → Option (Bool)
 | 0, _, _, _, _, _, _ => none
 | k + 1, x10, x100, x264000, x264001, x269000, x269001 => if x100 = true then ((impl_TakeBits.f k x269000 x269001 x10 1).bind fun bt273 => ((spec_TakeBits.f k x264000 x264001 x10 1).bind fun bt275 => (if bt273.1 = bt275.1 then (if bt273.2 = true then (laws_FnBits.j5 k x10 (!bt275.2) x264000 x264001 x269000 x269001) else (laws_FnBits.j5 k x10 true x264000 x264001 x269000 x269001)) else (laws_FnBits.j5 k x10 true x264000 x264001 x269000 x269001)))) else (some true)
def laws_FnBits.j5 : Nat → Int → Bool → List Int → Int → List Int → Int → Option (Bool)
 | 0, _, _, _, _, _, _ => none
 | k + 1, x10, x125, x264000, x264001, x269000, x269001 => if x125 = true then (some false) else (laws_FnBits.l0 k (wrap64 (x10 + 1)) x264000 x264001 x269000 x269001)
end
def laws_FnBits.f (k : Nat) (l0 : List Int) : Option (Bool) := if (l0.length : Int) > 1048576 then (some true) else ((spec_DrawAddBits.f k l0).bind fun bt257 => ((impl_AddBits.f k bt257.1 bt257.2.1 bt257.2.2.1 bt257.2.2.2).bind fun bt264 => ((spec_GoodBits.f k bt257.1 bt257.2.1).bind fun t269 => (if t269 = true then (if bt257.2.2.2 < 0 then (laws_FnBits.j0 k bt257.2.2.1 bt257.2.2.2 true bt257.1 bt257.2.1 bt264.1 bt264.2) else (if bt257.2.2.2 > 64 then (laws_FnBits.j0 k bt257.2.2.1 bt257.2.2.2 true bt257.1 bt257.2.1 bt264.1 bt264.2) else (laws_FnBits.j0 k bt257.2.2.1 bt257.2.2.2 (decide ((wrap64 (bt257.2.1 + bt257.2.2.2)) > 80000)) bt257.1 bt257.2.1 bt264.1 bt264.2))) else (laws_FnBits.j0 k bt257.2.2.1 bt257.2.2.2 true bt257.1 bt257.2.1 bt264.1 bt264.2)))))
theorem laws_FnBits.mono_l : ∀ k, (∀ y0 y1 y2 y3 y4 y5 y6, LeO (laws_FnBits.j0 k y0 y1 y2 y3 y4 y5 y6) (laws_FnBits.j0 (k + 1) y0 y1 y2 y3 y4 y5 y6)) ∧ (∀ y0 y1 y2 y3 y4 y5 y6 y7, LeO (laws_FnBits.j1 k y0 y1 y2 y3 y4 y5 y6 y7) (laws_FnBits.j1 (k + 1) y0 y1 y2 y3 y4 y5 y6 y7)) ∧ (∀ y0 y1 y2 y3 y4, LeO (laws_FnBits.j2 k y0 y1 y2 y3 y4) (laws_FnBits.j2 (k + 1) y0 y1 y2 y3 y4)) ∧ (∀ y0 y1 y2 y3 y4, LeO (laws_FnBits.l0 k y0 y1 y2 y3 y4) (laws_FnBits.l0 (k + 1) y0 y1 y2 y3 y4)) ∧ (∀ y0 y1 y2 y3 y4 y5, LeO (laws_FnBits.j4 k y0 y1 y2 y3 y4 y5) (laws_FnBits.j4 (k + 1) y0 y1 y2 y3 y4 y5)) ∧ (∀ y0 y1 y2 y3 y4 y5, LeO (laws_FnBits.j5 k y0 y1 y2 y3 y4 y5) (laws_FnBits.j5 (k + 1) y0 y1 y2 y3 y4 y5))
 | 0 => ⟨fun _ _ _ _ _ _ _ r h => by simp [laws_FnBits.j0] at h, fun _ _ _ _ _ _ _ _ r h => by simp [laws_FnBits.j1] at h, fun _ _ _ _ _ r h => by simp [laws_FnBits.j2] at h, fun _ _ _ _ _ r h => by simp [laws_FnBits.l0] at h, fun _ _ _ _ _ _ r h => by simp [laws_FnBits.j4] at h, fun _ _ _ _ _ _ r h => by simp [laws_FnBits.j5] at h⟩
 | k + 1 => by
  obtain ⟨ih0, ih1, ih2, ih3, ih4, ih5⟩ := laws_FnBits.mono_l k
  refine ⟨?_, ?_, ?_, ?_, ?_, ?_⟩
  ·intro y0 y1 y2 y3 y4 y5 y6
   unfold laws_FnBits.j0
   repeat' first
   | (with_reducible exact ih0 _ _ _ _ _ _ _)
   | (with_reducible exact ih1 _ _ _ _ _ _ _ _)
   | (with_reducible exact ih2 _ _ _ _ _)
   | (with_reducible exact ih3 _ _ _ _ _)
   | (with_reducible exact ih4 _ _ _ _ _ _)
   | (with_reducible exact ih5 _ _ _ _ _ _)
   | (with_reducible exact impl_AddBits.mono _ _ _ _ _)
   | (with_reducible exact impl_GoodBits.mono _ _ _)
   | (with_reducible exact impl_TakeBits.mono _ _ _ _ _)
   | (with_reducible exact spec_DrawAddBits.mono _ _)
   | (with_reducible exact spec_GoodBits.mono _ _ _)
   | (with_reducible exact spec_TakeBits.mono _ _ _ _ _)
   | (with_reducible exact LeO.refl _)
   | (with_reducible exact LeO.none _)
   | (with_reducible refine LeO.ite ?_ ?_)
   | (with_reducible refine LeO.bind ?_ (fun _ => ?_))
   | exact ih0 _ _ _ _ _ _ _
   | exact ih1 _ _ _ _ _ _ _ _
   | exact ih2 _ _ _ _ _
   | exact ih3 _ _ _ _ _
   | exact ih4 _ _ _ _ _ _
   | exact ih5 _ _ _ _ _ _
   | exact impl_AddBits.mono _ _ _ _ _
   | exact impl_GoodBits.mono _ _ _
   | exact impl_TakeBits.mono _ _ _ _ _
   | exact spec_DrawAddBits.mono _ _
   | exact spec_GoodBits.mono _ _ _
   | exact spec_TakeBits.mono _ _ _ _ _
   | exact LeO.none _
   | refine LeO.ite ?_ ?_
   | refine LeO.bind ?_ (fun _ => ?_)
  ·intro y0 y1 y2 y3 y4 y5 y6 y7
   unfold laws_FnBits.j1
   repeat' first
   | (with_reducible exact ih0 _ _ _ _ _ _ _)
   | (with_reducible exact ih1 _ _ _ _ _ _ _ _)
   | (with_reducible exact ih2 _ _ _ _ _)
   | (with_reducible exact ih3 _ _ _ _ _)
   | (with_reducible exact ih4 _ _ _ _ _ _)
   | (with_reducible exact ih5 _ _ _ _ _ _)
   | (with_reducible exact impl_AddBits.mono _ _ _ _ _)
   | (with_reducible exact impl_GoodBits.mono _ _ _)
   | (with_reducible exact impl_TakeBits.mono _ _ _ _ _)
   | (with_reducible exact spec_DrawAddBits.mono _ _)
   | (with_reducible exact spec_GoodBits.mono _ _ _)
   | (with_reducible exact spec_TakeBits.mono _ _ _ _ _)
   | (with_reducible exact LeO.refl _)
   | (with_reducible exact LeO.none _)
   | (with_reducible refine LeO.ite ?_ ?_)
   | (with_reducible refine LeO.bind ?_ (fun _ => ?_))
   | exact ih0 _ _ _ _ _ _ _
   | exact ih1 _ _ _ _ _ _ _ _
   | exact ih2 _ _ _ _ _
   | exact ih3 _ _ _ _ _
   | exact ih4 _ _ _ _ _ _
   | exact ih5 _ _ _ _ _ _
   | exact impl_AddBits.mono _ _ _ _ _
   | exact impl_GoodBits.mono _ _ _
   | exact impl_TakeBits.mono _ _ _ _ _
   | exact spec_DrawAddBits.mono _ _
   | exact spec_GoodBits.mono _ _ _
   | exact spec_TakeBits.mono _ _ _ _ _
   | exact LeO.none _
   | refine LeO.ite ?_ ?_
   | refine LeO.bind ?_ (fun _ => ?_)
  ·intro y0 y1 y2 y3 y4
   unfold laws_FnBits.j2
   repeat' first
   | (with_reducible exact ih0 _ _ _ _ _ _ _)
   | (with_reducible exact ih1 _ _ _ _ _ _ _ _)
   | (with_reducible exact ih2 _ _ _ _ _)
   | (with_reducible exact ih3 _ _ _ _ _)
   | (with_reducible exact ih4 _ _ _ _ _ _)
   | (with_reducible exact ih5 _ _ _ _ _ _)
   | (with_reducible exact impl_AddBits.mono _ _ _ _ _)
   | (with_reducible exact impl_GoodBits.mono _ _ _)
   | (with_reducible exact impl_TakeBits.mono _ _ _ _ _)
   | (with_reducible exact spec_DrawAddBits.mono _ _)
   | (with_reducible exact spec_GoodBits.mono _ _ _)
   | (with_reducible exact spec_TakeBits.mono _ _ _ _ _)
   | (with_reducible exact LeO.refl _)
   | (with_reducible exact LeO.none _)
   | (with_reducible refine LeO.ite ?_ ?_)
   | (with_reducible refine LeO.bind ?_ (fun _ => ?_))
   | exact ih0 _ _ _ _ _ _ _
   | exact ih1 _ _ _ _ _ _ _ _
   | exact ih2 _ _ _ _ _
   | exact ih3 _ _ _ _ _
   | exact ih4 _ _ _ _ _ _
   | exact ih5 _ _ _ _ _ _
   | exact impl_AddBits.mono _ _ _ _ _
   | exact impl_GoodBits.mono _ _ _
   | exact impl_TakeBits.mono _ _ _ _ _
   | exact spec_DrawAddBits.mono _ _
   | exact spec_GoodBits.mono _ _ _
   | exact spec_TakeBits.mono _ _ _ _ _
   | exact LeO.none _
   | refine LeO.ite ?_ ?_
   | refine LeO.bind ?_ (fun _ => ?_)
  ·intro y0 y1 y2 y3 y4
   unfold laws_FnBits.l0
   repeat' first
   | (with_reducible exact ih0 _ _ _ _ _ _ _)
   | (with_reducible exact ih1 _ _ _ _ _ _ _ _)
   | (with_reducible exact ih2 _ _ _ _ _)
   | (with_reducible exact ih3 _ _ _ _ _)
   | (with_reducible exact ih4 _ _ _ _ _ _)
   | (with_reducible exact ih5 _ _ _ _ _ _)
   | (with_reducible exact impl_AddBits.mono _ _ _ _ _)
   | (with_reducible exact impl_GoodBits.mono _ _ _)
   | (with_reducible exact impl_TakeBits.mono _ _ _ _ _)
   | (with_reducible exact spec_DrawAddBits.mono _ _)
   | (with_reducible exact spec_GoodBits.mono _ _ _)
   | (with_reducible exact spec_TakeBits.mono _ _ _ _ _)
   | (with_reducible exact LeO.refl _)
   | (with_reducible exact LeO.none _)
   | (with_reducible refine LeO.ite ?_ ?_)
   | (with_reducible refine LeO.bind ?_ (fun _ => ?_))
   | exact ih0 _ _ _ _ _ _ _
   | exact ih1 _ _ _ _ _ _ _ _
   | exact ih2 _ _ _ _ _
   | exact ih3 _ _ _ _ _
   | exact ih4 _ _ _ _ _ _
   | exact ih5 _ _ _ _ _ _
   | exact impl_AddBits.mono _ _ _ _ _
   | exact impl_GoodBits.mono _ _ _
   | exact impl_TakeBits.mono _ _ _ _ _
   | exact spec_DrawAddBits.mono _ _
   | exact spec_GoodBits.mono _ _ _
   | exact spec_TakeBits.mono _ _ _ _ _
   | exact LeO.none _
   | refine LeO.ite ?_ ?_
   | refine LeO.bind ?_ (fun _ => ?_)
  ·intro y0 y1 y2 y3 y4 y5
   unfold laws_FnBits.j4
   repeat' first
   | (with_reducible exact ih0 _ _ _ _ _ _ _)
   | (with_reducible exact ih1 _ _ _ _ _ _ _ _)
   | (with_reducible exact ih2 _ _ _ _ _)
   | (with_reducible exact ih3 _ _ _ _ _)
   | (with_reducible exact ih4 _ _ _ _ _ _)
   | (with_reducible exact ih5 _ _ _ _ _ _)
   | (with_reducible exact impl_AddBits.mono _ _ _ _ _)
   | (with_reducible exact impl_GoodBits.mono _ _ _)
   | (with_reducible exact impl_TakeBits.mono _ _ _ _ _)
   | (with_reducible exact spec_DrawAddBits.mono _ _)
   | (with_reducible exact spec_GoodBits.mono _ _ _)
   | (with_reducible exact spec_TakeBits.mono _ _ _ _ _)
   | (with_reducible exact LeO.refl _)
   | (with_reducible exact LeO.none _)
   | (with_reducible refine LeO.ite ?_ ?_)
   | (with_reducible refine LeO.bind ?_ (fun _ => ?_))
   | exact ih0 _ _ _ _ _ _ _
   | exact ih1 _ _ _ _ _ _ _ _
   | exact ih2 _ _ _ _ _
   | exact ih3 _ _ _ _ _
   | exact ih4 _ _ _ _ _ _
   | exact ih5 _ _ _ _ _ _
   | exact impl_AddBits.mono _ _ _ _ _
   | exact impl_GoodBits.mono _ _ _
   | exact impl_TakeBits.mono _ _ _ _ _
   | exact spec_DrawAddBits.mono _ _
   | exact spec_GoodBits.mono _ _ _
   | exact spec_TakeBits.mono _ _ _ _ _
   | exact LeO.none _
   | refine LeO.ite ?_ ?_
   | refine LeO.bind ?_ (fun _ => ?_)
  ·intro y0 y1 y2 y3 y4 y5
   unfold laws_FnBits.j5
   repeat' first
   | (with_reducible exact ih0 _ _ _ _ _ _ _)
   | (with_reducible exact ih1 _ _ _ _ _ _ _ _)
   | (with_reducible exact ih2 _ _ _ _ _)
   | (with_reducible exact ih3 _ _ _ _ _)
   | (with_reducible exact ih4 _ _ _ _ _ _)
   | (with_reducible exact ih5 _ _ _ _ _ _)
   | (with_reducible exact impl_AddBits.mono _ _ _ _ _)
   | (with_reducible exact impl_GoodBits.mono _ _ _)
   | (with_reducible exact impl_TakeBits.mono _ _ _ _ _)
   | (with_reducible exact spec_DrawAddBits.mono _ _)
   | (with_reducible exact spec_GoodBits.mono _ _ _)
   | (with_reducible exact spec_TakeBits.mono _ _ _ _ _)
   | (with_reducible exact LeO.refl _)
   | (with_reducible exact LeO.none _)
   | (with_reducible refine LeO.ite ?_ ?_)
   | (with_reducible refine LeO.bind ?_ (fun _ => ?_))
   | exact ih0 _ _ _ _ _ _ _
   | exact ih1 _ _ _ _ _ _ _ _
   | exact ih2 _ _ _ _ _
   | exact ih3 _ _ _ _ _
   | exact ih4 _ _ _ _ _ _
   | exact ih5 _ _ _ _ _ _
   | exact impl_AddBits.mono _ _ _ _ _
   | exact impl_GoodBits.mono _ _ _
   | exact impl_TakeBits.mono _ _ _ _ _
   | exact spec_DrawAddBits.mono _ _
   | exact spec_GoodBits.mono _ _ _
   | exact spec_TakeBits.mono _ _ _ _ _
   | exact LeO.none _
   | refine LeO.ite ?_ ?_
   | refine LeO.bind ?_ (fun _ => ?_)
theorem laws_FnBits.mono : ∀ a0 k, LeO (laws_FnBits.f k a0) (laws_FnBits.f (k + 1) a0) := by
 intro a0 k
 obtain ⟨ih0, ih1, ih2, ih3, ih4, ih5⟩ := laws_FnBits.mono_l k
 unfold laws_FnBits.f
 repeat' first
   | (with_reducible exact ih0 _ _ _ _ _ _ _)
   | (with_reducible exact ih1 _ _ _ _ _ _ _ _)
   | (with_reducible exact ih2 _ _ _ _ _)
   | (with_reducible exact ih3 _ _ _ _ _)
   | (with_reducible exact ih4 _ _ _ _ _ _)
   | (with_reducible exact ih5 _ _ _ _ _ _)
   | (with_reducible exact impl_AddBits.mono _ _ _ _ _)
   | (with_reducible exact impl_GoodBits.mono _ _ _)
   | (with_reducible exact impl_TakeBits.mono _ _ _ _ _)
   | (with_reducible exact spec_DrawAddBits.mono _ _)
   | (with_reducible exact spec_GoodBits.mono _ _ _)
   | (with_reducible exact spec_TakeBits.mono _ _ _ _ _)
   | (with_reducible exact LeO.refl _)
   | (with_reducible exact LeO.none _)
   | (with_reducible refine LeO.ite ?_ ?_)
   | (with_reducible refine LeO.bind ?_ (fun _ => ?_))
   | exact ih0 _ _ _ _ _ _ _
   | exact ih1 _ _ _ _ _ _ _ _
   | exact ih2 _ _ _ _ _
   | exact ih3 _ _ _ _ _
   | exact ih4 _ _ _ _ _ _
   | exact ih5 _ _ _ _ _ _
   | exact impl_AddBits.mono _ _ _ _ _
   | exact impl_GoodBits.mono _ _ _
   | exact impl_TakeBits.mono _ _ _ _ _
   | exact spec_DrawAddBits.mono _ _
   | exact spec_GoodBits.mono _ _ _
   | exact spec_TakeBits.mono _ _ _ _ _
   | exact LeO.none _
   | refine LeO.ite ?_ ?_
   | refine LeO.bind ?_ (fun _ => ?_)
set_option maxHeartbeats 8000000 in
set_option maxRecDepth 100000 in
theorem laws_FnBits.calls (k : Nat) (A0 : Option Addr) (c0 : Nat) (l0 : List Int) (r : Bool) (w : World) (hr0 : Kd.C (Kd.int .u8) w A0 l0.length l0) (hc0 : l0.length ≤ c0) (h : laws_FnBits.f k l0 = some r) :
  Calls Try.prog 5 #[.slice A0 l0.length c0] w fun e w' => e = .returned (.bool r) ∧ Below w.heap.size w w' := by
 have hu37 := Try.underlying37
 have HR0 := Aside0.mk hr0
 have HC0 := Aside0.mk hc0
 clear hr0 hc0
 have HB := Aside0.mk (Below.refl w.heap.size w)
 have H : (if (l0.length : Int) > 1048576 then (some true) else ((spec_DrawAddBits.f k l0).bind fun bt257 => ((impl_AddBits.f k bt257.1 bt257.2.1 bt257.2.2.1 bt257.2.2.2).bind fun bt264 => ((spec_GoodBits.f k bt257.1 bt257.2.1).bind fun t269 => (if t269 = true then (if bt257.2.2.2 < 0 then (laws_FnBits.j0 k bt257.2.2.1 bt257.2.2.2 true bt257.1 bt257.2.1 bt264.1 bt264.2) else (if bt257.2.2.2 > 64 then (laws_FnBits.j0 k bt257.2.2.1 bt257.2.2.2 true bt257.1 bt257.2.1 bt264.1 bt264.2) else (laws_FnBits.j0 k bt257.2.2.1 bt257.2.2.2 (decide ((wrap64 (bt257.2.1 + bt257.2.2.2)) > 80000)) bt257.1 bt257.2.1 bt264.1 bt264.2))) else (laws_FnBits.j0 k bt257.2.2.1 bt257.2.2.2 true bt257.1 bt257.2.1 bt264.1 bt264.2)))))) = some r := h
 clear h
 by_cases c2 : (l0.length : Int) > 1048576
 ·rw [if_pos c2] at H
  have c2b0 : decide (1048576 < (l0.length : Int)) = true := decide_eq_true c2
  have c2b1 : decide (1048576 < l0.length) = true := decide_eq_true (by omega)
  clear c2
  obtain rfl := Option.some.inj H
  go_enter Try.func5, Try.ntmps5
  go_wp2
  go_ret
  exact ⟨by first | rfl | (simp [errW_none, errW_some] <;> rfl) | (simp [*, errW_none, errW_some] <;> rfl), by repeat (first | (with_reducible first | exact HB.out | apply zA | apply zB | apply zC) | exact HB.out)⟩
 ·rw [if_neg c2] at H
  have c2b0 : decide (1048576 < (l0.length : Int)) = false := decide_eq_false c2
  have c2b1 : decide (1048576 < l0.length) = false := decide_eq_false (by omega)
  clear c2
  replace H := Option.bind_eq_some_iff.mp H
  obtain ⟨⟨t257, t260, t261, t262⟩, A30, H⟩ := H
  replace H : ((impl_AddBits.f k t257 t260 t261 t262).bind fun bt264 => ((spec_GoodBits.f k t257 t260).bind fun t269 => (if t269 = true then (if t262 < 0 then (laws_FnBits.j0 k t261 t262 true t257 t260 bt264.1 bt264.2) else (if t262 > 64 then (laws_FnBits.j0 k t261 t262 true t257 t260 bt264.1 bt264.2) else (laws_FnBits.j0 k t261 t262 (decide ((wrap64 (t260 + t262)) > 80000)) t257 t260 bt264.1 bt264.2))) else (laws_FnBits.j0 k t261 t262 true t257 t260 bt264.1 bt264.2)))) = some r := H
  have A3 := Aside0.mk A30
  clear A30
  replace H := Option.bind_eq_some_iff.mp H
  obtain ⟨⟨t264, t267⟩, A40, H⟩ := H
  replace H : ((spec_GoodBits.f k t257 t260).bind fun t269 => (if t269 = true then (if t262 < 0 then (laws_FnBits.j0 k t261 t262 true t257 t260 t264 t267) else (if t262 > 64 then (laws_FnBits.j0 k t261 t262 true t257 t260 t264 t267) else (laws_FnBits.j0 k t261 t262 (decide ((wrap64 (t260 + t262)) > 80000)) t257 t260 t264 t267))) else (laws_FnBits.j0 k t261 t262 true t257 t260 t264 t267))) = some r := H
  have A4 := Aside0.mk A40
  clear A40
  have HC5 := Aside0.mk H
  clear H
  go_enter Try.func5, Try.ntmps5
  go_upto_region 5 with (first | ((with_reducible refine gate_callee (f := 17) rfl ?_); refine goesL_ (some 20) rfl rfl Try.func17 (by kernel_rfl) rfl #[.slice A0 l0.length c0] rfl (by (try simp only [List.map_toArray, List.map_cons, List.map_nil]); first | done | rfl | (simp only [List.length_drop, List.length_take]; rfl)) ?_; (with_reducible refine (spec_DrawAddBits.calls k _ _ l0 t257 t260 t261 t262 _ ?side1 ?side2 A3.out).mono ?_); (case side1 => repeat (first | exact HR0.out | (with_reducible refine zJ ?_ _) | (with_reducible refine zK ?_ _) | (with_reducible refine zL ?_))); (case side2 => exact HC0.out); rintro e w6 ⟨v258, rfl, ho0, hb⟩; refine ⟨_, rfl, ?_⟩; have n0_ := Aside0.mk (Kd.R_lower ho0 (zW (by repeat (first | (with_reducible first | exact HB.out | apply zA | apply zB | apply zC) | exact HB.out)))); have n1_ := Aside0.mk (below_step (by repeat (first | (with_reducible first | exact HB.out | apply zA | apply zB | apply zC) | exact HB.out)) hb); clear HB; have HO259 := n0_; have HB := n1_; clear n0_ n1_; (try clear hb); (try clear hb2); (try clear hk); (try clear hi); (try clear ho0)) | ((with_reducible refine gate_dst (N := 3) rfl ?_); (try (refine gate_guard (by rfl) ?_; dsimp only)); refine box_event ?hg (N := 3) ?hd (cs := #[.slice none 0 0, .int .i64 0]) (t := 37) ?hr ?_; (case hd => rfl); (case hg => rfl); (case hr => first | (go_simp; done) | (go_simp; rfl)); intro gb263 hg w7 hbox hb; have n0_ := Aside0.mk (Kd.R_below (by (with_reducible repeat (first | apply zG | apply zH | apply zI)); exact HO259.out) hb); have n1_ := Aside0.mk (below_step (by repeat (first | (with_reducible first | exact HB.out | apply zA | apply zB | apply zC) | exact HB.out)) hb); have n2_ := Aside0.mk (hbox); have n3_ := Aside0.mk ((by rw [hg]; exact (zW (by repeat (first | (with_reducible first | exact HB.out | apply zA | apply zB | apply zC) | exact HB.out))) : w.heap.size ≤ gb263)); have n4_ := Aside0.mk ((by rw [hg]; exact (zW (by repeat (first | (with_reducible first | exact HB.out | apply zA | apply zB | apply zC) | exact HB.out))) : w.heap.size ≤ gb263)); clear HO259; clear HB; have HO259 := n0_; have HB := n1_; have BK263 := n2_; have GW263 := n3_; have GE263 := n4_; clear n0_ n1_ n2_ n3_ n4_; clear hb hbox hg; obtain ⟨Ao8, co8, eo8⟩ := Kd.R_slice HO259.out; subst eo8; have hcz9_0 : w7.cell? ⟨gb263, 0, none⟩ = some (.slice none 0 0) := (zQ BK263.out 0).trans rfl; have hcz9_1 : w7.cell? ⟨gb263, 1, none⟩ = some (.int .i64 0) := (zQ BK263.out 1).trans rfl; have hfz9_0 := blk_frozen BK263.out 0; have hfz9_1 := blk_frozen BK263.out 1) | ((with_reducible refine gate_callee (f := 18) rfl ?_); refine goesL_ (some 27) rfl rfl Try.func18 (by kernel_rfl) rfl #[.agg #[.slice Ao8 t257.length co8, .int .i64 t260], .int .i64 t261, .int .i64 t262] rfl (by (try simp only [List.map_toArray, List.map_cons, List.map_nil]); first | done | rfl | (simp only [List.length_drop, List.length_take]; rfl)) ?_; (with_reducible refine (impl_AddBits.calls k _ _ t257 t260 t261 t262 t264 t267 _ ?side1 ?side2 A4.out).mono ?_); (case side1 => refine (Kd.R_reads' (e := 5) (base := w.heap.size) (ok := fun k_ => True) (n := t257.length) (c := co8) ?_).2.2; exact (by (with_reducible repeat (first | apply zG | apply zH | apply zI)); exact (Kd.R_mono (Kd.R_far (p := ⟨gb263, 1, none⟩) (Kd.R_far (p := ⟨gb263, 0, none⟩) (Kd.R_types HO259.out BK263.out (by decide)) (fun _ hk => hk.2) (.slice Ao8 t257.length co8)) (fun _ hk => hk.2) (.int .i64 t260)) (fun _ h_ => h_.1)))); (case side2 => exact (Kd.R_reads' HO259.out).2.1); rintro e w10 ⟨v265, rfl, ho0, hb⟩; refine ⟨_, rfl, ?_⟩; have n0_ := Aside0.mk (Kd.R_elder' (by (with_reducible repeat (first | apply zG | apply zH | apply zI)); exact (Kd.R_mono (Kd.R_far (p := ⟨gb263, 1, none⟩) (Kd.R_far (p := ⟨gb263, 0, none⟩) (Kd.R_types HO259.out BK263.out (by decide)) (fun _ hk => hk.2) (.slice Ao8 t257.length co8)) (fun _ hk => hk.2) (.int .i64 t260)) (fun _ h_ => h_.1))) (Kd.R_base ho0) hb); have n1_ := Aside0.mk (Kd.R_lower (Kd.R_new' ho0 (Kd.R_lt (by (with_reducible repeat (first | apply zG | apply zH | apply zI)); exact (Kd.R_mono (Kd.R_far (p := ⟨gb263, 1, none⟩) (Kd.R_far (p := ⟨gb263, 0, none⟩) (Kd.R_types HO259.out BK263.out (by decide)) (fun _ hk => hk.2) (.slice Ao8 t257.length co8)) (fun _ hk => hk.2) (.int .i64 t260)) (fun _ h_ => h_.1))))) (zW (by repeat (first | (with_reducible first | exact HB.out | apply zA | apply zB | apply zC | refine below_set ?_ GE263.out) | exact HB.out)))); have n2_ := Aside0.mk (blk_below (g := gb263) (o := .cells #[.slice Ao8 t257.length co8, .int .i64 t260] 37 (0, 0)) (by (with_reducible repeat (first | refine zE ?_ _ | refine zF ?_ | refine zD ?_ _)); refine blk_put (cs := #[.slice Ao8 t257.length co8, .int .i64 0]) ?_ 1 _ rfl; (with_reducible repeat (first | refine zE ?_ _ | refine zF ?_ | refine zD ?_ _)); refine blk_put (cs := #[.slice none 0 0, .int .i64 0]) ?_ 0 _ rfl; (with_reducible repeat (first | refine zE ?_ _ | refine zF ?_ | refine zD ?_ _)); exact BK263.out) hb); have n3_ := Aside0.mk (below_step (by repeat (first | (with_reducible first | exact HB.out | apply zA | apply zB | apply zC | refine below_set ?_ GE263.out) | exact HB.out)) hb); clear HO259; clear BK263; clear HB; have HO259 := n0_; have HO266 := n1_; have BK263 := n2_; have HB := n3_; clear n0_ n1_ n2_ n3_; (try clear hb); (try clear hb2); (try clear hk); (try clear hi); (try clear ho0)) | ((with_reducible refine gate_dst (N := 6) rfl ?_); (try (refine gate_guard (by rfl) ?_; dsimp only)); refine box_event ?hg (N := 6) ?hd (cs := #[.slice none 0 0, .int .i64 0]) (t := 37) ?hr ?_; (case hd => rfl); (case hg => rfl); (case hr => first | (go_simp; done) | (go_simp; rfl)); intro gb268 hg w11 hbox hb; have n0_ := Aside0.mk (Kd.R_below (by (with_reducible repeat (first | apply zG | apply zH | apply zI)); exact HO259.out) hb); have n1_ := Aside0.mk (Kd.R_below (by (with_reducible repeat (first | apply zG | apply zH | apply zI)); exact HO266.out) hb); have n2_ := Aside0.mk (blk_below (g := gb263) (o := .cells #[.slice Ao8 t257.length co8, .int .i64 t260] 37 (0, 0)) (by (with_reducible repeat (first | refine zE ?_ _ | refine zF ?_ | refine zD ?_ _)); exact BK263.out) hb); have n3_ := Aside0.mk (below_step (by repeat (first | (with_reducible first | exact HB.out | apply zA | apply zB | apply zC | refine below_set ?_ GE263.out) | exact HB.out)) hb); have n4_ := Aside0.mk (hbox); have n5_ := Aside0.mk ((by rw [hg]; exact (zW (by repeat (first | (with_reducible first | exact HB.out | apply zA | apply zB | apply zC | refine below_set ?_ GE263.out) | exact HB.out))) : w.heap.size ≤ gb268)); have n6_ := Aside0.mk ((by rw [hg]; exact (zW (by repeat (first | (with_reducible first | exact HB.out | apply zA | apply zB | apply zC | refine below_set ?_ GE263.out) | exact HB.out))) : w.heap.size ≤ gb268)); have n7_ := Aside0.mk ((by rw [hg]; exact Nat.ne_of_lt (blk_lt (g := gb263) (o := .cells #[.slice Ao8 t257.length co8, .int .i64 t260] 37 (0, 0)) (by (with_reducible repeat (first | refine zE ?_ _ | refine zF ?_ | refine zD ?_ _)); exact BK263.out)) : gb263 ≠ gb268)); have n8_ := Aside0.mk ((by rw [hg]; exact Nat.ne_of_gt (blk_lt (g := gb263) (o := .cells #[.slice Ao8 t257.length co8, .int .i64 t260] 37 (0, 0)) (by (with_reducible repeat (first | refine zE ?_ _ | refine zF ?_ | refine zD ?_ _)); exact BK263.out)) : gb268 ≠ gb263)); clear HO259; clear HO266; clear BK263; clear HB; have HO259 := n0_; have HO266 := n1_; have BK263 := n2_; have HB := n3_; have BK268 := n4_; have GW268 := n5_; have GE268 := n6_; have NB263_268 := n7_; have NB268_263 := n8_; clear n0_ n1_ n2_ n3_ n4_ n5_ n6_ n7_ n8_; clear hb hbox hg; obtain ⟨Ao12, co12, eo12⟩ := Kd.R_slice HO266.out; subst eo12; have hnb13 := NB268_263.out; have hnc13 := NB263_268.out; have hcz14_0 : w11.cell? ⟨gb268, 0, none⟩ = some (.slice none 0 0) := (zQ BK268.out 0).trans rfl; have hcz14_1 : w11.cell? ⟨gb268, 1, none⟩ = some (.int .i64 0) := (zQ BK268.out 1).trans rfl; have hfz14_0 := blk_frozen BK268.out 0; have hfz14_1 := blk_frozen BK268.out 1))
  (try simp only [Act.put, zT, zU, zV])
  go_cut [45] (fun v45 wc => ∃ (kq : Nat) (x45_4 : Bool), v45 = .bool x45_4 ∧ Aside0 (laws_FnBits.j0 kq t261 t262 x45_4 t257 t260 t264 t267 = some r) ∧ Aside0 (kq ≤ k) ∧ Aside0 (Kd.R (Kd.int .u8) 5 wc w.heap.size (fun k_ => some k_ ≠ ((.slice Ao12 t264.length co12) : Value).ownBlock) (.slice Ao8 t257.length co8) t257) ∧ Aside0 (Kd.R (Kd.int .u8) 5 wc w.heap.size (fun k_ => some k_ ≠ ((.slice Ao8 t257.length co8) : Value).ownBlock) (.slice Ao12 t264.length co12) t264) ∧ Aside0 (wc.heap[gb263]? = some (.cells #[(.slice Ao8 t257.length co8), .int .i64 t260] 37 (0, 0))) ∧ Aside0 (wc.heap[gb268]? = some (.cells #[(.slice Ao12 t264.length co12), .int .i64 t267] 37 (0, 0))) ∧ Aside0 (Below w.heap.size w wc))
  case first =>
   have H := HC5.out
   clear HC5
   replace H := Option.bind_eq_some_iff.mp H
   obtain ⟨t269, A150, H⟩ := H
   replace H : (if t269 = true then (if t262 < 0 then (laws_FnBits.j0 k t261 t262 true t257 t260 t264 t267) else (if t262 > 64 then (laws_FnBits.j0 k t261 t262 true t257 t260 t264 t267) else (laws_FnBits.j0 k t261 t262 (decide ((wrap64 (t260 + t262)) > 80000)) t257 t260 t264 t267))) else (laws_FnBits.j0 k t261 t262 true t257 t260 t264 t267)) = some r := H
   have A15 := Aside0.mk A150
   clear A150
   by_cases c16 : t269 = true
   ·subst c16
    have H1 : (if t262 < 0 then (laws_FnBits.j0 k t261 t262 true t257 t260 t264 t267) else (if t262 > 64 then (laws_FnBits.j0 k t261 t262 true t257 t260 t264 t267) else (laws_FnBits.j0 k t261 t262 (decide ((wrap64 (t260 + t262)) > 80000)) t257 t260 t264 t267))) = some r := by rw [if_pos rfl] at H; exact H
    clear H
    have H := H1
    clear H1
    by_cases c17 : t262 < 0
    ·rw [if_pos c17] at H
     have c17b0 : decide (t262 < 0) = true := decide_eq_true c17
     clear c17
     (first | rw [c17b0] | (simp only [i64_w, i32_w]; rw [c17b0]) | skip)
     have H' := Aside0.mk H
     clear H
     have hnb18 := NB263_268.out
     have hnc18 := NB268_263.out
     have hcz19_0 : w11.cell? ⟨gb263, 0, none⟩ = some (.slice Ao8 t257.length co8) := (zQ BK263.out 0).trans rfl
     have hcz19_1 : w11.cell? ⟨gb263, 1, none⟩ = some (.int .i64 t260) := (zQ BK263.out 1).trans rfl
     have hfz19_0 := blk_frozen BK263.out 0
     have hfz19_1 := blk_frozen BK263.out 1
     go_wp2_with (first | ((with_reducible refine gate_callee (f := 19) rfl ?_); refine goesL_ (some 29) rfl rfl Try.func19 (by kernel_rfl) rfl #[.agg #[.slice Ao8 t257.length co8, .int .i64 t260]] rfl (by (try simp only [List.map_toArray, List.map_cons, List.map_nil]); first | done | rfl | (simp only [List.length_drop, List.length_take]; rfl)) ?_; (with_reducible refine (spec_GoodBits.calls k _ _ t257 t260 true _ ?side1 ?side2 A15.out).mono ?_); (case side1 => refine (Kd.R_reads' (e := 5) (base := w.heap.size) (ok := fun k_ => (True ∧ some k_ ≠ (.slice Ao12 t264.length co12 : Value).ownBlock)) (n := t257.length) (c := co8) ?_).2.2; exact (by (with_reducible repeat (first | apply zG | apply zH | apply zI)); exact (Kd.R_mono (Kd.R_far (p := ⟨gb268, 1, none⟩) (Kd.R_far (p := ⟨gb268, 0, none⟩) (Kd.R_types HO259.out BK268.out (by decide)) (fun _ hk => hk.2) (.slice Ao12 t264.length co12)) (fun _ hk => hk.2) (.int .i64 t267)) (fun _ h_ => h_.1)))); (case side2 => exact (Kd.R_reads' HO259.out).2.1); rintro e w20 ⟨rfl, hb⟩; refine ⟨_, rfl, ?_⟩; have n0_ := Aside0.mk (Kd.R_below (by (with_reducible repeat (first | apply zG | apply zH | apply zI)); exact (Kd.R_mono (Kd.R_far (p := ⟨gb268, 1, none⟩) (Kd.R_far (p := ⟨gb268, 0, none⟩) (Kd.R_types HO259.out BK268.out (by decide)) (fun _ hk => hk.2) (.slice Ao12 t264.length co12)) (fun _ hk => hk.2) (.int .i64 t267)) (fun _ h_ => h_.1))) hb); have n1_ := Aside0.mk (Kd.R_below (by (with_reducible repeat (first | apply zG | apply zH | apply zI)); exact (Kd.R_mono (Kd.R_far (p := ⟨gb268, 1, none⟩) (Kd.R_far (p := ⟨gb268, 0, none⟩) (Kd.R_types HO266.out BK268.out (by decide)) (fun _ hk => hk.2) (.slice Ao12 t264.length co12)) (fun _ hk => hk.2) (.int .i64 t267)) (fun _ h_ => h_.1))) hb); have n2_ := Aside0.mk (blk_below (g := gb263) (o := .cells #[.slice Ao8 t257.length co8, .int .i64 t260] 37 (0, 0)) (by (with_reducible repeat (first | refine zE ?_ _ | refine zF ?_ | refine zD ?_ _)); refine blk_far ?_ NB263_268.out _; (with_reducible repeat (first | refine zE ?_ _ | refine zF ?_ | refine zD ?_ _)); refine blk_far ?_ NB263_268.out _; (with_reducible repeat (first | refine zE ?_ _ | refine zF ?_ | refine zD ?_ _)); exact BK263.out) hb); have n3_ := Aside0.mk (blk_below (g := gb268) (o := .cells #[.slice Ao12 t264.length co12, .int .i64 t267] 37 (0, 0)) (by (with_reducible repeat (first | refine zE ?_ _ | refine zF ?_ | refine zD ?_ _)); refine blk_put (cs := #[.slice Ao12 t264.length co12, .int .i64 0]) ?_ 1 _ rfl; (with_reducible repeat (first | refine zE ?_ _ | refine zF ?_ | refine zD ?_ _)); refine blk_put (cs := #[.slice none 0 0, .int .i64 0]) ?_ 0 _ rfl; (with_reducible repeat (first | refine zE ?_ _ | refine zF ?_ | refine zD ?_ _)); exact BK268.out) hb); have n4_ := Aside0.mk (below_step (by repeat (first | (with_reducible first | exact HB.out | apply zA | apply zB | apply zC | refine below_set ?_ GE263.out | refine below_set ?_ GE268.out) | exact HB.out)) hb); clear HO259; clear HO266; clear BK263; clear BK268; clear HB; have HO259 := n0_; have HO266 := n1_; have BK263 := n2_; have BK268 := n3_; have HB := n4_; clear n0_ n1_ n2_ n3_ n4_; (try clear hb); (try clear hb2); (try clear hk); (try clear hi)))
     go_meet
     case rel => exact ⟨_, (true), (by first | rfl | (simp; done) | (simp [*]; done)), H', ⟨by first | omega | exact Nat.le_refl _⟩, ⟨by (with_reducible repeat (first | apply zG | apply zH | apply zI)); exact Kd.R_mono HO259.out (fun _ hk => hk.2)⟩, ⟨by (with_reducible repeat (first | apply zG | apply zH | apply zI)); exact Kd.R_mono HO266.out (fun _ hk => hk.2)⟩, ⟨by (with_reducible repeat (first | refine zE ?_ _ | refine zF ?_ | refine zD ?_ _)); exact BK263.out⟩, ⟨by (with_reducible repeat (first | refine zE ?_ _ | refine zF ?_ | refine zD ?_ _)); exact BK268.out⟩, ⟨by repeat (first | (with_reducible first | exact HB.out | apply zA | apply zB | apply zC | refine below_set ?_ GE263.out | refine below_set ?_ GE268.out) | exact HB.out)⟩⟩
    ·rw [if_neg c17] at H
     have c17b0 : decide (t262 < 0) = false := decide_eq_false c17
     clear c17
     (first | rw [c17b0] | (simp only [i64_w, i32_w]; rw [c17b0]) | skip)
     by_cases c21 : t262 > 64
     ·rw [if_pos c21] at H
      have c21b0 : decide (64 < t262) = true := decide_eq_true c21
      clear c21
      have H' := Aside0.mk H
      clear H
      have hnb22 := NB263_268.out
      have hnc22 := NB268_263.out
      have hcz23_0 : w11.cell? ⟨gb263, 0, none⟩ = some (.slice Ao8 t257.length co8) := (zQ BK263.out 0).trans rfl
      have hcz23_1 : w11.cell? ⟨gb263, 1, none⟩ = some (.int .i64 t260) := (zQ BK263.out 1).trans rfl
      have hfz23_0 := blk_frozen BK263.out 0
      have hfz23_1 := blk_frozen BK263.out 1
      go_wp2_with (first | ((with_reducible refine gate_callee (f := 19) rfl ?_); refine goesL_ (some 29) rfl rfl Try.func19 (by kernel_rfl) rfl #[.agg #[.slice Ao8 t257.length co8, .int .i64 t260]] rfl (by (try simp only [List.map_toArray, List.map_cons, List.map_nil]); first | done | rfl | (simp only [List.length_drop, List.length_take]; rfl)) ?_; (with_reducible refine (spec_GoodBits.calls k _ _ t257 t260 true _ ?side1 ?side2 A15.out).mono ?_); (case side1 => refine (Kd.R_reads' (e := 5) (base := w.heap.size) (ok := fun k_ => (True ∧ some k_ ≠ (.slice Ao12 t264.length co12 : Value).ownBlock)) (n := t257.length) (c := co8) ?_).2.2; exact (by (with_reducible repeat (first | apply zG | apply zH | apply zI)); exact (Kd.R_mono (Kd.R_far (p := ⟨gb268, 1, none⟩) (Kd.R_far (p := ⟨gb268, 0, none⟩) (Kd.R_types HO259.out BK268.out (by decide)) (fun _ hk => hk.2) (.slice Ao12 t264.length co12)) (fun _ hk => hk.2) (.int .i64 t267)) (fun _ h_ => h_.1)))); (case side2 => exact (Kd.R_reads' HO259.out).2.1); rintro e w24 ⟨rfl, hb⟩; refine ⟨_, rfl, ?_⟩; have n0_ := Aside0.mk (Kd.R_below (by (with_reducible repeat (first | apply zG | apply zH | apply zI)); exact (Kd.R_mono (Kd.R_far (p := ⟨gb268, 1, none⟩) (Kd.R_far (p := ⟨gb268, 0, none⟩) (Kd.R_types HO259.out BK268.out (by decide)) (fun _ hk => hk.2) (.slice Ao12 t264.length co12)) (fun _ hk => hk.2) (.int .i64 t267)) (fun _ h_ => h_.1))) hb); have n1_ := Aside0.mk (Kd.R_below (by (with_reducible repeat (first | apply zG | apply zH | apply zI)); exact (Kd.R_mono (Kd.R_far (p := ⟨gb268, 1, none⟩) (Kd.R_far (p := ⟨gb268, 0, none⟩) (Kd.R_types HO266.out BK268.out (by decide)) (fun _ hk => hk.2) (.slice Ao12 t264.length co12)) (fun _ hk => hk.2) (.int .i64 t267)) (fun _ h_ => h_.1))) hb); have n2_ := Aside0.mk (blk_below (g := gb263) (o := .cells #[.slice Ao8 t257.length co8, .int .i64 t260] 37 (0, 0)) (by (with_reducible repeat (first | refine zE ?_ _ | refine zF ?_ | refine zD ?_ _)); refine blk_far ?_ NB263_268.out _; (with_reducible repeat (first | refine zE ?_ _ | refine zF ?_ | refine zD ?_ _)); refine blk_far ?_ NB263_268.out _; (with_reducible repeat (first | refine zE ?_ _ | refine zF ?_ | refine zD ?_ _)); exact BK263.out) hb); have n3_ := Aside0.mk (blk_below (g := gb268) (o := .cells #[.slice Ao12 t264.length co12, .int .i64 t267] 37 (0, 0)) (by (with_reducible repeat (first | refine zE ?_ _ | refine zF ?_ | refine zD ?_ _)); refine blk_put (cs := #[.slice Ao12 t264.length co12, .int .i64 0]) ?_ 1 _ rfl; (with_reducible repeat (first | refine zE ?_ _ | refine zF ?_ | refine zD ?_ _)); refine blk_put (cs := #[.slice none 0 0, .int .i64 0]) ?_ 0 _ rfl; (with_reducible repeat (first | refine zE ?_ _ | refine zF ?_ | refine zD ?_ _)); exact BK268.out) hb); have n4_ := Aside0.mk (below_step (by repeat (first | (with_reducible first | exact HB.out | apply zA | apply zB | apply zC | refine below_set ?_ GE263.out | refine below_set ?_ GE268.out) | exact HB.out)) hb); clear HO259; clear HO266; clear BK263; clear BK268; clear HB; have HO259 := n0_; have HO266 := n1_; have BK263 := n2_; have BK268 := n3_; have HB := n4_; clear n0_ n1_ n2_ n3_ n4_; (try clear hb); (try clear hb2); (try clear hk); (try clear hi)))
      go_meet
      case rel => exact ⟨_, (true), (by first | rfl | (simp; done) | (simp [*]; done)), H', ⟨by first | omega | exact Nat.le_refl _⟩, ⟨by (with_reducible repeat (first | apply zG | apply zH | apply zI)); exact Kd.R_mono HO259.out (fun _ hk => hk.2)⟩, ⟨by (with_reducible repeat (first | apply zG | apply zH | apply zI)); exact Kd.R_mono HO266.out (fun _ hk => hk.2)⟩, ⟨by (with_reducible repeat (first | refine zE ?_ _ | refine zF ?_ | refine zD ?_ _)); exact BK263.out⟩, ⟨by (with_reducible repeat (first | refine zE ?_ _ | refine zF ?_ | refine zD ?_ _)); exact BK268.out⟩, ⟨by repeat (first | (with_reducible first | exact HB.out | apply zA | apply zB | apply zC | refine below_set ?_ GE263.out | refine below_set ?_ GE268.out) | exact HB.out)⟩⟩
     ·rw [if_neg c21] at H
      have c21b0 : decide (64 < t262) = false := decide_eq_false c21
      clear c21
      have H' := Aside0.mk H
      clear H
      have hnb25 := NB263_268.out
      have hnc25 := NB268_263.out
      have hcz26_0 : w11.cell? ⟨gb263, 0, none⟩ = some (.slice Ao8 t257.length co8) := (zQ BK263.out 0).trans rfl
      have hcz26_1 : w11.cell? ⟨gb263, 1, none⟩ = some (.int .i64 t260) := (zQ BK263.out 1).trans rfl
      have hfz26_0 := blk_frozen BK263.out 0
      have hfz26_1 := blk_frozen BK263.out 1
      go_wp2_with (first | ((with_reducible refine gate_callee (f := 19) rfl ?_); refine goesL_ (some 29) rfl rfl Try.func19 (by kernel_rfl) rfl #[.agg #[.slice Ao8 t257.length co8, .int .i64 t260]] rfl (by (try simp only [List.map_toArray, List.map_cons, List.map_nil]); first | done | rfl | (simp only [List.length_drop, List.length_take]; rfl)) ?_; (with_reducible refine (spec_GoodBits.calls k _ _ t257 t260 true _ ?side1 ?side2 A15.out).mono ?_); (case side1 => refine (Kd.R_reads' (e := 5) (base := w.heap.size) (ok := fun k_ => (True ∧ some k_ ≠ (.slice Ao12 t264.length co12 : Value).ownBlock)) (n := t257.length) (c := co8) ?_).2.2; exact (by (with_reducible repeat (first | apply zG | apply zH | apply zI)); exact (Kd.R_mono (Kd.R_far (p := ⟨gb268, 1, none⟩) (Kd.R_far (p := ⟨gb268, 0, none⟩) (Kd.R_types HO259.out BK268.out (by decide)) (fun _ hk => hk.2) (.slice Ao12 t264.length co12)) (fun _ hk => hk.2) (.int .i64 t267)) (fun _ h_ => h_.1)))); (case side2 => exact (Kd.R_reads' HO259.out).2.1); rintro e w27 ⟨rfl, hb⟩; refine ⟨_, rfl, ?_⟩; have n0_ := Aside0.mk (Kd.R_below (by (with_reducible repeat (first | apply zG | apply zH | apply zI)); exact (Kd.R_mono (Kd.R_far (p := ⟨gb268, 1, none⟩) (Kd.R_far (p := ⟨gb268, 0, none⟩) (Kd.R_types HO259.out BK268.out (by decide)) (fun _ hk => hk.2) (.slice Ao12 t264.length co12)) (fun _ hk => hk.2) (.int .i64 t267)) (fun _ h_ => h_.1))) hb); have n1_ := Aside0.mk (Kd.R_below (by (with_reducible repeat (first | apply zG | apply zH | apply zI)); exact (Kd.R_mono (Kd.R_far (p := ⟨gb268, 1, none⟩) (Kd.R_far (p := ⟨gb268, 0, none⟩) (Kd.R_types HO266.out BK268.out (by decide)) (fun _ hk => hk.2) (.slice Ao12 t264.length co12)) (fun _ hk => hk.2) (.int .i64 t267)) (fun _ h_ => h_.1))) hb); have n2_ := Aside0.mk (blk_below (g := gb263) (o := .cells #[.slice Ao8 t257.length co8, .int .i64 t260] 37 (0, 0)) (by (with_reducible repeat (first | refine zE ?_ _ | refine zF ?_ | refine zD ?_ _)); refine blk_far ?_ NB263_268.out _; (with_reducible repeat (first | refine zE ?_ _ | refine zF ?_ | refine zD ?_ _)); refine blk_far ?_ NB263_268.out _; (with_reducible repeat (first | refine zE ?_ _ | refine zF ?_ | refine zD ?_ _)); exact BK263.out) hb); have n3_ := Aside0.mk (blk_below (g := gb268) (o := .cells #[.slice Ao12 t264.length co12, .int .i64 t267] 37 (0, 0)) (by (with_reducible repeat (first | refine zE ?_ _ | refine zF ?_ | refine zD ?_ _)); refine blk_put (cs := #[.slice Ao12 t264.length co12, .int .i64 0]) ?_ 1 _ rfl; (with_reducible repeat (first | refine zE ?_ _ | refine zF ?_ | refine zD ?_ _)); refine blk_put (cs := #[.slice none 0 0, .int .i64 0]) ?_ 0 _ rfl; (with_reducible repeat (first | refine zE ?_ _ | refine zF ?_ | refine zD ?_ _)); exact BK268.out) hb); have n4_ := Aside0.mk (below_step (by repeat (first | (with_reducible first | exact HB.out | apply zA | apply zB | apply zC | refine below_set ?_ GE263.out | refine below_set ?_ GE268.out) | exact HB.out)) hb); clear HO259; clear HO266; clear BK263; clear BK268; clear HB; have HO259 := n0_; have HO266 := n1_; have BK263 := n2_; have BK268 := n3_; have HB := n4_; clear n0_ n1_ n2_ n3_ n4_; (try clear hb); (try clear hb2); (try clear hk); (try clear hi); have hcz28_0 : w27.cell? ⟨gb263, 0, none⟩ = some (.slice Ao8 t257.length co8) := (zQ BK263.out 0).trans rfl; have hcz28_1 : w27.cell? ⟨gb263, 1, none⟩ = some (.int .i64 t260) := (zQ BK263.out 1).trans rfl; have hfz28_0 := blk_frozen BK263.out 0; have hfz28_1 := blk_frozen BK263.out 1))
      go_meet
      case rel => exact ⟨_, (decide ((wrap64 (t260 + t262)) > 80000)), (by first | rfl | (simp; done) | (simp [*]; done)), H', ⟨by first | omega | exact Nat.le_refl _⟩, ⟨by (with_reducible repeat (first | apply zG | apply zH | apply zI)); exact Kd.R_mono HO259.out (fun _ hk => hk.2)⟩, ⟨by (with_reducible repeat (first | apply zG | apply zH | apply zI)); exact Kd.R_mono HO266.out (fun _ hk => hk.2)⟩, ⟨by (with_reducible repeat (first | refine zE ?_ _ | refine zF ?_ | refine zD ?_ _)); exact BK263.out⟩, ⟨by (with_reducible repeat (first | refine zE ?_ _ | refine zF ?_ | refine zD ?_ _)); exact BK268.out⟩, ⟨by repeat (first | (with_reducible first | exact HB.out | apply zA | apply zB | apply zC | refine below_set ?_ GE263.out | refine below_set ?_ GE268.out) | exact HB.out)⟩⟩
   ·replace c16 := Bool.eq_false_iff.mpr c16
    subst c16
    have H1 : (laws_FnBits.j0 k t261 t262 true t257 t260 t264 t267) = some r := by rw [if_neg (show ¬ (false = true) by decide)] at H; exact H
    clear H
    have H := H1
    clear H1
    have H' := Aside0.mk H
    clear H
    have hnb29 := NB263_268.out
    have hnc29 := NB268_263.out
    have hcz30_0 : w11.cell? ⟨gb263, 0, none⟩ = some (.slice Ao8 t257.length co8) := (zQ BK263.out 0).trans rfl
    have hcz30_1 : w11.cell? ⟨gb263, 1, none⟩ = some (.int .i64 t260) := (zQ BK263.out 1).trans rfl
    have hfz30_0 := blk_frozen BK263.out 0
    have hfz30_1 := blk_frozen BK263.out 1
    go_wp2_with (first | ((with_reducible refine gate_callee (f := 19) rfl ?_); refine goesL_ (some 29) rfl rfl Try.func19 (by kernel_rfl) rfl #[.agg #[.slice Ao8 t257.length co8, .int .i64 t260]] rfl (by (try simp only [List.map_toArray, List.map_cons, List.map_nil]); first | done | rfl | (simp only [List.length_drop, List.length_take]; rfl)) ?_; (with_reducible refine (spec_GoodBits.calls k _ _ t257 t260 false _ ?side1 ?side2 A15.out).mono ?_); (case side1 => refine (Kd.R_reads' (e := 5) (base := w.heap.size) (ok := fun k_ => (True ∧ some k_ ≠ (.slice Ao12 t264.length co12 : Value).ownBlock)) (n := t257.length) (c := co8) ?_).2.2; exact (by (with_reducible repeat (first | apply zG | apply zH | apply zI)); exact (Kd.R_mono (Kd.R_far (p := ⟨gb268, 1, none⟩) (Kd.R_far (p := ⟨gb268, 0, none⟩) (Kd.R_types HO259.out BK268.out (by decide)) (fun _ hk => hk.2) (.slice Ao12 t264.length co12)) (fun _ hk => hk.2) (.int .i64 t267)) (fun _ h_ => h_.1)))); (case side2 => exact (Kd.R_reads' HO259.out).2.1); rintro e w31 ⟨rfl, hb⟩; refine ⟨_, rfl, ?_⟩; have n0_ := Aside0.mk (Kd.R_below (by (with_reducible repeat (first | apply zG | apply zH | apply zI)); exact (Kd.R_mono (Kd.R_far (p := ⟨gb268, 1, none⟩) (Kd.R_far (p := ⟨gb268, 0, none⟩) (Kd.R_types HO259.out BK268.out (by decide)) (fun _ hk => hk.2) (.slice Ao12 t264.length co12)) (fun _ hk => hk.2) (.int .i64 t267)) (fun _ h_ => h_.1))) hb); have n1_ := Aside0.mk (Kd.R_below (by (with_reducible repeat (first | apply zG | apply zH | apply zI)); exact (Kd.R_mono (Kd.R_far (p := ⟨gb268, 1, none⟩) (Kd.R_far (p := ⟨gb268, 0, none⟩) (Kd.R_types HO266.out BK268.out (by decide)) (fun _ hk => hk.2) (.slice Ao12 t264.length co12)) (fun _ hk => hk.2) (.int .i64 t267)) (fun _ h_ => h_.1))) hb); have n2_ := Aside0.mk (blk_below (g := gb263) (o := .cells #[.slice Ao8 t257.length co8, .int .i64 t260] 37 (0, 0)) (by (with_reducible repeat (first | refine zE ?_ _ | refine zF ?_ | refine zD ?_ _)); refine blk_far ?_ NB263_268.out _; (with_reducible repeat (first | refine zE ?_ _ | refine zF ?_ | refine zD ?_ _)); refine blk_far ?_ NB263_268.out _; (with_reducible repeat (first | refine zE ?_ _ | refine zF ?_ | refine zD ?_ _)); exact BK263.out) hb); have n3_ := Aside0.mk (blk_below (g := gb268) (o := .cells #[.slice Ao12 t264.length co12, .int .i64 t267] 37 (0, 0)) (by (with_reducible repeat (first | refine zE ?_ _ | refine zF ?_ | refine zD ?_ _)); refine blk_put (cs := #[.slice Ao12 t264.length co12, .int .i64 0]) ?_ 1 _ rfl; (with_reducible repeat (first | refine zE ?_ _ | refine zF ?_ | refine zD ?_ _)); refine blk_put (cs := #[.slice none 0 0, .int .i64 0]) ?_ 0 _ rfl; (with_reducible repeat (first | refine zE ?_ _ | refine zF ?_ | refine zD ?_ _)); exact BK268.out) hb); have n4_ := Aside0.mk (below_step (by repeat (first | (with_reducible first | exact HB.out | apply zA | apply zB | apply zC | refine below_set ?_ GE263.out | refine below_set ?_ GE268.out) | exact HB.out)) hb); clear HO259; clear HO266; clear BK263; clear BK268; clear HB; have HO259 := n0_; have HO266 := n1_; have BK263 := n2_; have BK268 := n3_; have HB := n4_; clear n0_ n1_ n2_ n3_ n4_; (try clear hb); (try clear hb2); (try clear hk); (try clear hi)))
    go_meet
    case rel => exact ⟨_, (true), (by first | rfl | (simp; done) | (simp [*]; done)), H', ⟨by first | omega | exact Nat.le_refl _⟩, ⟨by (with_reducible repeat (first | apply zG | apply zH | apply zI)); exact Kd.R_mono HO259.out (fun _ hk => hk.2)⟩, ⟨by (with_reducible repeat (first | apply zG | apply zH | apply zI)); exact Kd.R_mono HO266.out (fun _ hk => hk.2)⟩, ⟨by (with_reducible repeat (first | refine zE ?_ _ | refine zF ?_ | refine zD ?_ _)); exact BK263.out⟩, ⟨by (with_reducible repeat (first | refine zE ?_ _ | refine zF ?_ | refine zD ?_ _)); exact BK268.out⟩, ⟨by repeat (first | (with_reducible first | exact HB.out | apply zA | apply zB | apply zC | refine below_set ?_ GE263.out | refine below_set ?_ GE268.out) | exact HB.out)⟩⟩
  case rest =>
   clear HC5
   try clear c1
   try clear c2
   try clear c2b0
   try clear c2b1
   try clear p2
   try clear c5
   try clear p6
   try clear c13
   try clear c16
   try clear c17
   try clear c17b0
   try clear c18
   try clear c19
   try clear c21
   try clear c21b0
   try clear c22
   try clear c25
   try clear c29
   try clear hcz14_0
   try clear hcz14_1
   try clear hcz19_0
   try clear hcz19_1
   try clear hcz23_0
   try clear hcz23_1
   try clear hcz26_0
   try clear hcz26_1
   try clear hcz28_0
   try clear hcz28_1
   try clear hcz30_0
   try clear hcz30_1
   try clear hcz9_0
   try clear hcz9_1
   try clear hfz14_0
   try clear hfz14_1
   try clear hfz19_0
   try clear hfz19_1
   try clear hfz23_0
   try clear hfz23_1
   try clear hfz26_0
   try clear hfz26_1
   try clear hfz28_0
   try clear hfz28_1
   try clear hfz30_0
   try clear hfz30_1
   try clear hfz9_0
   try clear hfz9_1
   obtain ⟨kq, x45_4, rfl, HA, HJ4, HO_264000, HO_269000, BK263, BK268, HB⟩ := hcut
   cases kq with
   | zero => exact absurd HA.out (by simp [laws_FnBits.j0])
   | succ kj4 =>
    have H := HA.out
    clear HA
    simp only [laws_FnBits.j0] at H
    by_cases c32 : x45_4 = true
    ·subst c32
     have H1 : (if t267 = 0 then (some ((t264.length : Int) == 0)) else (some false)) = some r := by rw [if_pos rfl] at H; exact H
     clear H
     have H := H1
     clear H1
     by_cases c33 : t267 = 0
     ·rw [if_pos c33] at H
      have c33b0 : (t267 == 0) = true := beq_iff_eq.mpr c33
      have c33b1 : (t267 != 0) = false := bne_eq_false_iff_eq.mpr c33
      clear c33
      obtain rfl := Option.some.inj H
      have hnb34 := NB268_263.out
      have hnc34 := NB263_268.out
      have hcz35_0 : wc.cell? ⟨gb268, 0, none⟩ = some (.slice Ao12 t264.length co12) := (zQ BK268.out 0).trans rfl
      have hcz35_1 : wc.cell? ⟨gb268, 1, none⟩ = some (.int .i64 t267) := (zQ BK268.out 1).trans rfl
      have hfz35_0 := blk_frozen BK268.out 0
      have hfz35_1 := blk_frozen BK268.out 1
      go_wp2
      go_ret
      exact ⟨by first | rfl | (simp [errW_none, errW_some] <;> rfl) | (simp [*, errW_none, errW_some] <;> rfl), by repeat (first | (with_reducible first | exact HB.out | apply zA | apply zB | apply zC | refine below_set ?_ GE263.out | refine below_set ?_ GE268.out) | exact HB.out)⟩
     ·rw [if_neg c33] at H
      have c33b0 : (t267 == 0) = false := beq_eq_false_iff_ne.mpr c33
      have c33b1 : (t267 != 0) = true := bne_iff_ne.mpr c33
      obtain rfl := Option.some.inj H
      have hnb36 := NB268_263.out
      have hnc36 := NB263_268.out
      have hcz37_0 : wc.cell? ⟨gb268, 0, none⟩ = some (.slice Ao12 t264.length co12) := (zQ BK268.out 0).trans rfl
      have hcz37_1 : wc.cell? ⟨gb268, 1, none⟩ = some (.int .i64 t267) := (zQ BK268.out 1).trans rfl
      have hfz37_0 := blk_frozen BK268.out 0
      have hfz37_1 := blk_frozen BK268.out 1
      go_wp2
      go_ret
      exact ⟨by first | rfl | (simp [errW_none, errW_some] <;> rfl) | (simp [*, errW_none, errW_some] <;> rfl), by repeat (first | (with_reducible first | exact HB.out | apply zA | apply zB | apply zC | refine below_set ?_ GE263.out | refine below_set ?_ GE268.out) | exact HB.out)⟩
    ·replace c32 := Bool.eq_false_iff.mpr c32
     subst c32
     have H1 : ((impl_TakeBits.f kj4 t264 t267 t260 t262).bind fun bt270 => (if t262 < 64 then (if 0 ≤ (IntKind.u64.wrap (t262)) then (laws_FnBits.j1 kj4 t262 bt270.1 bt270.2 (Go.bits .and .i64 t261 (wrap64 ((shl .i64 1 (IntKind.u64.wrap (t262))) - 1))) t257 t260 t264 t267) else (none)) else (laws_FnBits.j1 kj4 t262 bt270.1 bt270.2 t261 t257 t260 t264 t267))) = some r := by rw [if_neg (show ¬ (false = true) by decide)] at H; exact H
     clear H
     have H := H1
     clear H1
     replace H := Option.bind_eq_some_iff.mp H
     obtain ⟨⟨t270, t271⟩, A380, H⟩ := H
     replace H : (if t262 < 64 then (if 0 ≤ (IntKind.u64.wrap (t262)) then (laws_FnBits.j1 kj4 t262 t270 t271 (Go.bits .and .i64 t261 (wrap64 ((shl .i64 1 (IntKind.u64.wrap (t262))) - 1))) t257 t260 t264 t267) else (none)) else (laws_FnBits.j1 kj4 t262 t270 t271 t261 t257 t260 t264 t267)) = some r := H
     have A38 := Aside0.mk A380
     clear A380
     have HC39 := Aside0.mk H
     clear H
     have hnb40 := NB268_263.out
     have hnc40 := NB263_268.out
     have hcz41_0 : wc.cell? ⟨gb268, 0, none⟩ = some (.slice Ao12 t264.length co12) := (zQ BK268.out 0).trans rfl
     have hcz41_1 : wc.cell? ⟨gb268, 1, none⟩ = some (.int .i64 t267) := (zQ BK268.out 1).trans rfl
     have hfz41_0 := blk_frozen BK268.out 0
     have hfz41_1 := blk_frozen BK268.out 1
     have hcz42_0 : wc.cell? ⟨gb263, 0, none⟩ = some (.slice Ao8 t257.length co8) := (zQ BK263.out 0).trans rfl
     have hcz42_1 : wc.cell? ⟨gb263, 1, none⟩ = some (.int .i64 t260) := (zQ BK263.out 1).trans rfl
     have hfz42_0 := blk_frozen BK263.out 0
     have hfz42_1 := blk_frozen BK263.out 1
     go_upto_if 65 with (first | ((with_reducible refine gate_callee (f := 20) rfl ?_); refine goesL_ (some 60) rfl rfl Try.func20 (by kernel_rfl) rfl #[.agg #[.slice Ao12 t264.length co12, .int .i64 t267], .int .i64 t260, .int .i64 t262] rfl (by (try simp only [List.map_toArray, List.map_cons, List.map_nil]); first | done | rfl | (simp only [List.length_drop, List.length_take]; rfl)) ?_; (with_reducible refine (impl_TakeBits.calls kj4 _ _ t264 t267 t260 t262 t270 t271 _ ?side1 ?side2 A38.out).mono ?_); (case side1 => repeat (first | exact (Kd.R_reads' HO_269000.out).2.2 | (with_reducible refine zJ ?_ _) | (with_reducible refine zK ?_ _) | (with_reducible refine zL ?_))); (case side2 => exact (Kd.R_reads' HO_269000.out).2.1); rintro e w43 ⟨rfl, hb⟩; refine ⟨_, rfl, ?_⟩; have n0_ := Aside0.mk (Kd.R_below (by (with_reducible repeat (first | apply zG | apply zH | apply zI)); exact HO_264000.out) hb); have n1_ := Aside0.mk (Kd.R_below (by (with_reducible repeat (first | apply zG | apply zH | apply zI)); exact HO_269000.out) hb); have n2_ := Aside0.mk (blk_below (g := gb263) (o := .cells #[.slice Ao8 t257.length co8, .int .i64 t260] 37 (0, 0)) (by (with_reducible repeat (first | refine zE ?_ _ | refine zF ?_ | refine zD ?_ _)); exact BK263.out) hb); have n3_ := Aside0.mk (blk_below (g := gb268) (o := .cells #[.slice Ao12 t264.length co12, .int .i64 t267] 37 (0, 0)) (by (with_reducible repeat (first | refine zE ?_ _ | refine zF ?_ | refine zD ?_ _)); exact BK268.out) hb); have n4_ := Aside0.mk (below_step (by repeat (first | (with_reducible first | exact HB.out | apply zA | apply zB | apply zC | refine below_set ?_ GE263.out | refine below_set ?_ GE268.out) | exact HB.out)) hb); clear HO_264000; clear HO_269000; clear BK263; clear BK268; clear HB; have HO_264000 := n0_; have HO_269000 := n1_; have BK263 := n2_; have BK268 := n3_; have HB := n4_; clear n0_ n1_ n2_ n3_ n4_; (try clear hb); (try clear hb2); (try clear hk); (try clear hi)))
     (try simp only [Act.put, zT, zU, zV])
     go_cut [9] (fun v9 wc => ∃ (kq : Nat) (x9_38 : Int), v9 = .int .i64 x9_38 ∧ Aside0 (laws_FnBits.j1 kq t262 t270 t271 x9_38 t257 t260 t264 t267 = some r) ∧ Aside0 (kq ≤ kj4) ∧ Aside0 (Kd.R (Kd.int .u8) 5 wc w.heap.size (fun k_ => some k_ ≠ ((.slice Ao12 t264.length co12) : Value).ownBlock) (.slice Ao8 t257.length co8) t257) ∧ Aside0 (Kd.R (Kd.int .u8) 5 wc w.heap.size (fun k_ => some k_ ≠ ((.slice Ao8 t257.length co8) : Value).ownBlock) (.slice Ao12 t264.length co12) t264) ∧ Aside0 (wc.heap[gb263]? = some (.cells #[(.slice Ao8 t257.length co8), .int .i64 t260] 37 (0, 0))) ∧ Aside0 (wc.heap[gb268]? = some (.cells #[(.slice Ao12 t264.length co12), .int .i64 t267] 37 (0, 0))) ∧ Aside0 (Below w.heap.size w wc))
     case first =>
      have H := HC39.out
      clear HC39
      by_cases c44 : t262 < 64
      ·rw [if_pos c44] at H
       have c44b0 : decide (t262 < 64) = true := decide_eq_true c44
       clear c44
       (first | rw [c44b0] | (simp only [i64_w, i32_w]; rw [c44b0]) | skip)
       obtain ⟨ji45, hji45⟩ : ∃ j_ : Int, (IntKind.u64.wrap (t262)) = j_ := ⟨_, rfl⟩
       replace H : (if 0 ≤ (ji45) then (laws_FnBits.j1 kj4 t262 t270 t271 (Go.bits .and .i64 t261 (wrap64 ((shl .i64 1 (ji45)) - 1))) t257 t260 t264 t267) else (none)) = some r := by first | (rw [hji45] at H; exact H) | (simp only [hji45] at H ⊢; exact H)
       by_cases c46 : 0 ≤ (ji45)
       ·rw [if_pos c46] at H
        have c46b0 := eq_true c46
        have c46b1 : decide (0 ≤ (ji45)) = true := decide_eq_true c46
        clear c46
        obtain ⟨ji47, hji47⟩ : ∃ j_ : Int, (shl .i64 1 (ji45)) = j_ := ⟨_, rfl⟩
        replace H : (laws_FnBits.j1 kj4 t262 t270 t271 (Go.bits .and .i64 t261 (wrap64 ((ji47) - 1))) t257 t260 t264 t267) = some r := by first | (rw [hji47] at H; exact H) | (simp only [hji47] at H ⊢; exact H)
        have hji47_ : (IntKind.i64.wrap (1 * 2 ^ min (ji45).toNat 64)) = ji47 := hji47
        have hji47z : (ji45) ≤ 64 → (IntKind.i64.wrap (1 * 2 ^ (ji45).toNat)) = ji47 := shl_small hji47
        have hji47u : (IntKind.i64.wrap (2 ^ min (ji45).toNat 64)) = ji47 := by have h_ := hji47_; rw [Int.one_mul] at h_; exact h_
        have hji47v : (ji45) ≤ 64 → (IntKind.i64.wrap (2 ^ (ji45).toNat)) = ji47 := fun hle_ => by have h_ := hji47z hle_; rw [Int.one_mul] at h_; exact h_
        have hji47y : (wrap64 (1 * 2 ^ min (ji45).toNat 64)) = ji47 := (i64_w _).symm.trans hji47_
        have hji47x : (ji45) ≤ 64 → (wrap64 (1 * 2 ^ (ji45).toNat)) = ji47 := fun h_ => (i64_w _).symm.trans (hji47z h_)
        have H' := Aside0.mk H
        clear H
        go_wp2
        go_meet
        case rel => exact ⟨_, (Go.bits .and .i64 t261 (wrap64 ((ji47) - 1))), (by first | rfl | (simp; done) | (simp only [← hji47] <;> (first | rfl | simp)) | (simp [*]; done)), H', ⟨by have := HJ4.out; first | omega | exact Nat.le_refl _⟩, ⟨by (with_reducible repeat (first | apply zG | apply zH | apply zI)); exact HO_264000.out⟩, ⟨by (with_reducible repeat (first | apply zG | apply zH | apply zI)); exact HO_269000.out⟩, ⟨by (with_reducible repeat (first | refine zE ?_ _ | refine zF ?_ | refine zD ?_ _)); exact BK263.out⟩, ⟨by (with_reducible repeat (first | refine zE ?_ _ | refine zF ?_ | refine zD ?_ _)); exact BK268.out⟩, ⟨by repeat (first | (with_reducible first | exact HB.out | apply zA | apply zB | apply zC | refine below_set ?_ GE263.out | refine below_set ?_ GE268.out) | exact HB.out)⟩⟩
       ·rw [if_neg c46] at H
        exact absurd H (by simp)
      ·rw [if_neg c44] at H
       have c44b0 : decide (t262 < 64) = false := decide_eq_false c44
       clear c44
       (first | rw [c44b0] | (simp only [i64_w, i32_w]; rw [c44b0]) | skip)
       have H' := Aside0.mk H
       clear H
       go_wp2
       go_meet
       case rel => exact ⟨_, (t261), (by first | rfl | (simp; done) | (simp [*]; done)), H', ⟨by have := HJ4.out; first | omega | exact Nat.le_refl _⟩, ⟨by (with_reducible repeat (first | apply zG | apply zH | apply zI)); exact HO_264000.out⟩, ⟨by (with_reducible repeat (first | apply zG | apply zH | apply zI)); exact HO_269000.out⟩, ⟨by (with_reducible repeat (first | refine zE ?_ _ | refine zF ?_ | refine zD ?_ _)); exact BK263.out⟩, ⟨by (with_reducible repeat (first | refine zE ?_ _ | refine zF ?_ | refine zD ?_ _)); exact BK268.out⟩, ⟨by repeat (first | (with_reducible first | exact HB.out | apply zA | apply zB | apply zC | refine below_set ?_ GE263.out | refine below_set ?_ GE268.out) | exact HB.out)⟩⟩
     case rest =>
      clear HC39
      try clear c1
      try clear c2
      try clear c2b0
      try clear c2b1
      try clear p2
      try clear c3
      try clear c4
      try clear c5
      try clear p6
      try clear c13
      try clear c16
      try clear c17
      try clear c17b0
      try clear c18
      try clear c19
      try clear c20
      try clear c21
      try clear c21b0
      try clear c22
      try clear c25
      try clear c29
      try clear c32
      try clear c33
      try clear c33b0
      try clear c33b1
      try clear c34
      try clear c36
      try clear c40
      try clear c44
      try clear c44b0
      try clear c46
      try clear c46b0
      try clear c46b1
      try clear hcz14_0
      try clear hcz14_1
      try clear hcz19_0
      try clear hcz19_1
      try clear hcz23_0
      try clear hcz23_1
      try clear hcz26_0
      try clear hcz26_1
      try clear hcz28_0
      try clear hcz28_1
      try clear hcz30_0
      try clear hcz30_1
      try clear hcz35_0
      try clear hcz35_1
      try clear hcz37_0
      try clear hcz37_1
      try clear hcz41_0
      try clear hcz41_1
      try clear hcz42_0
      try clear hcz42_1
      try clear hcz9_0
      try clear hcz9_1
      try clear hfz14_0
      try clear hfz14_1
      try clear hfz19_0
      try clear hfz19_1
      try clear hfz23_0
      try clear hfz23_1
      try clear hfz26_0
      try clear hfz26_1
      try clear hfz28_0
      try clear hfz28_1
      try clear hfz30_0
      try clear hfz30_1
      try clear hfz35_0
      try clear hfz35_1
      try clear hfz37_0
      try clear hfz37_1
      try clear hfz41_0
      try clear hfz41_1
      try clear hfz42_0
      try clear hfz42_1
      try clear hfz9_0
      try clear hfz9_1
      try clear p2
      try clear p6
      obtain ⟨kq, x9_38, rfl, HA, HJ38, HO_264000, HO_269000, BK263, BK268, HB⟩ := hcut
      cases kq with
      | zero => exact absurd HA.out (by simp [laws_FnBits.j1])
      | succ kj38 =>
       have H := HA.out
       clear HA
       simp only [laws_FnBits.j1] at H
       have HC48 := Aside0.mk H
       clear H
       go_upto_region 11 with (fail)
       go_cut [92] (fun v92 wc => ∃ (kq : Nat) (x92_47 : Bool), v92 = .bool x92_47 ∧ Aside0 (laws_FnBits.j2 kq x92_47 t257 t260 t264 t267 = some r) ∧ Aside0 (kq ≤ kj38) ∧ Aside0 (Kd.R (Kd.int .u8) 5 wc w.heap.size (fun k_ => some k_ ≠ ((.slice Ao12 t264.length co12) : Value).ownBlock) (.slice Ao8 t257.length co8) t257) ∧ Aside0 (Kd.R (Kd.int .u8) 5 wc w.heap.size (fun k_ => some k_ ≠ ((.slice Ao8 t257.length co8) : Value).ownBlock) (.slice Ao12 t264.length co12) t264) ∧ Aside0 (wc.heap[gb263]? = some (.cells #[(.slice Ao8 t257.length co8), .int .i64 t260] 37 (0, 0))) ∧ Aside0 (wc.heap[gb268]? = some (.cells #[(.slice Ao12 t264.length co12), .int .i64 t267] 37 (0, 0))) ∧ Aside0 (Below w.heap.size w wc))
       case first =>
        have H := HC48.out
        clear HC48
        by_cases c49 : t271 = true
        ·subst c49
         have H1 : (if t270 = x9_38 then (if t267 = (wrap64 (t260 + t262)) then ((impl_GoodBits.f kj38 t264 t267).bind fun t272 => (laws_FnBits.j2 kj38 (!t272) t257 t260 t264 t267)) else (laws_FnBits.j2 kj38 true t257 t260 t264 t267)) else (laws_FnBits.j2 kj38 true t257 t260 t264 t267)) = some r := by rw [if_pos rfl] at H; exact H
         clear H
         have H := H1
         clear H1
         by_cases c50 : t270 = x9_38
         ·rw [if_pos c50] at H
          have c50b0 : (t270 == x9_38) = true := beq_iff_eq.mpr c50
          have c50b1 : (t270 != x9_38) = false := bne_eq_false_iff_eq.mpr c50
          clear c50
          (first | rw [c50b0] | (simp only [i64_w, i32_w]; rw [c50b0]) | skip)
          by_cases c51 : t267 = (wrap64 (t260 + t262))
          ·rw [if_pos c51] at H
           have c51b0 : (t267 == (wrap64 (t260 + t262))) = true := beq_iff_eq.mpr c51
           have c51b1 : (t267 != (wrap64 (t260 + t262))) = false := bne_eq_false_iff_eq.mpr c51
           clear c51
           replace H := Option.bind_eq_some_iff.mp H
           obtain ⟨t272, A520, H⟩ := H
           replace H : (laws_FnBits.j2 kj38 (!t272) t257 t260 t264 t267) = some r := H
           have A52 := Aside0.mk A520
           clear A520
           have H' := Aside0.mk H
           clear H
           have hnb53 := NB268_263.out
           have hnc53 := NB263_268.out
           have hcz54_0 : wc.cell? ⟨gb268, 0, none⟩ = some (.slice Ao12 t264.length co12) := (zQ BK268.out 0).trans rfl
           have hcz54_1 : wc.cell? ⟨gb268, 1, none⟩ = some (.int .i64 t267) := (zQ BK268.out 1).trans rfl
           have hfz54_0 := blk_frozen BK268.out 0
           have hfz54_1 := blk_frozen BK268.out 1
           have hcz55_0 : wc.cell? ⟨gb263, 0, none⟩ = some (.slice Ao8 t257.length co8) := (zQ BK263.out 0).trans rfl
           have hcz55_1 : wc.cell? ⟨gb263, 1, none⟩ = some (.int .i64 t260) := (zQ BK263.out 1).trans rfl
           have hfz55_0 := blk_frozen BK263.out 0
           have hfz55_1 := blk_frozen BK263.out 1
           go_wp2_with (first | (go_at_call 21; (with_reducible refine (impl_GoodBits.calls kj38 _ _ t264 t267 t272 _ ?side1 ?side2 A52.out).mono ?_); (case side1 => repeat (first | exact (Kd.R_reads' HO_269000.out).2.2 | (with_reducible refine zJ ?_ _) | (with_reducible refine zK ?_ _) | (with_reducible refine zL ?_))); (case side2 => exact (Kd.R_reads' HO_269000.out).2.1); rintro e w56 ⟨rfl, hb⟩; have n0_ := Aside0.mk (Kd.R_below (by (with_reducible repeat (first | apply zG | apply zH | apply zI)); exact HO_264000.out) hb); have n1_ := Aside0.mk (Kd.R_below (by (with_reducible repeat (first | apply zG | apply zH | apply zI)); exact HO_269000.out) hb); have n2_ := Aside0.mk (blk_below (g := gb263) (o := .cells #[.slice Ao8 t257.length co8, .int .i64 t260] 37 (0, 0)) (by (with_reducible repeat (first | refine zE ?_ _ | refine zF ?_ | refine zD ?_ _)); exact BK263.out) hb); have n3_ := Aside0.mk (blk_below (g := gb268) (o := .cells #[.slice Ao12 t264.length co12, .int .i64 t267] 37 (0, 0)) (by (with_reducible repeat (first | refine zE ?_ _ | refine zF ?_ | refine zD ?_ _)); exact BK268.out) hb); have n4_ := Aside0.mk (below_step (by repeat (first | (with_reducible first | exact HB.out | apply zA | apply zB | apply zC | refine below_set ?_ GE263.out | refine below_set ?_ GE268.out) | exact HB.out)) hb); clear HO_264000; clear HO_269000; clear BK263; clear BK268; clear HB; have HO_264000 := n0_; have HO_269000 := n1_; have BK263 := n2_; have BK268 := n3_; have HB := n4_; clear n0_ n1_ n2_ n3_ n4_; (try clear hb); (try clear hb2); (try clear hk); (try clear hi)))
           go_meet
           case rel => exact ⟨_, (!t272), (by first | rfl | (simp; done) | (simp [*]; done)), H', ⟨by have := HJ4.out; have := HJ38.out; first | omega | exact Nat.le_refl _⟩, ⟨by (with_reducible repeat (first | apply zG | apply zH | apply zI)); exact HO_264000.out⟩, ⟨by (with_reducible repeat (first | apply zG | apply zH | apply zI)); exact HO_269000.out⟩, ⟨by (with_reducible repeat (first | refine zE ?_ _ | refine zF ?_ | refine zD ?_ _)); exact BK263.out⟩, ⟨by (with_reducible repeat (first | refine zE ?_ _ | refine zF ?_ | refine zD ?_ _)); exact BK268.out⟩, ⟨by repeat (first | (with_reducible first | exact HB.out | apply zA | apply zB | apply zC | refine below_set ?_ GE263.out | refine below_set ?_ GE268.out) | exact HB.out)⟩⟩
          ·rw [if_neg c51] at H
           have c51b0 : (t267 == (wrap64 (t260 + t262))) = false := beq_eq_false_iff_ne.mpr c51
           have c51b1 : (t267 != (wrap64 (t260 + t262))) = true := bne_iff_ne.mpr c51
           have H' := Aside0.mk H
           clear H
           have hnb57 := NB268_263.out
           have hnc57 := NB263_268.out
           have hcz58_0 : wc.cell? ⟨gb268, 0, none⟩ = some (.slice Ao12 t264.length co12) := (zQ BK268.out 0).trans rfl
           have hcz58_1 : wc.cell? ⟨gb268, 1, none⟩ = some (.int .i64 t267) := (zQ BK268.out 1).trans rfl
           have hfz58_0 := blk_frozen BK268.out 0
           have hfz58_1 := blk_frozen BK268.out 1
           have hcz59_0 : wc.cell? ⟨gb263, 0, none⟩ = some (.slice Ao8 t257.length co8) := (zQ BK263.out 0).trans rfl
           have hcz59_1 : wc.cell? ⟨gb263, 1, none⟩ = some (.int .i64 t260) := (zQ BK263.out 1).trans rfl
           have hfz59_0 := blk_frozen BK263.out 0
           have hfz59_1 := blk_frozen BK263.out 1
           go_wp2
           go_meet
           case rel => exact ⟨_, (true), (by first | rfl | (simp; done) | (simp [*]; done)), H', ⟨by have := HJ4.out; have := HJ38.out; first | omega | exact Nat.le_refl _⟩, ⟨by (with_reducible repeat (first | apply zG | apply zH | apply zI)); exact HO_264000.out⟩, ⟨by (with_reducible repeat (first | apply zG | apply zH | apply zI)); exact HO_269000.out⟩, ⟨by (with_reducible repeat (first | refine zE ?_ _ | refine zF ?_ | refine zD ?_ _)); exact BK263.out⟩, ⟨by (with_reducible repeat (first | refine zE ?_ _ | refine zF ?_ | refine zD ?_ _)); exact BK268.out⟩, ⟨by repeat (first | (with_reducible first | exact HB.out | apply zA | apply zB | apply zC | refine below_set ?_ GE263.out | refine below_set ?_ GE268.out) | exact HB.out)⟩⟩
         ·rw [if_neg c50] at H
          have c50b0 : (t270 == x9_38) = false := beq_eq_false_iff_ne.mpr c50
          have c50b1 : (t270 != x9_38) = true := bne_iff_ne.mpr c50
          (first | rw [c50b0] | (simp only [i64_w, i32_w]; rw [c50b0]) | skip)
          have H' := Aside0.mk H
          clear H
          go_wp2
          go_meet
          case rel => exact ⟨_, (true), (by first | rfl | (simp; done) | (simp [*]; done)), H', ⟨by have := HJ4.out; have := HJ38.out; first | omega | exact Nat.le_refl _⟩, ⟨by (with_reducible repeat (first | apply zG | apply zH | apply zI)); exact HO_264000.out⟩, ⟨by (with_reducible repeat (first | apply zG | apply zH | apply zI)); exact HO_269000.out⟩, ⟨by (with_reducible repeat (first | refine zE ?_ _ | refine zF ?_ | refine zD ?_ _)); exact BK263.out⟩, ⟨by (with_reducible repeat (first | refine zE ?_ _ | refine zF ?_ | refine zD ?_ _)); exact BK268.out⟩, ⟨by repeat (first | (with_reducible first | exact HB.out | apply zA | apply zB | apply zC | refine below_set ?_ GE263.out | refine below_set ?_ GE268.out) | exact HB.out)⟩⟩
        ·replace c49 := Bool.eq_false_iff.mpr c49
         subst c49
         have H1 : (laws_FnBits.j2 kj38 true t257 t260 t264 t267) = some r := by rw [if_neg (show ¬ (false = true) by decide)] at H; exact H
         clear H
         have H := H1
         clear H1
         have H' := Aside0.mk H
         clear H
         go_wp2
         go_meet
         case rel => exact ⟨_, (true), (by first | rfl | (simp; done) | (simp [*]; done)), H', ⟨by have := HJ4.out; have := HJ38.out; first | omega | exact Nat.le_refl _⟩, ⟨by (with_reducible repeat (first | apply zG | apply zH | apply zI)); exact HO_264000.out⟩, ⟨by (with_reducible repeat (first | apply zG | apply zH | apply zI)); exact HO_269000.out⟩, ⟨by (with_reducible repeat (first | refine zE ?_ _ | refine zF ?_ | refine zD ?_ _)); exact BK263.out⟩, ⟨by (with_reducible repeat (first | refine zE ?_ _ | refine zF ?_ | refine zD ?_ _)); exact BK268.out⟩, ⟨by repeat (first | (with_reducible first | exact HB.out | apply zA | apply zB | apply zC | refine below_set ?_ GE263.out | refine below_set ?_ GE268.out) | exact HB.out)⟩⟩
       case rest =>
        clear HC48
        try clear c1
        try clear c2
        try clear c2b0
        try clear c2b1
        try clear p2
        try clear c3
        try clear c4
        try clear c5
        try clear p6
        try clear c13
        try clear c16
        try clear c17
        try clear c17b0
        try clear c18
        try clear c19
        try clear c20
        try clear c21
        try clear c21b0
        try clear c22
        try clear c25
        try clear c29
        try clear c32
        try clear c33
        try clear c33b0
        try clear c33b1
        try clear c34
        try clear c36
        try clear c40
        try clear c44
        try clear c44b0
        try clear c46
        try clear c46b0
        try clear c46b1
        try clear c49
        try clear c50
        try clear c50b0
        try clear c50b1
        try clear c51
        try clear c51b0
        try clear c51b1
        try clear c53
        try clear c57
        try clear hcz14_0
        try clear hcz14_1
        try clear hcz19_0
        try clear hcz19_1
        try clear hcz23_0
        try clear hcz23_1
        try clear hcz26_0
        try clear hcz26_1
        try clear hcz28_0
        try clear hcz28_1
        try clear hcz30_0
        try clear hcz30_1
        try clear hcz35_0
        try clear hcz35_1
        try clear hcz37_0
        try clear hcz37_1
        try clear hcz41_0
        try clear hcz41_1
        try clear hcz42_0
        try clear hcz42_1
        try clear hcz54_0
        try clear hcz54_1
        try clear hcz55_0
        try clear hcz55_1
        try clear hcz58_0
        try clear hcz58_1
        try clear hcz59_0
        try clear hcz59_1
        try clear hcz9_0
        try clear hcz9_1
        try clear hfz14_0
        try clear hfz14_1
        try clear hfz19_0
        try clear hfz19_1
        try clear hfz23_0
        try clear hfz23_1
        try clear hfz26_0
        try clear hfz26_1
        try clear hfz28_0
        try clear hfz28_1
        try clear hfz30_0
        try clear hfz30_1
        try clear hfz35_0
        try clear hfz35_1
        try clear hfz37_0
        try clear hfz37_1
        try clear hfz41_0
        try clear hfz41_1
        try clear hfz42_0
        try clear hfz42_1
        try clear hfz54_0
        try clear hfz54_1
        try clear hfz55_0
        try clear hfz55_1
        try clear hfz58_0
        try clear hfz58_1
        try clear hfz59_0
        try clear hfz59_1
        try clear hfz9_0
        try clear hfz9_1
        try clear p2
        try clear p6
        obtain ⟨kq, x92_47, rfl, HA, HJ47, HO_264000, HO_269000, BK263, BK268, HB⟩ := hcut
        cases kq with
        | zero => exact absurd HA.out (by simp [laws_FnBits.j2])
        | succ kj47 =>
         have H := HA.out
         clear HA
         simp only [laws_FnBits.j2] at H
         by_cases c60 : x92_47 = true
         ·subst c60
          have H1 : (some false) = some r := by rw [if_pos rfl] at H; exact H
          clear H
          have H := H1
          clear H1
          obtain rfl := Option.some.inj H
          go_wp2
          go_ret
          exact ⟨by first | rfl | (simp [errW_none, errW_some] <;> rfl) | (simp [*, errW_none, errW_some] <;> rfl), by repeat (first | (with_reducible first | exact HB.out | apply zA | apply zB | apply zC | refine below_set ?_ GE263.out | refine below_set ?_ GE268.out) | exact HB.out)⟩
         ·replace c60 := Bool.eq_false_iff.mpr c60
          subst c60
          have H1 : (laws_FnBits.l0 kj47 0 t257 t260 t264 t267) = some r := by rw [if_neg (show ¬ (false = true) by decide)] at H; exact H
          clear H
          have H := H1
          clear H1
          have H' := Aside0.mk H
          clear H
          go_wp2
          go_loopg [10] kj47 (fun kq v10 w' => ∃ (x10_4 : Int), v10 = .int .i64 x10_4 ∧ Aside0 (laws_FnBits.l0 kq x10_4 t257 t260 t264 t267 = some r) ∧ Aside0 (kq ≤ kj47) ∧ Aside0 (Kd.R (Kd.int .u8) 5 w' w.heap.size (fun k_ => some k_ ≠ ((.slice Ao12 t264.length co12) : Value).ownBlock) (.slice Ao8 t257.length co8) t257) ∧ Aside0 (Kd.R (Kd.int .u8) 5 w' w.heap.size (fun k_ => some k_ ≠ ((.slice Ao8 t257.length co8) : Value).ownBlock) (.slice Ao12 t264.length co12) t264) ∧ Aside0 (w'.heap[gb263]? = some (.cells #[(.slice Ao8 t257.length co8), .int .i64 t260] 37 (0, 0))) ∧ Aside0 (w'.heap[gb268]? = some (.cells #[(.slice Ao12 t264.length co12), .int .i64 t267] 37 (0, 0))) ∧ Aside0 (Below w.heap.size w w'))
          case atStart => exact ⟨(0), (by first | rfl | (simp; done) | (simp [*]; done)), H', ⟨Nat.le_refl _⟩, ⟨by (with_reducible repeat (first | apply zG | apply zH | apply zI)); exact HO_264000.out⟩, ⟨by (with_reducible repeat (first | apply zG | apply zH | apply zI)); exact HO_269000.out⟩, ⟨by (with_reducible repeat (first | refine zE ?_ _ | refine zF ?_ | refine zD ?_ _)); exact BK263.out⟩, ⟨by (with_reducible repeat (first | refine zE ?_ _ | refine zF ?_ | refine zD ?_ _)); exact BK268.out⟩, ⟨by repeat (first | (with_reducible first | exact HB.out | apply zA | apply zB | apply zC | refine below_set ?_ GE263.out | refine below_set ?_ GE268.out) | exact HB.out)⟩⟩
          case round =>
           clear H'
           try clear c1
           try clear c2
           try clear c2b0
           try clear c2b1
           try clear p2
           try clear c3
           try clear c4
           try clear c5
           try clear c6
           try clear p6
           try clear c13
           try clear c16
           try clear c17
           try clear c17b0
           try clear c18
           try clear c19
           try clear c20
           try clear c21
           try clear c21b0
           try clear c22
           try clear c25
           try clear c29
           try clear c32
           try clear c33
           try clear c33b0
           try clear c33b1
           try clear c34
           try clear c36
           try clear c40
           try clear c44
           try clear c44b0
           try clear c46
           try clear c46b0
           try clear c46b1
           try clear c49
           try clear c50
           try clear c50b0
           try clear c50b1
           try clear c51
           try clear c51b0
           try clear c51b1
           try clear c53
           try clear c57
           try clear c60
           try clear hcz14_0
           try clear hcz14_1
           try clear hcz19_0
           try clear hcz19_1
           try clear hcz23_0
           try clear hcz23_1
           try clear hcz26_0
           try clear hcz26_1
           try clear hcz28_0
           try clear hcz28_1
           try clear hcz30_0
           try clear hcz30_1
           try clear hcz35_0
           try clear hcz35_1
           try clear hcz37_0
           try clear hcz37_1
           try clear hcz41_0
           try clear hcz41_1
           try clear hcz42_0
           try clear hcz42_1
           try clear hcz54_0
           try clear hcz54_1
           try clear hcz55_0
           try clear hcz55_1
           try clear hcz58_0
           try clear hcz58_1
           try clear hcz59_0
           try clear hcz59_1
           try clear hcz9_0
           try clear hcz9_1
           try clear hfz14_0
           try clear hfz14_1
           try clear hfz19_0
           try clear hfz19_1
           try clear hfz23_0
           try clear hfz23_1
           try clear hfz26_0
           try clear hfz26_1
           try clear hfz28_0
           try clear hfz28_1
           try clear hfz30_0
           try clear hfz30_1
           try clear hfz35_0
           try clear hfz35_1
           try clear hfz37_0
           try clear hfz37_1
           try clear hfz41_0
           try clear hfz41_1
           try clear hfz42_0
           try clear hfz42_1
           try clear hfz54_0
           try clear hfz54_1
           try clear hfz55_0
           try clear hfz55_1
           try clear hfz58_0
           try clear hfz58_1
           try clear hfz59_0
           try clear hfz59_1
           try clear hfz9_0
           try clear hfz9_1
           try clear p2
           try clear p6
           obtain ⟨x10_4, rfl, HA, HK4, HO_264000, HO_269000, BK263, BK268, HB⟩ := hrel
           cases gk with
           | zero => exact absurd HA.out (by simp [laws_FnBits.l0])
           | succ k4 =>
            have H := HA.out
            clear HA
            simp only [laws_FnBits.l0] at H
            have HC61 := Aside0.mk H
            clear H
            go_upto_region 14 with (fail)
            go_cut [100] (fun v100 wc => ∃ (kq : Nat) (x100_60 : Bool), v100 = .bool x100_60 ∧ Aside0 (laws_FnBits.j4 kq x10_4 x100_60 t257 t260 t264 t267 = some r) ∧ Aside0 (kq ≤ k4) ∧ Aside0 (Kd.R (Kd.int .u8) 5 wc w.heap.size (fun k_ => some k_ ≠ ((.slice Ao12 t264.length co12) : Value).ownBlock) (.slice Ao8 t257.length co8) t257) ∧ Aside0 (Kd.R (Kd.int .u8) 5 wc w.heap.size (fun k_ => some k_ ≠ ((.slice Ao8 t257.length co8) : Value).ownBlock) (.slice Ao12 t264.length co12) t264) ∧ Aside0 (wc.heap[gb263]? = some (.cells #[(.slice Ao8 t257.length co8), .int .i64 t260] 37 (0, 0))) ∧ Aside0 (wc.heap[gb268]? = some (.cells #[(.slice Ao12 t264.length co12), .int .i64 t267] 37 (0, 0))) ∧ Aside0 (Below w.heap.size w wc))
            case first =>
             have H := HC61.out
             clear HC61
             by_cases c62 : x10_4 < t260
             ·rw [if_pos c62] at H
              have c62b0 : decide (x10_4 < t260) = true := decide_eq_true c62
              clear c62
              (first | rw [c62b0] | (simp only [i64_w, i32_w]; rw [c62b0]) | skip)
              have H' := Aside0.mk H
              clear H
              have hnb63 := NB263_268.out
              have hnc63 := NB268_263.out
              have hcz64_0 : wr.cell? ⟨gb263, 0, none⟩ = some (.slice Ao8 t257.length co8) := (zQ BK263.out 0).trans rfl
              have hcz64_1 : wr.cell? ⟨gb263, 1, none⟩ = some (.int .i64 t260) := (zQ BK263.out 1).trans rfl
              have hfz64_0 := blk_frozen BK263.out 0
              have hfz64_1 := blk_frozen BK263.out 1
              go_wp2
              go_meet
              case rel => exact ⟨_, (decide (x10_4 < 200)), (by first | rfl | (simp; done) | (simp [*]; done)), H', ⟨by have := HJ4.out; have := HJ38.out; have := HJ47.out; have := HK4.out; first | omega | exact Nat.le_refl _⟩, ⟨by (with_reducible repeat (first | apply zG | apply zH | apply zI)); exact HO_264000.out⟩, ⟨by (with_reducible repeat (first | apply zG | apply zH | apply zI)); exact HO_269000.out⟩, ⟨by (with_reducible repeat (first | refine zE ?_ _ | refine zF ?_ | refine zD ?_ _)); exact BK263.out⟩, ⟨by (with_reducible repeat (first | refine zE ?_ _ | refine zF ?_ | refine zD ?_ _)); exact BK268.out⟩, ⟨by repeat (first | (with_reducible first | exact HB.out | apply zA | apply zB | apply zC | refine below_set ?_ GE263.out | refine below_set ?_ GE268.out) | exact HB.out)⟩⟩
             ·rw [if_neg c62] at H
              have c62b0 : decide (x10_4 < t260) = false := decide_eq_false c62
              clear c62
              (first | rw [c62b0] | (simp only [i64_w, i32_w]; rw [c62b0]) | skip)
              have H' := Aside0.mk H
              clear H
              have hnb65 := NB263_268.out
              have hnc65 := NB268_263.out
              have hcz66_0 : wr.cell? ⟨gb263, 0, none⟩ = some (.slice Ao8 t257.length co8) := (zQ BK263.out 0).trans rfl
              have hcz66_1 : wr.cell? ⟨gb263, 1, none⟩ = some (.int .i64 t260) := (zQ BK263.out 1).trans rfl
              have hfz66_0 := blk_frozen BK263.out 0
              have hfz66_1 := blk_frozen BK263.out 1
              go_wp2
              go_meet
              case rel => exact ⟨_, (false), (by first | rfl | (simp; done) | (simp [*]; done)), H', ⟨by have := HJ4.out; have := HJ38.out; have := HJ47.out; have := HK4.out; first | omega | exact Nat.le_refl _⟩, ⟨by (with_reducible repeat (first | apply zG | apply zH | apply zI)); exact HO_264000.out⟩, ⟨by (with_reducible repeat (first | apply zG | apply zH | apply zI)); exact HO_269000.out⟩, ⟨by (with_reducible repeat (first | refine zE ?_ _ | refine zF ?_ | refine zD ?_ _)); exact BK263.out⟩, ⟨by (with_reducible repeat (first | refine zE ?_ _ | refine zF ?_ | refine zD ?_ _)); exact BK268.out⟩, ⟨by repeat (first | (with_reducible first | exact HB.out | apply zA | apply zB | apply zC | refine below_set ?_ GE263.out | refine below_set ?_ GE268.out) | exact HB.out)⟩⟩
            case rest =>
             clear HC61
             try clear c1
             try clear c2
             try clear c2b0
             try clear c2b1
             try clear p2
             try clear c3
             try clear c4
             try clear c5
             try clear c6
             try clear p6
             try clear c13
             try clear c16
             try clear c17
             try clear c17b0
             try clear c18
             try clear c19
             try clear c20
             try clear c21
             try clear c21b0
             try clear c22
             try clear c25
             try clear c29
             try clear c32
             try clear c33
             try clear c33b0
             try clear c33b1
             try clear c34
             try clear c36
             try clear c40
             try clear c44
             try clear c44b0
             try clear c46
             try clear c46b0
             try clear c46b1
             try clear c49
             try clear c50
             try clear c50b0
             try clear c50b1
             try clear c51
             try clear c51b0
             try clear c51b1
             try clear c53
             try clear c57
             try clear c60
             try clear c62
             try clear c62b0
             try clear c63
             try clear p64
             try clear c65
             try clear hcz14_0
             try clear hcz14_1
             try clear hcz19_0
             try clear hcz19_1
             try clear hcz23_0
             try clear hcz23_1
             try clear hcz26_0
             try clear hcz26_1
             try clear hcz28_0
             try clear hcz28_1
             try clear hcz30_0
             try clear hcz30_1
             try clear hcz35_0
             try clear hcz35_1
             try clear hcz37_0
             try clear hcz37_1
             try clear hcz41_0
             try clear hcz41_1
             try clear hcz42_0
             try clear hcz42_1
             try clear hcz54_0
             try clear hcz54_1
             try clear hcz55_0
             try clear hcz55_1
             try clear hcz58_0
             try clear hcz58_1
             try clear hcz59_0
             try clear hcz59_1
             try clear hcz64_0
             try clear hcz64_1
             try clear hcz66_0
             try clear hcz66_1
             try clear hcz9_0
             try clear hcz9_1
             try clear hfz14_0
             try clear hfz14_1
             try clear hfz19_0
             try clear hfz19_1
             try clear hfz23_0
             try clear hfz23_1
             try clear hfz26_0
             try clear hfz26_1
             try clear hfz28_0
             try clear hfz28_1
             try clear hfz30_0
             try clear hfz30_1
             try clear hfz35_0
             try clear hfz35_1
             try clear hfz37_0
             try clear hfz37_1
             try clear hfz41_0
             try clear hfz41_1
             try clear hfz42_0
             try clear hfz42_1
             try clear hfz54_0
             try clear hfz54_1
             try clear hfz55_0
             try clear hfz55_1
             try clear hfz58_0
             try clear hfz58_1
             try clear hfz59_0
             try clear hfz59_1
             try clear hfz64_0
             try clear hfz64_1
             try clear hfz66_0
             try clear hfz66_1
             try clear hfz9_0
             try clear hfz9_1
             try clear p2
             try clear p6
             obtain ⟨kq, x100_60, rfl, HA, HJ60, HO_264000, HO_269000, BK263, BK268, HB⟩ := hcut
             cases kq with
             | zero => exact absurd HA.out (by simp [laws_FnBits.j4])
             | succ kj60 =>
              have H := HA.out
              clear HA
              simp only [laws_FnBits.j4] at H
              by_cases c67 : x100_60 = true
              ·subst c67
               have H1 : ((impl_TakeBits.f kj60 t264 t267 x10_4 1).bind fun bt273 => ((spec_TakeBits.f kj60 t257 t260 x10_4 1).bind fun bt275 => (if bt273.1 = bt275.1 then (if bt273.2 = true then (laws_FnBits.j5 kj60 x10_4 (!bt275.2) t257 t260 t264 t267) else (laws_FnBits.j5 kj60 x10_4 true t257 t260 t264 t267)) else (laws_FnBits.j5 kj60 x10_4 true t257 t260 t264 t267)))) = some r := by rw [if_pos rfl] at H; exact H
               clear H
               have H := H1
               clear H1
               replace H := Option.bind_eq_some_iff.mp H
               obtain ⟨⟨t273, t274⟩, A680, H⟩ := H
               replace H : ((spec_TakeBits.f kj60 t257 t260 x10_4 1).bind fun bt275 => (if t273 = bt275.1 then (if t274 = true then (laws_FnBits.j5 kj60 x10_4 (!bt275.2) t257 t260 t264 t267) else (laws_FnBits.j5 kj60 x10_4 true t257 t260 t264 t267)) else (laws_FnBits.j5 kj60 x10_4 true t257 t260 t264 t267))) = some r := H
               have A68 := Aside0.mk A680
               clear A680
               replace H := Option.bind_eq_some_iff.mp H
               obtain ⟨⟨t275, t276⟩, A690, H⟩ := H
               replace H : (if t273 = t275 then (if t274 = true then (laws_FnBits.j5 kj60 x10_4 (!t276) t257 t260 t264 t267) else (laws_FnBits.j5 kj60 x10_4 true t257 t260 t264 t267)) else (laws_FnBits.j5 kj60 x10_4 true t257 t260 t264 t267)) = some r := H
               have A69 := Aside0.mk A690
               clear A690
               have HC70 := Aside0.mk H
               clear H
               have hnb71 := NB268_263.out
               have hnc71 := NB263_268.out
               have hcz72_0 : wc.cell? ⟨gb268, 0, none⟩ = some (.slice Ao12 t264.length co12) := (zQ BK268.out 0).trans rfl
               have hcz72_1 : wc.cell? ⟨gb268, 1, none⟩ = some (.int .i64 t267) := (zQ BK268.out 1).trans rfl
               have hfz72_0 := blk_frozen BK268.out 0
               have hfz72_1 := blk_frozen BK268.out 1
               go_upto_region 18 with (first | ((with_reducible refine gate_callee (f := 20) rfl ?_); refine goesL_ (some 106) rfl rfl Try.func20 (by kernel_rfl) rfl #[.agg #[.slice Ao12 t264.length co12, .int .i64 t267], .int .i64 x10_4, .int .i64 1] rfl (by (try simp only [List.map_toArray, List.map_cons, List.map_nil]); first | done | rfl | (simp only [List.length_drop, List.length_take]; rfl)) ?_; (with_reducible refine (impl_TakeBits.calls kj60 _ _ t264 t267 x10_4 1 t273 t274 _ ?side1 ?side2 A68.out).mono ?_); (case side1 => repeat (first | exact (Kd.R_reads' HO_269000.out).2.2 | (with_reducible refine zJ ?_ _) | (with_reducible refine zK ?_ _) | (with_reducible refine zL ?_))); (case side2 => exact (Kd.R_reads' HO_269000.out).2.1); rintro e w73 ⟨rfl, hb⟩; refine ⟨_, rfl, ?_⟩; have n0_ := Aside0.mk (Kd.R_below (by (with_reducible repeat (first | apply zG | apply zH | apply zI)); exact HO_264000.out) hb); have n1_ := Aside0.mk (Kd.R_below (by (with_reducible repeat (first | apply zG | apply zH | apply zI)); exact HO_269000.out) hb); have n2_ := Aside0.mk (blk_below (g := gb263) (o := .cells #[.slice Ao8 t257.length co8, .int .i64 t260] 37 (0, 0)) (by (with_reducible repeat (first | refine zE ?_ _ | refine zF ?_ | refine zD ?_ _)); exact BK263.out) hb); have n3_ := Aside0.mk (blk_below (g := gb268) (o := .cells #[.slice Ao12 t264.length co12, .int .i64 t267] 37 (0, 0)) (by (with_reducible repeat (first | refine zE ?_ _ | refine zF ?_ | refine zD ?_ _)); exact BK268.out) hb); have n4_ := Aside0.mk (below_step (by repeat (first | (with_reducible first | exact HB.out | apply zA | apply zB | apply zC | refine below_set ?_ GE263.out | refine below_set ?_ GE268.out) | exact HB.out)) hb); clear HO_264000; clear HO_269000; clear BK263; clear BK268; clear HB; have HO_264000 := n0_; have HO_269000 := n1_; have BK263 := n2_; have BK268 := n3_; have HB := n4_; clear n0_ n1_ n2_ n3_ n4_; (try clear hb); (try clear hb2); (try clear hk); (try clear hi); have hcz74_0 : w73.cell? ⟨gb263, 0, none⟩ = some (.slice Ao8 t257.length co8) := (zQ BK263.out 0).trans rfl; have hcz74_1 : w73.cell? ⟨gb263, 1, none⟩ = some (.int .i64 t260) := (zQ BK263.out 1).trans rfl; have hfz74_0 := blk_frozen BK263.out 0; have hfz74_1 := blk_frozen BK263.out 1) | ((with_reducible refine gate_callee (f := 22) rfl ?_); refine goesL_ (some 112) rfl rfl Try.func22 (by kernel_rfl) rfl #[.agg #[.slice Ao8 t257.length co8, .int .i64 t260], .int .i64 x10_4, .int .i64 1] rfl (by (try simp only [List.map_toArray, List.map_cons, List.map_nil]); first | done | rfl | (simp only [List.length_drop, List.length_take]; rfl)) ?_; (with_reducible refine (spec_TakeBits.calls kj60 _ _ t257 t260 x10_4 1 t275 t276 _ ?side1 ?side2 A69.out).mono ?_); (case side1 => repeat (first | exact (Kd.R_reads' HO_264000.out).2.2 | (with_reducible refine zJ ?_ _) | (with_reducible refine zK ?_ _) | (with_reducible refine zL ?_))); (case side2 => exact (Kd.R_reads' HO_264000.out).2.1); rintro e w75 ⟨rfl, hb⟩; refine ⟨_, rfl, ?_⟩; have n0_ := Aside0.mk (Kd.R_below (by (with_reducible repeat (first | apply zG | apply zH | apply zI)); exact HO_264000.out) hb); have n1_ := Aside0.mk (Kd.R_below (by (with_reducible repeat (first | apply zG | apply zH | apply zI)); exact HO_269000.out) hb); have n2_ := Aside0.mk (blk_below (g := gb263) (o := .cells #[.slice Ao8 t257.length co8, .int .i64 t260] 37 (0, 0)) (by (with_reducible repeat (first | refine zE ?_ _ | refine zF ?_ | refine zD ?_ _)); exact BK263.out) hb); have n3_ := Aside0.mk (blk_below (g := gb268) (o := .cells #[.slice Ao12 t264.length co12, .int .i64 t267] 37 (0, 0)) (by (with_reducible repeat (first | refine zE ?_ _ | refine zF ?_ | refine zD ?_ _)); exact BK268.out) hb); have n4_ := Aside0.mk (below_step (by repeat (first | (with_reducible first | exact HB.out | apply zA | apply zB | apply zC | refine below_set ?_ GE263.out | refine below_set ?_ GE268.out) | exact HB.out)) hb); clear HO_264000; clear HO_269000; clear BK263; clear BK268; clear HB; have HO_264000 := n0_; have HO_269000 := n1_; have BK263 := n2_; have BK268 := n3_; have HB := n4_; clear n0_ n1_ n2_ n3_ n4_; (try clear hb); (try clear hb2); (try clear hk); (try clear hi)))
               (try simp only [Act.put, zT, zU, zV])
               go_cut [125] (fun v125 wc => ∃ (kq : Nat) (x125_69 : Bool), v125 = .bool x125_69 ∧ Aside0 (laws_FnBits.j5 kq x10_4 x125_69 t257 t260 t264 t267 = some r) ∧ Aside0 (kq ≤ kj60) ∧ Aside0 (Kd.R (Kd.int .u8) 5 wc w.heap.size (fun k_ => some k_ ≠ ((.slice Ao12 t264.length co12) : Value).ownBlock) (.slice Ao8 t257.length co8) t257) ∧ Aside0 (Kd.R (Kd.int .u8) 5 wc w.heap.size (fun k_ => some k_ ≠ ((.slice Ao8 t257.length co8) : Value).ownBlock) (.slice Ao12 t264.length co12) t264) ∧ Aside0 (wc.heap[gb263]? = some (.cells #[(.slice Ao8 t257.length co8), .int .i64 t260] 37 (0, 0))) ∧ Aside0 (wc.heap[gb268]? = some (.cells #[(.slice Ao12 t264.length co12), .int .i64 t267] 37 (0, 0))) ∧ Aside0 (Below w.heap.size w wc))
               case first =>
                have H := HC70.out
                clear HC70
                by_cases c76 : t273 = t275
                ·rw [if_pos c76] at H
                 have c76b0 : (t273 == t275) = true := beq_iff_eq.mpr c76
                 have c76b1 : (t273 != t275) = false := bne_eq_false_iff_eq.mpr c76
                 clear c76
                 (first | rw [c76b0] | (simp only [i64_w, i32_w]; rw [c76b0]) | skip)
                 by_cases c77 : t274 = true
                 ·subst c77
                  have H1 : (laws_FnBits.j5 kj60 x10_4 (!t276) t257 t260 t264 t267) = some r := by rw [if_pos rfl] at H; exact H
                  clear H
                  have H := H1
                  clear H1
                  have H' := Aside0.mk H
                  clear H
                  go_wp2
                  go_meet
                  case rel => exact ⟨_, (!t276), (by first | rfl | (simp; done) | (simp [*]; done)), H', ⟨by have := HJ4.out; have := HJ38.out; have := HJ47.out; have := HK4.out; have := HJ60.out; first | omega | exact Nat.le_refl _⟩, ⟨by (with_reducible repeat (first | apply zG | apply zH | apply zI)); exact HO_264000.out⟩, ⟨by (with_reducible repeat (first | apply zG | apply zH | apply zI)); exact HO_269000.out⟩, ⟨by (with_reducible repeat (first | refine zE ?_ _ | refine zF ?_ | refine zD ?_ _)); exact BK263.out⟩, ⟨by (with_reducible repeat (first | refine zE ?_ _ | refine zF ?_ | refine zD ?_ _)); exact BK268.out⟩, ⟨by repeat (first | (with_reducible first | exact HB.out | apply zA | apply zB | apply zC | refine below_set ?_ GE263.out | refine below_set ?_ GE268.out) | exact HB.out)⟩⟩
                 ·replace c77 := Bool.eq_false_iff.mpr c77
                  subst c77
                  have H1 : (laws_FnBits.j5 kj60 x10_4 true t257 t260 t264 t267) = some r := by rw [if_neg (show ¬ (false = true) by decide)] at H; exact H
                  clear H
                  have H := H1
                  clear H1
                  have H' := Aside0.mk H
                  clear H
                  go_wp2
                  go_meet
                  case rel => exact ⟨_, (true), (by first | rfl | (simp; done) | (simp [*]; done)), H', ⟨by have := HJ4.out; have := HJ38.out; have := HJ47.out; have := HK4.out; have := HJ60.out; first | omega | exact Nat.le_refl _⟩, ⟨by (with_reducible repeat (first | apply zG | apply zH | apply zI)); exact HO_264000.out⟩, ⟨by (with_reducible repeat (first | apply zG | apply zH | apply zI)); exact HO_269000.out⟩, ⟨by (with_reducible repeat (first | refine zE ?_ _ | refine zF ?_ | refine zD ?_ _)); exact BK263.out⟩, ⟨by (with_reducible repeat (first | refine zE ?_ _ | refine zF ?_ | refine zD ?_ _)); exact BK268.out⟩, ⟨by repeat (first | (with_reducible first | exact HB.out | apply zA | apply zB | apply zC | refine below_set ?_ GE263.out | refine below_set ?_ GE268.out) | exact HB.out)⟩⟩
                ·rw [if_neg c76] at H
                 have c76b0 : (t273 == t275) = false := beq_eq_false_iff_ne.mpr c76
                 have c76b1 : (t273 != t275) = true := bne_iff_ne.mpr c76
                 (first | rw [c76b0] | (simp only [i64_w, i32_w]; rw [c76b0]) | skip)
                 have H' := Aside0.mk H
                 clear H
                 go_wp2
                 go_meet
                 case rel => exact ⟨_, (true), (by first | rfl | (simp; done) | (simp [*]; done)), H', ⟨by have := HJ4.out; have := HJ38.out; have := HJ47.out; have := HK4.out; have := HJ60.out; first | omega | exact Nat.le_refl _⟩, ⟨by (with_reducible repeat (first | apply zG | apply zH | apply zI)); exact HO_264000.out⟩, ⟨by (with_reducible repeat (first | apply zG | apply zH | apply zI)); exact HO_269000.out⟩, ⟨by (with_reducible repeat (first | refine zE ?_ _ | refine zF ?_ | refine zD ?_ _)); exact BK263.out⟩, ⟨by (with_reducible repeat (first | refine zE ?_ _ | refine zF ?_ | refine zD ?_ _)); exact BK268.out⟩, ⟨by repeat (first | (with_reducible first | exact HB.out | apply zA | apply zB | apply zC | refine below_set ?_ GE263.out | refine below_set ?_ GE268.out) | exact HB.out)⟩⟩
               case rest =>
                clear HC70
                try clear c1
                try clear c2
                try clear c2b0
                try clear c2b1
                try clear p2
                try clear c3
                try clear c4
                try clear c5
                try clear c6
                try clear p6
                try clear c7
                try clear c13
                try clear c16
                try clear c17
                try clear c17b0
                try clear c18
                try clear c19
                try clear c20
                try clear c21
                try clear c21b0
                try clear c22
                try clear c25
                try clear c29
                try clear c32
                try clear c33
                try clear c33b0
                try clear c33b1
                try clear c34
                try clear c36
                try clear c40
                try clear c44
                try clear c44b0
                try clear c46
                try clear c46b0
                try clear c46b1
                try clear c49
                try clear c50
                try clear c50b0
                try clear c50b1
                try clear c51
                try clear c51b0
                try clear c51b1
                try clear c53
                try clear c57
                try clear c60
                try clear c62
                try clear c62b0
                try clear c63
                try clear p64
                try clear c65
                try clear c67
                try clear c71
                try clear c76
                try clear c76b0
                try clear c76b1
                try clear c77
                try clear hcz14_0
                try clear hcz14_1
                try clear hcz19_0
                try clear hcz19_1
                try clear hcz23_0
                try clear hcz23_1
                try clear hcz26_0
                try clear hcz26_1
                try clear hcz28_0
                try clear hcz28_1
                try clear hcz30_0
                try clear hcz30_1
                try clear hcz35_0
                try clear hcz35_1
                try clear hcz37_0
                try clear hcz37_1
                try clear hcz41_0
                try clear hcz41_1
                try clear hcz42_0
                try clear hcz42_1
                try clear hcz54_0
                try clear hcz54_1
                try clear hcz55_0
                try clear hcz55_1
                try clear hcz58_0
                try clear hcz58_1
                try clear hcz59_0
                try clear hcz59_1
                try clear hcz64_0
                try clear hcz64_1
                try clear hcz66_0
                try clear hcz66_1
                try clear hcz72_0
                try clear hcz72_1
                try clear hcz74_0
                try clear hcz74_1
                try clear hcz9_0
                try clear hcz9_1
                try clear hfz14_0
                try clear hfz14_1
                try clear hfz19_0
                try clear hfz19_1
                try clear hfz23_0
                try clear hfz23_1
                try clear hfz26_0
                try clear hfz26_1
                try clear hfz28_0
                try clear hfz28_1
                try clear hfz30_0
                try clear hfz30_1
                try clear hfz35_0
                try clear hfz35_1
                try clear hfz37_0
                try clear hfz37_1
                try clear hfz41_0
                try clear hfz41_1
                try clear hfz42_0
                try clear hfz42_1
                try clear hfz54_0
                try clear hfz54_1
                try clear hfz55_0
                try clear hfz55_1
                try clear hfz58_0
                try clear hfz58_1
                try clear hfz59_0
                try clear hfz59_1
                try clear hfz64_0
                try clear hfz64_1
                try clear hfz66_0
                try clear hfz66_1
                try clear hfz72_0
                try clear hfz72_1
                try clear hfz74_0
                try clear hfz74_1
                try clear hfz9_0
                try clear hfz9_1
                try clear p2
                try clear p6
                try clear p64
                obtain ⟨kq, x125_69, rfl, HA, HJ69, HO_264000, HO_269000, BK263, BK268, HB⟩ := hcut
                cases kq with
                | zero => exact absurd HA.out (by simp [laws_FnBits.j5])
                | succ kj69 =>
                 have H := HA.out
                 clear HA
                 simp only [laws_FnBits.j5] at H
                 by_cases c78 : x125_69 = true
                 ·subst c78
                  have H1 : (some false) = some r := by rw [if_pos rfl] at H; exact H
                  clear H
                  have H := H1
                  clear H1
                  obtain rfl := Option.some.inj H
                  go_wp2
                  go_ret
                  exact ⟨by first | rfl | (simp [errW_none, errW_some] <;> rfl) | (simp [*, errW_none, errW_some] <;> rfl), by repeat (first | (with_reducible first | exact HB.out | apply zA | apply zB | apply zC | refine below_set ?_ GE263.out | refine below_set ?_ GE268.out) | exact HB.out)⟩
                 ·replace c78 := Bool.eq_false_iff.mpr c78
                  subst c78
                  have H1 : (laws_FnBits.l0 kj69 (wrap64 (x10_4 + 1)) t257 t260 t264 t267) = some r := by rw [if_neg (show ¬ (false = true) by decide)] at H; exact H
                  clear H
                  have H := H1
                  clear H1
                  have H' := Aside0.mk H
                  clear H
                  go_wp2
                  go_roundg kj69
                  case measure => have := HJ4.out; have := HJ38.out; have := HJ47.out; have := HK4.out; have := HJ60.out; have := HJ69.out; omega
                  case rel => exact ⟨(wrap64 (x10_4 + 1)), (by first | rfl | (simp; done) | (simp [*]; done)), H', ⟨by have := HJ4.out; have := HJ38.out; have := HJ47.out; have := HK4.out; have := HJ60.out; have := HJ69.out; omega⟩, ⟨by (with_reducible repeat (first | apply zG | apply zH | apply zI)); exact HO_264000.out⟩, ⟨by (with_reducible repeat (first | apply zG | apply zH | apply zI)); exact HO_269000.out⟩, ⟨by (with_reducible repeat (first | refine zE ?_ _ | refine zF ?_ | refine zD ?_ _)); exact BK263.out⟩, ⟨by (with_reducible repeat (first | refine zE ?_ _ | refine zF ?_ | refine zD ?_ _)); exact BK268.out⟩, ⟨by repeat (first | (with_reducible first | exact HB.out | apply zA | apply zB | apply zC | refine below_set ?_ GE263.out | refine below_set ?_ GE268.out) | exact HB.out)⟩⟩
              ·replace c67 := Bool.eq_false_iff.mpr c67
               subst c67
               have H1 : (some true) = some r := by rw [if_neg (show ¬ (false = true) by decide)] at H; exact H
               clear H
               have H := H1
               clear H1
               obtain rfl := Option.some.inj H
               go_wp2
               go_ret
               exact ⟨by first | rfl | (simp [errW_none, errW_some] <;> rfl) | (simp [*, errW_none, errW_some] <;> rfl), by repeat (first | (with_reducible first | exact HB.out | apply zA | apply zB | apply zC | refine below_set ?_ GE263.out | refine below_set ?_ GE268.out) | exact HB.out)⟩

/-- THE ONE PURE STATEMENT of laws_FnBits: yours. -/
def laws_FnBits.Pure : Prop := ∀ (l0 : List Int), l0.length ≤ maxLen → l0.length * 1 ≤ 140737488351232 → (∀ x ∈ l0, (Lit.int .u8 x).wf = true) → ∃ k, laws_FnBits.f k l0 = some true
theorem laws_FnBits.walk (P : laws_FnBits.Pure) (a0 : Option Addr) (len0 cap0 : Nat) (z0 : List Int) (w : World) (w0 : (a0 = none ∧ len0 = 0 ∧ cap0 = 0 ∧ z0 = []) ∨ ∃ x, a0 = some x ∧ len0 ≤ cap0 ∧ cap0 ≤ maxLen ∧ z0.length = cap0 ∧ (∀ i, i < z0.length → w.cell? (x.add i) = some (.int .u8 (z0.getD i 0))) ∧ ∀ n ∈ z0, (Lit.int .u8 n).wf = true) (y0 : len0 * 1 ≤ 140737488351232) :
  Calls Try.prog 5 #[.slice a0 len0 cap0] w fun e w' => e = .returned (.bool true) ∧ Below w.heap.size w w' := by
 obtain ⟨l0, rfl, hr0, hm0, hw0, hc0⟩ := ReadsInt.ofRowC w0
 obtain ⟨k, h⟩ := P l0 hm0 y0 hw0
 refine (laws_FnBits.calls k _ _ l0 true w (Kd.C_of_reads (d := (0 : Int)) (h1 := fun _ => rfl) hr0) hc0 h).mono ?_
 rintro e w' ⟨rfl, hd⟩
 exact ⟨rfl, hd⟩

end Go.Proofs.Ytppifefhpjhmaaa.PFnBits
