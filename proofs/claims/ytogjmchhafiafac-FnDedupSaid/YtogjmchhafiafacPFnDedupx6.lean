-- Written by a program of this session (xprint.py, over the kit's print).
import Derived.Test.YtogjmchhafiafacPFnDedupx0
import Derived.Test.YtogjmchhafiafacPFnDedupx5
namespace Go.Proofs.Ytogjmchhafiafac.PFnDedup
open Go.RowKit Go.Proofs.YtogjmchhafiafacW.PrintWords Go.Proofs.YtogjmchhafiafacW.PrintLast Go.Proofs.YtogjmchhafiafacW.PrintMore Go.Proofs.Ytogjmchhafiafac.XWords
attribute [local go_sem] max2_int min2_int max_two min_two max_three min_three max_four min_four   -- for this text's walks alone
set_option linter.unusedVariables false
set_option linter.unusedSimpArgs false

/-! ### impl_dedup: function 47 -/
mutual
def impl_dedup.j0 : Nat → List (S37) → List (S37) → Int → Bool → Option ((List (S37)))
 | 0, _, _, _, _ => none
 | k + 1, x0, x1, x2, x31 => if x31 = true then (impl_dedup.j1 k x1 x0 x2) else (impl_dedup.j1 k x0 x1 x2)
def impl_dedup.j1 : Nat → List (S37) → List (S37) → Int → Option ((List (S37)))
 | 0, _, _, _ => none
 | k + 1, x0, x1, x2 => if (x0.length : Int) = 0 then (some ([] : List (S37))) else (if 0 < (x0.length : Int) then (impl_dedup.l0 k x0 x1 x2 (([(⟨(rd_T37 x0 0).f0, (rd_T37 x0 0).f1⟩ : S37)] : List (S37)))) else (none))
def impl_dedup.l0 : Nat → List (S37) → List (S37) → Int → List (S37) → Option ((List (S37)))
 | 0, _, _, _, _ => none
 | k + 1, x0, x1, x2, x7 => if 0 ≤ (wrap64 ((x7.length : Int) - 1)) then (if (wrap64 ((x7.length : Int) - 1)) < (x7.length : Int) then ((impl_behind.f k x0 ((rd_T37 x7 (wrap64 ((x7.length : Int) - 1))).f0)).bind fun bt284 => ((impl_behind.f k x1 ((rd_T37 x7 (wrap64 ((x7.length : Int) - 1))).f0)).bind fun bt288 => (if bt284.2.2 = true then (impl_dedup.j3 k x0 x1 x2 x7 ((rd_T37 x7 (wrap64 ((x7.length : Int) - 1))).f0) bt284.2.2 bt288.2.2 false bt284.1 bt284.2.1 bt288.1 bt288.2.1) else (impl_dedup.j3 k x0 x1 x2 x7 ((rd_T37 x7 (wrap64 ((x7.length : Int) - 1))).f0) bt284.2.2 bt288.2.2 (!bt288.2.2) bt284.1 bt284.2.1 bt288.1 bt288.2.1)))) else (none)) else (none)
def impl_dedup.j3 : Nat → List (S37) → List (S37) → Int → List (S37) → Int → Bool → Bool → Bool → Int → Int → Int → Int → Option ((List (S37)))
 | 0, _, _, _, _, _, _, _, _, _, _, _, _ => none
 | k + 1, x0, x1, x2, x7, x8, x10, x12, x64, x288000, x288001, x292000, x292001 => if x64 = true then (some x7) else (if x10 = true then (if x288000 > (wrap64 (x8 + x2)) then (if x12 = true then (impl_dedup.j4 k x0 x1 x2 x7 (decide (x292000 < x288000)) x288000 x288001 x292000 x292001) else (impl_dedup.j4 k x0 x1 x2 x7 false x288000 x288001 x292000 x292001)) else (impl_dedup.j4 k x0 x1 x2 x7 false x288000 x288001 x292000 x292001)) else (impl_dedup.j4 k x0 x1 x2 x7 true x288000 x288001 x292000 x292001))
def impl_dedup.j4 : Nat → List (S37) → List (S37) → Int → List (S37) → Bool → Int → Int → Int → Int → Option ((List (S37)))
 | 0, _, _, _, _, _, _, _, _, _ => none
 | k + 1, x0, x1, x2, x7, x72, x288000, x288001, x292000, x292001 => if x72 = true then (if x7.length < 8796093022208 then (impl_dedup.l0 k x1 x0 x2 (x7 ++ [(⟨x292000, x292001⟩ : S37)])) else (none)) else (if x7.length < 8796093022208 then (impl_dedup.l0 k x0 x1 x2 (x7 ++ [(⟨x288000, x288001⟩ : S37)])) else (none))
end
def impl_dedup.f (k : Nat) (l0 : List (S37)) (l1 : List (S37)) (a2 : Int) : Option ((List (S37))) := if (l0.length : Int) = 0 then (impl_dedup.j0 k l0 l1 a2 true) else (if (l1.length : Int) > 0 then (if 0 < (l1.length : Int) then (if 0 < (l0.length : Int) then (impl_dedup.j0 k l0 l1 a2 (decide (((rd_T37 l1 0).f0) < ((rd_T37 l0 0).f0)))) else (none)) else (none)) else (impl_dedup.j0 k l0 l1 a2 false))
theorem impl_dedup.mono_l : ∀ k, (∀ y0 y1 y2 y3, LeO (impl_dedup.j0 k y0 y1 y2 y3) (impl_dedup.j0 (k + 1) y0 y1 y2 y3)) ∧ (∀ y0 y1 y2, LeO (impl_dedup.j1 k y0 y1 y2) (impl_dedup.j1 (k + 1) y0 y1 y2)) ∧ (∀ y0 y1 y2 y3, LeO (impl_dedup.l0 k y0 y1 y2 y3) (impl_dedup.l0 (k + 1) y0 y1 y2 y3)) ∧ (∀ y0 y1 y2 y3 y4 y5 y6 y7 y8 y9 y10 y11, LeO (impl_dedup.j3 k y0 y1 y2 y3 y4 y5 y6 y7 y8 y9 y10 y11) (impl_dedup.j3 (k + 1) y0 y1 y2 y3 y4 y5 y6 y7 y8 y9 y10 y11)) ∧ (∀ y0 y1 y2 y3 y4 y5 y6 y7 y8, LeO (impl_dedup.j4 k y0 y1 y2 y3 y4 y5 y6 y7 y8) (impl_dedup.j4 (k + 1) y0 y1 y2 y3 y4 y5 y6 y7 y8))
 | 0 => ⟨fun _ _ _ _ r h => by simp [impl_dedup.j0] at h, fun _ _ _ r h => by simp [impl_dedup.j1] at h, fun _ _ _ _ r h => by simp [impl_dedup.l0] at h, fun _ _ _ _ _ _ _ _ _ _ _ _ r h => by simp [impl_dedup.j3] at h, fun _ _ _ _ _ _ _ _ _ r h => by simp [impl_dedup.j4] at h⟩
 | k + 1 => by
  obtain ⟨ih0, ih1, ih2, ih3, ih4⟩ := impl_dedup.mono_l k
  refine ⟨?_, ?_, ?_, ?_, ?_⟩
  ·intro y0 y1 y2 y3
   unfold impl_dedup.j0
   repeat' first
   | (with_reducible exact ih0 _ _ _ _)
   | (with_reducible exact ih1 _ _ _)
   | (with_reducible exact ih2 _ _ _ _)
   | (with_reducible exact ih3 _ _ _ _ _ _ _ _ _ _ _ _)
   | (with_reducible exact ih4 _ _ _ _ _ _ _ _ _)
   | (with_reducible exact impl_behind.mono _ _ _)
   | (with_reducible exact LeO.refl _)
   | (with_reducible exact LeO.none _)
   | (with_reducible refine LeO.ite ?_ ?_)
   | (with_reducible refine LeO.bind ?_ (fun _ => ?_))
   | exact ih0 _ _ _ _
   | exact ih1 _ _ _
   | exact ih2 _ _ _ _
   | exact ih3 _ _ _ _ _ _ _ _ _ _ _ _
   | exact ih4 _ _ _ _ _ _ _ _ _
   | exact impl_behind.mono _ _ _
   | exact LeO.none _
   | refine LeO.ite ?_ ?_
   | refine LeO.bind ?_ (fun _ => ?_)
  ·intro y0 y1 y2
   unfold impl_dedup.j1
   repeat' first
   | (with_reducible exact ih0 _ _ _ _)
   | (with_reducible exact ih1 _ _ _)
   | (with_reducible exact ih2 _ _ _ _)
   | (with_reducible exact ih3 _ _ _ _ _ _ _ _ _ _ _ _)
   | (with_reducible exact ih4 _ _ _ _ _ _ _ _ _)
   | (with_reducible exact impl_behind.mono _ _ _)
   | (with_reducible exact LeO.refl _)
   | (with_reducible exact LeO.none _)
   | (with_reducible refine LeO.ite ?_ ?_)
   | (with_reducible refine LeO.bind ?_ (fun _ => ?_))
   | exact ih0 _ _ _ _
   | exact ih1 _ _ _
   | exact ih2 _ _ _ _
   | exact ih3 _ _ _ _ _ _ _ _ _ _ _ _
   | exact ih4 _ _ _ _ _ _ _ _ _
   | exact impl_behind.mono _ _ _
   | exact LeO.none _
   | refine LeO.ite ?_ ?_
   | refine LeO.bind ?_ (fun _ => ?_)
  ·intro y0 y1 y2 y3
   unfold impl_dedup.l0
   repeat' first
   | (with_reducible exact ih0 _ _ _ _)
   | (with_reducible exact ih1 _ _ _)
   | (with_reducible exact ih2 _ _ _ _)
   | (with_reducible exact ih3 _ _ _ _ _ _ _ _ _ _ _ _)
   | (with_reducible exact ih4 _ _ _ _ _ _ _ _ _)
   | (with_reducible exact impl_behind.mono _ _ _)
   | (with_reducible exact LeO.refl _)
   | (with_reducible exact LeO.none _)
   | (with_reducible refine LeO.ite ?_ ?_)
   | (with_reducible refine LeO.bind ?_ (fun _ => ?_))
   | exact ih0 _ _ _ _
   | exact ih1 _ _ _
   | exact ih2 _ _ _ _
   | exact ih3 _ _ _ _ _ _ _ _ _ _ _ _
   | exact ih4 _ _ _ _ _ _ _ _ _
   | exact impl_behind.mono _ _ _
   | exact LeO.none _
   | refine LeO.ite ?_ ?_
   | refine LeO.bind ?_ (fun _ => ?_)
  ·intro y0 y1 y2 y3 y4 y5 y6 y7 y8 y9 y10 y11
   unfold impl_dedup.j3
   repeat' first
   | (with_reducible exact ih0 _ _ _ _)
   | (with_reducible exact ih1 _ _ _)
   | (with_reducible exact ih2 _ _ _ _)
   | (with_reducible exact ih3 _ _ _ _ _ _ _ _ _ _ _ _)
   | (with_reducible exact ih4 _ _ _ _ _ _ _ _ _)
   | (with_reducible exact impl_behind.mono _ _ _)
   | (with_reducible exact LeO.refl _)
   | (with_reducible exact LeO.none _)
   | (with_reducible refine LeO.ite ?_ ?_)
   | (with_reducible refine LeO.bind ?_ (fun _ => ?_))
   | exact ih0 _ _ _ _
   | exact ih1 _ _ _
   | exact ih2 _ _ _ _
   | exact ih3 _ _ _ _ _ _ _ _ _ _ _ _
   | exact ih4 _ _ _ _ _ _ _ _ _
   | exact impl_behind.mono _ _ _
   | exact LeO.none _
   | refine LeO.ite ?_ ?_
   | refine LeO.bind ?_ (fun _ => ?_)
  ·intro y0 y1 y2 y3 y4 y5 y6 y7 y8
   unfold impl_dedup.j4
   repeat' first
   | (with_reducible exact ih0 _ _ _ _)
   | (with_reducible exact ih1 _ _ _)
   | (with_reducible exact ih2 _ _ _ _)
   | (with_reducible exact ih3 _ _ _ _ _ _ _ _ _ _ _ _)
   | (with_reducible exact ih4 _ _ _ _ _ _ _ _ _)
   | (with_reducible exact impl_behind.mono _ _ _)
   | (with_reducible exact LeO.refl _)
   | (with_reducible exact LeO.none _)
   | (with_reducible refine LeO.ite ?_ ?_)
   | (with_reducible refine LeO.bind ?_ (fun _ => ?_))
   | exact ih0 _ _ _ _
   | exact ih1 _ _ _
   | exact ih2 _ _ _ _
   | exact ih3 _ _ _ _ _ _ _ _ _ _ _ _
   | exact ih4 _ _ _ _ _ _ _ _ _
   | exact impl_behind.mono _ _ _
   | exact LeO.none _
   | refine LeO.ite ?_ ?_
   | refine LeO.bind ?_ (fun _ => ?_)
theorem impl_dedup.mono : ∀ a0 a1 a2 k, LeO (impl_dedup.f k a0 a1 a2) (impl_dedup.f (k + 1) a0 a1 a2) := by
 intro a0 a1 a2 k
 obtain ⟨ih0, ih1, ih2, ih3, ih4⟩ := impl_dedup.mono_l k
 unfold impl_dedup.f
 repeat' first
   | (with_reducible exact ih0 _ _ _ _)
   | (with_reducible exact ih1 _ _ _)
   | (with_reducible exact ih2 _ _ _ _)
   | (with_reducible exact ih3 _ _ _ _ _ _ _ _ _ _ _ _)
   | (with_reducible exact ih4 _ _ _ _ _ _ _ _ _)
   | (with_reducible exact impl_behind.mono _ _ _)
   | (with_reducible exact LeO.refl _)
   | (with_reducible exact LeO.none _)
   | (with_reducible refine LeO.ite ?_ ?_)
   | (with_reducible refine LeO.bind ?_ (fun _ => ?_))
   | exact ih0 _ _ _ _
   | exact ih1 _ _ _
   | exact ih2 _ _ _ _
   | exact ih3 _ _ _ _ _ _ _ _ _ _ _ _
   | exact ih4 _ _ _ _ _ _ _ _ _
   | exact impl_behind.mono _ _ _
   | exact LeO.none _
   | refine LeO.ite ?_ ?_
   | refine LeO.bind ?_ (fun _ => ?_)
set_option maxHeartbeats 8000000 in
set_option maxRecDepth 100000 in
theorem impl_dedup.calls (k : Nat) (P0_ : Nat → Prop) (A0 : Option Addr) (c0 : Nat) (l0 : List (S37)) (P1_ : Nat → Prop) (A1 : Option Addr) (c1 : Nat) (l1 : List (S37)) (a2 : Int) (r : List (S37)) (w : World) (hs0 : Kd.V k37 37 w w.heap.size (fun k_ => P0_ k_) (.slice A0 l0.length c0) l0) (hs1 : Kd.V k37 37 w w.heap.size (fun k_ => P1_ k_) (.slice A1 l1.length c1) l1) (h : impl_dedup.f k l0 l1 a2 = some r) :
  Calls Try.prog 47 #[.slice A0 l0.length c0, .slice A1 l1.length c1, .int .i64 a2] w fun e w' => ∃ v0_ : Value, e = .returned (v0_) ∧ Kd.R k37 37 w' w.heap.size (fun k_ => (w.heap.size ≤ k_)) v0_ r ∧ Below w.heap.size w w' := by
 have hu37 := Try.underlying37
 have HO0 := Aside0.mk (show Kd.V k37 37 w w.heap.size (fun k_ => ((P0_ k_ ∨ P1_ k_) ∨ w.heap.size ≤ k_)) (.slice A0 l0.length c0) l0 from Kd.V_mono hs0 (fun k_ hk => .inl (.inl hk)))
 have HO1 := Aside0.mk (show Kd.V k37 37 w w.heap.size (fun k_ => ((P0_ k_ ∨ P1_ k_) ∨ w.heap.size ≤ k_)) (.slice A1 l1.length c1) l1 from Kd.V_mono hs1 (fun k_ hk => .inl (.inr hk)))
 have HB := Aside0.mk (Below.refl w.heap.size w)
 have H : (if (l0.length : Int) = 0 then (impl_dedup.j0 k l0 l1 a2 true) else (if (l1.length : Int) > 0 then (if 0 < (l1.length : Int) then (if 0 < (l0.length : Int) then (impl_dedup.j0 k l0 l1 a2 (decide (((rd_T37 l1 0).f0) < ((rd_T37 l0 0).f0)))) else (none)) else (none)) else (impl_dedup.j0 k l0 l1 a2 false))) = some r := h
 clear h
 have HC4 := Aside0.mk H
 clear H
 go_enter Try.func47, Try.ntmps47
 go_upto_region 1 with (fail)
 repeat (go_quiet (fail); go_upto_region 1 with (fail))
 go_cut [31] (fun v31 wc => ∃ (kq : Nat) (x31_3 : Bool), v31 = .bool x31_3 ∧ Aside0 (impl_dedup.j0 kq l0 l1 a2 x31_3 = some r) ∧ Aside0 (kq ≤ k) ∧ Aside0 (Kd.V k37 37 wc w.heap.size (fun k_ => ((P0_ k_ ∨ P1_ k_) ∨ w.heap.size ≤ k_)) (.slice A0 l0.length c0) l0) ∧ Aside0 (Kd.V k37 37 wc w.heap.size (fun k_ => ((P0_ k_ ∨ P1_ k_) ∨ w.heap.size ≤ k_)) (.slice A1 l1.length c1) l1) ∧ Aside0 (Below w.heap.size w wc))
 case first =>
  have H := HC4.out
  clear HC4
  by_cases c5 : (l0.length : Int) = 0
  ·rw [if_pos c5] at H
   have c5b0 : ((l0.length : Int) == 0) = true := beq_iff_eq.mpr c5
   have c5b1 : ((l0.length : Int) != 0) = false := bne_eq_false_iff_eq.mpr c5
   clear c5
   (first | rw [c5b0] | (simp only [i64_w, i32_w]; rw [c5b0]) | skip)
   have H' := Aside0.mk H
   clear H
   go_wp2
   repeat (go_quiet (fail); try go_wp2)
   go_meet
   case rel => exact ⟨_, (true), (by first | rfl | (simp; done) | (simp [*]; done)), H', ⟨by first | omega | exact Nat.le_refl _⟩, ⟨by (with_reducible repeat (first | apply zM | apply zN | apply zO)); exact HO0.out⟩, ⟨by (with_reducible repeat (first | apply zM | apply zN | apply zO)); exact HO1.out⟩, ⟨by repeat (first | (with_reducible first | exact HB.out | apply zA | apply zB | apply zC) | exact HB.out)⟩⟩
  ·rw [if_neg c5] at H
   have c5b0 : ((l0.length : Int) == 0) = false := beq_eq_false_iff_ne.mpr c5
   have c5b1 : ((l0.length : Int) != 0) = true := bne_iff_ne.mpr c5
   have c5b2 : ¬ (l0 = []) := fun h_ => c5 (by rw [h_]; rfl)
   (first | rw [c5b0] | (simp only [i64_w, i32_w]; rw [c5b0]) | skip)
   by_cases c6 : (l1.length : Int) > 0
   ·rw [if_pos c6] at H
    have c6b0 : decide (0 < (l1.length : Int)) = true := decide_eq_true c6
    have c6b1 : decide (0 < l1.length) = true := decide_eq_true (by omega)
    clear c6
    by_cases c7 : 0 < (l1.length : Int)
    ·rw [if_pos c7] at H
     have c7b0 : decide (0 < (l1.length : Int)) = true := decide_eq_true c7
     have c7b1 : decide (0 < l1.length) = true := decide_eq_true (by omega)
     clear c7
     by_cases c8 : 0 < (l0.length : Int)
     ·rw [if_pos c8] at H
      have c8b0 : decide (0 < (l0.length : Int)) = true := decide_eq_true c8
      have c8b1 : decide (0 < l0.length) = true := decide_eq_true (by omega)
      clear c8
      have H' := Aside0.mk H
      clear H
      have p277 : 0 ≤ (0 : Int) := (by omega)
      have q277 : 0 < (l1.length : Int) := zX (by first | (with_reducible assumption) | assumption)
      obtain ⟨ad277, e277, hx277_0, hx277_1⟩ := at_T37 (Kd.V_reads' HO1.out).2.2 0 p277 q277
      cases e277
      have qi277 : (0 < l1.length) = True := eq_true (by omega)
      (try rw [show ((0 : Int)).toNat = 0 from rfl] at hx277_0)
      (try rw [show 0 * 2 = 0 from rfl] at hx277_0)
      (try rw [Addr.add_zero'] at hx277_0)
      (try rw [show ((0 : Int)).toNat = 0 from rfl] at hx277_1)
      (try rw [show 0 * 2 = 0 from rfl] at hx277_1)
      (try rw [Addr.add_zero'] at hx277_1)
      replace p277 := eq_true p277
      replace q277 := eq_true q277
      have p278 : 0 ≤ (0 : Int) := (by omega)
      have q278 : 0 < (l0.length : Int) := zX (by first | (with_reducible assumption) | assumption)
      obtain ⟨ad278, e278, hx278_0, hx278_1⟩ := at_T37 (Kd.V_reads' HO0.out).2.2 0 p278 q278
      cases e278
      have qi278 : (0 < l0.length) = True := eq_true (by omega)
      (try rw [show ((0 : Int)).toNat = 0 from rfl] at hx278_0)
      (try rw [show 0 * 2 = 0 from rfl] at hx278_0)
      (try rw [Addr.add_zero'] at hx278_0)
      (try rw [show ((0 : Int)).toNat = 0 from rfl] at hx278_1)
      (try rw [show 0 * 2 = 0 from rfl] at hx278_1)
      (try rw [Addr.add_zero'] at hx278_1)
      replace p278 := eq_true p278
      replace q278 := eq_true q278
      go_wp2
      repeat (go_quiet (fail); try go_wp2)
      go_meet
      case rel => exact ⟨_, (decide (((rd_T37 l1 0).f0) < ((rd_T37 l0 0).f0))), (by first | rfl | (simp; done) | (simp [*]; done)), H', ⟨by first | omega | exact Nat.le_refl _⟩, ⟨by (with_reducible repeat (first | apply zM | apply zN | apply zO)); exact HO0.out⟩, ⟨by (with_reducible repeat (first | apply zM | apply zN | apply zO)); exact HO1.out⟩, ⟨by repeat (first | (with_reducible first | exact HB.out | apply zA | apply zB | apply zC) | exact HB.out)⟩⟩
     ·rw [if_neg c8] at H
      exact absurd H (by simp)
    ·rw [if_neg c7] at H
     exact absurd H (by simp)
   ·rw [if_neg c6] at H
    have c6b0 : decide (0 < (l1.length : Int)) = false := decide_eq_false c6
    have c6b1 : decide (0 < l1.length) = false := decide_eq_false (by omega)
    clear c6
    have H' := Aside0.mk H
    clear H
    go_wp2
    repeat (go_quiet (fail); try go_wp2)
    go_meet
    case rel => exact ⟨_, (false), (by first | rfl | (simp; done) | (simp [*]; done)), H', ⟨by first | omega | exact Nat.le_refl _⟩, ⟨by (with_reducible repeat (first | apply zM | apply zN | apply zO)); exact HO0.out⟩, ⟨by (with_reducible repeat (first | apply zM | apply zN | apply zO)); exact HO1.out⟩, ⟨by repeat (first | (with_reducible first | exact HB.out | apply zA | apply zB | apply zC) | exact HB.out)⟩⟩
 case rest =>
  clear HC4
  try clear c1
  try clear p2
  try clear q2
  try clear hx2
  try clear qi2
  try clear c4
  try clear c5
  try clear c5b0
  try clear c5b1
  try clear c5b2
  try clear c6
  try clear c6b0
  try clear c6b1
  try clear c7
  try clear c7b0
  try clear c7b1
  try clear c8
  try clear c8b0
  try clear c8b1
  try clear hx277_0
  try clear hx277_1
  try clear hx278_0
  try clear hx278_1
  try clear p277
  try clear p278
  try clear q277
  try clear q278
  obtain ⟨kq, x31_3, rfl, HA, HJ3, HO_0, HO_1, HB⟩ := hcut
  cases kq with
  | zero => exact absurd HA.out (by simp [impl_dedup.j0])
  | succ kj3 =>
   have H := HA.out
   clear HA
   simp only [impl_dedup.j0] at H
   have HC9 := Aside0.mk H
   clear H
   go_upto_if 31 with (fail)
   repeat (go_quiet (fail); go_upto_if 31 with (fail))
   go_cut [0, 1] (fun v0 v1 wc => ∃ (kq : Nat) (x0_8 : List (S37)) (x1_8 : List (S37)), Aside0 (impl_dedup.j1 kq x0_8 x1_8 a2 = some r) ∧ Aside0 (kq ≤ kj3) ∧ Aside0 (Kd.V k37 37 wc w.heap.size (fun k_ => ((P0_ k_ ∨ P1_ k_) ∨ w.heap.size ≤ k_)) v0 x0_8) ∧ Aside0 (Kd.V k37 37 wc w.heap.size (fun k_ => ((P0_ k_ ∨ P1_ k_) ∨ w.heap.size ≤ k_)) v1 x1_8) ∧ Aside0 (Below w.heap.size w wc))
   case first =>
    have H := HC9.out
    clear HC9
    by_cases c10 : x31_3 = true
    ·subst c10
     have H1 : (impl_dedup.j1 kj3 l1 l0 a2) = some r := by rw [if_pos rfl] at H; exact H
     clear H
     have H := H1
     clear H1
     have H' := Aside0.mk H
     clear H
     go_wp2
     repeat (go_quiet (fail); try go_wp2)
     go_meet
     case rel => exact ⟨_, (l1), (l0), H', ⟨by have := HJ3.out; first | omega | exact Nat.le_refl _⟩, ⟨by (with_reducible repeat (first | apply zM | apply zN | apply zO)); exact HO_1.out⟩, ⟨by (with_reducible repeat (first | apply zM | apply zN | apply zO)); exact HO_0.out⟩, ⟨by repeat (first | (with_reducible first | exact HB.out | apply zA | apply zB | apply zC) | exact HB.out)⟩⟩
    ·replace c10 := Bool.eq_false_iff.mpr c10
     subst c10
     have H1 : (impl_dedup.j1 kj3 l0 l1 a2) = some r := by rw [if_neg (show ¬ (false = true) by decide)] at H; exact H
     clear H
     have H := H1
     clear H1
     have H' := Aside0.mk H
     clear H
     go_wp2
     repeat (go_quiet (fail); try go_wp2)
     go_meet
     case rel => exact ⟨_, (l0), (l1), H', ⟨by have := HJ3.out; first | omega | exact Nat.le_refl _⟩, ⟨by (with_reducible repeat (first | apply zM | apply zN | apply zO)); exact HO_0.out⟩, ⟨by (with_reducible repeat (first | apply zM | apply zN | apply zO)); exact HO_1.out⟩, ⟨by repeat (first | (with_reducible first | exact HB.out | apply zA | apply zB | apply zC) | exact HB.out)⟩⟩
   case rest =>
    clear HC9
    try clear c1
    try clear p2
    try clear q2
    try clear hx2
    try clear qi2
    try clear c4
    try clear c5
    try clear c5b0
    try clear c5b1
    try clear c5b2
    try clear c6
    try clear c6b0
    try clear c6b1
    try clear c7
    try clear c7b0
    try clear c7b1
    try clear c8
    try clear c8b0
    try clear c8b1
    try clear c10
    try clear hx277_0
    try clear hx277_1
    try clear hx278_0
    try clear hx278_1
    try clear p2
    try clear p277
    try clear p278
    try clear q2
    try clear q277
    try clear q278
    obtain ⟨kq, x0_8, x1_8, HA, HJ8, HO_0, HO_1, HB⟩ := hcut
    cases kq with
    | zero => exact absurd HA.out (by simp [impl_dedup.j1])
    | succ kj8 =>
     have H := HA.out
     clear HA
     simp only [impl_dedup.j1] at H
     by_cases c11 : (x0_8.length : Int) = 0
     ·rw [if_pos c11] at H
      have c11b0 : ((x0_8.length : Int) == 0) = true := beq_iff_eq.mpr c11
      have c11b1 : ((x0_8.length : Int) != 0) = false := bne_eq_false_iff_eq.mpr c11
      clear c11
      obtain rfl := Option.some.inj H
      obtain ⟨Ao12, co12, eo12⟩ := Kd.V_slice HO_0.out
      subst eo12
      go_wp2
      repeat (go_quiet (fail); try go_wp2)
      go_ret
      exact ⟨_, by first | rfl | (simp [errW_none, errW_some] <;> rfl) | (simp [*, errW_none, errW_some] <;> rfl), by first | exact Kd.R_nil _ _ _ _ _ | exact Kd.N_nil _ _ _ _ _ | exact Kd.V_nil _ _ _ _ _ | exact Kd.Q_nil _ _ _ _ _ | exact Kd.S_nil _ _ _ _ _, by repeat (first | (with_reducible first | exact HB.out | apply zA | apply zB | apply zC) | exact HB.out)⟩
     ·rw [if_neg c11] at H
      have c11b0 : ((x0_8.length : Int) == 0) = false := beq_eq_false_iff_ne.mpr c11
      have c11b1 : ((x0_8.length : Int) != 0) = true := bne_iff_ne.mpr c11
      have c11b2 : ¬ (x0_8 = []) := fun h_ => c11 (by rw [h_]; rfl)
      by_cases c13 : 0 < (x0_8.length : Int)
      ·rw [if_pos c13] at H
       have c13b0 : decide (0 < (x0_8.length : Int)) = true := decide_eq_true c13
       have c13b1 : decide (0 < x0_8.length) = true := decide_eq_true (by omega)
       clear c13
       obtain ⟨y280, hy280⟩ : ∃ y_ : List (S37), y_ = (([(⟨(rd_T37 x0_8 0).f0, (rd_T37 x0_8 0).f1⟩ : S37)] : List (S37))) := ⟨_, rfl⟩
       replace H : (impl_dedup.l0 kj8 x0_8 x1_8 a2 y280) = some r := by first | (rw [hy280]; with_reducible exact H) | (have H2_ := (Option.bind_some _ _).symm.trans H; rw [hy280]; with_reducible exact H2_) | (have H2_ := (Option.bind_some _ _).symm.trans H; with_reducible exact H2_) | with_reducible exact H | (rw [hy280]; exact H) | exact H
       have Ny280 := Aside0.mk hy280
       clear hy280
       have H' := Aside0.mk H
       clear H
       obtain ⟨Ao14, co14, eo14⟩ := Kd.V_slice HO_0.out
       subst eo14
       have p279 : 0 ≤ (0 : Int) := (by omega)
       have q279 : 0 < (x0_8.length : Int) := zX (by first | (with_reducible assumption) | assumption)
       obtain ⟨ad279, e279, hx279_0, hx279_1⟩ := at_T37 (Kd.V_reads' HO_0.out).2.2 0 p279 q279
       cases e279
       have qi279 : (0 < x0_8.length) = True := eq_true (by omega)
       (try rw [show ((0 : Int)).toNat = 0 from rfl] at hx279_0)
       (try rw [show 0 * 2 = 0 from rfl] at hx279_0)
       (try rw [Addr.add_zero'] at hx279_0)
       (try rw [show ((0 : Int)).toNat = 0 from rfl] at hx279_1)
       (try rw [show 0 * 2 = 0 from rfl] at hx279_1)
       (try rw [Addr.add_zero'] at hx279_1)
       replace p279 := eq_true p279
       replace q279 := eq_true q279
       go_wp2_with (first | ((with_reducible refine gate_dst (N := 40) rfl ?_); (try (refine gate_guard (by rfl) ?_; dsimp only)); refine Kd.R_lit k37 _ 37 ?hg (N := 40) ?hd (xs := ([(⟨(rd_T37 x0_8 0).f0, (rd_T37 x0_8 0).f1⟩ : S37)] : List (S37))) (inner := [.int .i64 ((rd_T37 x0_8 0).f0), .int .i64 ((rd_T37 x0_8 0).f1)]) (ok := fun _ => True) (okp := fun _ => True) ?hr ?hp (fun _ hk => hk) trivial (Below.refl _ _) (Nat.le_refl _) (by simp) ?_; (case hd => rfl); (case hg => rfl); (case hr => first | (go_simp; done) | (go_simp; rfl)); (case hp => exact (Reps.c2 (show Kd.M k37 _ _ _ (⟨(rd_T37 x0_8 0).f0, (rd_T37 x0_8 0).f1⟩ : S37) [.int .i64 ((rd_T37 x0_8 0).f0), .int .i64 ((rd_T37 x0_8 0).f1)] from (k37_mkM _ _ _ (⟨(rd_T37 x0_8 0).f0, (rd_T37 x0_8 0).f1⟩ : S37) )) (Reps.none _ _))); intro v281 w15 ho16 hb hg_ hnew_; clear hg_ hnew_; (first | rw [← Ny280.out] at ho16 | (simp only [Int.reduceToNat] at ho16; rw [← Ny280.out] at ho16)); have n0_ := Aside0.mk (Kd.V_elder' (by (with_reducible repeat (first | apply zM | apply zN | apply zO)); exact HO_0.out) (Kd.R_base ho16) hb); have n1_ := Aside0.mk (Kd.V_elder' (by (with_reducible repeat (first | apply zM | apply zN | apply zO)); exact HO_1.out) (Kd.R_base ho16) hb); have n2_ := Aside0.mk (Kd.R_lower (Kd.R_newM (M := fun k_ => (w.heap.size ≤ k_)) ho16 (zW (by repeat (first | (with_reducible first | exact HB.out | apply zA | apply zB | apply zC) | exact HB.out))) (fun k_ h_ => h_)) (zW (by repeat (first | (with_reducible first | exact HB.out | apply zA | apply zB | apply zC) | exact HB.out)))); have n3_ := Aside0.mk (below_step (by repeat (first | (with_reducible first | exact HB.out | apply zA | apply zB | apply zC) | exact HB.out)) hb); clear HO_0; clear HO_1; clear HB; have HO_0 := n0_; have HO_1 := n1_; have HO282 := n2_; have HB := n3_; clear n0_ n1_ n2_ n3_; clear hb ho16))
       repeat (go_quiet (first | ((with_reducible refine gate_dst (N := 40) rfl ?_); (try (refine gate_guard (by rfl) ?_; dsimp only)); refine Kd.R_lit k37 _ 37 ?hg (N := 40) ?hd (xs := ([(⟨(rd_T37 x0_8 0).f0, (rd_T37 x0_8 0).f1⟩ : S37)] : List (S37))) (inner := [.int .i64 ((rd_T37 x0_8 0).f0), .int .i64 ((rd_T37 x0_8 0).f1)]) (ok := fun _ => True) (okp := fun _ => True) ?hr ?hp (fun _ hk => hk) trivial (Below.refl _ _) (Nat.le_refl _) (by simp) ?_; (case hd => rfl); (case hg => rfl); (case hr => first | (go_simp; done) | (go_simp; rfl)); (case hp => exact (Reps.c2 (show Kd.M k37 _ _ _ (⟨(rd_T37 x0_8 0).f0, (rd_T37 x0_8 0).f1⟩ : S37) [.int .i64 ((rd_T37 x0_8 0).f0), .int .i64 ((rd_T37 x0_8 0).f1)] from (k37_mkM _ _ _ (⟨(rd_T37 x0_8 0).f0, (rd_T37 x0_8 0).f1⟩ : S37) )) (Reps.none _ _))); intro v281 w15 ho16 hb hg_ hnew_; clear hg_ hnew_; (first | rw [← Ny280.out] at ho16 | (simp only [Int.reduceToNat] at ho16; rw [← Ny280.out] at ho16)); have n0_ := Aside0.mk (Kd.V_elder' (by (with_reducible repeat (first | apply zM | apply zN | apply zO)); exact HO_0.out) (Kd.R_base ho16) hb); have n1_ := Aside0.mk (Kd.V_elder' (by (with_reducible repeat (first | apply zM | apply zN | apply zO)); exact HO_1.out) (Kd.R_base ho16) hb); have n2_ := Aside0.mk (Kd.R_lower (Kd.R_newM (M := fun k_ => (w.heap.size ≤ k_)) ho16 (zW (by repeat (first | (with_reducible first | exact HB.out | apply zA | apply zB | apply zC) | exact HB.out))) (fun k_ h_ => h_)) (zW (by repeat (first | (with_reducible first | exact HB.out | apply zA | apply zB | apply zC) | exact HB.out)))); have n3_ := Aside0.mk (below_step (by repeat (first | (with_reducible first | exact HB.out | apply zA | apply zB | apply zC) | exact HB.out)) hb); clear HO_0; clear HO_1; clear HB; have HO_0 := n0_; have HO_1 := n1_; have HO282 := n2_; have HB := n3_; clear n0_ n1_ n2_ n3_; clear hb ho16)); try go_wp2_with (first | ((with_reducible refine gate_dst (N := 40) rfl ?_); (try (refine gate_guard (by rfl) ?_; dsimp only)); refine Kd.R_lit k37 _ 37 ?hg (N := 40) ?hd (xs := ([(⟨(rd_T37 x0_8 0).f0, (rd_T37 x0_8 0).f1⟩ : S37)] : List (S37))) (inner := [.int .i64 ((rd_T37 x0_8 0).f0), .int .i64 ((rd_T37 x0_8 0).f1)]) (ok := fun _ => True) (okp := fun _ => True) ?hr ?hp (fun _ hk => hk) trivial (Below.refl _ _) (Nat.le_refl _) (by simp) ?_; (case hd => rfl); (case hg => rfl); (case hr => first | (go_simp; done) | (go_simp; rfl)); (case hp => exact (Reps.c2 (show Kd.M k37 _ _ _ (⟨(rd_T37 x0_8 0).f0, (rd_T37 x0_8 0).f1⟩ : S37) [.int .i64 ((rd_T37 x0_8 0).f0), .int .i64 ((rd_T37 x0_8 0).f1)] from (k37_mkM _ _ _ (⟨(rd_T37 x0_8 0).f0, (rd_T37 x0_8 0).f1⟩ : S37) )) (Reps.none _ _))); intro v281 w15 ho16 hb hg_ hnew_; clear hg_ hnew_; (first | rw [← Ny280.out] at ho16 | (simp only [Int.reduceToNat] at ho16; rw [← Ny280.out] at ho16)); have n0_ := Aside0.mk (Kd.V_elder' (by (with_reducible repeat (first | apply zM | apply zN | apply zO)); exact HO_0.out) (Kd.R_base ho16) hb); have n1_ := Aside0.mk (Kd.V_elder' (by (with_reducible repeat (first | apply zM | apply zN | apply zO)); exact HO_1.out) (Kd.R_base ho16) hb); have n2_ := Aside0.mk (Kd.R_lower (Kd.R_newM (M := fun k_ => (w.heap.size ≤ k_)) ho16 (zW (by repeat (first | (with_reducible first | exact HB.out | apply zA | apply zB | apply zC) | exact HB.out))) (fun k_ h_ => h_)) (zW (by repeat (first | (with_reducible first | exact HB.out | apply zA | apply zB | apply zC) | exact HB.out)))); have n3_ := Aside0.mk (below_step (by repeat (first | (with_reducible first | exact HB.out | apply zA | apply zB | apply zC) | exact HB.out)) hb); clear HO_0; clear HO_1; clear HB; have HO_0 := n0_; have HO_1 := n1_; have HO282 := n2_; have HB := n3_; clear n0_ n1_ n2_ n3_; clear hb ho16)))
       go_loopg [0, 1, 7] kj8 (fun kq v0 v1 v7 w' => ∃ (x0_3 : List (S37)) (x1_3 : List (S37)) (x7_3 : List (S37)), Aside0 (impl_dedup.l0 kq x0_3 x1_3 a2 x7_3 = some r) ∧ Aside0 (kq ≤ kj8) ∧ Aside0 (Kd.V k37 37 w' w.heap.size (fun k_ => ((P0_ k_ ∨ P1_ k_) ∨ w.heap.size ≤ k_) ∧ some k_ ≠ (v7 : Value).ownBlock) v0 x0_3) ∧ Aside0 (Kd.V k37 37 w' w.heap.size (fun k_ => ((P0_ k_ ∨ P1_ k_) ∨ w.heap.size ≤ k_) ∧ some k_ ≠ (v7 : Value).ownBlock) v1 x1_3) ∧ Aside0 (Kd.R k37 37 w' w.heap.size (fun k_ => (w.heap.size ≤ k_)) v7 x7_3) ∧ Aside0 (Below w.heap.size w w'))
       case atStart => exact ⟨(x0_8), (x1_8), (y280), H', ⟨Nat.le_refl _⟩, ⟨by (with_reducible repeat (first | apply zM | apply zN | apply zO)); exact HO_0.out⟩, ⟨by (with_reducible repeat (first | apply zM | apply zN | apply zO)); exact HO_1.out⟩, ⟨by (with_reducible repeat (first | apply zG | apply zH | apply zI)); exact Kd.R_mono HO282.out (fun _ hk => hk.1)⟩, ⟨by repeat (first | (with_reducible first | exact HB.out | apply zA | apply zB | apply zC) | exact HB.out)⟩⟩
       case round =>
        clear H'
        try clear c1
        try clear c2
        try clear p2
        try clear q2
        try clear hx2
        try clear qi2
        try clear c4
        try clear c5
        try clear c5b0
        try clear c5b1
        try clear c5b2
        try clear c6
        try clear c6b0
        try clear c6b1
        try clear c7
        try clear c7b0
        try clear c7b1
        try clear c8
        try clear c8b0
        try clear c8b1
        try clear c10
        try clear c11
        try clear c11b0
        try clear c11b1
        try clear c11b2
        try clear c13
        try clear c13b0
        try clear c13b1
        try clear hx277_0
        try clear hx277_1
        try clear hx278_0
        try clear hx278_1
        try clear hx279_0
        try clear hx279_1
        try clear p2
        try clear p277
        try clear p278
        try clear p279
        try clear q2
        try clear q277
        try clear q278
        try clear q279
        obtain ⟨x0_3, x1_3, x7_3, HA, HK3, HO_0, HO_1, HO_7, HB⟩ := hrel
        cases gk with
        | zero => exact absurd HA.out (by simp [impl_dedup.l0])
        | succ k3 =>
         have H := HA.out
         clear HA
         simp only [impl_dedup.l0] at H
         obtain ⟨ji17, hji17⟩ : ∃ j_ : Int, (wrap64 ((x7_3.length : Int) - 1)) = j_ := ⟨_, rfl⟩
         replace H : (if 0 ≤ (ji17) then (if (ji17) < (x7_3.length : Int) then ((impl_behind.f k3 x0_3 ((rd_T37 x7_3 (ji17)).f0)).bind fun bt284 => ((impl_behind.f k3 x1_3 ((rd_T37 x7_3 (ji17)).f0)).bind fun bt288 => (if bt284.2.2 = true then (impl_dedup.j3 k3 x0_3 x1_3 a2 x7_3 ((rd_T37 x7_3 (ji17)).f0) bt284.2.2 bt288.2.2 false bt284.1 bt284.2.1 bt288.1 bt288.2.1) else (impl_dedup.j3 k3 x0_3 x1_3 a2 x7_3 ((rd_T37 x7_3 (ji17)).f0) bt284.2.2 bt288.2.2 (!bt288.2.2) bt284.1 bt284.2.1 bt288.1 bt288.2.1)))) else (none)) else (none)) = some r := by first | (rw [hji17] at H; exact H) | (simp only [hji17] at H ⊢; exact H)
         have hji17w : (IntKind.i64.wrap ((x7_3.length : Int) - 1)) = ji17 := (i64_w _).trans hji17
         by_cases c18 : 0 ≤ (ji17)
         ·rw [if_pos c18] at H
          have c18b0 : decide (0 ≤ (ji17)) = true := decide_eq_true c18
          clear c18
          by_cases c19 : (ji17) < (x7_3.length : Int)
          ·rw [if_pos c19] at H
           have c19b0 : decide ((ji17) < (x7_3.length : Int)) = true := decide_eq_true c19
           clear c19
           replace H := Option.bind_eq_some_iff.mp H
           obtain ⟨⟨t284, t285, t286⟩, A200, H⟩ := H
           replace H : ((impl_behind.f k3 x1_3 ((rd_T37 x7_3 (ji17)).f0)).bind fun bt288 => (if t286 = true then (impl_dedup.j3 k3 x0_3 x1_3 a2 x7_3 ((rd_T37 x7_3 (ji17)).f0) t286 bt288.2.2 false t284 t285 bt288.1 bt288.2.1) else (impl_dedup.j3 k3 x0_3 x1_3 a2 x7_3 ((rd_T37 x7_3 (ji17)).f0) t286 bt288.2.2 (!bt288.2.2) t284 t285 bt288.1 bt288.2.1))) = some r := H
           have A20 := Aside0.mk A200
           clear A200
           replace H := Option.bind_eq_some_iff.mp H
           obtain ⟨⟨t288, t289, t290⟩, A210, H⟩ := H
           replace H : (if t286 = true then (impl_dedup.j3 k3 x0_3 x1_3 a2 x7_3 ((rd_T37 x7_3 (ji17)).f0) t286 t290 false t284 t285 t288 t289) else (impl_dedup.j3 k3 x0_3 x1_3 a2 x7_3 ((rd_T37 x7_3 (ji17)).f0) t286 t290 (!t290) t284 t285 t288 t289)) = some r := H
           have A21 := Aside0.mk A210
           clear A210
           have HC22 := Aside0.mk H
           clear H
           obtain ⟨Ao23, co23, eo23⟩ := Kd.R_slice HO_7.out
           subst eo23
           have p283 : 0 ≤ ((ji17) : Int) := zX (by first | (with_reducible assumption) | assumption)
           have q283 : (ji17) < (x7_3.length : Int) := zX (by first | (with_reducible assumption) | assumption)
           obtain ⟨ad283, e283, hx283_0, hx283_1⟩ := at_T37 (Kd.R_reads' HO_7.out).2.2 (ji17) p283 q283
           cases e283
           replace p283 := eq_true p283
           replace q283 := eq_true q283
           obtain ⟨Ao24, co24, eo24⟩ := Kd.V_slice HO_0.out
           subst eo24
           go_upto_region 10 with (first | (go_at_call 94; (with_reducible refine (impl_behind.calls k3 _ _ x0_3 ((rd_T37 x7_3 (ji17)).f0) t284 t285 t286 _ ?side1 ?side2 A20.out).mono ?_); (case side1 => repeat (first | exact (Kd.V_reads' HO_0.out).2.2 | (with_reducible refine zJ ?_ _) | (with_reducible refine zK ?_ _) | (with_reducible refine zL ?_))); (case side2 => exact (Kd.V_reads' HO_0.out).2.1); rintro e w25 ⟨rfl, hb⟩; have n0_ := Aside0.mk (Kd.V_below (by (with_reducible repeat (first | apply zM | apply zN | apply zO)); exact HO_0.out) hb); have n1_ := Aside0.mk (Kd.V_below (by (with_reducible repeat (first | apply zM | apply zN | apply zO)); exact HO_1.out) hb); have n2_ := Aside0.mk (Kd.R_below (by (with_reducible repeat (first | apply zG | apply zH | apply zI)); exact HO_7.out) hb); have n3_ := Aside0.mk (below_step (by repeat (first | (with_reducible first | exact HB.out | apply zA | apply zB | apply zC) | exact HB.out)) hb); clear HO_0; clear HO_1; clear HO_7; clear HB; have HO_0 := n0_; have HO_1 := n1_; have HO_7 := n2_; have HB := n3_; clear n0_ n1_ n2_ n3_; (try clear hb); (try clear hb2); (try clear hk); (try clear hi)) | ((with_reducible refine gate_dst (N := 9) rfl ?_); (try (refine gate_guard (by rfl) ?_; dsimp only)); refine box_event ?hg (N := 9) ?hd (cs := #[.int .i64 0, .int .i64 0]) (t := 37) ?hr ?_; (case hd => rfl); (case hg => rfl); (case hr => first | (go_simp; done) | (go_simp; rfl)); intro gb287 hg w26 hbox hb; have n0_ := Aside0.mk (Kd.V_below (Kd.V_elderB (by (with_reducible repeat (first | apply zM | apply zN | apply zO)); exact HO_0.out) gb287 (Nat.le_of_eq hg.symm)) hb); have n1_ := Aside0.mk (Kd.V_below (Kd.V_elderB (by (with_reducible repeat (first | apply zM | apply zN | apply zO)); exact HO_1.out) gb287 (Nat.le_of_eq hg.symm)) hb); have n2_ := Aside0.mk (Kd.R_below (Kd.R_elderB (by (with_reducible repeat (first | apply zG | apply zH | apply zI)); exact HO_7.out) gb287 (Nat.le_of_eq hg.symm)) hb); have n3_ := Aside0.mk (below_step (by repeat (first | (with_reducible first | exact HB.out | apply zA | apply zB | apply zC) | exact HB.out)) hb); have n4_ := Aside0.mk (hbox); have n5_ := Aside0.mk ((by rw [hg]; exact (zW (by repeat (first | (with_reducible first | exact HB.out | apply zA | apply zB | apply zC) | exact HB.out))) : w.heap.size ≤ gb287)); have n6_ := Aside0.mk ((by rw [hg]; exact (zW (by repeat (first | (with_reducible first | exact HB.out | apply zA | apply zB | apply zC) | exact HB.out))) : w.heap.size ≤ gb287)); clear HO_0; clear HO_1; clear HO_7; clear HB; have HO_0 := n0_; have HO_1 := n1_; have HO_7 := n2_; have HB := n3_; have BK287 := n4_; have GW287 := n5_; have GE287 := n6_; clear n0_ n1_ n2_ n3_ n4_ n5_ n6_; clear hb hbox hg; have hcz27_0 : w26.cell? ⟨gb287, 0, none⟩ = some (.int .i64 0) := (zQ BK287.out 0).trans rfl; have hcz27_1 : w26.cell? ⟨gb287, 1, none⟩ = some (.int .i64 0) := (zQ BK287.out 1).trans rfl; have hfz27_0 := blk_frozen BK287.out 0; have hfz27_1 := blk_frozen BK287.out 1; obtain ⟨Ao28, co28, eo28⟩ := Kd.V_slice HO_1.out; subst eo28) | (go_at_call 94; (with_reducible refine (impl_behind.calls k3 _ _ x1_3 ((rd_T37 x7_3 (ji17)).f0) t288 t289 t290 _ ?side1 ?side2 A21.out).mono ?_); (case side1 => refine (Kd.V_reads' (e := 37) (base := w.heap.size) (ok := fun k_ => ((((P0_ k_ ∨ P1_ k_) ∨ w.heap.size ≤ k_) ∧ some k_ ≠ (.slice (some ad283) x7_3.length co23 : Value).ownBlock) ∧ k_ ≠ gb287)) (n := x1_3.length) (c := co28) ?_).2.2; exact (by (with_reducible repeat (first | apply zM | apply zN | apply zO)); exact (Kd.V_mono (Kd.V_far (p := ⟨gb287, 1, none⟩) (Kd.V_far (p := ⟨gb287, 0, none⟩) (Kd.V_mono HO_1.out (fun k_ hk => (⟨hk, hk.2⟩ : _ ∧ k_ ≠ gb287))) (fun _ hk => hk.2) (.int .i64 t284)) (fun _ hk => hk.2) (.int .i64 t285)) (fun _ h_ => h_.1)))); (case side2 => exact (Kd.V_reads' HO_1.out).2.1); rintro e w29 ⟨rfl, hb⟩; have n0_ := Aside0.mk (Kd.V_below (by (with_reducible repeat (first | apply zM | apply zN | apply zO)); exact (Kd.V_mono (Kd.V_far (p := ⟨gb287, 1, none⟩) (Kd.V_far (p := ⟨gb287, 0, none⟩) (Kd.V_mono HO_0.out (fun k_ hk => (⟨hk, hk.2⟩ : _ ∧ k_ ≠ gb287))) (fun _ hk => hk.2) (.int .i64 t284)) (fun _ hk => hk.2) (.int .i64 t285)) (fun _ h_ => h_.1))) hb); have n1_ := Aside0.mk (Kd.V_below (by (with_reducible repeat (first | apply zM | apply zN | apply zO)); exact (Kd.V_mono (Kd.V_far (p := ⟨gb287, 1, none⟩) (Kd.V_far (p := ⟨gb287, 0, none⟩) (Kd.V_mono HO_1.out (fun k_ hk => (⟨hk, hk.2⟩ : _ ∧ k_ ≠ gb287))) (fun _ hk => hk.2) (.int .i64 t284)) (fun _ hk => hk.2) (.int .i64 t285)) (fun _ h_ => h_.1))) hb); have n2_ := Aside0.mk (Kd.R_below (by (with_reducible repeat (first | apply zG | apply zH | apply zI)); exact (Kd.R_mono (Kd.R_far (p := ⟨gb287, 1, none⟩) (Kd.R_far (p := ⟨gb287, 0, none⟩) (Kd.R_mono HO_7.out (fun k_ hk => (⟨hk, hk.2⟩ : _ ∧ k_ ≠ gb287))) (fun _ hk => hk.2) (.int .i64 t284)) (fun _ hk => hk.2) (.int .i64 t285)) (fun _ h_ => h_.1))) hb); have n3_ := Aside0.mk (blk_below (g := gb287) (o := .cells #[.int .i64 t284, .int .i64 t285] 37 (0, 0)) (by (with_reducible repeat (first | refine zE ?_ _ | refine zF ?_ | refine zD ?_ _)); refine blk_put (cs := #[.int .i64 t284, .int .i64 0]) ?_ 1 _ rfl; (with_reducible repeat (first | refine zE ?_ _ | refine zF ?_ | refine zD ?_ _)); refine blk_put (cs := #[.int .i64 0, .int .i64 0]) ?_ 0 _ rfl; (with_reducible repeat (first | refine zE ?_ _ | refine zF ?_ | refine zD ?_ _)); exact BK287.out) hb); have n4_ := Aside0.mk (below_step (by repeat (first | (with_reducible first | exact HB.out | apply zA | apply zB | apply zC | refine below_set ?_ GE287.out) | exact HB.out)) hb); clear HO_0; clear HO_1; clear HO_7; clear BK287; clear HB; have HO_0 := n0_; have HO_1 := n1_; have HO_7 := n2_; have BK287 := n3_; have HB := n4_; clear n0_ n1_ n2_ n3_ n4_; (try clear hb); (try clear hb2); (try clear hk); (try clear hi)) | ((with_reducible refine gate_dst (N := 11) rfl ?_); (try (refine gate_guard (by rfl) ?_; dsimp only)); refine box_event ?hg (N := 11) ?hd (cs := #[.int .i64 0, .int .i64 0]) (t := 37) ?hr ?_; (case hd => rfl); (case hg => rfl); (case hr => first | (go_simp; done) | (go_simp; rfl)); intro gb291 hg w30 hbox hb; have n0_ := Aside0.mk (Kd.V_below (Kd.V_elderB (by (with_reducible repeat (first | apply zM | apply zN | apply zO)); exact HO_0.out) gb291 (Nat.le_of_eq hg.symm)) hb); have n1_ := Aside0.mk (Kd.V_below (Kd.V_elderB (by (with_reducible repeat (first | apply zM | apply zN | apply zO)); exact HO_1.out) gb291 (Nat.le_of_eq hg.symm)) hb); have n2_ := Aside0.mk (Kd.R_below (Kd.R_elderB (by (with_reducible repeat (first | apply zG | apply zH | apply zI)); exact HO_7.out) gb291 (Nat.le_of_eq hg.symm)) hb); have n3_ := Aside0.mk (blk_below (g := gb287) (o := .cells #[.int .i64 t284, .int .i64 t285] 37 (0, 0)) (by (with_reducible repeat (first | refine zE ?_ _ | refine zF ?_ | refine zD ?_ _)); exact BK287.out) hb); have n4_ := Aside0.mk (below_step (by repeat (first | (with_reducible first | exact HB.out | apply zA | apply zB | apply zC | refine below_set ?_ GE287.out) | exact HB.out)) hb); have n5_ := Aside0.mk (hbox); have n6_ := Aside0.mk ((by rw [hg]; exact (zW (by repeat (first | (with_reducible first | exact HB.out | apply zA | apply zB | apply zC | refine below_set ?_ GE287.out) | exact HB.out))) : w.heap.size ≤ gb291)); have n7_ := Aside0.mk ((by rw [hg]; exact (zW (by repeat (first | (with_reducible first | exact HB.out | apply zA | apply zB | apply zC | refine below_set ?_ GE287.out) | exact HB.out))) : w.heap.size ≤ gb291)); have n8_ := Aside0.mk ((by rw [hg]; exact Nat.ne_of_lt (blk_lt (g := gb287) (o := .cells #[.int .i64 t284, .int .i64 t285] 37 (0, 0)) (by (with_reducible repeat (first | refine zE ?_ _ | refine zF ?_ | refine zD ?_ _)); exact BK287.out)) : gb287 ≠ gb291)); have n9_ := Aside0.mk ((by rw [hg]; exact Nat.ne_of_gt (blk_lt (g := gb287) (o := .cells #[.int .i64 t284, .int .i64 t285] 37 (0, 0)) (by (with_reducible repeat (first | refine zE ?_ _ | refine zF ?_ | refine zD ?_ _)); exact BK287.out)) : gb291 ≠ gb287)); clear HO_0; clear HO_1; clear HO_7; clear BK287; clear HB; have HO_0 := n0_; have HO_1 := n1_; have HO_7 := n2_; have BK287 := n3_; have HB := n4_; have BK291 := n5_; have GW291 := n6_; have GE291 := n7_; have NB287_291 := n8_; have NB291_287 := n9_; clear n0_ n1_ n2_ n3_ n4_ n5_ n6_ n7_ n8_ n9_; clear hb hbox hg; have hnb31 := NB291_287.out; have hnc31 := NB287_291.out; have hcz32_0 : w30.cell? ⟨gb291, 0, none⟩ = some (.int .i64 0) := (zQ BK291.out 0).trans rfl; have hcz32_1 : w30.cell? ⟨gb291, 1, none⟩ = some (.int .i64 0) := (zQ BK291.out 1).trans rfl; have hfz32_0 := blk_frozen BK291.out 0; have hfz32_1 := blk_frozen BK291.out 1))
           repeat (go_quiet (first | (go_at_call 94; (with_reducible refine (impl_behind.calls k3 _ _ x0_3 ((rd_T37 x7_3 (ji17)).f0) t284 t285 t286 _ ?side1 ?side2 A20.out).mono ?_); (case side1 => repeat (first | exact (Kd.V_reads' HO_0.out).2.2 | (with_reducible refine zJ ?_ _) | (with_reducible refine zK ?_ _) | (with_reducible refine zL ?_))); (case side2 => exact (Kd.V_reads' HO_0.out).2.1); rintro e w25 ⟨rfl, hb⟩; have n0_ := Aside0.mk (Kd.V_below (by (with_reducible repeat (first | apply zM | apply zN | apply zO)); exact HO_0.out) hb); have n1_ := Aside0.mk (Kd.V_below (by (with_reducible repeat (first | apply zM | apply zN | apply zO)); exact HO_1.out) hb); have n2_ := Aside0.mk (Kd.R_below (by (with_reducible repeat (first | apply zG | apply zH | apply zI)); exact HO_7.out) hb); have n3_ := Aside0.mk (below_step (by repeat (first | (with_reducible first | exact HB.out | apply zA | apply zB | apply zC) | exact HB.out)) hb); clear HO_0; clear HO_1; clear HO_7; clear HB; have HO_0 := n0_; have HO_1 := n1_; have HO_7 := n2_; have HB := n3_; clear n0_ n1_ n2_ n3_; (try clear hb); (try clear hb2); (try clear hk); (try clear hi)) | ((with_reducible refine gate_dst (N := 9) rfl ?_); (try (refine gate_guard (by rfl) ?_; dsimp only)); refine box_event ?hg (N := 9) ?hd (cs := #[.int .i64 0, .int .i64 0]) (t := 37) ?hr ?_; (case hd => rfl); (case hg => rfl); (case hr => first | (go_simp; done) | (go_simp; rfl)); intro gb287 hg w26 hbox hb; have n0_ := Aside0.mk (Kd.V_below (Kd.V_elderB (by (with_reducible repeat (first | apply zM | apply zN | apply zO)); exact HO_0.out) gb287 (Nat.le_of_eq hg.symm)) hb); have n1_ := Aside0.mk (Kd.V_below (Kd.V_elderB (by (with_reducible repeat (first | apply zM | apply zN | apply zO)); exact HO_1.out) gb287 (Nat.le_of_eq hg.symm)) hb); have n2_ := Aside0.mk (Kd.R_below (Kd.R_elderB (by (with_reducible repeat (first | apply zG | apply zH | apply zI)); exact HO_7.out) gb287 (Nat.le_of_eq hg.symm)) hb); have n3_ := Aside0.mk (below_step (by repeat (first | (with_reducible first | exact HB.out | apply zA | apply zB | apply zC) | exact HB.out)) hb); have n4_ := Aside0.mk (hbox); have n5_ := Aside0.mk ((by rw [hg]; exact (zW (by repeat (first | (with_reducible first | exact HB.out | apply zA | apply zB | apply zC) | exact HB.out))) : w.heap.size ≤ gb287)); have n6_ := Aside0.mk ((by rw [hg]; exact (zW (by repeat (first | (with_reducible first | exact HB.out | apply zA | apply zB | apply zC) | exact HB.out))) : w.heap.size ≤ gb287)); clear HO_0; clear HO_1; clear HO_7; clear HB; have HO_0 := n0_; have HO_1 := n1_; have HO_7 := n2_; have HB := n3_; have BK287 := n4_; have GW287 := n5_; have GE287 := n6_; clear n0_ n1_ n2_ n3_ n4_ n5_ n6_; clear hb hbox hg; have hcz27_0 : w26.cell? ⟨gb287, 0, none⟩ = some (.int .i64 0) := (zQ BK287.out 0).trans rfl; have hcz27_1 : w26.cell? ⟨gb287, 1, none⟩ = some (.int .i64 0) := (zQ BK287.out 1).trans rfl; have hfz27_0 := blk_frozen BK287.out 0; have hfz27_1 := blk_frozen BK287.out 1; obtain ⟨Ao28, co28, eo28⟩ := Kd.V_slice HO_1.out; subst eo28) | (go_at_call 94; (with_reducible refine (impl_behind.calls k3 _ _ x1_3 ((rd_T37 x7_3 (ji17)).f0) t288 t289 t290 _ ?side1 ?side2 A21.out).mono ?_); (case side1 => refine (Kd.V_reads' (e := 37) (base := w.heap.size) (ok := fun k_ => ((((P0_ k_ ∨ P1_ k_) ∨ w.heap.size ≤ k_) ∧ some k_ ≠ (.slice (some ad283) x7_3.length co23 : Value).ownBlock) ∧ k_ ≠ gb287)) (n := x1_3.length) (c := co28) ?_).2.2; exact (by (with_reducible repeat (first | apply zM | apply zN | apply zO)); exact (Kd.V_mono (Kd.V_far (p := ⟨gb287, 1, none⟩) (Kd.V_far (p := ⟨gb287, 0, none⟩) (Kd.V_mono HO_1.out (fun k_ hk => (⟨hk, hk.2⟩ : _ ∧ k_ ≠ gb287))) (fun _ hk => hk.2) (.int .i64 t284)) (fun _ hk => hk.2) (.int .i64 t285)) (fun _ h_ => h_.1)))); (case side2 => exact (Kd.V_reads' HO_1.out).2.1); rintro e w29 ⟨rfl, hb⟩; have n0_ := Aside0.mk (Kd.V_below (by (with_reducible repeat (first | apply zM | apply zN | apply zO)); exact (Kd.V_mono (Kd.V_far (p := ⟨gb287, 1, none⟩) (Kd.V_far (p := ⟨gb287, 0, none⟩) (Kd.V_mono HO_0.out (fun k_ hk => (⟨hk, hk.2⟩ : _ ∧ k_ ≠ gb287))) (fun _ hk => hk.2) (.int .i64 t284)) (fun _ hk => hk.2) (.int .i64 t285)) (fun _ h_ => h_.1))) hb); have n1_ := Aside0.mk (Kd.V_below (by (with_reducible repeat (first | apply zM | apply zN | apply zO)); exact (Kd.V_mono (Kd.V_far (p := ⟨gb287, 1, none⟩) (Kd.V_far (p := ⟨gb287, 0, none⟩) (Kd.V_mono HO_1.out (fun k_ hk => (⟨hk, hk.2⟩ : _ ∧ k_ ≠ gb287))) (fun _ hk => hk.2) (.int .i64 t284)) (fun _ hk => hk.2) (.int .i64 t285)) (fun _ h_ => h_.1))) hb); have n2_ := Aside0.mk (Kd.R_below (by (with_reducible repeat (first | apply zG | apply zH | apply zI)); exact (Kd.R_mono (Kd.R_far (p := ⟨gb287, 1, none⟩) (Kd.R_far (p := ⟨gb287, 0, none⟩) (Kd.R_mono HO_7.out (fun k_ hk => (⟨hk, hk.2⟩ : _ ∧ k_ ≠ gb287))) (fun _ hk => hk.2) (.int .i64 t284)) (fun _ hk => hk.2) (.int .i64 t285)) (fun _ h_ => h_.1))) hb); have n3_ := Aside0.mk (blk_below (g := gb287) (o := .cells #[.int .i64 t284, .int .i64 t285] 37 (0, 0)) (by (with_reducible repeat (first | refine zE ?_ _ | refine zF ?_ | refine zD ?_ _)); refine blk_put (cs := #[.int .i64 t284, .int .i64 0]) ?_ 1 _ rfl; (with_reducible repeat (first | refine zE ?_ _ | refine zF ?_ | refine zD ?_ _)); refine blk_put (cs := #[.int .i64 0, .int .i64 0]) ?_ 0 _ rfl; (with_reducible repeat (first | refine zE ?_ _ | refine zF ?_ | refine zD ?_ _)); exact BK287.out) hb); have n4_ := Aside0.mk (below_step (by repeat (first | (with_reducible first | exact HB.out | apply zA | apply zB | apply zC | refine below_set ?_ GE287.out) | exact HB.out)) hb); clear HO_0; clear HO_1; clear HO_7; clear BK287; clear HB; have HO_0 := n0_; have HO_1 := n1_; have HO_7 := n2_; have BK287 := n3_; have HB := n4_; clear n0_ n1_ n2_ n3_ n4_; (try clear hb); (try clear hb2); (try clear hk); (try clear hi)) | ((with_reducible refine gate_dst (N := 11) rfl ?_); (try (refine gate_guard (by rfl) ?_; dsimp only)); refine box_event ?hg (N := 11) ?hd (cs := #[.int .i64 0, .int .i64 0]) (t := 37) ?hr ?_; (case hd => rfl); (case hg => rfl); (case hr => first | (go_simp; done) | (go_simp; rfl)); intro gb291 hg w30 hbox hb; have n0_ := Aside0.mk (Kd.V_below (Kd.V_elderB (by (with_reducible repeat (first | apply zM | apply zN | apply zO)); exact HO_0.out) gb291 (Nat.le_of_eq hg.symm)) hb); have n1_ := Aside0.mk (Kd.V_below (Kd.V_elderB (by (with_reducible repeat (first | apply zM | apply zN | apply zO)); exact HO_1.out) gb291 (Nat.le_of_eq hg.symm)) hb); have n2_ := Aside0.mk (Kd.R_below (Kd.R_elderB (by (with_reducible repeat (first | apply zG | apply zH | apply zI)); exact HO_7.out) gb291 (Nat.le_of_eq hg.symm)) hb); have n3_ := Aside0.mk (blk_below (g := gb287) (o := .cells #[.int .i64 t284, .int .i64 t285] 37 (0, 0)) (by (with_reducible repeat (first | refine zE ?_ _ | refine zF ?_ | refine zD ?_ _)); exact BK287.out) hb); have n4_ := Aside0.mk (below_step (by repeat (first | (with_reducible first | exact HB.out | apply zA | apply zB | apply zC | refine below_set ?_ GE287.out) | exact HB.out)) hb); have n5_ := Aside0.mk (hbox); have n6_ := Aside0.mk ((by rw [hg]; exact (zW (by repeat (first | (with_reducible first | exact HB.out | apply zA | apply zB | apply zC | refine below_set ?_ GE287.out) | exact HB.out))) : w.heap.size ≤ gb291)); have n7_ := Aside0.mk ((by rw [hg]; exact (zW (by repeat (first | (with_reducible first | exact HB.out | apply zA | apply zB | apply zC | refine below_set ?_ GE287.out) | exact HB.out))) : w.heap.size ≤ gb291)); have n8_ := Aside0.mk ((by rw [hg]; exact Nat.ne_of_lt (blk_lt (g := gb287) (o := .cells #[.int .i64 t284, .int .i64 t285] 37 (0, 0)) (by (with_reducible repeat (first | refine zE ?_ _ | refine zF ?_ | refine zD ?_ _)); exact BK287.out)) : gb287 ≠ gb291)); have n9_ := Aside0.mk ((by rw [hg]; exact Nat.ne_of_gt (blk_lt (g := gb287) (o := .cells #[.int .i64 t284, .int .i64 t285] 37 (0, 0)) (by (with_reducible repeat (first | refine zE ?_ _ | refine zF ?_ | refine zD ?_ _)); exact BK287.out)) : gb291 ≠ gb287)); clear HO_0; clear HO_1; clear HO_7; clear BK287; clear HB; have HO_0 := n0_; have HO_1 := n1_; have HO_7 := n2_; have BK287 := n3_; have HB := n4_; have BK291 := n5_; have GW291 := n6_; have GE291 := n7_; have NB287_291 := n8_; have NB291_287 := n9_; clear n0_ n1_ n2_ n3_ n4_ n5_ n6_ n7_ n8_ n9_; clear hb hbox hg; have hnb31 := NB291_287.out; have hnc31 := NB287_291.out; have hcz32_0 : w30.cell? ⟨gb291, 0, none⟩ = some (.int .i64 0) := (zQ BK291.out 0).trans rfl; have hcz32_1 : w30.cell? ⟨gb291, 1, none⟩ = some (.int .i64 0) := (zQ BK291.out 1).trans rfl; have hfz32_0 := blk_frozen BK291.out 0; have hfz32_1 := blk_frozen BK291.out 1)); go_upto_region 10 with (first | (go_at_call 94; (with_reducible refine (impl_behind.calls k3 _ _ x0_3 ((rd_T37 x7_3 (ji17)).f0) t284 t285 t286 _ ?side1 ?side2 A20.out).mono ?_); (case side1 => repeat (first | exact (Kd.V_reads' HO_0.out).2.2 | (with_reducible refine zJ ?_ _) | (with_reducible refine zK ?_ _) | (with_reducible refine zL ?_))); (case side2 => exact (Kd.V_reads' HO_0.out).2.1); rintro e w25 ⟨rfl, hb⟩; have n0_ := Aside0.mk (Kd.V_below (by (with_reducible repeat (first | apply zM | apply zN | apply zO)); exact HO_0.out) hb); have n1_ := Aside0.mk (Kd.V_below (by (with_reducible repeat (first | apply zM | apply zN | apply zO)); exact HO_1.out) hb); have n2_ := Aside0.mk (Kd.R_below (by (with_reducible repeat (first | apply zG | apply zH | apply zI)); exact HO_7.out) hb); have n3_ := Aside0.mk (below_step (by repeat (first | (with_reducible first | exact HB.out | apply zA | apply zB | apply zC) | exact HB.out)) hb); clear HO_0; clear HO_1; clear HO_7; clear HB; have HO_0 := n0_; have HO_1 := n1_; have HO_7 := n2_; have HB := n3_; clear n0_ n1_ n2_ n3_; (try clear hb); (try clear hb2); (try clear hk); (try clear hi)) | ((with_reducible refine gate_dst (N := 9) rfl ?_); (try (refine gate_guard (by rfl) ?_; dsimp only)); refine box_event ?hg (N := 9) ?hd (cs := #[.int .i64 0, .int .i64 0]) (t := 37) ?hr ?_; (case hd => rfl); (case hg => rfl); (case hr => first | (go_simp; done) | (go_simp; rfl)); intro gb287 hg w26 hbox hb; have n0_ := Aside0.mk (Kd.V_below (Kd.V_elderB (by (with_reducible repeat (first | apply zM | apply zN | apply zO)); exact HO_0.out) gb287 (Nat.le_of_eq hg.symm)) hb); have n1_ := Aside0.mk (Kd.V_below (Kd.V_elderB (by (with_reducible repeat (first | apply zM | apply zN | apply zO)); exact HO_1.out) gb287 (Nat.le_of_eq hg.symm)) hb); have n2_ := Aside0.mk (Kd.R_below (Kd.R_elderB (by (with_reducible repeat (first | apply zG | apply zH | apply zI)); exact HO_7.out) gb287 (Nat.le_of_eq hg.symm)) hb); have n3_ := Aside0.mk (below_step (by repeat (first | (with_reducible first | exact HB.out | apply zA | apply zB | apply zC) | exact HB.out)) hb); have n4_ := Aside0.mk (hbox); have n5_ := Aside0.mk ((by rw [hg]; exact (zW (by repeat (first | (with_reducible first | exact HB.out | apply zA | apply zB | apply zC) | exact HB.out))) : w.heap.size ≤ gb287)); have n6_ := Aside0.mk ((by rw [hg]; exact (zW (by repeat (first | (with_reducible first | exact HB.out | apply zA | apply zB | apply zC) | exact HB.out))) : w.heap.size ≤ gb287)); clear HO_0; clear HO_1; clear HO_7; clear HB; have HO_0 := n0_; have HO_1 := n1_; have HO_7 := n2_; have HB := n3_; have BK287 := n4_; have GW287 := n5_; have GE287 := n6_; clear n0_ n1_ n2_ n3_ n4_ n5_ n6_; clear hb hbox hg; have hcz27_0 : w26.cell? ⟨gb287, 0, none⟩ = some (.int .i64 0) := (zQ BK287.out 0).trans rfl; have hcz27_1 : w26.cell? ⟨gb287, 1, none⟩ = some (.int .i64 0) := (zQ BK287.out 1).trans rfl; have hfz27_0 := blk_frozen BK287.out 0; have hfz27_1 := blk_frozen BK287.out 1; obtain ⟨Ao28, co28, eo28⟩ := Kd.V_slice HO_1.out; subst eo28) | (go_at_call 94; (with_reducible refine (impl_behind.calls k3 _ _ x1_3 ((rd_T37 x7_3 (ji17)).f0) t288 t289 t290 _ ?side1 ?side2 A21.out).mono ?_); (case side1 => refine (Kd.V_reads' (e := 37) (base := w.heap.size) (ok := fun k_ => ((((P0_ k_ ∨ P1_ k_) ∨ w.heap.size ≤ k_) ∧ some k_ ≠ (.slice (some ad283) x7_3.length co23 : Value).ownBlock) ∧ k_ ≠ gb287)) (n := x1_3.length) (c := co28) ?_).2.2; exact (by (with_reducible repeat (first | apply zM | apply zN | apply zO)); exact (Kd.V_mono (Kd.V_far (p := ⟨gb287, 1, none⟩) (Kd.V_far (p := ⟨gb287, 0, none⟩) (Kd.V_mono HO_1.out (fun k_ hk => (⟨hk, hk.2⟩ : _ ∧ k_ ≠ gb287))) (fun _ hk => hk.2) (.int .i64 t284)) (fun _ hk => hk.2) (.int .i64 t285)) (fun _ h_ => h_.1)))); (case side2 => exact (Kd.V_reads' HO_1.out).2.1); rintro e w29 ⟨rfl, hb⟩; have n0_ := Aside0.mk (Kd.V_below (by (with_reducible repeat (first | apply zM | apply zN | apply zO)); exact (Kd.V_mono (Kd.V_far (p := ⟨gb287, 1, none⟩) (Kd.V_far (p := ⟨gb287, 0, none⟩) (Kd.V_mono HO_0.out (fun k_ hk => (⟨hk, hk.2⟩ : _ ∧ k_ ≠ gb287))) (fun _ hk => hk.2) (.int .i64 t284)) (fun _ hk => hk.2) (.int .i64 t285)) (fun _ h_ => h_.1))) hb); have n1_ := Aside0.mk (Kd.V_below (by (with_reducible repeat (first | apply zM | apply zN | apply zO)); exact (Kd.V_mono (Kd.V_far (p := ⟨gb287, 1, none⟩) (Kd.V_far (p := ⟨gb287, 0, none⟩) (Kd.V_mono HO_1.out (fun k_ hk => (⟨hk, hk.2⟩ : _ ∧ k_ ≠ gb287))) (fun _ hk => hk.2) (.int .i64 t284)) (fun _ hk => hk.2) (.int .i64 t285)) (fun _ h_ => h_.1))) hb); have n2_ := Aside0.mk (Kd.R_below (by (with_reducible repeat (first | apply zG | apply zH | apply zI)); exact (Kd.R_mono (Kd.R_far (p := ⟨gb287, 1, none⟩) (Kd.R_far (p := ⟨gb287, 0, none⟩) (Kd.R_mono HO_7.out (fun k_ hk => (⟨hk, hk.2⟩ : _ ∧ k_ ≠ gb287))) (fun _ hk => hk.2) (.int .i64 t284)) (fun _ hk => hk.2) (.int .i64 t285)) (fun _ h_ => h_.1))) hb); have n3_ := Aside0.mk (blk_below (g := gb287) (o := .cells #[.int .i64 t284, .int .i64 t285] 37 (0, 0)) (by (with_reducible repeat (first | refine zE ?_ _ | refine zF ?_ | refine zD ?_ _)); refine blk_put (cs := #[.int .i64 t284, .int .i64 0]) ?_ 1 _ rfl; (with_reducible repeat (first | refine zE ?_ _ | refine zF ?_ | refine zD ?_ _)); refine blk_put (cs := #[.int .i64 0, .int .i64 0]) ?_ 0 _ rfl; (with_reducible repeat (first | refine zE ?_ _ | refine zF ?_ | refine zD ?_ _)); exact BK287.out) hb); have n4_ := Aside0.mk (below_step (by repeat (first | (with_reducible first | exact HB.out | apply zA | apply zB | apply zC | refine below_set ?_ GE287.out) | exact HB.out)) hb); clear HO_0; clear HO_1; clear HO_7; clear BK287; clear HB; have HO_0 := n0_; have HO_1 := n1_; have HO_7 := n2_; have BK287 := n3_; have HB := n4_; clear n0_ n1_ n2_ n3_ n4_; (try clear hb); (try clear hb2); (try clear hk); (try clear hi)) | ((with_reducible refine gate_dst (N := 11) rfl ?_); (try (refine gate_guard (by rfl) ?_; dsimp only)); refine box_event ?hg (N := 11) ?hd (cs := #[.int .i64 0, .int .i64 0]) (t := 37) ?hr ?_; (case hd => rfl); (case hg => rfl); (case hr => first | (go_simp; done) | (go_simp; rfl)); intro gb291 hg w30 hbox hb; have n0_ := Aside0.mk (Kd.V_below (Kd.V_elderB (by (with_reducible repeat (first | apply zM | apply zN | apply zO)); exact HO_0.out) gb291 (Nat.le_of_eq hg.symm)) hb); have n1_ := Aside0.mk (Kd.V_below (Kd.V_elderB (by (with_reducible repeat (first | apply zM | apply zN | apply zO)); exact HO_1.out) gb291 (Nat.le_of_eq hg.symm)) hb); have n2_ := Aside0.mk (Kd.R_below (Kd.R_elderB (by (with_reducible repeat (first | apply zG | apply zH | apply zI)); exact HO_7.out) gb291 (Nat.le_of_eq hg.symm)) hb); have n3_ := Aside0.mk (blk_below (g := gb287) (o := .cells #[.int .i64 t284, .int .i64 t285] 37 (0, 0)) (by (with_reducible repeat (first | refine zE ?_ _ | refine zF ?_ | refine zD ?_ _)); exact BK287.out) hb); have n4_ := Aside0.mk (below_step (by repeat (first | (with_reducible first | exact HB.out | apply zA | apply zB | apply zC | refine below_set ?_ GE287.out) | exact HB.out)) hb); have n5_ := Aside0.mk (hbox); have n6_ := Aside0.mk ((by rw [hg]; exact (zW (by repeat (first | (with_reducible first | exact HB.out | apply zA | apply zB | apply zC | refine below_set ?_ GE287.out) | exact HB.out))) : w.heap.size ≤ gb291)); have n7_ := Aside0.mk ((by rw [hg]; exact (zW (by repeat (first | (with_reducible first | exact HB.out | apply zA | apply zB | apply zC | refine below_set ?_ GE287.out) | exact HB.out))) : w.heap.size ≤ gb291)); have n8_ := Aside0.mk ((by rw [hg]; exact Nat.ne_of_lt (blk_lt (g := gb287) (o := .cells #[.int .i64 t284, .int .i64 t285] 37 (0, 0)) (by (with_reducible repeat (first | refine zE ?_ _ | refine zF ?_ | refine zD ?_ _)); exact BK287.out)) : gb287 ≠ gb291)); have n9_ := Aside0.mk ((by rw [hg]; exact Nat.ne_of_gt (blk_lt (g := gb287) (o := .cells #[.int .i64 t284, .int .i64 t285] 37 (0, 0)) (by (with_reducible repeat (first | refine zE ?_ _ | refine zF ?_ | refine zD ?_ _)); exact BK287.out)) : gb291 ≠ gb287)); clear HO_0; clear HO_1; clear HO_7; clear BK287; clear HB; have HO_0 := n0_; have HO_1 := n1_; have HO_7 := n2_; have BK287 := n3_; have HB := n4_; have BK291 := n5_; have GW291 := n6_; have GE291 := n7_; have NB287_291 := n8_; have NB291_287 := n9_; clear n0_ n1_ n2_ n3_ n4_ n5_ n6_ n7_ n8_ n9_; clear hb hbox hg; have hnb31 := NB291_287.out; have hnc31 := NB287_291.out; have hcz32_0 : w30.cell? ⟨gb291, 0, none⟩ = some (.int .i64 0) := (zQ BK291.out 0).trans rfl; have hcz32_1 : w30.cell? ⟨gb291, 1, none⟩ = some (.int .i64 0) := (zQ BK291.out 1).trans rfl; have hfz32_0 := blk_frozen BK291.out 0; have hfz32_1 := blk_frozen BK291.out 1)))
           (try simp only [Act.put, zT, zU, zV])
           go_cut [64] (fun v64 wc => ∃ (kq : Nat) (x64_21 : Bool), v64 = .bool x64_21 ∧ Aside0 (impl_dedup.j3 kq x0_3 x1_3 a2 x7_3 ((rd_T37 x7_3 (ji17)).f0) t286 t290 x64_21 t284 t285 t288 t289 = some r) ∧ Aside0 (kq ≤ k3) ∧ Aside0 (Kd.V k37 37 wc w.heap.size (fun k_ => ((P0_ k_ ∨ P1_ k_) ∨ w.heap.size ≤ k_) ∧ some k_ ≠ ((.slice (some ad283) x7_3.length co23) : Value).ownBlock ∧ k_ ≠ gb287 ∧ k_ ≠ gb291) (.slice Ao24 x0_3.length co24) x0_3) ∧ Aside0 (Kd.V k37 37 wc w.heap.size (fun k_ => ((P0_ k_ ∨ P1_ k_) ∨ w.heap.size ≤ k_) ∧ some k_ ≠ ((.slice (some ad283) x7_3.length co23) : Value).ownBlock ∧ k_ ≠ gb287 ∧ k_ ≠ gb291) (.slice Ao28 x1_3.length co28) x1_3) ∧ Aside0 (Kd.R k37 37 wc w.heap.size (fun k_ => (w.heap.size ≤ k_) ∧ k_ ≠ gb287 ∧ k_ ≠ gb291) (.slice (some ad283) x7_3.length co23) x7_3) ∧ Aside0 (wc.heap[gb287]? = some (.cells #[.int .i64 t284, .int .i64 t285] 37 (0, 0))) ∧ Aside0 (wc.heap[gb291]? = some (.cells #[.int .i64 t288, .int .i64 t289] 37 (0, 0))) ∧ Aside0 (Below w.heap.size w wc))
           case first =>
            have H := HC22.out
            clear HC22
            by_cases c33 : t286 = true
            ·subst c33
             have H1 : (impl_dedup.j3 k3 x0_3 x1_3 a2 x7_3 ((rd_T37 x7_3 (ji17)).f0) true t290 false t284 t285 t288 t289) = some r := by rw [if_pos rfl] at H; exact H
             clear H
             have H := H1
             clear H1
             have H' := Aside0.mk H
             clear H
             go_wp2
             repeat (go_quiet (fail); try go_wp2)
             go_meet
             case rel => exact ⟨_, (false), (by first | rfl | (simp; done) | (simp [*]; done)), H', ⟨by have := HJ3.out; have := HJ8.out; have := HK3.out; first | omega | exact Nat.le_refl _⟩, ⟨by (with_reducible repeat (first | apply zM | apply zN | apply zO)); exact Kd.V_mono (Kd.V_far (p := ⟨gb291, 1, none⟩) (Kd.V_far (p := ⟨gb291, 0, none⟩) (Kd.V_mono HO_0.out (fun k_ hk => (⟨hk, hk.2⟩ : _ ∧ k_ ≠ gb291))) (fun _ hk => hk.2) (.int .i64 t288)) (fun _ hk => hk.2) (.int .i64 t289)) (fun _ hk => ⟨hk.1.1.1.1, ⟨hk.1.1.1.2, ⟨hk.1.1.2, hk.1.2⟩⟩⟩)⟩, ⟨by (with_reducible repeat (first | apply zM | apply zN | apply zO)); exact Kd.V_mono (Kd.V_far (p := ⟨gb291, 1, none⟩) (Kd.V_far (p := ⟨gb291, 0, none⟩) (Kd.V_mono HO_1.out (fun k_ hk => (⟨hk, hk.2⟩ : _ ∧ k_ ≠ gb291))) (fun _ hk => hk.2) (.int .i64 t288)) (fun _ hk => hk.2) (.int .i64 t289)) (fun _ hk => ⟨hk.1.1.1.1, ⟨hk.1.1.1.2, ⟨hk.1.1.2, hk.1.2⟩⟩⟩)⟩, ⟨by (with_reducible repeat (first | apply zG | apply zH | apply zI)); exact Kd.R_mono (Kd.R_far (p := ⟨gb291, 1, none⟩) (Kd.R_far (p := ⟨gb291, 0, none⟩) (Kd.R_mono HO_7.out (fun k_ hk => (⟨hk, hk.2⟩ : _ ∧ k_ ≠ gb291))) (fun _ hk => hk.2) (.int .i64 t288)) (fun _ hk => hk.2) (.int .i64 t289)) (fun _ hk => ⟨hk.1.1.1, ⟨hk.1.1.2, hk.1.2⟩⟩)⟩, ⟨by (with_reducible repeat (first | refine zE ?_ _ | refine zF ?_ | refine zD ?_ _)); refine blk_far ?_ NB287_291.out _; (with_reducible repeat (first | refine zE ?_ _ | refine zF ?_ | refine zD ?_ _)); refine blk_far ?_ NB287_291.out _; (with_reducible repeat (first | refine zE ?_ _ | refine zF ?_ | refine zD ?_ _)); exact BK287.out⟩, ⟨by (with_reducible repeat (first | refine zE ?_ _ | refine zF ?_ | refine zD ?_ _)); refine blk_put (cs := #[.int .i64 t288, .int .i64 0]) ?_ 1 _ rfl; (with_reducible repeat (first | refine zE ?_ _ | refine zF ?_ | refine zD ?_ _)); refine blk_put (cs := #[.int .i64 0, .int .i64 0]) ?_ 0 _ rfl; (with_reducible repeat (first | refine zE ?_ _ | refine zF ?_ | refine zD ?_ _)); exact BK291.out⟩, ⟨by repeat (first | (with_reducible first | exact HB.out | apply zA | apply zB | apply zC | refine below_set ?_ GE287.out | refine below_set ?_ GE291.out) | exact HB.out)⟩⟩
            ·replace c33 := Bool.eq_false_iff.mpr c33
             subst c33
             have H1 : (impl_dedup.j3 k3 x0_3 x1_3 a2 x7_3 ((rd_T37 x7_3 (ji17)).f0) false t290 (!t290) t284 t285 t288 t289) = some r := by rw [if_neg (show ¬ (false = true) by decide)] at H; exact H
             clear H
             have H := H1
             clear H1
             have H' := Aside0.mk H
             clear H
             go_wp2
             repeat (go_quiet (fail); try go_wp2)
             go_meet
             case rel => exact ⟨_, (!t290), (by first | rfl | (simp; done) | (simp [*]; done)), H', ⟨by have := HJ3.out; have := HJ8.out; have := HK3.out; first | omega | exact Nat.le_refl _⟩, ⟨by (with_reducible repeat (first | apply zM | apply zN | apply zO)); exact Kd.V_mono (Kd.V_far (p := ⟨gb291, 1, none⟩) (Kd.V_far (p := ⟨gb291, 0, none⟩) (Kd.V_mono HO_0.out (fun k_ hk => (⟨hk, hk.2⟩ : _ ∧ k_ ≠ gb291))) (fun _ hk => hk.2) (.int .i64 t288)) (fun _ hk => hk.2) (.int .i64 t289)) (fun _ hk => ⟨hk.1.1.1.1, ⟨hk.1.1.1.2, ⟨hk.1.1.2, hk.1.2⟩⟩⟩)⟩, ⟨by (with_reducible repeat (first | apply zM | apply zN | apply zO)); exact Kd.V_mono (Kd.V_far (p := ⟨gb291, 1, none⟩) (Kd.V_far (p := ⟨gb291, 0, none⟩) (Kd.V_mono HO_1.out (fun k_ hk => (⟨hk, hk.2⟩ : _ ∧ k_ ≠ gb291))) (fun _ hk => hk.2) (.int .i64 t288)) (fun _ hk => hk.2) (.int .i64 t289)) (fun _ hk => ⟨hk.1.1.1.1, ⟨hk.1.1.1.2, ⟨hk.1.1.2, hk.1.2⟩⟩⟩)⟩, ⟨by (with_reducible repeat (first | apply zG | apply zH | apply zI)); exact Kd.R_mono (Kd.R_far (p := ⟨gb291, 1, none⟩) (Kd.R_far (p := ⟨gb291, 0, none⟩) (Kd.R_mono HO_7.out (fun k_ hk => (⟨hk, hk.2⟩ : _ ∧ k_ ≠ gb291))) (fun _ hk => hk.2) (.int .i64 t288)) (fun _ hk => hk.2) (.int .i64 t289)) (fun _ hk => ⟨hk.1.1.1, ⟨hk.1.1.2, hk.1.2⟩⟩)⟩, ⟨by (with_reducible repeat (first | refine zE ?_ _ | refine zF ?_ | refine zD ?_ _)); refine blk_far ?_ NB287_291.out _; (with_reducible repeat (first | refine zE ?_ _ | refine zF ?_ | refine zD ?_ _)); refine blk_far ?_ NB287_291.out _; (with_reducible repeat (first | refine zE ?_ _ | refine zF ?_ | refine zD ?_ _)); exact BK287.out⟩, ⟨by (with_reducible repeat (first | refine zE ?_ _ | refine zF ?_ | refine zD ?_ _)); refine blk_put (cs := #[.int .i64 t288, .int .i64 0]) ?_ 1 _ rfl; (with_reducible repeat (first | refine zE ?_ _ | refine zF ?_ | refine zD ?_ _)); refine blk_put (cs := #[.int .i64 0, .int .i64 0]) ?_ 0 _ rfl; (with_reducible repeat (first | refine zE ?_ _ | refine zF ?_ | refine zD ?_ _)); exact BK291.out⟩, ⟨by repeat (first | (with_reducible first | exact HB.out | apply zA | apply zB | apply zC | refine below_set ?_ GE287.out | refine below_set ?_ GE291.out) | exact HB.out)⟩⟩
           case rest =>
            clear HC22
            try clear c1
            try clear c2
            try clear p2
            try clear q2
            try clear hx2
            try clear qi2
            try clear c3
            try clear c4
            try clear c5
            try clear c5b0
            try clear c5b1
            try clear c5b2
            try clear c6
            try clear c6b0
            try clear c6b1
            try clear p6
            try clear c7
            try clear c7b0
            try clear c7b1
            try clear c8
            try clear c8b0
            try clear c8b1
            try clear c10
            try clear c11
            try clear c11b0
            try clear c11b1
            try clear c11b2
            try clear c13
            try clear c13b0
            try clear c13b1
            try clear c18
            try clear c18b0
            try clear c19
            try clear c19b0
            try clear p27
            try clear q27
            try clear hx27
            try clear qi27
            try clear p28
            try clear q28
            try clear hx28
            try clear c31
            try clear c33
            try clear hcz27_0
            try clear hcz27_1
            try clear hcz32_0
            try clear hcz32_1
            try clear hfz27_0
            try clear hfz27_1
            try clear hfz32_0
            try clear hfz32_1
            try clear hx277_0
            try clear hx277_1
            try clear hx278_0
            try clear hx278_1
            try clear hx279_0
            try clear hx279_1
            try clear hx283_0
            try clear hx283_1
            try clear p2
            try clear p277
            try clear p278
            try clear p279
            try clear p283
            try clear q2
            try clear q277
            try clear q278
            try clear q279
            try clear q283
            obtain ⟨kq, x64_21, rfl, HA, HJ21, HO_0, HO_1, HO_7, BK287, BK291, HB⟩ := hcut
            cases kq with
            | zero => exact absurd HA.out (by simp [impl_dedup.j3])
            | succ kj21 =>
             have H := HA.out
             clear HA
             simp only [impl_dedup.j3] at H
             by_cases c34 : x64_21 = true
             ·subst c34
              have H1 : (some x7_3) = some r := by rw [if_pos rfl] at H; exact H
              clear H
              have H := H1
              clear H1
              obtain rfl := Option.some.inj H
              go_wp2
              repeat (go_quiet (fail); try go_wp2)
              go_ret
              exact ⟨_, by first | rfl | (simp [errW_none, errW_some] <;> rfl) | (simp only [← hji17]; first | rfl | (simp [errW_none, errW_some] <;> rfl)) | (simp [*, errW_none, errW_some] <;> rfl), by (with_reducible repeat (first | apply zG | apply zH | apply zI)); exact Kd.R_mono HO_7.out (fun _ hk => hk.1), by repeat (first | (with_reducible first | exact HB.out | apply zA | apply zB | apply zC | refine below_set ?_ GE287.out | refine below_set ?_ GE291.out) | exact HB.out)⟩
             ·replace c34 := Bool.eq_false_iff.mpr c34
              subst c34
              have H1 : (if t286 = true then (if t284 > (wrap64 (((rd_T37 x7_3 (ji17)).f0) + a2)) then (if t290 = true then (impl_dedup.j4 kj21 x0_3 x1_3 a2 x7_3 (decide (t288 < t284)) t284 t285 t288 t289) else (impl_dedup.j4 kj21 x0_3 x1_3 a2 x7_3 false t284 t285 t288 t289)) else (impl_dedup.j4 kj21 x0_3 x1_3 a2 x7_3 false t284 t285 t288 t289)) else (impl_dedup.j4 kj21 x0_3 x1_3 a2 x7_3 true t284 t285 t288 t289)) = some r := by rw [if_neg (show ¬ (false = true) by decide)] at H; exact H
              clear H
              have H := H1
              clear H1
              have HC35 := Aside0.mk H
              clear H
              go_upto_region 12 with (fail)
              repeat (go_quiet (fail); go_upto_region 12 with (fail))
              go_cut [72] (fun v72 wc => ∃ (kq : Nat) (x72_34 : Bool), v72 = .bool x72_34 ∧ Aside0 (impl_dedup.j4 kq x0_3 x1_3 a2 x7_3 x72_34 t284 t285 t288 t289 = some r) ∧ Aside0 (kq ≤ kj21) ∧ Aside0 (Kd.V k37 37 wc w.heap.size (fun k_ => ((P0_ k_ ∨ P1_ k_) ∨ w.heap.size ≤ k_) ∧ some k_ ≠ ((.slice (some ad283) x7_3.length co23) : Value).ownBlock ∧ k_ ≠ gb287 ∧ k_ ≠ gb291) (.slice Ao24 x0_3.length co24) x0_3) ∧ Aside0 (Kd.V k37 37 wc w.heap.size (fun k_ => ((P0_ k_ ∨ P1_ k_) ∨ w.heap.size ≤ k_) ∧ some k_ ≠ ((.slice (some ad283) x7_3.length co23) : Value).ownBlock ∧ k_ ≠ gb287 ∧ k_ ≠ gb291) (.slice Ao28 x1_3.length co28) x1_3) ∧ Aside0 (Kd.R k37 37 wc w.heap.size (fun k_ => (w.heap.size ≤ k_) ∧ k_ ≠ gb287 ∧ k_ ≠ gb291) (.slice (some ad283) x7_3.length co23) x7_3) ∧ Aside0 (wc.heap[gb287]? = some (.cells #[.int .i64 t284, .int .i64 t285] 37 (0, 0))) ∧ Aside0 (wc.heap[gb291]? = some (.cells #[.int .i64 t288, .int .i64 t289] 37 (0, 0))) ∧ Aside0 (Below w.heap.size w wc))
              case first =>
               have H := HC35.out
               clear HC35
               by_cases c36 : t286 = true
               ·subst c36
                have H1 : (if t284 > (wrap64 (((rd_T37 x7_3 (ji17)).f0) + a2)) then (if t290 = true then (impl_dedup.j4 kj21 x0_3 x1_3 a2 x7_3 (decide (t288 < t284)) t284 t285 t288 t289) else (impl_dedup.j4 kj21 x0_3 x1_3 a2 x7_3 false t284 t285 t288 t289)) else (impl_dedup.j4 kj21 x0_3 x1_3 a2 x7_3 false t284 t285 t288 t289)) = some r := by rw [if_pos rfl] at H; exact H
                clear H
                have H := H1
                clear H1
                by_cases c37 : t284 > (wrap64 (((rd_T37 x7_3 (ji17)).f0) + a2))
                ·rw [if_pos c37] at H
                 have c37b0 : decide ((wrap64 (((rd_T37 x7_3 (ji17)).f0) + a2)) < t284) = true := decide_eq_true c37
                 clear c37
                 (first | rw [c37b0] | (simp only [i64_w, i32_w]; rw [c37b0]) | skip)
                 by_cases c38 : t290 = true
                 ·subst c38
                  have H1 : (impl_dedup.j4 kj21 x0_3 x1_3 a2 x7_3 (decide (t288 < t284)) t284 t285 t288 t289) = some r := by rw [if_pos rfl] at H; exact H
                  clear H
                  have H := H1
                  clear H1
                  have H' := Aside0.mk H
                  clear H
                  have hnb39 := NB287_291.out
                  have hnc39 := NB291_287.out
                  have hcz40_0 : wc.cell? ⟨gb287, 0, none⟩ = some (.int .i64 t284) := (zQ BK287.out 0).trans rfl
                  have hcz40_1 : wc.cell? ⟨gb287, 1, none⟩ = some (.int .i64 t285) := (zQ BK287.out 1).trans rfl
                  have hfz40_0 := blk_frozen BK287.out 0
                  have hfz40_1 := blk_frozen BK287.out 1
                  have hcz41_0 : wc.cell? ⟨gb291, 0, none⟩ = some (.int .i64 t288) := (zQ BK291.out 0).trans rfl
                  have hcz41_1 : wc.cell? ⟨gb291, 1, none⟩ = some (.int .i64 t289) := (zQ BK291.out 1).trans rfl
                  have hfz41_0 := blk_frozen BK291.out 0
                  have hfz41_1 := blk_frozen BK291.out 1
                  go_wp2
                  repeat (go_quiet (fail); try go_wp2)
                  go_meet
                  case rel => exact ⟨_, (decide (t288 < t284)), (by first | rfl | (simp; done) | (simp [*]; done)), H', ⟨by have := HJ3.out; have := HJ8.out; have := HK3.out; have := HJ21.out; first | omega | exact Nat.le_refl _⟩, ⟨by (with_reducible repeat (first | apply zM | apply zN | apply zO)); exact HO_0.out⟩, ⟨by (with_reducible repeat (first | apply zM | apply zN | apply zO)); exact HO_1.out⟩, ⟨by (with_reducible repeat (first | apply zG | apply zH | apply zI)); exact HO_7.out⟩, ⟨by (with_reducible repeat (first | refine zE ?_ _ | refine zF ?_ | refine zD ?_ _)); exact BK287.out⟩, ⟨by (with_reducible repeat (first | refine zE ?_ _ | refine zF ?_ | refine zD ?_ _)); exact BK291.out⟩, ⟨by repeat (first | (with_reducible first | exact HB.out | apply zA | apply zB | apply zC | refine below_set ?_ GE287.out | refine below_set ?_ GE291.out) | exact HB.out)⟩⟩
                 ·replace c38 := Bool.eq_false_iff.mpr c38
                  subst c38
                  have H1 : (impl_dedup.j4 kj21 x0_3 x1_3 a2 x7_3 false t284 t285 t288 t289) = some r := by rw [if_neg (show ¬ (false = true) by decide)] at H; exact H
                  clear H
                  have H := H1
                  clear H1
                  have H' := Aside0.mk H
                  clear H
                  have hnb42 := NB287_291.out
                  have hnc42 := NB291_287.out
                  have hcz43_0 : wc.cell? ⟨gb287, 0, none⟩ = some (.int .i64 t284) := (zQ BK287.out 0).trans rfl
                  have hcz43_1 : wc.cell? ⟨gb287, 1, none⟩ = some (.int .i64 t285) := (zQ BK287.out 1).trans rfl
                  have hfz43_0 := blk_frozen BK287.out 0
                  have hfz43_1 := blk_frozen BK287.out 1
                  go_wp2
                  repeat (go_quiet (fail); try go_wp2)
                  go_meet
                  case rel => exact ⟨_, (false), (by first | rfl | (simp; done) | (simp [*]; done)), H', ⟨by have := HJ3.out; have := HJ8.out; have := HK3.out; have := HJ21.out; first | omega | exact Nat.le_refl _⟩, ⟨by (with_reducible repeat (first | apply zM | apply zN | apply zO)); exact HO_0.out⟩, ⟨by (with_reducible repeat (first | apply zM | apply zN | apply zO)); exact HO_1.out⟩, ⟨by (with_reducible repeat (first | apply zG | apply zH | apply zI)); exact HO_7.out⟩, ⟨by (with_reducible repeat (first | refine zE ?_ _ | refine zF ?_ | refine zD ?_ _)); exact BK287.out⟩, ⟨by (with_reducible repeat (first | refine zE ?_ _ | refine zF ?_ | refine zD ?_ _)); exact BK291.out⟩, ⟨by repeat (first | (with_reducible first | exact HB.out | apply zA | apply zB | apply zC | refine below_set ?_ GE287.out | refine below_set ?_ GE291.out) | exact HB.out)⟩⟩
                ·rw [if_neg c37] at H
                 have c37b0 : decide ((wrap64 (((rd_T37 x7_3 (ji17)).f0) + a2)) < t284) = false := decide_eq_false c37
                 clear c37
                 (first | rw [c37b0] | (simp only [i64_w, i32_w]; rw [c37b0]) | skip)
                 have H' := Aside0.mk H
                 clear H
                 have hnb44 := NB287_291.out
                 have hnc44 := NB291_287.out
                 have hcz45_0 : wc.cell? ⟨gb287, 0, none⟩ = some (.int .i64 t284) := (zQ BK287.out 0).trans rfl
                 have hcz45_1 : wc.cell? ⟨gb287, 1, none⟩ = some (.int .i64 t285) := (zQ BK287.out 1).trans rfl
                 have hfz45_0 := blk_frozen BK287.out 0
                 have hfz45_1 := blk_frozen BK287.out 1
                 go_wp2
                 repeat (go_quiet (fail); try go_wp2)
                 go_meet
                 case rel => exact ⟨_, (false), (by first | rfl | (simp; done) | (simp [*]; done)), H', ⟨by have := HJ3.out; have := HJ8.out; have := HK3.out; have := HJ21.out; first | omega | exact Nat.le_refl _⟩, ⟨by (with_reducible repeat (first | apply zM | apply zN | apply zO)); exact HO_0.out⟩, ⟨by (with_reducible repeat (first | apply zM | apply zN | apply zO)); exact HO_1.out⟩, ⟨by (with_reducible repeat (first | apply zG | apply zH | apply zI)); exact HO_7.out⟩, ⟨by (with_reducible repeat (first | refine zE ?_ _ | refine zF ?_ | refine zD ?_ _)); exact BK287.out⟩, ⟨by (with_reducible repeat (first | refine zE ?_ _ | refine zF ?_ | refine zD ?_ _)); exact BK291.out⟩, ⟨by repeat (first | (with_reducible first | exact HB.out | apply zA | apply zB | apply zC | refine below_set ?_ GE287.out | refine below_set ?_ GE291.out) | exact HB.out)⟩⟩
               ·replace c36 := Bool.eq_false_iff.mpr c36
                subst c36
                have H1 : (impl_dedup.j4 kj21 x0_3 x1_3 a2 x7_3 true t284 t285 t288 t289) = some r := by rw [if_neg (show ¬ (false = true) by decide)] at H; exact H
                clear H
                have H := H1
                clear H1
                have H' := Aside0.mk H
                clear H
                go_wp2
                repeat (go_quiet (fail); try go_wp2)
                go_meet
                case rel => exact ⟨_, (true), (by first | rfl | (simp; done) | (simp [*]; done)), H', ⟨by have := HJ3.out; have := HJ8.out; have := HK3.out; have := HJ21.out; first | omega | exact Nat.le_refl _⟩, ⟨by (with_reducible repeat (first | apply zM | apply zN | apply zO)); exact HO_0.out⟩, ⟨by (with_reducible repeat (first | apply zM | apply zN | apply zO)); exact HO_1.out⟩, ⟨by (with_reducible repeat (first | apply zG | apply zH | apply zI)); exact HO_7.out⟩, ⟨by (with_reducible repeat (first | refine zE ?_ _ | refine zF ?_ | refine zD ?_ _)); exact BK287.out⟩, ⟨by (with_reducible repeat (first | refine zE ?_ _ | refine zF ?_ | refine zD ?_ _)); exact BK291.out⟩, ⟨by repeat (first | (with_reducible first | exact HB.out | apply zA | apply zB | apply zC | refine below_set ?_ GE287.out | refine below_set ?_ GE291.out) | exact HB.out)⟩⟩
              case rest =>
               clear HC35
               try clear c1
               try clear c2
               try clear p2
               try clear q2
               try clear hx2
               try clear qi2
               try clear c3
               try clear c4
               try clear c5
               try clear c5b0
               try clear c5b1
               try clear c5b2
               try clear c6
               try clear c6b0
               try clear c6b1
               try clear p6
               try clear c7
               try clear c7b0
               try clear c7b1
               try clear c8
               try clear c8b0
               try clear c8b1
               try clear c10
               try clear c11
               try clear c11b0
               try clear c11b1
               try clear c11b2
               try clear c13
               try clear c13b0
               try clear c13b1
               try clear c18
               try clear c18b0
               try clear c19
               try clear c19b0
               try clear p27
               try clear q27
               try clear hx27
               try clear qi27
               try clear p28
               try clear q28
               try clear hx28
               try clear c31
               try clear c33
               try clear c34
               try clear c36
               try clear c37
               try clear c37b0
               try clear c38
               try clear c39
               try clear c42
               try clear c44
               try clear hcz27_0
               try clear hcz27_1
               try clear hcz32_0
               try clear hcz32_1
               try clear hcz40_0
               try clear hcz40_1
               try clear hcz41_0
               try clear hcz41_1
               try clear hcz43_0
               try clear hcz43_1
               try clear hcz45_0
               try clear hcz45_1
               try clear hfz27_0
               try clear hfz27_1
               try clear hfz32_0
               try clear hfz32_1
               try clear hfz40_0
               try clear hfz40_1
               try clear hfz41_0
               try clear hfz41_1
               try clear hfz43_0
               try clear hfz43_1
               try clear hfz45_0
               try clear hfz45_1
               try clear hx277_0
               try clear hx277_1
               try clear hx278_0
               try clear hx278_1
               try clear hx279_0
               try clear hx279_1
               try clear hx283_0
               try clear hx283_1
               try clear p2
               try clear p27
               try clear p277
               try clear p278
               try clear p279
               try clear p28
               try clear p283
               try clear p6
               try clear q2
               try clear q27
               try clear q277
               try clear q278
               try clear q279
               try clear q28
               try clear q283
               obtain ⟨kq, x72_34, rfl, HA, HJ34, HO_0, HO_1, HO_7, BK287, BK291, HB⟩ := hcut
               cases kq with
               | zero => exact absurd HA.out (by simp [impl_dedup.j4])
               | succ kj34 =>
                have H := HA.out
                clear HA
                simp only [impl_dedup.j4] at H
                by_cases c46 : x72_34 = true
                ·subst c46
                 have H1 : (if x7_3.length < 8796093022208 then (impl_dedup.l0 kj34 x1_3 x0_3 a2 (x7_3 ++ [(⟨t288, t289⟩ : S37)])) else (none)) = some r := by rw [if_pos rfl] at H; exact H
                 clear H
                 have H := H1
                 clear H1
                 by_cases c47 : x7_3.length < 8796093022208
                 ·rw [if_pos c47] at H
                  have LMc47 := Aside0.mk c47
                  clear c47
                  obtain ⟨y292, hy292⟩ : ∃ y_ : List (S37), y_ = (x7_3 ++ [(⟨t288, t289⟩ : S37)]) := ⟨_, rfl⟩
                  replace H : (impl_dedup.l0 kj34 x1_3 x0_3 a2 y292) = some r := by first | (rw [hy292]; with_reducible exact H) | (have H2_ := (Option.bind_some _ _).symm.trans H; rw [hy292]; with_reducible exact H2_) | (have H2_ := (Option.bind_some _ _).symm.trans H; with_reducible exact H2_) | with_reducible exact H | (rw [hy292]; exact H) | exact H
                  have Ny292 := Aside0.mk hy292
                  clear hy292
                  have H' := Aside0.mk H
                  clear H
                  have hnb48 := NB291_287.out
                  have hnc48 := NB287_291.out
                  have hcz49_0 : wc.cell? ⟨gb291, 0, none⟩ = some (.int .i64 t288) := (zQ BK291.out 0).trans rfl
                  have hcz49_1 : wc.cell? ⟨gb291, 1, none⟩ = some (.int .i64 t289) := (zQ BK291.out 1).trans rfl
                  have hfz49_0 := blk_frozen BK291.out 0
                  have hfz49_1 := blk_frozen BK291.out 1
                  go_wp2_with (first | ((with_reducible refine gate_builtin (b := .append) (xs := #[.tmp 95, .tmp 97]) rfl ?_); (try (refine gate_guard (by rfl) ?_; dsimp only)); at_builtin; refine Kd.R_append k37 (w0 := w) w.heap.size rfl (.tmp 95) (.tmp 97) 30 37 (.agg #[(.int .i64 0), (.int .i64 0)]) 16 rfl Try.underlying30 info37 rfl (by decide) (by omega) (.slice (some ad283) x7_3.length co23) x7_3 (⟨t288, t289⟩ : S37) [.int .i64 t288, .int .i64 t289] (fun k_ => (w.heap.size ≤ k_) ∧ k_ ≠ gb287 ∧ k_ ≠ gb291) (fun _ => False) rfl rfl ?aP (fun _ hk => hk.elim) ?aF ?aO ?aB ?aS ?aL ?_; (case aP => exact k37_mkM _ _ _ (⟨t288, t289⟩ : S37)); (case aB => exact (by repeat (first | (with_reducible first | exact HB.out | apply zA | apply zB | apply zC | refine below_set ?_ GE287.out | refine below_set ?_ GE291.out) | exact HB.out))); (case aF => exact (fun k_ hk => ⟨(Nat.le_trans (zW (by repeat (first | (with_reducible first | exact HB.out | apply zA | apply zB | apply zC | refine below_set ?_ GE287.out | refine below_set ?_ GE291.out) | exact HB.out))) hk), Kd.freshB (g := gb287) (o := .cells #[.int .i64 t284, .int .i64 t285] 37 (0, 0)) (by (with_reducible repeat (first | refine zE ?_ _ | refine zF ?_ | refine zD ?_ _)); exact BK287.out) k_ hk, Kd.freshB (g := gb291) (o := .cells #[.int .i64 t288, .int .i64 t289] 37 (0, 0)) (by (with_reducible repeat (first | refine zE ?_ _ | refine zF ?_ | refine zD ?_ _)); exact BK291.out) k_ hk⟩)); (case aO => exact (by (with_reducible repeat (first | apply zG | apply zH | apply zI)); exact HO_7.out)); (case aS => exact (zW (by repeat (first | (with_reducible first | exact HB.out | apply zA | apply zB | apply zC | refine below_set ?_ GE287.out | refine below_set ?_ GE291.out) | exact HB.out)))); (case aL => have := LMc47.out; omega); intro v293 w50 ho hb hg hat; rw [← Ny292.out] at ho; have n0_ := Aside0.mk (Kd.V_afterv (ok := (fun k_ => ((P0_ k_ ∨ P1_ k_) ∨ w.heap.size ≤ k_) ∧ k_ ≠ gb287 ∧ k_ ≠ gb291)) (by (with_reducible repeat (first | apply zM | apply zN | apply zO)); exact Kd.V_mono HO_0.out (fun _ hk => ⟨⟨hk.1, ⟨hk.2.2.1, hk.2.2.2⟩⟩, hk.2.1⟩)) hg hat); have n1_ := Aside0.mk (Kd.V_afterv (ok := (fun k_ => ((P0_ k_ ∨ P1_ k_) ∨ w.heap.size ≤ k_) ∧ k_ ≠ gb287 ∧ k_ ≠ gb291)) (by (with_reducible repeat (first | apply zM | apply zN | apply zO)); exact Kd.V_mono HO_1.out (fun _ hk => ⟨⟨hk.1, ⟨hk.2.2.1, hk.2.2.2⟩⟩, hk.2.1⟩)) hg hat); have n2_ := Aside0.mk (blk_grown (g := gb287) (o := .cells #[.int .i64 t284, .int .i64 t285] 37 (0, 0)) (by (with_reducible repeat (first | refine zE ?_ _ | refine zF ?_ | refine zD ?_ _)); exact BK287.out) hg (Kd.R_away HO_7.out (fun _ hk => hk.2.1))); have n3_ := Aside0.mk (blk_grown (g := gb291) (o := .cells #[.int .i64 t288, .int .i64 t289] 37 (0, 0)) (by (with_reducible repeat (first | refine zE ?_ _ | refine zF ?_ | refine zD ?_ _)); exact BK291.out) hg (Kd.R_away HO_7.out (fun _ hk => hk.2.2))); have n4_ := Aside0.mk (hb); have n5_ := Aside0.mk (ho); clear HO_0; clear HO_1; clear BK287; clear BK291; clear HB; clear HO_7; have HO_0 := n0_; have HO_1 := n1_; have BK287 := n2_; have BK291 := n3_; have HB := n4_; have HO294 := n5_; clear n0_ n1_ n2_ n3_ n4_ n5_; clear ho hb hg hat))
                  repeat (go_quiet (first | ((with_reducible refine gate_builtin (b := .append) (xs := #[.tmp 95, .tmp 97]) rfl ?_); (try (refine gate_guard (by rfl) ?_; dsimp only)); at_builtin; refine Kd.R_append k37 (w0 := w) w.heap.size rfl (.tmp 95) (.tmp 97) 30 37 (.agg #[(.int .i64 0), (.int .i64 0)]) 16 rfl Try.underlying30 info37 rfl (by decide) (by omega) (.slice (some ad283) x7_3.length co23) x7_3 (⟨t288, t289⟩ : S37) [.int .i64 t288, .int .i64 t289] (fun k_ => (w.heap.size ≤ k_) ∧ k_ ≠ gb287 ∧ k_ ≠ gb291) (fun _ => False) rfl rfl ?aP (fun _ hk => hk.elim) ?aF ?aO ?aB ?aS ?aL ?_; (case aP => exact k37_mkM _ _ _ (⟨t288, t289⟩ : S37)); (case aB => exact (by repeat (first | (with_reducible first | exact HB.out | apply zA | apply zB | apply zC | refine below_set ?_ GE287.out | refine below_set ?_ GE291.out) | exact HB.out))); (case aF => exact (fun k_ hk => ⟨(Nat.le_trans (zW (by repeat (first | (with_reducible first | exact HB.out | apply zA | apply zB | apply zC | refine below_set ?_ GE287.out | refine below_set ?_ GE291.out) | exact HB.out))) hk), Kd.freshB (g := gb287) (o := .cells #[.int .i64 t284, .int .i64 t285] 37 (0, 0)) (by (with_reducible repeat (first | refine zE ?_ _ | refine zF ?_ | refine zD ?_ _)); exact BK287.out) k_ hk, Kd.freshB (g := gb291) (o := .cells #[.int .i64 t288, .int .i64 t289] 37 (0, 0)) (by (with_reducible repeat (first | refine zE ?_ _ | refine zF ?_ | refine zD ?_ _)); exact BK291.out) k_ hk⟩)); (case aO => exact (by (with_reducible repeat (first | apply zG | apply zH | apply zI)); exact HO_7.out)); (case aS => exact (zW (by repeat (first | (with_reducible first | exact HB.out | apply zA | apply zB | apply zC | refine below_set ?_ GE287.out | refine below_set ?_ GE291.out) | exact HB.out)))); (case aL => have := LMc47.out; omega); intro v293 w50 ho hb hg hat; rw [← Ny292.out] at ho; have n0_ := Aside0.mk (Kd.V_afterv (ok := (fun k_ => ((P0_ k_ ∨ P1_ k_) ∨ w.heap.size ≤ k_) ∧ k_ ≠ gb287 ∧ k_ ≠ gb291)) (by (with_reducible repeat (first | apply zM | apply zN | apply zO)); exact Kd.V_mono HO_0.out (fun _ hk => ⟨⟨hk.1, ⟨hk.2.2.1, hk.2.2.2⟩⟩, hk.2.1⟩)) hg hat); have n1_ := Aside0.mk (Kd.V_afterv (ok := (fun k_ => ((P0_ k_ ∨ P1_ k_) ∨ w.heap.size ≤ k_) ∧ k_ ≠ gb287 ∧ k_ ≠ gb291)) (by (with_reducible repeat (first | apply zM | apply zN | apply zO)); exact Kd.V_mono HO_1.out (fun _ hk => ⟨⟨hk.1, ⟨hk.2.2.1, hk.2.2.2⟩⟩, hk.2.1⟩)) hg hat); have n2_ := Aside0.mk (blk_grown (g := gb287) (o := .cells #[.int .i64 t284, .int .i64 t285] 37 (0, 0)) (by (with_reducible repeat (first | refine zE ?_ _ | refine zF ?_ | refine zD ?_ _)); exact BK287.out) hg (Kd.R_away HO_7.out (fun _ hk => hk.2.1))); have n3_ := Aside0.mk (blk_grown (g := gb291) (o := .cells #[.int .i64 t288, .int .i64 t289] 37 (0, 0)) (by (with_reducible repeat (first | refine zE ?_ _ | refine zF ?_ | refine zD ?_ _)); exact BK291.out) hg (Kd.R_away HO_7.out (fun _ hk => hk.2.2))); have n4_ := Aside0.mk (hb); have n5_ := Aside0.mk (ho); clear HO_0; clear HO_1; clear BK287; clear BK291; clear HB; clear HO_7; have HO_0 := n0_; have HO_1 := n1_; have BK287 := n2_; have BK291 := n3_; have HB := n4_; have HO294 := n5_; clear n0_ n1_ n2_ n3_ n4_ n5_; clear ho hb hg hat)); try go_wp2_with (first | ((with_reducible refine gate_builtin (b := .append) (xs := #[.tmp 95, .tmp 97]) rfl ?_); (try (refine gate_guard (by rfl) ?_; dsimp only)); at_builtin; refine Kd.R_append k37 (w0 := w) w.heap.size rfl (.tmp 95) (.tmp 97) 30 37 (.agg #[(.int .i64 0), (.int .i64 0)]) 16 rfl Try.underlying30 info37 rfl (by decide) (by omega) (.slice (some ad283) x7_3.length co23) x7_3 (⟨t288, t289⟩ : S37) [.int .i64 t288, .int .i64 t289] (fun k_ => (w.heap.size ≤ k_) ∧ k_ ≠ gb287 ∧ k_ ≠ gb291) (fun _ => False) rfl rfl ?aP (fun _ hk => hk.elim) ?aF ?aO ?aB ?aS ?aL ?_; (case aP => exact k37_mkM _ _ _ (⟨t288, t289⟩ : S37)); (case aB => exact (by repeat (first | (with_reducible first | exact HB.out | apply zA | apply zB | apply zC | refine below_set ?_ GE287.out | refine below_set ?_ GE291.out) | exact HB.out))); (case aF => exact (fun k_ hk => ⟨(Nat.le_trans (zW (by repeat (first | (with_reducible first | exact HB.out | apply zA | apply zB | apply zC | refine below_set ?_ GE287.out | refine below_set ?_ GE291.out) | exact HB.out))) hk), Kd.freshB (g := gb287) (o := .cells #[.int .i64 t284, .int .i64 t285] 37 (0, 0)) (by (with_reducible repeat (first | refine zE ?_ _ | refine zF ?_ | refine zD ?_ _)); exact BK287.out) k_ hk, Kd.freshB (g := gb291) (o := .cells #[.int .i64 t288, .int .i64 t289] 37 (0, 0)) (by (with_reducible repeat (first | refine zE ?_ _ | refine zF ?_ | refine zD ?_ _)); exact BK291.out) k_ hk⟩)); (case aO => exact (by (with_reducible repeat (first | apply zG | apply zH | apply zI)); exact HO_7.out)); (case aS => exact (zW (by repeat (first | (with_reducible first | exact HB.out | apply zA | apply zB | apply zC | refine below_set ?_ GE287.out | refine below_set ?_ GE291.out) | exact HB.out)))); (case aL => have := LMc47.out; omega); intro v293 w50 ho hb hg hat; rw [← Ny292.out] at ho; have n0_ := Aside0.mk (Kd.V_afterv (ok := (fun k_ => ((P0_ k_ ∨ P1_ k_) ∨ w.heap.size ≤ k_) ∧ k_ ≠ gb287 ∧ k_ ≠ gb291)) (by (with_reducible repeat (first | apply zM | apply zN | apply zO)); exact Kd.V_mono HO_0.out (fun _ hk => ⟨⟨hk.1, ⟨hk.2.2.1, hk.2.2.2⟩⟩, hk.2.1⟩)) hg hat); have n1_ := Aside0.mk (Kd.V_afterv (ok := (fun k_ => ((P0_ k_ ∨ P1_ k_) ∨ w.heap.size ≤ k_) ∧ k_ ≠ gb287 ∧ k_ ≠ gb291)) (by (with_reducible repeat (first | apply zM | apply zN | apply zO)); exact Kd.V_mono HO_1.out (fun _ hk => ⟨⟨hk.1, ⟨hk.2.2.1, hk.2.2.2⟩⟩, hk.2.1⟩)) hg hat); have n2_ := Aside0.mk (blk_grown (g := gb287) (o := .cells #[.int .i64 t284, .int .i64 t285] 37 (0, 0)) (by (with_reducible repeat (first | refine zE ?_ _ | refine zF ?_ | refine zD ?_ _)); exact BK287.out) hg (Kd.R_away HO_7.out (fun _ hk => hk.2.1))); have n3_ := Aside0.mk (blk_grown (g := gb291) (o := .cells #[.int .i64 t288, .int .i64 t289] 37 (0, 0)) (by (with_reducible repeat (first | refine zE ?_ _ | refine zF ?_ | refine zD ?_ _)); exact BK291.out) hg (Kd.R_away HO_7.out (fun _ hk => hk.2.2))); have n4_ := Aside0.mk (hb); have n5_ := Aside0.mk (ho); clear HO_0; clear HO_1; clear BK287; clear BK291; clear HB; clear HO_7; have HO_0 := n0_; have HO_1 := n1_; have BK287 := n2_; have BK291 := n3_; have HB := n4_; have HO294 := n5_; clear n0_ n1_ n2_ n3_ n4_ n5_; clear ho hb hg hat)))
                  go_roundg kj34
                  case measure => have := HJ3.out; have := HJ8.out; have := HK3.out; have := HJ21.out; have := HJ34.out; omega
                  case rel => exact ⟨(x1_3), (x0_3), (y292), H', ⟨by have := HJ3.out; have := HJ8.out; have := HK3.out; have := HJ21.out; have := HJ34.out; omega⟩, ⟨by (with_reducible repeat (first | apply zM | apply zN | apply zO)); exact Kd.V_mono HO_1.out (fun _ hk => ⟨hk.1.1, hk.2⟩)⟩, ⟨by (with_reducible repeat (first | apply zM | apply zN | apply zO)); exact Kd.V_mono HO_0.out (fun _ hk => ⟨hk.1.1, hk.2⟩)⟩, ⟨by (with_reducible repeat (first | apply zG | apply zH | apply zI)); exact Kd.R_mono HO294.out (fun _ hk => hk.1)⟩, ⟨by repeat (first | (with_reducible first | exact HB.out | apply zA | apply zB | apply zC | refine below_set ?_ GE287.out | refine below_set ?_ GE291.out) | exact HB.out)⟩⟩
                 ·rw [if_neg c47] at H
                  exact absurd H (by simp)
                ·replace c46 := Bool.eq_false_iff.mpr c46
                 subst c46
                 have H1 : (if x7_3.length < 8796093022208 then (impl_dedup.l0 kj34 x0_3 x1_3 a2 (x7_3 ++ [(⟨t284, t285⟩ : S37)])) else (none)) = some r := by rw [if_neg (show ¬ (false = true) by decide)] at H; exact H
                 clear H
                 have H := H1
                 clear H1
                 by_cases c51 : x7_3.length < 8796093022208
                 ·rw [if_pos c51] at H
                  have LMc51 := Aside0.mk c51
                  clear c51
                  obtain ⟨y295, hy295⟩ : ∃ y_ : List (S37), y_ = (x7_3 ++ [(⟨t284, t285⟩ : S37)]) := ⟨_, rfl⟩
                  replace H : (impl_dedup.l0 kj34 x0_3 x1_3 a2 y295) = some r := by first | (rw [hy295]; with_reducible exact H) | (have H2_ := (Option.bind_some _ _).symm.trans H; rw [hy295]; with_reducible exact H2_) | (have H2_ := (Option.bind_some _ _).symm.trans H; with_reducible exact H2_) | with_reducible exact H | (rw [hy295]; exact H) | exact H
                  have Ny295 := Aside0.mk hy295
                  clear hy295
                  have H' := Aside0.mk H
                  clear H
                  have hnb52 := NB287_291.out
                  have hnc52 := NB291_287.out
                  have hcz53_0 : wc.cell? ⟨gb287, 0, none⟩ = some (.int .i64 t284) := (zQ BK287.out 0).trans rfl
                  have hcz53_1 : wc.cell? ⟨gb287, 1, none⟩ = some (.int .i64 t285) := (zQ BK287.out 1).trans rfl
                  have hfz53_0 := blk_frozen BK287.out 0
                  have hfz53_1 := blk_frozen BK287.out 1
                  go_wp2_with (first | ((with_reducible refine gate_builtin (b := .append) (xs := #[.tmp 60, .tmp 62]) rfl ?_); (try (refine gate_guard (by rfl) ?_; dsimp only)); at_builtin; refine Kd.R_append k37 (w0 := w) w.heap.size rfl (.tmp 60) (.tmp 62) 30 37 (.agg #[(.int .i64 0), (.int .i64 0)]) 16 rfl Try.underlying30 info37 rfl (by decide) (by omega) (.slice (some ad283) x7_3.length co23) x7_3 (⟨t284, t285⟩ : S37) [.int .i64 t284, .int .i64 t285] (fun k_ => (w.heap.size ≤ k_) ∧ k_ ≠ gb287 ∧ k_ ≠ gb291) (fun _ => False) rfl rfl ?aP (fun _ hk => hk.elim) ?aF ?aO ?aB ?aS ?aL ?_; (case aP => exact k37_mkM _ _ _ (⟨t284, t285⟩ : S37)); (case aB => exact (by repeat (first | (with_reducible first | exact HB.out | apply zA | apply zB | apply zC | refine below_set ?_ GE287.out | refine below_set ?_ GE291.out) | exact HB.out))); (case aF => exact (fun k_ hk => ⟨(Nat.le_trans (zW (by repeat (first | (with_reducible first | exact HB.out | apply zA | apply zB | apply zC | refine below_set ?_ GE287.out | refine below_set ?_ GE291.out) | exact HB.out))) hk), Kd.freshB (g := gb287) (o := .cells #[.int .i64 t284, .int .i64 t285] 37 (0, 0)) (by (with_reducible repeat (first | refine zE ?_ _ | refine zF ?_ | refine zD ?_ _)); exact BK287.out) k_ hk, Kd.freshB (g := gb291) (o := .cells #[.int .i64 t288, .int .i64 t289] 37 (0, 0)) (by (with_reducible repeat (first | refine zE ?_ _ | refine zF ?_ | refine zD ?_ _)); exact BK291.out) k_ hk⟩)); (case aO => exact (by (with_reducible repeat (first | apply zG | apply zH | apply zI)); exact HO_7.out)); (case aS => exact (zW (by repeat (first | (with_reducible first | exact HB.out | apply zA | apply zB | apply zC | refine below_set ?_ GE287.out | refine below_set ?_ GE291.out) | exact HB.out)))); (case aL => have := LMc51.out; omega); intro v296 w54 ho hb hg hat; rw [← Ny295.out] at ho; have n0_ := Aside0.mk (Kd.V_afterv (ok := (fun k_ => ((P0_ k_ ∨ P1_ k_) ∨ w.heap.size ≤ k_) ∧ k_ ≠ gb287 ∧ k_ ≠ gb291)) (by (with_reducible repeat (first | apply zM | apply zN | apply zO)); exact Kd.V_mono HO_0.out (fun _ hk => ⟨⟨hk.1, ⟨hk.2.2.1, hk.2.2.2⟩⟩, hk.2.1⟩)) hg hat); have n1_ := Aside0.mk (Kd.V_afterv (ok := (fun k_ => ((P0_ k_ ∨ P1_ k_) ∨ w.heap.size ≤ k_) ∧ k_ ≠ gb287 ∧ k_ ≠ gb291)) (by (with_reducible repeat (first | apply zM | apply zN | apply zO)); exact Kd.V_mono HO_1.out (fun _ hk => ⟨⟨hk.1, ⟨hk.2.2.1, hk.2.2.2⟩⟩, hk.2.1⟩)) hg hat); have n2_ := Aside0.mk (blk_grown (g := gb287) (o := .cells #[.int .i64 t284, .int .i64 t285] 37 (0, 0)) (by (with_reducible repeat (first | refine zE ?_ _ | refine zF ?_ | refine zD ?_ _)); exact BK287.out) hg (Kd.R_away HO_7.out (fun _ hk => hk.2.1))); have n3_ := Aside0.mk (blk_grown (g := gb291) (o := .cells #[.int .i64 t288, .int .i64 t289] 37 (0, 0)) (by (with_reducible repeat (first | refine zE ?_ _ | refine zF ?_ | refine zD ?_ _)); exact BK291.out) hg (Kd.R_away HO_7.out (fun _ hk => hk.2.2))); have n4_ := Aside0.mk (hb); have n5_ := Aside0.mk (ho); clear HO_0; clear HO_1; clear BK287; clear BK291; clear HB; clear HO_7; have HO_0 := n0_; have HO_1 := n1_; have BK287 := n2_; have BK291 := n3_; have HB := n4_; have HO297 := n5_; clear n0_ n1_ n2_ n3_ n4_ n5_; clear ho hb hg hat))
                  repeat (go_quiet (first | ((with_reducible refine gate_builtin (b := .append) (xs := #[.tmp 60, .tmp 62]) rfl ?_); (try (refine gate_guard (by rfl) ?_; dsimp only)); at_builtin; refine Kd.R_append k37 (w0 := w) w.heap.size rfl (.tmp 60) (.tmp 62) 30 37 (.agg #[(.int .i64 0), (.int .i64 0)]) 16 rfl Try.underlying30 info37 rfl (by decide) (by omega) (.slice (some ad283) x7_3.length co23) x7_3 (⟨t284, t285⟩ : S37) [.int .i64 t284, .int .i64 t285] (fun k_ => (w.heap.size ≤ k_) ∧ k_ ≠ gb287 ∧ k_ ≠ gb291) (fun _ => False) rfl rfl ?aP (fun _ hk => hk.elim) ?aF ?aO ?aB ?aS ?aL ?_; (case aP => exact k37_mkM _ _ _ (⟨t284, t285⟩ : S37)); (case aB => exact (by repeat (first | (with_reducible first | exact HB.out | apply zA | apply zB | apply zC | refine below_set ?_ GE287.out | refine below_set ?_ GE291.out) | exact HB.out))); (case aF => exact (fun k_ hk => ⟨(Nat.le_trans (zW (by repeat (first | (with_reducible first | exact HB.out | apply zA | apply zB | apply zC | refine below_set ?_ GE287.out | refine below_set ?_ GE291.out) | exact HB.out))) hk), Kd.freshB (g := gb287) (o := .cells #[.int .i64 t284, .int .i64 t285] 37 (0, 0)) (by (with_reducible repeat (first | refine zE ?_ _ | refine zF ?_ | refine zD ?_ _)); exact BK287.out) k_ hk, Kd.freshB (g := gb291) (o := .cells #[.int .i64 t288, .int .i64 t289] 37 (0, 0)) (by (with_reducible repeat (first | refine zE ?_ _ | refine zF ?_ | refine zD ?_ _)); exact BK291.out) k_ hk⟩)); (case aO => exact (by (with_reducible repeat (first | apply zG | apply zH | apply zI)); exact HO_7.out)); (case aS => exact (zW (by repeat (first | (with_reducible first | exact HB.out | apply zA | apply zB | apply zC | refine below_set ?_ GE287.out | refine below_set ?_ GE291.out) | exact HB.out)))); (case aL => have := LMc51.out; omega); intro v296 w54 ho hb hg hat; rw [← Ny295.out] at ho; have n0_ := Aside0.mk (Kd.V_afterv (ok := (fun k_ => ((P0_ k_ ∨ P1_ k_) ∨ w.heap.size ≤ k_) ∧ k_ ≠ gb287 ∧ k_ ≠ gb291)) (by (with_reducible repeat (first | apply zM | apply zN | apply zO)); exact Kd.V_mono HO_0.out (fun _ hk => ⟨⟨hk.1, ⟨hk.2.2.1, hk.2.2.2⟩⟩, hk.2.1⟩)) hg hat); have n1_ := Aside0.mk (Kd.V_afterv (ok := (fun k_ => ((P0_ k_ ∨ P1_ k_) ∨ w.heap.size ≤ k_) ∧ k_ ≠ gb287 ∧ k_ ≠ gb291)) (by (with_reducible repeat (first | apply zM | apply zN | apply zO)); exact Kd.V_mono HO_1.out (fun _ hk => ⟨⟨hk.1, ⟨hk.2.2.1, hk.2.2.2⟩⟩, hk.2.1⟩)) hg hat); have n2_ := Aside0.mk (blk_grown (g := gb287) (o := .cells #[.int .i64 t284, .int .i64 t285] 37 (0, 0)) (by (with_reducible repeat (first | refine zE ?_ _ | refine zF ?_ | refine zD ?_ _)); exact BK287.out) hg (Kd.R_away HO_7.out (fun _ hk => hk.2.1))); have n3_ := Aside0.mk (blk_grown (g := gb291) (o := .cells #[.int .i64 t288, .int .i64 t289] 37 (0, 0)) (by (with_reducible repeat (first | refine zE ?_ _ | refine zF ?_ | refine zD ?_ _)); exact BK291.out) hg (Kd.R_away HO_7.out (fun _ hk => hk.2.2))); have n4_ := Aside0.mk (hb); have n5_ := Aside0.mk (ho); clear HO_0; clear HO_1; clear BK287; clear BK291; clear HB; clear HO_7; have HO_0 := n0_; have HO_1 := n1_; have BK287 := n2_; have BK291 := n3_; have HB := n4_; have HO297 := n5_; clear n0_ n1_ n2_ n3_ n4_ n5_; clear ho hb hg hat)); try go_wp2_with (first | ((with_reducible refine gate_builtin (b := .append) (xs := #[.tmp 60, .tmp 62]) rfl ?_); (try (refine gate_guard (by rfl) ?_; dsimp only)); at_builtin; refine Kd.R_append k37 (w0 := w) w.heap.size rfl (.tmp 60) (.tmp 62) 30 37 (.agg #[(.int .i64 0), (.int .i64 0)]) 16 rfl Try.underlying30 info37 rfl (by decide) (by omega) (.slice (some ad283) x7_3.length co23) x7_3 (⟨t284, t285⟩ : S37) [.int .i64 t284, .int .i64 t285] (fun k_ => (w.heap.size ≤ k_) ∧ k_ ≠ gb287 ∧ k_ ≠ gb291) (fun _ => False) rfl rfl ?aP (fun _ hk => hk.elim) ?aF ?aO ?aB ?aS ?aL ?_; (case aP => exact k37_mkM _ _ _ (⟨t284, t285⟩ : S37)); (case aB => exact (by repeat (first | (with_reducible first | exact HB.out | apply zA | apply zB | apply zC | refine below_set ?_ GE287.out | refine below_set ?_ GE291.out) | exact HB.out))); (case aF => exact (fun k_ hk => ⟨(Nat.le_trans (zW (by repeat (first | (with_reducible first | exact HB.out | apply zA | apply zB | apply zC | refine below_set ?_ GE287.out | refine below_set ?_ GE291.out) | exact HB.out))) hk), Kd.freshB (g := gb287) (o := .cells #[.int .i64 t284, .int .i64 t285] 37 (0, 0)) (by (with_reducible repeat (first | refine zE ?_ _ | refine zF ?_ | refine zD ?_ _)); exact BK287.out) k_ hk, Kd.freshB (g := gb291) (o := .cells #[.int .i64 t288, .int .i64 t289] 37 (0, 0)) (by (with_reducible repeat (first | refine zE ?_ _ | refine zF ?_ | refine zD ?_ _)); exact BK291.out) k_ hk⟩)); (case aO => exact (by (with_reducible repeat (first | apply zG | apply zH | apply zI)); exact HO_7.out)); (case aS => exact (zW (by repeat (first | (with_reducible first | exact HB.out | apply zA | apply zB | apply zC | refine below_set ?_ GE287.out | refine below_set ?_ GE291.out) | exact HB.out)))); (case aL => have := LMc51.out; omega); intro v296 w54 ho hb hg hat; rw [← Ny295.out] at ho; have n0_ := Aside0.mk (Kd.V_afterv (ok := (fun k_ => ((P0_ k_ ∨ P1_ k_) ∨ w.heap.size ≤ k_) ∧ k_ ≠ gb287 ∧ k_ ≠ gb291)) (by (with_reducible repeat (first | apply zM | apply zN | apply zO)); exact Kd.V_mono HO_0.out (fun _ hk => ⟨⟨hk.1, ⟨hk.2.2.1, hk.2.2.2⟩⟩, hk.2.1⟩)) hg hat); have n1_ := Aside0.mk (Kd.V_afterv (ok := (fun k_ => ((P0_ k_ ∨ P1_ k_) ∨ w.heap.size ≤ k_) ∧ k_ ≠ gb287 ∧ k_ ≠ gb291)) (by (with_reducible repeat (first | apply zM | apply zN | apply zO)); exact Kd.V_mono HO_1.out (fun _ hk => ⟨⟨hk.1, ⟨hk.2.2.1, hk.2.2.2⟩⟩, hk.2.1⟩)) hg hat); have n2_ := Aside0.mk (blk_grown (g := gb287) (o := .cells #[.int .i64 t284, .int .i64 t285] 37 (0, 0)) (by (with_reducible repeat (first | refine zE ?_ _ | refine zF ?_ | refine zD ?_ _)); exact BK287.out) hg (Kd.R_away HO_7.out (fun _ hk => hk.2.1))); have n3_ := Aside0.mk (blk_grown (g := gb291) (o := .cells #[.int .i64 t288, .int .i64 t289] 37 (0, 0)) (by (with_reducible repeat (first | refine zE ?_ _ | refine zF ?_ | refine zD ?_ _)); exact BK291.out) hg (Kd.R_away HO_7.out (fun _ hk => hk.2.2))); have n4_ := Aside0.mk (hb); have n5_ := Aside0.mk (ho); clear HO_0; clear HO_1; clear BK287; clear BK291; clear HB; clear HO_7; have HO_0 := n0_; have HO_1 := n1_; have BK287 := n2_; have BK291 := n3_; have HB := n4_; have HO297 := n5_; clear n0_ n1_ n2_ n3_ n4_ n5_; clear ho hb hg hat)))
                  go_roundg kj34
                  case measure => have := HJ3.out; have := HJ8.out; have := HK3.out; have := HJ21.out; have := HJ34.out; omega
                  case rel => exact ⟨(x0_3), (x1_3), (y295), H', ⟨by have := HJ3.out; have := HJ8.out; have := HK3.out; have := HJ21.out; have := HJ34.out; omega⟩, ⟨by (with_reducible repeat (first | apply zM | apply zN | apply zO)); exact Kd.V_mono HO_0.out (fun _ hk => ⟨hk.1.1, hk.2⟩)⟩, ⟨by (with_reducible repeat (first | apply zM | apply zN | apply zO)); exact Kd.V_mono HO_1.out (fun _ hk => ⟨hk.1.1, hk.2⟩)⟩, ⟨by (with_reducible repeat (first | apply zG | apply zH | apply zI)); exact Kd.R_mono HO297.out (fun _ hk => hk.1)⟩, ⟨by repeat (first | (with_reducible first | exact HB.out | apply zA | apply zB | apply zC | refine below_set ?_ GE287.out | refine below_set ?_ GE291.out) | exact HB.out)⟩⟩
                 ·rw [if_neg c51] at H
                  exact absurd H (by simp)
          ·rw [if_neg c19] at H
           exact absurd H (by simp)
         ·rw [if_neg c18] at H
          exact absurd H (by simp)
      ·rw [if_neg c13] at H
       exact absurd H (by simp)

end Go.Proofs.Ytogjmchhafiafac.PFnDedup
