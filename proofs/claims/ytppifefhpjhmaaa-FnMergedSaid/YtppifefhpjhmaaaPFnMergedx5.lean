-- Written by a program of this session (xprint.py, over the kit's print).
import Derived.Test.YtppifefhpjhmaaaPFnMergedx0
import Derived.Test.YtppifefhpjhmaaaPFnMergedx4
namespace Go.Proofs.Ytppifefhpjhmaaa.PFnMerged
open Go.RowKit Go.Proofs.YtppifefhpjhmaaaW.PrintWords Go.Proofs.YtppifefhpjhmaaaW.PrintLast Go.Proofs.YtppifefhpjhmaaaW.PrintMore Go.Proofs.Ytppifefhpjhmaaa.XWords
attribute [local go_sem] max2_int min2_int max_two min_two max_three min_three max_four min_four   -- for this text's walks alone
set_option linter.unusedVariables false
set_option linter.unusedSimpArgs false

/-! ### impl_merge: function 58 -/
mutual
def impl_merge.l0 : Nat → List (S53) → List (S53) → List (S53) → Option ((List (S53)))
 | 0, _, _, _ => none
 | k + 1, x0, x1, x5 => if (x0.length : Int) > 0 then (impl_merge.j1 k x0 x1 x5 true) else (impl_merge.j1 k x0 x1 x5 (decide ((x1.length : Int) > 0)))
def impl_merge.j1 : Nat → List (S53) → List (S53) → List (S53) → Bool → Option ((List (S53)))
 | 0, _, _, _, _ => none
 | k + 1, x0, x1, x5, x13 => if x13 = true then (if (x1.length : Int) = 0 then (impl_merge.j2 k x0 x1 x5 true) else (if (x0.length : Int) > 0 then (if 0 < (x0.length : Int) then (if 0 < (x1.length : Int) then (impl_merge.j2 k x0 x1 x5 (decide (((rd_T53 x0 0).f0) ≤ ((rd_T53 x1 0).f0)))) else (none)) else (none)) else (impl_merge.j2 k x0 x1 x5 false))) else (some x5)
def impl_merge.j2 : Nat → List (S53) → List (S53) → List (S53) → Bool → Option ((List (S53)))
 | 0, _, _, _, _ => none
 | k + 1, x0, x1, x5, x32 => if x32 = true then (if (x1.length : Int) > 0 then (if 0 < (x0.length : Int) then (if 0 < (x1.length : Int) then (if ((rd_T53 x0 0).f0) = ((rd_T53 x1 0).f0) then (if 1 ≤ (x1.length : Int) then (if x5.length < 8796093022208 then (if 1 ≤ (x0.length : Int) then (impl_merge.l0 k (x0.drop 1) (x1.drop 1) (x5 ++ [(⟨(rd_T53 x0 0).f0, (rd_T53 x0 0).f1⟩ : S53)])) else (none)) else (none)) else (none)) else (if x5.length < 8796093022208 then (if 1 ≤ (x0.length : Int) then (impl_merge.l0 k (x0.drop 1) x1 (x5 ++ [(⟨(rd_T53 x0 0).f0, (rd_T53 x0 0).f1⟩ : S53)])) else (none)) else (none))) else (none)) else (none)) else (if 0 < (x0.length : Int) then (if x5.length < 8796093022208 then (if 1 ≤ (x0.length : Int) then (impl_merge.l0 k (x0.drop 1) x1 (x5 ++ [(⟨(rd_T53 x0 0).f0, (rd_T53 x0 0).f1⟩ : S53)])) else (none)) else (none)) else (none))) else (if 0 < (x1.length : Int) then (if x5.length < 8796093022208 then (if 1 ≤ (x1.length : Int) then (impl_merge.l0 k x0 (x1.drop 1) (x5 ++ [(⟨(rd_T53 x1 0).f0, (rd_T53 x1 0).f1⟩ : S53)])) else (none)) else (none)) else (none))
end
def impl_merge.f (k : Nat) (l0 : List (S53)) (l1 : List (S53)) : Option ((List (S53))) := impl_merge.l0 k l0 l1 ([] : List (S53))
theorem impl_merge.mono_l : ∀ k, (∀ y0 y1 y2, LeO (impl_merge.l0 k y0 y1 y2) (impl_merge.l0 (k + 1) y0 y1 y2)) ∧ (∀ y0 y1 y2 y3, LeO (impl_merge.j1 k y0 y1 y2 y3) (impl_merge.j1 (k + 1) y0 y1 y2 y3)) ∧ (∀ y0 y1 y2 y3, LeO (impl_merge.j2 k y0 y1 y2 y3) (impl_merge.j2 (k + 1) y0 y1 y2 y3))
 | 0 => ⟨fun _ _ _ r h => by simp [impl_merge.l0] at h, fun _ _ _ _ r h => by simp [impl_merge.j1] at h, fun _ _ _ _ r h => by simp [impl_merge.j2] at h⟩
 | k + 1 => by
  obtain ⟨ih0, ih1, ih2⟩ := impl_merge.mono_l k
  refine ⟨?_, ?_, ?_⟩
  ·intro y0 y1 y2
   unfold impl_merge.l0
   repeat' first
   | (with_reducible exact ih0 _ _ _)
   | (with_reducible exact ih1 _ _ _ _)
   | (with_reducible exact ih2 _ _ _ _)
   | (with_reducible exact LeO.refl _)
   | (with_reducible exact LeO.none _)
   | (with_reducible refine LeO.ite ?_ ?_)
   | (with_reducible refine LeO.bind ?_ (fun _ => ?_))
   | exact ih0 _ _ _
   | exact ih1 _ _ _ _
   | exact ih2 _ _ _ _
   | exact LeO.none _
   | refine LeO.ite ?_ ?_
   | refine LeO.bind ?_ (fun _ => ?_)
  ·intro y0 y1 y2 y3
   unfold impl_merge.j1
   repeat' first
   | (with_reducible exact ih0 _ _ _)
   | (with_reducible exact ih1 _ _ _ _)
   | (with_reducible exact ih2 _ _ _ _)
   | (with_reducible exact LeO.refl _)
   | (with_reducible exact LeO.none _)
   | (with_reducible refine LeO.ite ?_ ?_)
   | (with_reducible refine LeO.bind ?_ (fun _ => ?_))
   | exact ih0 _ _ _
   | exact ih1 _ _ _ _
   | exact ih2 _ _ _ _
   | exact LeO.none _
   | refine LeO.ite ?_ ?_
   | refine LeO.bind ?_ (fun _ => ?_)
  ·intro y0 y1 y2 y3
   unfold impl_merge.j2
   repeat' first
   | (with_reducible exact ih0 _ _ _)
   | (with_reducible exact ih1 _ _ _ _)
   | (with_reducible exact ih2 _ _ _ _)
   | (with_reducible exact LeO.refl _)
   | (with_reducible exact LeO.none _)
   | (with_reducible refine LeO.ite ?_ ?_)
   | (with_reducible refine LeO.bind ?_ (fun _ => ?_))
   | exact ih0 _ _ _
   | exact ih1 _ _ _ _
   | exact ih2 _ _ _ _
   | exact LeO.none _
   | refine LeO.ite ?_ ?_
   | refine LeO.bind ?_ (fun _ => ?_)
theorem impl_merge.mono : ∀ a0 a1 k, LeO (impl_merge.f k a0 a1) (impl_merge.f (k + 1) a0 a1) := by
 intro a0 a1 k
 obtain ⟨ih0, ih1, ih2⟩ := impl_merge.mono_l k
 unfold impl_merge.f
 repeat' first
   | (with_reducible exact ih0 _ _ _)
   | (with_reducible exact ih1 _ _ _ _)
   | (with_reducible exact ih2 _ _ _ _)
   | (with_reducible exact LeO.refl _)
   | (with_reducible exact LeO.none _)
   | (with_reducible refine LeO.ite ?_ ?_)
   | (with_reducible refine LeO.bind ?_ (fun _ => ?_))
   | exact ih0 _ _ _
   | exact ih1 _ _ _ _
   | exact ih2 _ _ _ _
   | exact LeO.none _
   | refine LeO.ite ?_ ?_
   | refine LeO.bind ?_ (fun _ => ?_)
set_option maxHeartbeats 8000000 in
set_option maxRecDepth 100000 in
theorem impl_merge.calls (k : Nat) (P0_ : Nat → Prop) (A0 : Option Addr) (c0 : Nat) (l0 : List (S53)) (P1_ : Nat → Prop) (A1 : Option Addr) (c1 : Nat) (l1 : List (S53)) (r : List (S53)) (w : World) (hs0 : Kd.V k53 53 w w.heap.size (fun k_ => P0_ k_) (.slice A0 l0.length c0) l0) (hs1 : Kd.V k53 53 w w.heap.size (fun k_ => P1_ k_) (.slice A1 l1.length c1) l1) (h : impl_merge.f k l0 l1 = some r) :
  Calls Try.prog 58 #[.slice A0 l0.length c0, .slice A1 l1.length c1] w fun e w' => ∃ v0_ : Value, e = .returned (v0_) ∧ Kd.R k53 53 w' w.heap.size (fun k_ => (w.heap.size ≤ k_)) v0_ r ∧ Below w.heap.size w w' := by
 have hu53 := Try.underlying53
 have HO0 := Aside0.mk (show Kd.V k53 53 w w.heap.size (fun k_ => ((P0_ k_ ∨ P1_ k_) ∨ w.heap.size ≤ k_)) (.slice A0 l0.length c0) l0 from Kd.V_mono hs0 (fun k_ hk => .inl (.inl hk)))
 have HO1 := Aside0.mk (show Kd.V k53 53 w w.heap.size (fun k_ => ((P0_ k_ ∨ P1_ k_) ∨ w.heap.size ≤ k_)) (.slice A1 l1.length c1) l1 from Kd.V_mono hs1 (fun k_ hk => .inl (.inr hk)))
 have HB := Aside0.mk (Below.refl w.heap.size w)
 have H : (impl_merge.l0 k l0 l1 ([] : List (S53))) = some r := h
 clear h
 have H' := Aside0.mk H
 clear H
 go_enter Try.func58, Try.ntmps58
 go_wp2
 repeat (go_quiet (fail); try go_wp2)
 go_loopg [0, 1, 5] k (fun kq v0 v1 v5 w' => ∃ (x0_1 : List (S53)) (x1_1 : List (S53)) (x5_1 : List (S53)), Aside0 (impl_merge.l0 kq x0_1 x1_1 x5_1 = some r) ∧ Aside0 (kq ≤ k) ∧ Aside0 (Kd.V k53 53 w' w.heap.size (fun k_ => ((P0_ k_ ∨ P1_ k_) ∨ w.heap.size ≤ k_) ∧ some k_ ≠ (v5 : Value).ownBlock) v0 x0_1) ∧ Aside0 (Kd.V k53 53 w' w.heap.size (fun k_ => ((P0_ k_ ∨ P1_ k_) ∨ w.heap.size ≤ k_) ∧ some k_ ≠ (v5 : Value).ownBlock) v1 x1_1) ∧ Aside0 (Kd.R k53 53 w' w.heap.size (fun k_ => (w.heap.size ≤ k_)) v5 x5_1) ∧ Aside0 (Below w.heap.size w w'))
 case atStart => exact ⟨(l0), (l1), (([] : List (S53))), H', ⟨Nat.le_refl _⟩, ⟨by (with_reducible repeat (first | apply zM | apply zN | apply zO)); exact Kd.V_mono HO0.out (fun _ hk => ⟨hk, (by simp [Value.ownBlock])⟩)⟩, ⟨by (with_reducible repeat (first | apply zM | apply zN | apply zO)); exact Kd.V_mono HO1.out (fun _ hk => ⟨hk, (by simp [Value.ownBlock])⟩)⟩, ⟨by first | exact Kd.R_nil _ _ _ _ _ | exact Kd.N_nil _ _ _ _ _ | exact Kd.V_nil _ _ _ _ _ | exact Kd.Q_nil _ _ _ _ _ | exact Kd.S_nil _ _ _ _ _⟩, ⟨by repeat (first | (with_reducible first | exact HB.out | apply zA | apply zB | apply zC) | exact HB.out)⟩⟩
 case round =>
  clear H'
  try clear c1
  try clear p2
  obtain ⟨x0_1, x1_1, x5_1, HA, HK1, HO_0, HO_1, HO_5, HB⟩ := hrel
  cases gk with
  | zero => exact absurd HA.out (by simp [impl_merge.l0])
  | succ k1 =>
   have H := HA.out
   clear HA
   simp only [impl_merge.l0] at H
   have HC3 := Aside0.mk H
   clear H
   go_upto_region 2 with (fail)
   repeat (go_quiet (fail); go_upto_region 2 with (fail))
   go_cut [13] (fun v13 wc => ∃ (kq : Nat) (x13_2 : Bool), v13 = .bool x13_2 ∧ Aside0 (impl_merge.j1 kq x0_1 x1_1 x5_1 x13_2 = some r) ∧ Aside0 (kq ≤ k1) ∧ Aside0 (Kd.V k53 53 wc w.heap.size (fun k_ => ((P0_ k_ ∨ P1_ k_) ∨ w.heap.size ≤ k_) ∧ some k_ ≠ (u5 : Value).ownBlock) u0 x0_1) ∧ Aside0 (Kd.V k53 53 wc w.heap.size (fun k_ => ((P0_ k_ ∨ P1_ k_) ∨ w.heap.size ≤ k_) ∧ some k_ ≠ (u5 : Value).ownBlock) u1 x1_1) ∧ Aside0 (Kd.R k53 53 wc w.heap.size (fun k_ => (w.heap.size ≤ k_)) u5 x5_1) ∧ Aside0 (Below w.heap.size w wc))
   case first =>
    have H := HC3.out
    clear HC3
    by_cases c4 : (x0_1.length : Int) > 0
    ·rw [if_pos c4] at H
     have c4b0 : decide (0 < (x0_1.length : Int)) = true := decide_eq_true c4
     have c4b1 : decide (0 < x0_1.length) = true := decide_eq_true (by omega)
     clear c4
     (first | rw [c4b0] | (simp only [i64_w, i32_w]; rw [c4b0]) | skip)
     have H' := Aside0.mk H
     clear H
     obtain ⟨Ao5, co5, eo5⟩ := Kd.V_slice HO_0.out
     subst eo5
     go_wp2
     repeat (go_quiet (fail); try go_wp2)
     go_meet
     case rel => exact ⟨_, (true), (by first | rfl | (simp; done) | (simp [*]; done)), H', ⟨by have := HK1.out; first | omega | exact Nat.le_refl _⟩, ⟨by (with_reducible repeat (first | apply zM | apply zN | apply zO)); exact HO_0.out⟩, ⟨by (with_reducible repeat (first | apply zM | apply zN | apply zO)); exact HO_1.out⟩, ⟨by (with_reducible repeat (first | apply zG | apply zH | apply zI)); exact HO_5.out⟩, ⟨by repeat (first | (with_reducible first | exact HB.out | apply zA | apply zB | apply zC) | exact HB.out)⟩⟩
    ·rw [if_neg c4] at H
     have c4b0 : decide (0 < (x0_1.length : Int)) = false := decide_eq_false c4
     have c4b1 : decide (0 < x0_1.length) = false := decide_eq_false (by omega)
     clear c4
     (first | rw [c4b0] | (simp only [i64_w, i32_w]; rw [c4b0]) | skip)
     have H' := Aside0.mk H
     clear H
     obtain ⟨Ao6, co6, eo6⟩ := Kd.V_slice HO_0.out
     subst eo6
     obtain ⟨Ao7, co7, eo7⟩ := Kd.V_slice HO_1.out
     subst eo7
     go_wp2
     repeat (go_quiet (fail); try go_wp2)
     go_meet
     case rel => exact ⟨_, (decide ((x1_1.length : Int) > 0)), (by first | rfl | (simp; done) | (simp [*]; done)), H', ⟨by have := HK1.out; first | omega | exact Nat.le_refl _⟩, ⟨by (with_reducible repeat (first | apply zM | apply zN | apply zO)); exact HO_0.out⟩, ⟨by (with_reducible repeat (first | apply zM | apply zN | apply zO)); exact HO_1.out⟩, ⟨by (with_reducible repeat (first | apply zG | apply zH | apply zI)); exact HO_5.out⟩, ⟨by repeat (first | (with_reducible first | exact HB.out | apply zA | apply zB | apply zC) | exact HB.out)⟩⟩
   case rest =>
    clear HC3
    try clear c1
    try clear p2
    try clear c4
    try clear c4b0
    try clear c4b1
    try clear c5
    try clear p2
    obtain ⟨kq, x13_2, rfl, HA, HJ2, HO_0, HO_1, HO_5, HB⟩ := hcut
    cases kq with
    | zero => exact absurd HA.out (by simp [impl_merge.j1])
    | succ kj2 =>
     have H := HA.out
     clear HA
     simp only [impl_merge.j1] at H
     by_cases c8 : x13_2 = true
     ·subst c8
      have H1 : (if (x1_1.length : Int) = 0 then (impl_merge.j2 kj2 x0_1 x1_1 x5_1 true) else (if (x0_1.length : Int) > 0 then (if 0 < (x0_1.length : Int) then (if 0 < (x1_1.length : Int) then (impl_merge.j2 kj2 x0_1 x1_1 x5_1 (decide (((rd_T53 x0_1 0).f0) ≤ ((rd_T53 x1_1 0).f0)))) else (none)) else (none)) else (impl_merge.j2 kj2 x0_1 x1_1 x5_1 false))) = some r := by rw [if_pos rfl] at H; exact H
      clear H
      have H := H1
      clear H1
      have HC9 := Aside0.mk H
      clear H
      go_upto_region 3 with (fail)
      repeat (go_quiet (fail); go_upto_region 3 with (fail))
      go_cut [32] (fun v32 wc => ∃ (kq : Nat) (x32_8 : Bool), v32 = .bool x32_8 ∧ Aside0 (impl_merge.j2 kq x0_1 x1_1 x5_1 x32_8 = some r) ∧ Aside0 (kq ≤ kj2) ∧ Aside0 (Kd.V k53 53 wc w.heap.size (fun k_ => ((P0_ k_ ∨ P1_ k_) ∨ w.heap.size ≤ k_) ∧ some k_ ≠ (u5 : Value).ownBlock) u0 x0_1) ∧ Aside0 (Kd.V k53 53 wc w.heap.size (fun k_ => ((P0_ k_ ∨ P1_ k_) ∨ w.heap.size ≤ k_) ∧ some k_ ≠ (u5 : Value).ownBlock) u1 x1_1) ∧ Aside0 (Kd.R k53 53 wc w.heap.size (fun k_ => (w.heap.size ≤ k_)) u5 x5_1) ∧ Aside0 (Below w.heap.size w wc))
      case first =>
       have H := HC9.out
       clear HC9
       by_cases c10 : (x1_1.length : Int) = 0
       ·rw [if_pos c10] at H
        have c10b0 : ((x1_1.length : Int) == 0) = true := beq_iff_eq.mpr c10
        have c10b1 : ((x1_1.length : Int) != 0) = false := bne_eq_false_iff_eq.mpr c10
        clear c10
        (first | rw [c10b0] | (simp only [i64_w, i32_w]; rw [c10b0]) | skip)
        have H' := Aside0.mk H
        clear H
        obtain ⟨Ao11, co11, eo11⟩ := Kd.V_slice HO_1.out
        subst eo11
        go_wp2
        repeat (go_quiet (fail); try go_wp2)
        go_meet
        case rel => exact ⟨_, (true), (by first | rfl | (simp; done) | (simp [*]; done)), H', ⟨by have := HK1.out; have := HJ2.out; first | omega | exact Nat.le_refl _⟩, ⟨by (with_reducible repeat (first | apply zM | apply zN | apply zO)); exact HO_0.out⟩, ⟨by (with_reducible repeat (first | apply zM | apply zN | apply zO)); exact HO_1.out⟩, ⟨by (with_reducible repeat (first | apply zG | apply zH | apply zI)); exact HO_5.out⟩, ⟨by repeat (first | (with_reducible first | exact HB.out | apply zA | apply zB | apply zC) | exact HB.out)⟩⟩
       ·rw [if_neg c10] at H
        have c10b0 : ((x1_1.length : Int) == 0) = false := beq_eq_false_iff_ne.mpr c10
        have c10b1 : ((x1_1.length : Int) != 0) = true := bne_iff_ne.mpr c10
        have c10b2 : ¬ (x1_1 = []) := fun h_ => c10 (by rw [h_]; rfl)
        (first | rw [c10b0] | (simp only [i64_w, i32_w]; rw [c10b0]) | skip)
        by_cases c12 : (x0_1.length : Int) > 0
        ·rw [if_pos c12] at H
         have c12b0 : decide (0 < (x0_1.length : Int)) = true := decide_eq_true c12
         have c12b1 : decide (0 < x0_1.length) = true := decide_eq_true (by omega)
         clear c12
         by_cases c13 : 0 < (x0_1.length : Int)
         ·rw [if_pos c13] at H
          have c13b0 : decide (0 < (x0_1.length : Int)) = true := decide_eq_true c13
          have c13b1 : decide (0 < x0_1.length) = true := decide_eq_true (by omega)
          clear c13
          by_cases c14 : 0 < (x1_1.length : Int)
          ·rw [if_pos c14] at H
           have c14b0 : decide (0 < (x1_1.length : Int)) = true := decide_eq_true c14
           have c14b1 : decide (0 < x1_1.length) = true := decide_eq_true (by omega)
           clear c14
           have H' := Aside0.mk H
           clear H
           obtain ⟨Ao15, co15, eo15⟩ := Kd.V_slice HO_1.out
           subst eo15
           obtain ⟨Ao16, co16, eo16⟩ := Kd.V_slice HO_0.out
           subst eo16
           have p244 : 0 ≤ (0 : Int) := (by omega)
           have q244 : 0 < (x0_1.length : Int) := zX (by first | (with_reducible assumption) | assumption)
           obtain ⟨ad244, e244, hx244_0, hx244_1⟩ := at_T53 (Kd.V_reads' HO_0.out).2.2 0 p244 q244
           cases e244
           have qi244 : (0 < x0_1.length) = True := eq_true (by omega)
           (try rw [show ((0 : Int)).toNat = 0 from rfl] at hx244_0)
           (try rw [show 0 * 2 = 0 from rfl] at hx244_0)
           (try rw [Addr.add_zero'] at hx244_0)
           (try rw [show ((0 : Int)).toNat = 0 from rfl] at hx244_1)
           (try rw [show 0 * 2 = 0 from rfl] at hx244_1)
           (try rw [Addr.add_zero'] at hx244_1)
           replace p244 := eq_true p244
           replace q244 := eq_true q244
           have p245 : 0 ≤ (0 : Int) := (by omega)
           have q245 : 0 < (x1_1.length : Int) := zX (by first | (with_reducible assumption) | assumption)
           obtain ⟨ad245, e245, hx245_0, hx245_1⟩ := at_T53 (Kd.V_reads' HO_1.out).2.2 0 p245 q245
           cases e245
           have qi245 : (0 < x1_1.length) = True := eq_true (by omega)
           (try rw [show ((0 : Int)).toNat = 0 from rfl] at hx245_0)
           (try rw [show 0 * 2 = 0 from rfl] at hx245_0)
           (try rw [Addr.add_zero'] at hx245_0)
           (try rw [show ((0 : Int)).toNat = 0 from rfl] at hx245_1)
           (try rw [show 0 * 2 = 0 from rfl] at hx245_1)
           (try rw [Addr.add_zero'] at hx245_1)
           replace p245 := eq_true p245
           replace q245 := eq_true q245
           go_wp2
           repeat (go_quiet (fail); try go_wp2)
           go_meet
           case rel => exact ⟨_, (decide (((rd_T53 x0_1 0).f0) ≤ ((rd_T53 x1_1 0).f0))), (by first | rfl | (simp; done) | (simp [*]; done)), H', ⟨by have := HK1.out; have := HJ2.out; first | omega | exact Nat.le_refl _⟩, ⟨by (with_reducible repeat (first | apply zM | apply zN | apply zO)); exact HO_0.out⟩, ⟨by (with_reducible repeat (first | apply zM | apply zN | apply zO)); exact HO_1.out⟩, ⟨by (with_reducible repeat (first | apply zG | apply zH | apply zI)); exact HO_5.out⟩, ⟨by repeat (first | (with_reducible first | exact HB.out | apply zA | apply zB | apply zC) | exact HB.out)⟩⟩
          ·rw [if_neg c14] at H
           exact absurd H (by simp)
         ·rw [if_neg c13] at H
          exact absurd H (by simp)
        ·rw [if_neg c12] at H
         have c12b0 : decide (0 < (x0_1.length : Int)) = false := decide_eq_false c12
         have c12b1 : decide (0 < x0_1.length) = false := decide_eq_false (by omega)
         clear c12
         have H' := Aside0.mk H
         clear H
         obtain ⟨Ao17, co17, eo17⟩ := Kd.V_slice HO_1.out
         subst eo17
         obtain ⟨Ao18, co18, eo18⟩ := Kd.V_slice HO_0.out
         subst eo18
         go_wp2
         repeat (go_quiet (fail); try go_wp2)
         go_meet
         case rel => exact ⟨_, (false), (by first | rfl | (simp; done) | (simp [*]; done)), H', ⟨by have := HK1.out; have := HJ2.out; first | omega | exact Nat.le_refl _⟩, ⟨by (with_reducible repeat (first | apply zM | apply zN | apply zO)); exact HO_0.out⟩, ⟨by (with_reducible repeat (first | apply zM | apply zN | apply zO)); exact HO_1.out⟩, ⟨by (with_reducible repeat (first | apply zG | apply zH | apply zI)); exact HO_5.out⟩, ⟨by repeat (first | (with_reducible first | exact HB.out | apply zA | apply zB | apply zC) | exact HB.out)⟩⟩
      case rest =>
       clear HC9
       try clear c1
       try clear p2
       try clear q2
       try clear hx2
       try clear qi2
       try clear c4
       try clear c4b0
       try clear c4b1
       try clear c5
       try clear c8
       try clear c10
       try clear c10b0
       try clear c10b1
       try clear c10b2
       try clear c12
       try clear c12b0
       try clear c12b1
       try clear c13
       try clear c13b0
       try clear c13b1
       try clear c14
       try clear c14b0
       try clear c14b1
       try clear hx244_0
       try clear hx244_1
       try clear hx245_0
       try clear hx245_1
       try clear p2
       try clear p244
       try clear p245
       try clear q244
       try clear q245
       obtain ⟨kq, x32_8, rfl, HA, HJ8, HO_0, HO_1, HO_5, HB⟩ := hcut
       cases kq with
       | zero => exact absurd HA.out (by simp [impl_merge.j2])
       | succ kj8 =>
        have H := HA.out
        clear HA
        simp only [impl_merge.j2] at H
        by_cases c19 : x32_8 = true
        ·subst c19
         have H1 : (if (x1_1.length : Int) > 0 then (if 0 < (x0_1.length : Int) then (if 0 < (x1_1.length : Int) then (if ((rd_T53 x0_1 0).f0) = ((rd_T53 x1_1 0).f0) then (if 1 ≤ (x1_1.length : Int) then (if x5_1.length < 8796093022208 then (if 1 ≤ (x0_1.length : Int) then (impl_merge.l0 kj8 (x0_1.drop 1) (x1_1.drop 1) (x5_1 ++ [(⟨(rd_T53 x0_1 0).f0, (rd_T53 x0_1 0).f1⟩ : S53)])) else (none)) else (none)) else (none)) else (if x5_1.length < 8796093022208 then (if 1 ≤ (x0_1.length : Int) then (impl_merge.l0 kj8 (x0_1.drop 1) x1_1 (x5_1 ++ [(⟨(rd_T53 x0_1 0).f0, (rd_T53 x0_1 0).f1⟩ : S53)])) else (none)) else (none))) else (none)) else (none)) else (if 0 < (x0_1.length : Int) then (if x5_1.length < 8796093022208 then (if 1 ≤ (x0_1.length : Int) then (impl_merge.l0 kj8 (x0_1.drop 1) x1_1 (x5_1 ++ [(⟨(rd_T53 x0_1 0).f0, (rd_T53 x0_1 0).f1⟩ : S53)])) else (none)) else (none)) else (none))) = some r := by rw [if_pos rfl] at H; exact H
         clear H
         have H := H1
         clear H1
         by_cases c20 : (x1_1.length : Int) > 0
         ·rw [if_pos c20] at H
          have c20b0 : decide (0 < (x1_1.length : Int)) = true := decide_eq_true c20
          have c20b1 : decide (0 < x1_1.length) = true := decide_eq_true (by omega)
          clear c20
          by_cases c21 : 0 < (x0_1.length : Int)
          ·rw [if_pos c21] at H
           have c21b0 : decide (0 < (x0_1.length : Int)) = true := decide_eq_true c21
           have c21b1 : decide (0 < x0_1.length) = true := decide_eq_true (by omega)
           clear c21
           by_cases c22 : 0 < (x1_1.length : Int)
           ·rw [if_pos c22] at H
            have c22b0 : decide (0 < (x1_1.length : Int)) = true := decide_eq_true c22
            have c22b1 : decide (0 < x1_1.length) = true := decide_eq_true (by omega)
            clear c22
            by_cases c23 : ((rd_T53 x0_1 0).f0) = ((rd_T53 x1_1 0).f0)
            ·rw [if_pos c23] at H
             have c23b0 : (((rd_T53 x0_1 0).f0) == ((rd_T53 x1_1 0).f0)) = true := beq_iff_eq.mpr c23
             have c23b1 : (((rd_T53 x0_1 0).f0) != ((rd_T53 x1_1 0).f0)) = false := bne_eq_false_iff_eq.mpr c23
             clear c23
             by_cases c24 : 1 ≤ (x1_1.length : Int)
             ·rw [if_pos c24] at H
              have c24b0 := eq_true c24
              have c24b1 : decide (1 ≤ (x1_1.length : Int)) = true := decide_eq_true c24
              clear c24
              obtain ⟨y248, hy248⟩ : ∃ y_ : List (S53), y_ = (x1_1.drop 1) := ⟨_, rfl⟩
              replace H : (if x5_1.length < 8796093022208 then (if 1 ≤ (x0_1.length : Int) then (impl_merge.l0 kj8 (x0_1.drop 1) y248 (x5_1 ++ [(⟨(rd_T53 x0_1 0).f0, (rd_T53 x0_1 0).f1⟩ : S53)])) else (none)) else (none)) = some r := by first | (rw [hy248]; with_reducible exact H) | (have H2_ := (Option.bind_some _ _).symm.trans H; rw [hy248]; with_reducible exact H2_) | (have H2_ := (Option.bind_some _ _).symm.trans H; with_reducible exact H2_) | with_reducible exact H | (rw [hy248]; exact H) | exact H
              have Ny248 := Aside0.mk hy248
              clear hy248
              by_cases c25 : x5_1.length < 8796093022208
              ·rw [if_pos c25] at H
               have LMc25 := Aside0.mk c25
               clear c25
               obtain ⟨y254, hy254⟩ : ∃ y_ : List (S53), y_ = (x5_1 ++ [(⟨(rd_T53 x0_1 0).f0, (rd_T53 x0_1 0).f1⟩ : S53)]) := ⟨_, rfl⟩
               replace H : (if 1 ≤ (x0_1.length : Int) then (impl_merge.l0 kj8 (x0_1.drop 1) y248 y254) else (none)) = some r := by first | (rw [hy254]; with_reducible exact H) | (have H2_ := (Option.bind_some _ _).symm.trans H; rw [hy254]; with_reducible exact H2_) | (have H2_ := (Option.bind_some _ _).symm.trans H; with_reducible exact H2_) | with_reducible exact H | (rw [hy254]; exact H) | exact H
               have Ny254 := Aside0.mk hy254
               clear hy254
               by_cases c26 : 1 ≤ (x0_1.length : Int)
               ·rw [if_pos c26] at H
                have c26b0 := eq_true c26
                have c26b1 : decide (1 ≤ (x0_1.length : Int)) = true := decide_eq_true c26
                clear c26
                obtain ⟨y257, hy257⟩ : ∃ y_ : List (S53), y_ = (x0_1.drop 1) := ⟨_, rfl⟩
                replace H : (impl_merge.l0 kj8 y257 y248 y254) = some r := by first | (rw [hy257]; with_reducible exact H) | (have H2_ := (Option.bind_some _ _).symm.trans H; rw [hy257]; with_reducible exact H2_) | (have H2_ := (Option.bind_some _ _).symm.trans H; with_reducible exact H2_) | with_reducible exact H | (rw [hy257]; exact H) | exact H
                have Ny257 := Aside0.mk hy257
                clear hy257
                have H' := Aside0.mk H
                clear H
                obtain ⟨Ao27, co27, eo27⟩ := Kd.V_slice HO_1.out
                subst eo27
                obtain ⟨Ao28, co28, eo28⟩ := Kd.V_slice HO_0.out
                subst eo28
                have p246 : 0 ≤ (0 : Int) := (by omega)
                have q246 : 0 < (x0_1.length : Int) := zX (by first | (with_reducible assumption) | assumption)
                obtain ⟨ad246, e246, hx246_0, hx246_1⟩ := at_T53 (Kd.V_reads' HO_0.out).2.2 0 p246 q246
                cases e246
                have qi246 : (0 < x0_1.length) = True := eq_true (by omega)
                (try rw [show ((0 : Int)).toNat = 0 from rfl] at hx246_0)
                (try rw [show 0 * 2 = 0 from rfl] at hx246_0)
                (try rw [Addr.add_zero'] at hx246_0)
                (try rw [show ((0 : Int)).toNat = 0 from rfl] at hx246_1)
                (try rw [show 0 * 2 = 0 from rfl] at hx246_1)
                (try rw [Addr.add_zero'] at hx246_1)
                replace p246 := eq_true p246
                replace q246 := eq_true q246
                have p247 : 0 ≤ (0 : Int) := (by omega)
                have q247 : 0 < (x1_1.length : Int) := zX (by first | (with_reducible assumption) | assumption)
                obtain ⟨ad247, e247, hx247_0, hx247_1⟩ := at_T53 (Kd.V_reads' HO_1.out).2.2 0 p247 q247
                cases e247
                have qi247 : (0 < x1_1.length) = True := eq_true (by omega)
                (try rw [show ((0 : Int)).toNat = 0 from rfl] at hx247_0)
                (try rw [show 0 * 2 = 0 from rfl] at hx247_0)
                (try rw [Addr.add_zero'] at hx247_0)
                (try rw [show ((0 : Int)).toNat = 0 from rfl] at hx247_1)
                (try rw [show 0 * 2 = 0 from rfl] at hx247_1)
                (try rw [Addr.add_zero'] at hx247_1)
                replace p247 := eq_true p247
                replace q247 := eq_true q247
                have q29 : (1 : Int) ≤ ((x1_1.length : Int) : Int) := zX (by first | (with_reducible assumption) | assumption)
                obtain ⟨i029, hi029, _, hsz29, _⟩ := info_parts info53
                have hroom29 : x1_1.length ≤ co27 := (Kd.V_reads' HO_1.out).2.1
                have hC29 : Kd.F k53 _ _ (some ad247) x1_1.length x1_1 := (Kd.V_at (base := w.heap.size) HO_1.out).2.2
                have hcut29 := cut_from (P := Try.prog) 46 53 .i64 Try.underlying46 hi029 2 hsz29 (some ad247) x1_1.length co27 1 (by omega) q29
                have hr29 := Kd.F_cut (m := (1 : Int).toNat) (c := co27) hC29 (by omega) hroom29
                obtain ⟨A29, hA29⟩ : ∃ A1, A1 = (if co27 = (1 : Int).toNat then (some ad247) else ((some ad247) : Option Addr).map (·.add ((1 : Int).toNat * 2))) := ⟨_, rfl⟩
                obtain ⟨c29, hc29⟩ : ∃ c1, c1 = co27 - (1 : Int).toNat := ⟨_, rfl⟩
                have hy29 : y248.length = x1_1.length - (1 : Int).toNat := (by rw [Ny248.out, List.length_drop] <;> omega)
                rw [show (x1_1).drop (1 : Int).toNat = y248 from Ny248.out.symm] at hr29
                replace hr29 : Kd.F k53 _ _ A29 y248.length y248 := (by rw [hA29]; exact hr29)
                rw [← hy29, ← hA29, ← hc29] at hcut29
                have HO252 := Aside0.mk (show Kd.V k53 53 _ w.heap.size _ (.slice A29 y248.length c29) y248 from Kd.V_mk (by rw [hy29, hc29]; exact Nat.sub_le_sub_right hroom29 _) hr29)
                have HC252 := Aside0.mk (show y248.length ≤ c29 from by rw [hy29, hc29]; exact Nat.sub_le_sub_right hroom29 _)
                clear hr29 hC29 hroom29 hi029 hsz29 hc29
                have KY29 := Aside0.mk hy29
                have KA29 := Aside0.mk hA29
                clear hy29 hA29
                replace q29 := eq_true q29
                have p253 : 0 ≤ (0 : Int) := (by omega)
                have q253 : 0 < (x0_1.length : Int) := zX (by first | (with_reducible assumption) | assumption)
                obtain ⟨ad253, e253, hx253_0, hx253_1⟩ := at_T53 (Kd.V_reads' HO_0.out).2.2 0 p253 q253
                obtain rfl : ad246 = ad253 := (by injection e253)
                have qi253 : (0 < x0_1.length) = True := eq_true (by omega)
                (try rw [show ((0 : Int)).toNat = 0 from rfl] at hx253_0)
                (try rw [show 0 * 2 = 0 from rfl] at hx253_0)
                (try rw [Addr.add_zero'] at hx253_0)
                (try rw [show ((0 : Int)).toNat = 0 from rfl] at hx253_1)
                (try rw [show 0 * 2 = 0 from rfl] at hx253_1)
                (try rw [Addr.add_zero'] at hx253_1)
                replace p253 := eq_true p253
                replace q253 := eq_true q253
                go_wp2_with (first | ((with_reducible refine gate_builtin (b := .append) (xs := #[.tmp 49, .tmp 53]) rfl ?_); (try (refine gate_guard (by rfl) ?_; dsimp only)); at_builtin; refine Kd.R_append k53 (w0 := w) w.heap.size rfl (.tmp 49) (.tmp 53) 46 53 (.agg #[(.int .i64 0), (.int .i64 0)]) 16 rfl Try.underlying46 info53 rfl (by decide) (by omega) u5 x5_1 (⟨(rd_T53 x0_1 0).f0, (rd_T53 x0_1 0).f1⟩ : S53) [.int .i64 ((rd_T53 x0_1 0).f0), .int .i64 ((rd_T53 x0_1 0).f1)] (fun k_ => (w.heap.size ≤ k_)) (fun _ => False) rfl rfl ?aP (fun _ hk => hk.elim) ?aF ?aO ?aB ?aS ?aL ?_; (case aP => exact k53_mkM _ _ _ (⟨(rd_T53 x0_1 0).f0, (rd_T53 x0_1 0).f1⟩ : S53)); (case aB => exact (by repeat (first | (with_reducible first | exact HB.out | apply zA | apply zB | apply zC) | exact HB.out))); (case aF => exact (fun k_ hk => (Nat.le_trans (zW (by repeat (first | (with_reducible first | exact HB.out | apply zA | apply zB | apply zC) | exact HB.out))) hk))); (case aO => exact (by (with_reducible repeat (first | apply zG | apply zH | apply zI)); exact HO_5.out)); (case aS => exact (zW (by repeat (first | (with_reducible first | exact HB.out | apply zA | apply zB | apply zC) | exact HB.out)))); (case aL => have := LMc25.out; omega); intro v255 w30 ho hb hg hat; rw [← Ny254.out] at ho; have n0_ := Aside0.mk (Kd.V_afterv (ok := (fun k_ => ((P0_ k_ ∨ P1_ k_) ∨ w.heap.size ≤ k_))) (by (with_reducible repeat (first | apply zM | apply zN | apply zO)); exact HO_0.out) hg hat); have n1_ := Aside0.mk (Kd.V_afterv (ok := (fun k_ => ((P0_ k_ ∨ P1_ k_) ∨ w.heap.size ≤ k_))) (by (with_reducible repeat (first | apply zM | apply zN | apply zO)); exact HO_1.out) hg hat); have n2_ := Aside0.mk (Kd.V_afterv (ok := (fun k_ => ((P0_ k_ ∨ P1_ k_) ∨ w.heap.size ≤ k_))) (by (with_reducible repeat (first | apply zM | apply zN | apply zO)); exact HO252.out) hg hat); have n3_ := Aside0.mk (hb); have n4_ := Aside0.mk (ho); clear HO_0; clear HO_1; clear HO252; clear HB; clear HO_5; have HO_0 := n0_; have HO_1 := n1_; have HO252 := n2_; have HB := n3_; have HO256 := n4_; clear n0_ n1_ n2_ n3_ n4_; clear ho hb hg hat; have q31 : (1 : Int) ≤ ((x0_1.length : Int) : Int) := zX (by first | (with_reducible assumption) | assumption); obtain ⟨i031, hi031, _, hsz31, _⟩ := info_parts info53; have hroom31 : x0_1.length ≤ co28 := (Kd.V_reads' HO_0.out).2.1; have hC31 : Kd.F k53 _ _ (some ad246) x0_1.length x0_1 := (Kd.V_at (base := w.heap.size) HO_0.out).2.2; have hcut31 := cut_from (P := Try.prog) 46 53 .i64 Try.underlying46 hi031 2 hsz31 (some ad246) x0_1.length co28 1 (by omega) q31; have hr31 := Kd.F_cut (m := (1 : Int).toNat) (c := co28) hC31 (by omega) hroom31; obtain ⟨A31, hA31⟩ : ∃ A1, A1 = (if co28 = (1 : Int).toNat then (some ad246) else ((some ad246) : Option Addr).map (·.add ((1 : Int).toNat * 2))) := ⟨_, rfl⟩; obtain ⟨c31, hc31⟩ : ∃ c1, c1 = co28 - (1 : Int).toNat := ⟨_, rfl⟩; have hy31 : y257.length = x0_1.length - (1 : Int).toNat := (by rw [Ny257.out, List.length_drop] <;> omega); rw [show (x0_1).drop (1 : Int).toNat = y257 from Ny257.out.symm] at hr31; replace hr31 : Kd.F k53 _ _ A31 y257.length y257 := (by rw [hA31]; exact hr31); rw [← hy31, ← hA31, ← hc31] at hcut31; have HO261 := Aside0.mk (show Kd.V k53 53 _ w.heap.size _ (.slice A31 y257.length c31) y257 from Kd.V_mk (by rw [hy31, hc31]; exact Nat.sub_le_sub_right hroom31 _) hr31); have HC261 := Aside0.mk (show y257.length ≤ c31 from by rw [hy31, hc31]; exact Nat.sub_le_sub_right hroom31 _); clear hr31 hC31 hroom31 hi031 hsz31 hc31; have KY31 := Aside0.mk hy31; have KA31 := Aside0.mk hA31; clear hy31 hA31; replace q31 := eq_true q31))
                repeat (go_quiet (first | ((with_reducible refine gate_builtin (b := .append) (xs := #[.tmp 49, .tmp 53]) rfl ?_); (try (refine gate_guard (by rfl) ?_; dsimp only)); at_builtin; refine Kd.R_append k53 (w0 := w) w.heap.size rfl (.tmp 49) (.tmp 53) 46 53 (.agg #[(.int .i64 0), (.int .i64 0)]) 16 rfl Try.underlying46 info53 rfl (by decide) (by omega) u5 x5_1 (⟨(rd_T53 x0_1 0).f0, (rd_T53 x0_1 0).f1⟩ : S53) [.int .i64 ((rd_T53 x0_1 0).f0), .int .i64 ((rd_T53 x0_1 0).f1)] (fun k_ => (w.heap.size ≤ k_)) (fun _ => False) rfl rfl ?aP (fun _ hk => hk.elim) ?aF ?aO ?aB ?aS ?aL ?_; (case aP => exact k53_mkM _ _ _ (⟨(rd_T53 x0_1 0).f0, (rd_T53 x0_1 0).f1⟩ : S53)); (case aB => exact (by repeat (first | (with_reducible first | exact HB.out | apply zA | apply zB | apply zC) | exact HB.out))); (case aF => exact (fun k_ hk => (Nat.le_trans (zW (by repeat (first | (with_reducible first | exact HB.out | apply zA | apply zB | apply zC) | exact HB.out))) hk))); (case aO => exact (by (with_reducible repeat (first | apply zG | apply zH | apply zI)); exact HO_5.out)); (case aS => exact (zW (by repeat (first | (with_reducible first | exact HB.out | apply zA | apply zB | apply zC) | exact HB.out)))); (case aL => have := LMc25.out; omega); intro v255 w30 ho hb hg hat; rw [← Ny254.out] at ho; have n0_ := Aside0.mk (Kd.V_afterv (ok := (fun k_ => ((P0_ k_ ∨ P1_ k_) ∨ w.heap.size ≤ k_))) (by (with_reducible repeat (first | apply zM | apply zN | apply zO)); exact HO_0.out) hg hat); have n1_ := Aside0.mk (Kd.V_afterv (ok := (fun k_ => ((P0_ k_ ∨ P1_ k_) ∨ w.heap.size ≤ k_))) (by (with_reducible repeat (first | apply zM | apply zN | apply zO)); exact HO_1.out) hg hat); have n2_ := Aside0.mk (Kd.V_afterv (ok := (fun k_ => ((P0_ k_ ∨ P1_ k_) ∨ w.heap.size ≤ k_))) (by (with_reducible repeat (first | apply zM | apply zN | apply zO)); exact HO252.out) hg hat); have n3_ := Aside0.mk (hb); have n4_ := Aside0.mk (ho); clear HO_0; clear HO_1; clear HO252; clear HB; clear HO_5; have HO_0 := n0_; have HO_1 := n1_; have HO252 := n2_; have HB := n3_; have HO256 := n4_; clear n0_ n1_ n2_ n3_ n4_; clear ho hb hg hat; have q31 : (1 : Int) ≤ ((x0_1.length : Int) : Int) := zX (by first | (with_reducible assumption) | assumption); obtain ⟨i031, hi031, _, hsz31, _⟩ := info_parts info53; have hroom31 : x0_1.length ≤ co28 := (Kd.V_reads' HO_0.out).2.1; have hC31 : Kd.F k53 _ _ (some ad246) x0_1.length x0_1 := (Kd.V_at (base := w.heap.size) HO_0.out).2.2; have hcut31 := cut_from (P := Try.prog) 46 53 .i64 Try.underlying46 hi031 2 hsz31 (some ad246) x0_1.length co28 1 (by omega) q31; have hr31 := Kd.F_cut (m := (1 : Int).toNat) (c := co28) hC31 (by omega) hroom31; obtain ⟨A31, hA31⟩ : ∃ A1, A1 = (if co28 = (1 : Int).toNat then (some ad246) else ((some ad246) : Option Addr).map (·.add ((1 : Int).toNat * 2))) := ⟨_, rfl⟩; obtain ⟨c31, hc31⟩ : ∃ c1, c1 = co28 - (1 : Int).toNat := ⟨_, rfl⟩; have hy31 : y257.length = x0_1.length - (1 : Int).toNat := (by rw [Ny257.out, List.length_drop] <;> omega); rw [show (x0_1).drop (1 : Int).toNat = y257 from Ny257.out.symm] at hr31; replace hr31 : Kd.F k53 _ _ A31 y257.length y257 := (by rw [hA31]; exact hr31); rw [← hy31, ← hA31, ← hc31] at hcut31; have HO261 := Aside0.mk (show Kd.V k53 53 _ w.heap.size _ (.slice A31 y257.length c31) y257 from Kd.V_mk (by rw [hy31, hc31]; exact Nat.sub_le_sub_right hroom31 _) hr31); have HC261 := Aside0.mk (show y257.length ≤ c31 from by rw [hy31, hc31]; exact Nat.sub_le_sub_right hroom31 _); clear hr31 hC31 hroom31 hi031 hsz31 hc31; have KY31 := Aside0.mk hy31; have KA31 := Aside0.mk hA31; clear hy31 hA31; replace q31 := eq_true q31)); try go_wp2_with (first | ((with_reducible refine gate_builtin (b := .append) (xs := #[.tmp 49, .tmp 53]) rfl ?_); (try (refine gate_guard (by rfl) ?_; dsimp only)); at_builtin; refine Kd.R_append k53 (w0 := w) w.heap.size rfl (.tmp 49) (.tmp 53) 46 53 (.agg #[(.int .i64 0), (.int .i64 0)]) 16 rfl Try.underlying46 info53 rfl (by decide) (by omega) u5 x5_1 (⟨(rd_T53 x0_1 0).f0, (rd_T53 x0_1 0).f1⟩ : S53) [.int .i64 ((rd_T53 x0_1 0).f0), .int .i64 ((rd_T53 x0_1 0).f1)] (fun k_ => (w.heap.size ≤ k_)) (fun _ => False) rfl rfl ?aP (fun _ hk => hk.elim) ?aF ?aO ?aB ?aS ?aL ?_; (case aP => exact k53_mkM _ _ _ (⟨(rd_T53 x0_1 0).f0, (rd_T53 x0_1 0).f1⟩ : S53)); (case aB => exact (by repeat (first | (with_reducible first | exact HB.out | apply zA | apply zB | apply zC) | exact HB.out))); (case aF => exact (fun k_ hk => (Nat.le_trans (zW (by repeat (first | (with_reducible first | exact HB.out | apply zA | apply zB | apply zC) | exact HB.out))) hk))); (case aO => exact (by (with_reducible repeat (first | apply zG | apply zH | apply zI)); exact HO_5.out)); (case aS => exact (zW (by repeat (first | (with_reducible first | exact HB.out | apply zA | apply zB | apply zC) | exact HB.out)))); (case aL => have := LMc25.out; omega); intro v255 w30 ho hb hg hat; rw [← Ny254.out] at ho; have n0_ := Aside0.mk (Kd.V_afterv (ok := (fun k_ => ((P0_ k_ ∨ P1_ k_) ∨ w.heap.size ≤ k_))) (by (with_reducible repeat (first | apply zM | apply zN | apply zO)); exact HO_0.out) hg hat); have n1_ := Aside0.mk (Kd.V_afterv (ok := (fun k_ => ((P0_ k_ ∨ P1_ k_) ∨ w.heap.size ≤ k_))) (by (with_reducible repeat (first | apply zM | apply zN | apply zO)); exact HO_1.out) hg hat); have n2_ := Aside0.mk (Kd.V_afterv (ok := (fun k_ => ((P0_ k_ ∨ P1_ k_) ∨ w.heap.size ≤ k_))) (by (with_reducible repeat (first | apply zM | apply zN | apply zO)); exact HO252.out) hg hat); have n3_ := Aside0.mk (hb); have n4_ := Aside0.mk (ho); clear HO_0; clear HO_1; clear HO252; clear HB; clear HO_5; have HO_0 := n0_; have HO_1 := n1_; have HO252 := n2_; have HB := n3_; have HO256 := n4_; clear n0_ n1_ n2_ n3_ n4_; clear ho hb hg hat; have q31 : (1 : Int) ≤ ((x0_1.length : Int) : Int) := zX (by first | (with_reducible assumption) | assumption); obtain ⟨i031, hi031, _, hsz31, _⟩ := info_parts info53; have hroom31 : x0_1.length ≤ co28 := (Kd.V_reads' HO_0.out).2.1; have hC31 : Kd.F k53 _ _ (some ad246) x0_1.length x0_1 := (Kd.V_at (base := w.heap.size) HO_0.out).2.2; have hcut31 := cut_from (P := Try.prog) 46 53 .i64 Try.underlying46 hi031 2 hsz31 (some ad246) x0_1.length co28 1 (by omega) q31; have hr31 := Kd.F_cut (m := (1 : Int).toNat) (c := co28) hC31 (by omega) hroom31; obtain ⟨A31, hA31⟩ : ∃ A1, A1 = (if co28 = (1 : Int).toNat then (some ad246) else ((some ad246) : Option Addr).map (·.add ((1 : Int).toNat * 2))) := ⟨_, rfl⟩; obtain ⟨c31, hc31⟩ : ∃ c1, c1 = co28 - (1 : Int).toNat := ⟨_, rfl⟩; have hy31 : y257.length = x0_1.length - (1 : Int).toNat := (by rw [Ny257.out, List.length_drop] <;> omega); rw [show (x0_1).drop (1 : Int).toNat = y257 from Ny257.out.symm] at hr31; replace hr31 : Kd.F k53 _ _ A31 y257.length y257 := (by rw [hA31]; exact hr31); rw [← hy31, ← hA31, ← hc31] at hcut31; have HO261 := Aside0.mk (show Kd.V k53 53 _ w.heap.size _ (.slice A31 y257.length c31) y257 from Kd.V_mk (by rw [hy31, hc31]; exact Nat.sub_le_sub_right hroom31 _) hr31); have HC261 := Aside0.mk (show y257.length ≤ c31 from by rw [hy31, hc31]; exact Nat.sub_le_sub_right hroom31 _); clear hr31 hC31 hroom31 hi031 hsz31 hc31; have KY31 := Aside0.mk hy31; have KA31 := Aside0.mk hA31; clear hy31 hA31; replace q31 := eq_true q31)))
                go_roundg kj8
                case measure => have := HK1.out; have := HJ2.out; have := HJ8.out; omega
                case rel => exact ⟨(y257), (y248), (y254), H', ⟨by have := HK1.out; have := HJ2.out; have := HJ8.out; omega⟩, ⟨by (with_reducible repeat (first | apply zM | apply zN | apply zO)); exact HO261.out⟩, ⟨by (with_reducible repeat (first | apply zM | apply zN | apply zO)); exact HO252.out⟩, ⟨by (with_reducible repeat (first | apply zG | apply zH | apply zI)); exact HO256.out⟩, ⟨by repeat (first | (with_reducible first | exact HB.out | apply zA | apply zB | apply zC) | exact HB.out)⟩⟩
               ·rw [if_neg c26] at H
                exact absurd H (by simp)
              ·rw [if_neg c25] at H
               exact absurd H (by simp)
             ·rw [if_neg c24] at H
              exact absurd H (by simp)
            ·rw [if_neg c23] at H
             have c23b0 : (((rd_T53 x0_1 0).f0) == ((rd_T53 x1_1 0).f0)) = false := beq_eq_false_iff_ne.mpr c23
             have c23b1 : (((rd_T53 x0_1 0).f0) != ((rd_T53 x1_1 0).f0)) = true := bne_iff_ne.mpr c23
             by_cases c32 : x5_1.length < 8796093022208
             ·rw [if_pos c32] at H
              have LMc32 := Aside0.mk c32
              clear c32
              obtain ⟨y263, hy263⟩ : ∃ y_ : List (S53), y_ = (x5_1 ++ [(⟨(rd_T53 x0_1 0).f0, (rd_T53 x0_1 0).f1⟩ : S53)]) := ⟨_, rfl⟩
              replace H : (if 1 ≤ (x0_1.length : Int) then (impl_merge.l0 kj8 (x0_1.drop 1) x1_1 y263) else (none)) = some r := by first | (rw [hy263]; with_reducible exact H) | (have H2_ := (Option.bind_some _ _).symm.trans H; rw [hy263]; with_reducible exact H2_) | (have H2_ := (Option.bind_some _ _).symm.trans H; with_reducible exact H2_) | with_reducible exact H | (rw [hy263]; exact H) | exact H
              have Ny263 := Aside0.mk hy263
              clear hy263
              by_cases c33 : 1 ≤ (x0_1.length : Int)
              ·rw [if_pos c33] at H
               have c33b0 := eq_true c33
               have c33b1 : decide (1 ≤ (x0_1.length : Int)) = true := decide_eq_true c33
               clear c33
               obtain ⟨y266, hy266⟩ : ∃ y_ : List (S53), y_ = (x0_1.drop 1) := ⟨_, rfl⟩
               replace H : (impl_merge.l0 kj8 y266 x1_1 y263) = some r := by first | (rw [hy266]; with_reducible exact H) | (have H2_ := (Option.bind_some _ _).symm.trans H; rw [hy266]; with_reducible exact H2_) | (have H2_ := (Option.bind_some _ _).symm.trans H; with_reducible exact H2_) | with_reducible exact H | (rw [hy266]; exact H) | exact H
               have Ny266 := Aside0.mk hy266
               clear hy266
               have H' := Aside0.mk H
               clear H
               obtain ⟨Ao34, co34, eo34⟩ := Kd.V_slice HO_1.out
               subst eo34
               obtain ⟨Ao35, co35, eo35⟩ := Kd.V_slice HO_0.out
               subst eo35
               have p246 : 0 ≤ (0 : Int) := (by omega)
               have q246 : 0 < (x0_1.length : Int) := zX (by first | (with_reducible assumption) | assumption)
               obtain ⟨ad246, e246, hx246_0, hx246_1⟩ := at_T53 (Kd.V_reads' HO_0.out).2.2 0 p246 q246
               cases e246
               have qi246 : (0 < x0_1.length) = True := eq_true (by omega)
               (try rw [show ((0 : Int)).toNat = 0 from rfl] at hx246_0)
               (try rw [show 0 * 2 = 0 from rfl] at hx246_0)
               (try rw [Addr.add_zero'] at hx246_0)
               (try rw [show ((0 : Int)).toNat = 0 from rfl] at hx246_1)
               (try rw [show 0 * 2 = 0 from rfl] at hx246_1)
               (try rw [Addr.add_zero'] at hx246_1)
               replace p246 := eq_true p246
               replace q246 := eq_true q246
               have p247 : 0 ≤ (0 : Int) := (by omega)
               have q247 : 0 < (x1_1.length : Int) := zX (by first | (with_reducible assumption) | assumption)
               obtain ⟨ad247, e247, hx247_0, hx247_1⟩ := at_T53 (Kd.V_reads' HO_1.out).2.2 0 p247 q247
               cases e247
               have qi247 : (0 < x1_1.length) = True := eq_true (by omega)
               (try rw [show ((0 : Int)).toNat = 0 from rfl] at hx247_0)
               (try rw [show 0 * 2 = 0 from rfl] at hx247_0)
               (try rw [Addr.add_zero'] at hx247_0)
               (try rw [show ((0 : Int)).toNat = 0 from rfl] at hx247_1)
               (try rw [show 0 * 2 = 0 from rfl] at hx247_1)
               (try rw [Addr.add_zero'] at hx247_1)
               replace p247 := eq_true p247
               replace q247 := eq_true q247
               have p262 : 0 ≤ (0 : Int) := (by omega)
               have q262 : 0 < (x0_1.length : Int) := zX (by first | (with_reducible assumption) | assumption)
               obtain ⟨ad262, e262, hx262_0, hx262_1⟩ := at_T53 (Kd.V_reads' HO_0.out).2.2 0 p262 q262
               obtain rfl : ad246 = ad262 := (by injection e262)
               have qi262 : (0 < x0_1.length) = True := eq_true (by omega)
               (try rw [show ((0 : Int)).toNat = 0 from rfl] at hx262_0)
               (try rw [show 0 * 2 = 0 from rfl] at hx262_0)
               (try rw [Addr.add_zero'] at hx262_0)
               (try rw [show ((0 : Int)).toNat = 0 from rfl] at hx262_1)
               (try rw [show 0 * 2 = 0 from rfl] at hx262_1)
               (try rw [Addr.add_zero'] at hx262_1)
               replace p262 := eq_true p262
               replace q262 := eq_true q262
               go_wp2_with (first | ((with_reducible refine gate_builtin (b := .append) (xs := #[.tmp 49, .tmp 53]) rfl ?_); (try (refine gate_guard (by rfl) ?_; dsimp only)); at_builtin; refine Kd.R_append k53 (w0 := w) w.heap.size rfl (.tmp 49) (.tmp 53) 46 53 (.agg #[(.int .i64 0), (.int .i64 0)]) 16 rfl Try.underlying46 info53 rfl (by decide) (by omega) u5 x5_1 (⟨(rd_T53 x0_1 0).f0, (rd_T53 x0_1 0).f1⟩ : S53) [.int .i64 ((rd_T53 x0_1 0).f0), .int .i64 ((rd_T53 x0_1 0).f1)] (fun k_ => (w.heap.size ≤ k_)) (fun _ => False) rfl rfl ?aP (fun _ hk => hk.elim) ?aF ?aO ?aB ?aS ?aL ?_; (case aP => exact k53_mkM _ _ _ (⟨(rd_T53 x0_1 0).f0, (rd_T53 x0_1 0).f1⟩ : S53)); (case aB => exact (by repeat (first | (with_reducible first | exact HB.out | apply zA | apply zB | apply zC) | exact HB.out))); (case aF => exact (fun k_ hk => (Nat.le_trans (zW (by repeat (first | (with_reducible first | exact HB.out | apply zA | apply zB | apply zC) | exact HB.out))) hk))); (case aO => exact (by (with_reducible repeat (first | apply zG | apply zH | apply zI)); exact HO_5.out)); (case aS => exact (zW (by repeat (first | (with_reducible first | exact HB.out | apply zA | apply zB | apply zC) | exact HB.out)))); (case aL => have := LMc32.out; omega); intro v264 w36 ho hb hg hat; rw [← Ny263.out] at ho; have n0_ := Aside0.mk (Kd.V_afterv (ok := (fun k_ => ((P0_ k_ ∨ P1_ k_) ∨ w.heap.size ≤ k_))) (by (with_reducible repeat (first | apply zM | apply zN | apply zO)); exact HO_0.out) hg hat); have n1_ := Aside0.mk (Kd.V_afterv (ok := (fun k_ => ((P0_ k_ ∨ P1_ k_) ∨ w.heap.size ≤ k_))) (by (with_reducible repeat (first | apply zM | apply zN | apply zO)); exact HO_1.out) hg hat); have n2_ := Aside0.mk (hb); have n3_ := Aside0.mk (ho); clear HO_0; clear HO_1; clear HB; clear HO_5; have HO_0 := n0_; have HO_1 := n1_; have HB := n2_; have HO265 := n3_; clear n0_ n1_ n2_ n3_; clear ho hb hg hat; have q37 : (1 : Int) ≤ ((x0_1.length : Int) : Int) := zX (by first | (with_reducible assumption) | assumption); obtain ⟨i037, hi037, _, hsz37, _⟩ := info_parts info53; have hroom37 : x0_1.length ≤ co35 := (Kd.V_reads' HO_0.out).2.1; have hC37 : Kd.F k53 _ _ (some ad246) x0_1.length x0_1 := (Kd.V_at (base := w.heap.size) HO_0.out).2.2; have hcut37 := cut_from (P := Try.prog) 46 53 .i64 Try.underlying46 hi037 2 hsz37 (some ad246) x0_1.length co35 1 (by omega) q37; have hr37 := Kd.F_cut (m := (1 : Int).toNat) (c := co35) hC37 (by omega) hroom37; obtain ⟨A37, hA37⟩ : ∃ A1, A1 = (if co35 = (1 : Int).toNat then (some ad246) else ((some ad246) : Option Addr).map (·.add ((1 : Int).toNat * 2))) := ⟨_, rfl⟩; obtain ⟨c37, hc37⟩ : ∃ c1, c1 = co35 - (1 : Int).toNat := ⟨_, rfl⟩; have hy37 : y266.length = x0_1.length - (1 : Int).toNat := (by rw [Ny266.out, List.length_drop] <;> omega); rw [show (x0_1).drop (1 : Int).toNat = y266 from Ny266.out.symm] at hr37; replace hr37 : Kd.F k53 _ _ A37 y266.length y266 := (by rw [hA37]; exact hr37); rw [← hy37, ← hA37, ← hc37] at hcut37; have HO270 := Aside0.mk (show Kd.V k53 53 _ w.heap.size _ (.slice A37 y266.length c37) y266 from Kd.V_mk (by rw [hy37, hc37]; exact Nat.sub_le_sub_right hroom37 _) hr37); have HC270 := Aside0.mk (show y266.length ≤ c37 from by rw [hy37, hc37]; exact Nat.sub_le_sub_right hroom37 _); clear hr37 hC37 hroom37 hi037 hsz37 hc37; have KY37 := Aside0.mk hy37; have KA37 := Aside0.mk hA37; clear hy37 hA37; replace q37 := eq_true q37))
               repeat (go_quiet (first | ((with_reducible refine gate_builtin (b := .append) (xs := #[.tmp 49, .tmp 53]) rfl ?_); (try (refine gate_guard (by rfl) ?_; dsimp only)); at_builtin; refine Kd.R_append k53 (w0 := w) w.heap.size rfl (.tmp 49) (.tmp 53) 46 53 (.agg #[(.int .i64 0), (.int .i64 0)]) 16 rfl Try.underlying46 info53 rfl (by decide) (by omega) u5 x5_1 (⟨(rd_T53 x0_1 0).f0, (rd_T53 x0_1 0).f1⟩ : S53) [.int .i64 ((rd_T53 x0_1 0).f0), .int .i64 ((rd_T53 x0_1 0).f1)] (fun k_ => (w.heap.size ≤ k_)) (fun _ => False) rfl rfl ?aP (fun _ hk => hk.elim) ?aF ?aO ?aB ?aS ?aL ?_; (case aP => exact k53_mkM _ _ _ (⟨(rd_T53 x0_1 0).f0, (rd_T53 x0_1 0).f1⟩ : S53)); (case aB => exact (by repeat (first | (with_reducible first | exact HB.out | apply zA | apply zB | apply zC) | exact HB.out))); (case aF => exact (fun k_ hk => (Nat.le_trans (zW (by repeat (first | (with_reducible first | exact HB.out | apply zA | apply zB | apply zC) | exact HB.out))) hk))); (case aO => exact (by (with_reducible repeat (first | apply zG | apply zH | apply zI)); exact HO_5.out)); (case aS => exact (zW (by repeat (first | (with_reducible first | exact HB.out | apply zA | apply zB | apply zC) | exact HB.out)))); (case aL => have := LMc32.out; omega); intro v264 w36 ho hb hg hat; rw [← Ny263.out] at ho; have n0_ := Aside0.mk (Kd.V_afterv (ok := (fun k_ => ((P0_ k_ ∨ P1_ k_) ∨ w.heap.size ≤ k_))) (by (with_reducible repeat (first | apply zM | apply zN | apply zO)); exact HO_0.out) hg hat); have n1_ := Aside0.mk (Kd.V_afterv (ok := (fun k_ => ((P0_ k_ ∨ P1_ k_) ∨ w.heap.size ≤ k_))) (by (with_reducible repeat (first | apply zM | apply zN | apply zO)); exact HO_1.out) hg hat); have n2_ := Aside0.mk (hb); have n3_ := Aside0.mk (ho); clear HO_0; clear HO_1; clear HB; clear HO_5; have HO_0 := n0_; have HO_1 := n1_; have HB := n2_; have HO265 := n3_; clear n0_ n1_ n2_ n3_; clear ho hb hg hat; have q37 : (1 : Int) ≤ ((x0_1.length : Int) : Int) := zX (by first | (with_reducible assumption) | assumption); obtain ⟨i037, hi037, _, hsz37, _⟩ := info_parts info53; have hroom37 : x0_1.length ≤ co35 := (Kd.V_reads' HO_0.out).2.1; have hC37 : Kd.F k53 _ _ (some ad246) x0_1.length x0_1 := (Kd.V_at (base := w.heap.size) HO_0.out).2.2; have hcut37 := cut_from (P := Try.prog) 46 53 .i64 Try.underlying46 hi037 2 hsz37 (some ad246) x0_1.length co35 1 (by omega) q37; have hr37 := Kd.F_cut (m := (1 : Int).toNat) (c := co35) hC37 (by omega) hroom37; obtain ⟨A37, hA37⟩ : ∃ A1, A1 = (if co35 = (1 : Int).toNat then (some ad246) else ((some ad246) : Option Addr).map (·.add ((1 : Int).toNat * 2))) := ⟨_, rfl⟩; obtain ⟨c37, hc37⟩ : ∃ c1, c1 = co35 - (1 : Int).toNat := ⟨_, rfl⟩; have hy37 : y266.length = x0_1.length - (1 : Int).toNat := (by rw [Ny266.out, List.length_drop] <;> omega); rw [show (x0_1).drop (1 : Int).toNat = y266 from Ny266.out.symm] at hr37; replace hr37 : Kd.F k53 _ _ A37 y266.length y266 := (by rw [hA37]; exact hr37); rw [← hy37, ← hA37, ← hc37] at hcut37; have HO270 := Aside0.mk (show Kd.V k53 53 _ w.heap.size _ (.slice A37 y266.length c37) y266 from Kd.V_mk (by rw [hy37, hc37]; exact Nat.sub_le_sub_right hroom37 _) hr37); have HC270 := Aside0.mk (show y266.length ≤ c37 from by rw [hy37, hc37]; exact Nat.sub_le_sub_right hroom37 _); clear hr37 hC37 hroom37 hi037 hsz37 hc37; have KY37 := Aside0.mk hy37; have KA37 := Aside0.mk hA37; clear hy37 hA37; replace q37 := eq_true q37)); try go_wp2_with (first | ((with_reducible refine gate_builtin (b := .append) (xs := #[.tmp 49, .tmp 53]) rfl ?_); (try (refine gate_guard (by rfl) ?_; dsimp only)); at_builtin; refine Kd.R_append k53 (w0 := w) w.heap.size rfl (.tmp 49) (.tmp 53) 46 53 (.agg #[(.int .i64 0), (.int .i64 0)]) 16 rfl Try.underlying46 info53 rfl (by decide) (by omega) u5 x5_1 (⟨(rd_T53 x0_1 0).f0, (rd_T53 x0_1 0).f1⟩ : S53) [.int .i64 ((rd_T53 x0_1 0).f0), .int .i64 ((rd_T53 x0_1 0).f1)] (fun k_ => (w.heap.size ≤ k_)) (fun _ => False) rfl rfl ?aP (fun _ hk => hk.elim) ?aF ?aO ?aB ?aS ?aL ?_; (case aP => exact k53_mkM _ _ _ (⟨(rd_T53 x0_1 0).f0, (rd_T53 x0_1 0).f1⟩ : S53)); (case aB => exact (by repeat (first | (with_reducible first | exact HB.out | apply zA | apply zB | apply zC) | exact HB.out))); (case aF => exact (fun k_ hk => (Nat.le_trans (zW (by repeat (first | (with_reducible first | exact HB.out | apply zA | apply zB | apply zC) | exact HB.out))) hk))); (case aO => exact (by (with_reducible repeat (first | apply zG | apply zH | apply zI)); exact HO_5.out)); (case aS => exact (zW (by repeat (first | (with_reducible first | exact HB.out | apply zA | apply zB | apply zC) | exact HB.out)))); (case aL => have := LMc32.out; omega); intro v264 w36 ho hb hg hat; rw [← Ny263.out] at ho; have n0_ := Aside0.mk (Kd.V_afterv (ok := (fun k_ => ((P0_ k_ ∨ P1_ k_) ∨ w.heap.size ≤ k_))) (by (with_reducible repeat (first | apply zM | apply zN | apply zO)); exact HO_0.out) hg hat); have n1_ := Aside0.mk (Kd.V_afterv (ok := (fun k_ => ((P0_ k_ ∨ P1_ k_) ∨ w.heap.size ≤ k_))) (by (with_reducible repeat (first | apply zM | apply zN | apply zO)); exact HO_1.out) hg hat); have n2_ := Aside0.mk (hb); have n3_ := Aside0.mk (ho); clear HO_0; clear HO_1; clear HB; clear HO_5; have HO_0 := n0_; have HO_1 := n1_; have HB := n2_; have HO265 := n3_; clear n0_ n1_ n2_ n3_; clear ho hb hg hat; have q37 : (1 : Int) ≤ ((x0_1.length : Int) : Int) := zX (by first | (with_reducible assumption) | assumption); obtain ⟨i037, hi037, _, hsz37, _⟩ := info_parts info53; have hroom37 : x0_1.length ≤ co35 := (Kd.V_reads' HO_0.out).2.1; have hC37 : Kd.F k53 _ _ (some ad246) x0_1.length x0_1 := (Kd.V_at (base := w.heap.size) HO_0.out).2.2; have hcut37 := cut_from (P := Try.prog) 46 53 .i64 Try.underlying46 hi037 2 hsz37 (some ad246) x0_1.length co35 1 (by omega) q37; have hr37 := Kd.F_cut (m := (1 : Int).toNat) (c := co35) hC37 (by omega) hroom37; obtain ⟨A37, hA37⟩ : ∃ A1, A1 = (if co35 = (1 : Int).toNat then (some ad246) else ((some ad246) : Option Addr).map (·.add ((1 : Int).toNat * 2))) := ⟨_, rfl⟩; obtain ⟨c37, hc37⟩ : ∃ c1, c1 = co35 - (1 : Int).toNat := ⟨_, rfl⟩; have hy37 : y266.length = x0_1.length - (1 : Int).toNat := (by rw [Ny266.out, List.length_drop] <;> omega); rw [show (x0_1).drop (1 : Int).toNat = y266 from Ny266.out.symm] at hr37; replace hr37 : Kd.F k53 _ _ A37 y266.length y266 := (by rw [hA37]; exact hr37); rw [← hy37, ← hA37, ← hc37] at hcut37; have HO270 := Aside0.mk (show Kd.V k53 53 _ w.heap.size _ (.slice A37 y266.length c37) y266 from Kd.V_mk (by rw [hy37, hc37]; exact Nat.sub_le_sub_right hroom37 _) hr37); have HC270 := Aside0.mk (show y266.length ≤ c37 from by rw [hy37, hc37]; exact Nat.sub_le_sub_right hroom37 _); clear hr37 hC37 hroom37 hi037 hsz37 hc37; have KY37 := Aside0.mk hy37; have KA37 := Aside0.mk hA37; clear hy37 hA37; replace q37 := eq_true q37)))
               go_roundg kj8
               case measure => have := HK1.out; have := HJ2.out; have := HJ8.out; omega
               case rel => exact ⟨(y266), (x1_1), (y263), H', ⟨by have := HK1.out; have := HJ2.out; have := HJ8.out; omega⟩, ⟨by (with_reducible repeat (first | apply zM | apply zN | apply zO)); exact HO270.out⟩, ⟨by (with_reducible repeat (first | apply zM | apply zN | apply zO)); exact HO_1.out⟩, ⟨by (with_reducible repeat (first | apply zG | apply zH | apply zI)); exact HO265.out⟩, ⟨by repeat (first | (with_reducible first | exact HB.out | apply zA | apply zB | apply zC) | exact HB.out)⟩⟩
              ·rw [if_neg c33] at H
               exact absurd H (by simp)
             ·rw [if_neg c32] at H
              exact absurd H (by simp)
           ·rw [if_neg c22] at H
            exact absurd H (by simp)
          ·rw [if_neg c21] at H
           exact absurd H (by simp)
         ·rw [if_neg c20] at H
          have c20b0 : decide (0 < (x1_1.length : Int)) = false := decide_eq_false c20
          have c20b1 : decide (0 < x1_1.length) = false := decide_eq_false (by omega)
          clear c20
          by_cases c38 : 0 < (x0_1.length : Int)
          ·rw [if_pos c38] at H
           have c38b0 : decide (0 < (x0_1.length : Int)) = true := decide_eq_true c38
           have c38b1 : decide (0 < x0_1.length) = true := decide_eq_true (by omega)
           clear c38
           by_cases c39 : x5_1.length < 8796093022208
           ·rw [if_pos c39] at H
            have LMc39 := Aside0.mk c39
            clear c39
            obtain ⟨y272, hy272⟩ : ∃ y_ : List (S53), y_ = (x5_1 ++ [(⟨(rd_T53 x0_1 0).f0, (rd_T53 x0_1 0).f1⟩ : S53)]) := ⟨_, rfl⟩
            replace H : (if 1 ≤ (x0_1.length : Int) then (impl_merge.l0 kj8 (x0_1.drop 1) x1_1 y272) else (none)) = some r := by first | (rw [hy272]; with_reducible exact H) | (have H2_ := (Option.bind_some _ _).symm.trans H; rw [hy272]; with_reducible exact H2_) | (have H2_ := (Option.bind_some _ _).symm.trans H; with_reducible exact H2_) | with_reducible exact H | (rw [hy272]; exact H) | exact H
            have Ny272 := Aside0.mk hy272
            clear hy272
            by_cases c40 : 1 ≤ (x0_1.length : Int)
            ·rw [if_pos c40] at H
             have c40b0 := eq_true c40
             have c40b1 : decide (1 ≤ (x0_1.length : Int)) = true := decide_eq_true c40
             clear c40
             obtain ⟨y275, hy275⟩ : ∃ y_ : List (S53), y_ = (x0_1.drop 1) := ⟨_, rfl⟩
             replace H : (impl_merge.l0 kj8 y275 x1_1 y272) = some r := by first | (rw [hy275]; with_reducible exact H) | (have H2_ := (Option.bind_some _ _).symm.trans H; rw [hy275]; with_reducible exact H2_) | (have H2_ := (Option.bind_some _ _).symm.trans H; with_reducible exact H2_) | with_reducible exact H | (rw [hy275]; exact H) | exact H
             have Ny275 := Aside0.mk hy275
             clear hy275
             have H' := Aside0.mk H
             clear H
             obtain ⟨Ao41, co41, eo41⟩ := Kd.V_slice HO_1.out
             subst eo41
             obtain ⟨Ao42, co42, eo42⟩ := Kd.V_slice HO_0.out
             subst eo42
             have p271 : 0 ≤ (0 : Int) := (by omega)
             have q271 : 0 < (x0_1.length : Int) := zX (by first | (with_reducible assumption) | assumption)
             obtain ⟨ad271, e271, hx271_0, hx271_1⟩ := at_T53 (Kd.V_reads' HO_0.out).2.2 0 p271 q271
             cases e271
             have qi271 : (0 < x0_1.length) = True := eq_true (by omega)
             (try rw [show ((0 : Int)).toNat = 0 from rfl] at hx271_0)
             (try rw [show 0 * 2 = 0 from rfl] at hx271_0)
             (try rw [Addr.add_zero'] at hx271_0)
             (try rw [show ((0 : Int)).toNat = 0 from rfl] at hx271_1)
             (try rw [show 0 * 2 = 0 from rfl] at hx271_1)
             (try rw [Addr.add_zero'] at hx271_1)
             replace p271 := eq_true p271
             replace q271 := eq_true q271
             go_wp2_with (first | ((with_reducible refine gate_builtin (b := .append) (xs := #[.tmp 49, .tmp 53]) rfl ?_); (try (refine gate_guard (by rfl) ?_; dsimp only)); at_builtin; refine Kd.R_append k53 (w0 := w) w.heap.size rfl (.tmp 49) (.tmp 53) 46 53 (.agg #[(.int .i64 0), (.int .i64 0)]) 16 rfl Try.underlying46 info53 rfl (by decide) (by omega) u5 x5_1 (⟨(rd_T53 x0_1 0).f0, (rd_T53 x0_1 0).f1⟩ : S53) [.int .i64 ((rd_T53 x0_1 0).f0), .int .i64 ((rd_T53 x0_1 0).f1)] (fun k_ => (w.heap.size ≤ k_)) (fun _ => False) rfl rfl ?aP (fun _ hk => hk.elim) ?aF ?aO ?aB ?aS ?aL ?_; (case aP => exact k53_mkM _ _ _ (⟨(rd_T53 x0_1 0).f0, (rd_T53 x0_1 0).f1⟩ : S53)); (case aB => exact (by repeat (first | (with_reducible first | exact HB.out | apply zA | apply zB | apply zC) | exact HB.out))); (case aF => exact (fun k_ hk => (Nat.le_trans (zW (by repeat (first | (with_reducible first | exact HB.out | apply zA | apply zB | apply zC) | exact HB.out))) hk))); (case aO => exact (by (with_reducible repeat (first | apply zG | apply zH | apply zI)); exact HO_5.out)); (case aS => exact (zW (by repeat (first | (with_reducible first | exact HB.out | apply zA | apply zB | apply zC) | exact HB.out)))); (case aL => have := LMc39.out; omega); intro v273 w43 ho hb hg hat; rw [← Ny272.out] at ho; have n0_ := Aside0.mk (Kd.V_afterv (ok := (fun k_ => ((P0_ k_ ∨ P1_ k_) ∨ w.heap.size ≤ k_))) (by (with_reducible repeat (first | apply zM | apply zN | apply zO)); exact HO_0.out) hg hat); have n1_ := Aside0.mk (Kd.V_afterv (ok := (fun k_ => ((P0_ k_ ∨ P1_ k_) ∨ w.heap.size ≤ k_))) (by (with_reducible repeat (first | apply zM | apply zN | apply zO)); exact HO_1.out) hg hat); have n2_ := Aside0.mk (hb); have n3_ := Aside0.mk (ho); clear HO_0; clear HO_1; clear HB; clear HO_5; have HO_0 := n0_; have HO_1 := n1_; have HB := n2_; have HO274 := n3_; clear n0_ n1_ n2_ n3_; clear ho hb hg hat; have q44 : (1 : Int) ≤ ((x0_1.length : Int) : Int) := zX (by first | (with_reducible assumption) | assumption); obtain ⟨i044, hi044, _, hsz44, _⟩ := info_parts info53; have hroom44 : x0_1.length ≤ co42 := (Kd.V_reads' HO_0.out).2.1; have hC44 : Kd.F k53 _ _ (some ad271) x0_1.length x0_1 := (Kd.V_at (base := w.heap.size) HO_0.out).2.2; have hcut44 := cut_from (P := Try.prog) 46 53 .i64 Try.underlying46 hi044 2 hsz44 (some ad271) x0_1.length co42 1 (by omega) q44; have hr44 := Kd.F_cut (m := (1 : Int).toNat) (c := co42) hC44 (by omega) hroom44; obtain ⟨A44, hA44⟩ : ∃ A1, A1 = (if co42 = (1 : Int).toNat then (some ad271) else ((some ad271) : Option Addr).map (·.add ((1 : Int).toNat * 2))) := ⟨_, rfl⟩; obtain ⟨c44, hc44⟩ : ∃ c1, c1 = co42 - (1 : Int).toNat := ⟨_, rfl⟩; have hy44 : y275.length = x0_1.length - (1 : Int).toNat := (by rw [Ny275.out, List.length_drop] <;> omega); rw [show (x0_1).drop (1 : Int).toNat = y275 from Ny275.out.symm] at hr44; replace hr44 : Kd.F k53 _ _ A44 y275.length y275 := (by rw [hA44]; exact hr44); rw [← hy44, ← hA44, ← hc44] at hcut44; have HO279 := Aside0.mk (show Kd.V k53 53 _ w.heap.size _ (.slice A44 y275.length c44) y275 from Kd.V_mk (by rw [hy44, hc44]; exact Nat.sub_le_sub_right hroom44 _) hr44); have HC279 := Aside0.mk (show y275.length ≤ c44 from by rw [hy44, hc44]; exact Nat.sub_le_sub_right hroom44 _); clear hr44 hC44 hroom44 hi044 hsz44 hc44; have KY44 := Aside0.mk hy44; have KA44 := Aside0.mk hA44; clear hy44 hA44; replace q44 := eq_true q44))
             repeat (go_quiet (first | ((with_reducible refine gate_builtin (b := .append) (xs := #[.tmp 49, .tmp 53]) rfl ?_); (try (refine gate_guard (by rfl) ?_; dsimp only)); at_builtin; refine Kd.R_append k53 (w0 := w) w.heap.size rfl (.tmp 49) (.tmp 53) 46 53 (.agg #[(.int .i64 0), (.int .i64 0)]) 16 rfl Try.underlying46 info53 rfl (by decide) (by omega) u5 x5_1 (⟨(rd_T53 x0_1 0).f0, (rd_T53 x0_1 0).f1⟩ : S53) [.int .i64 ((rd_T53 x0_1 0).f0), .int .i64 ((rd_T53 x0_1 0).f1)] (fun k_ => (w.heap.size ≤ k_)) (fun _ => False) rfl rfl ?aP (fun _ hk => hk.elim) ?aF ?aO ?aB ?aS ?aL ?_; (case aP => exact k53_mkM _ _ _ (⟨(rd_T53 x0_1 0).f0, (rd_T53 x0_1 0).f1⟩ : S53)); (case aB => exact (by repeat (first | (with_reducible first | exact HB.out | apply zA | apply zB | apply zC) | exact HB.out))); (case aF => exact (fun k_ hk => (Nat.le_trans (zW (by repeat (first | (with_reducible first | exact HB.out | apply zA | apply zB | apply zC) | exact HB.out))) hk))); (case aO => exact (by (with_reducible repeat (first | apply zG | apply zH | apply zI)); exact HO_5.out)); (case aS => exact (zW (by repeat (first | (with_reducible first | exact HB.out | apply zA | apply zB | apply zC) | exact HB.out)))); (case aL => have := LMc39.out; omega); intro v273 w43 ho hb hg hat; rw [← Ny272.out] at ho; have n0_ := Aside0.mk (Kd.V_afterv (ok := (fun k_ => ((P0_ k_ ∨ P1_ k_) ∨ w.heap.size ≤ k_))) (by (with_reducible repeat (first | apply zM | apply zN | apply zO)); exact HO_0.out) hg hat); have n1_ := Aside0.mk (Kd.V_afterv (ok := (fun k_ => ((P0_ k_ ∨ P1_ k_) ∨ w.heap.size ≤ k_))) (by (with_reducible repeat (first | apply zM | apply zN | apply zO)); exact HO_1.out) hg hat); have n2_ := Aside0.mk (hb); have n3_ := Aside0.mk (ho); clear HO_0; clear HO_1; clear HB; clear HO_5; have HO_0 := n0_; have HO_1 := n1_; have HB := n2_; have HO274 := n3_; clear n0_ n1_ n2_ n3_; clear ho hb hg hat; have q44 : (1 : Int) ≤ ((x0_1.length : Int) : Int) := zX (by first | (with_reducible assumption) | assumption); obtain ⟨i044, hi044, _, hsz44, _⟩ := info_parts info53; have hroom44 : x0_1.length ≤ co42 := (Kd.V_reads' HO_0.out).2.1; have hC44 : Kd.F k53 _ _ (some ad271) x0_1.length x0_1 := (Kd.V_at (base := w.heap.size) HO_0.out).2.2; have hcut44 := cut_from (P := Try.prog) 46 53 .i64 Try.underlying46 hi044 2 hsz44 (some ad271) x0_1.length co42 1 (by omega) q44; have hr44 := Kd.F_cut (m := (1 : Int).toNat) (c := co42) hC44 (by omega) hroom44; obtain ⟨A44, hA44⟩ : ∃ A1, A1 = (if co42 = (1 : Int).toNat then (some ad271) else ((some ad271) : Option Addr).map (·.add ((1 : Int).toNat * 2))) := ⟨_, rfl⟩; obtain ⟨c44, hc44⟩ : ∃ c1, c1 = co42 - (1 : Int).toNat := ⟨_, rfl⟩; have hy44 : y275.length = x0_1.length - (1 : Int).toNat := (by rw [Ny275.out, List.length_drop] <;> omega); rw [show (x0_1).drop (1 : Int).toNat = y275 from Ny275.out.symm] at hr44; replace hr44 : Kd.F k53 _ _ A44 y275.length y275 := (by rw [hA44]; exact hr44); rw [← hy44, ← hA44, ← hc44] at hcut44; have HO279 := Aside0.mk (show Kd.V k53 53 _ w.heap.size _ (.slice A44 y275.length c44) y275 from Kd.V_mk (by rw [hy44, hc44]; exact Nat.sub_le_sub_right hroom44 _) hr44); have HC279 := Aside0.mk (show y275.length ≤ c44 from by rw [hy44, hc44]; exact Nat.sub_le_sub_right hroom44 _); clear hr44 hC44 hroom44 hi044 hsz44 hc44; have KY44 := Aside0.mk hy44; have KA44 := Aside0.mk hA44; clear hy44 hA44; replace q44 := eq_true q44)); try go_wp2_with (first | ((with_reducible refine gate_builtin (b := .append) (xs := #[.tmp 49, .tmp 53]) rfl ?_); (try (refine gate_guard (by rfl) ?_; dsimp only)); at_builtin; refine Kd.R_append k53 (w0 := w) w.heap.size rfl (.tmp 49) (.tmp 53) 46 53 (.agg #[(.int .i64 0), (.int .i64 0)]) 16 rfl Try.underlying46 info53 rfl (by decide) (by omega) u5 x5_1 (⟨(rd_T53 x0_1 0).f0, (rd_T53 x0_1 0).f1⟩ : S53) [.int .i64 ((rd_T53 x0_1 0).f0), .int .i64 ((rd_T53 x0_1 0).f1)] (fun k_ => (w.heap.size ≤ k_)) (fun _ => False) rfl rfl ?aP (fun _ hk => hk.elim) ?aF ?aO ?aB ?aS ?aL ?_; (case aP => exact k53_mkM _ _ _ (⟨(rd_T53 x0_1 0).f0, (rd_T53 x0_1 0).f1⟩ : S53)); (case aB => exact (by repeat (first | (with_reducible first | exact HB.out | apply zA | apply zB | apply zC) | exact HB.out))); (case aF => exact (fun k_ hk => (Nat.le_trans (zW (by repeat (first | (with_reducible first | exact HB.out | apply zA | apply zB | apply zC) | exact HB.out))) hk))); (case aO => exact (by (with_reducible repeat (first | apply zG | apply zH | apply zI)); exact HO_5.out)); (case aS => exact (zW (by repeat (first | (with_reducible first | exact HB.out | apply zA | apply zB | apply zC) | exact HB.out)))); (case aL => have := LMc39.out; omega); intro v273 w43 ho hb hg hat; rw [← Ny272.out] at ho; have n0_ := Aside0.mk (Kd.V_afterv (ok := (fun k_ => ((P0_ k_ ∨ P1_ k_) ∨ w.heap.size ≤ k_))) (by (with_reducible repeat (first | apply zM | apply zN | apply zO)); exact HO_0.out) hg hat); have n1_ := Aside0.mk (Kd.V_afterv (ok := (fun k_ => ((P0_ k_ ∨ P1_ k_) ∨ w.heap.size ≤ k_))) (by (with_reducible repeat (first | apply zM | apply zN | apply zO)); exact HO_1.out) hg hat); have n2_ := Aside0.mk (hb); have n3_ := Aside0.mk (ho); clear HO_0; clear HO_1; clear HB; clear HO_5; have HO_0 := n0_; have HO_1 := n1_; have HB := n2_; have HO274 := n3_; clear n0_ n1_ n2_ n3_; clear ho hb hg hat; have q44 : (1 : Int) ≤ ((x0_1.length : Int) : Int) := zX (by first | (with_reducible assumption) | assumption); obtain ⟨i044, hi044, _, hsz44, _⟩ := info_parts info53; have hroom44 : x0_1.length ≤ co42 := (Kd.V_reads' HO_0.out).2.1; have hC44 : Kd.F k53 _ _ (some ad271) x0_1.length x0_1 := (Kd.V_at (base := w.heap.size) HO_0.out).2.2; have hcut44 := cut_from (P := Try.prog) 46 53 .i64 Try.underlying46 hi044 2 hsz44 (some ad271) x0_1.length co42 1 (by omega) q44; have hr44 := Kd.F_cut (m := (1 : Int).toNat) (c := co42) hC44 (by omega) hroom44; obtain ⟨A44, hA44⟩ : ∃ A1, A1 = (if co42 = (1 : Int).toNat then (some ad271) else ((some ad271) : Option Addr).map (·.add ((1 : Int).toNat * 2))) := ⟨_, rfl⟩; obtain ⟨c44, hc44⟩ : ∃ c1, c1 = co42 - (1 : Int).toNat := ⟨_, rfl⟩; have hy44 : y275.length = x0_1.length - (1 : Int).toNat := (by rw [Ny275.out, List.length_drop] <;> omega); rw [show (x0_1).drop (1 : Int).toNat = y275 from Ny275.out.symm] at hr44; replace hr44 : Kd.F k53 _ _ A44 y275.length y275 := (by rw [hA44]; exact hr44); rw [← hy44, ← hA44, ← hc44] at hcut44; have HO279 := Aside0.mk (show Kd.V k53 53 _ w.heap.size _ (.slice A44 y275.length c44) y275 from Kd.V_mk (by rw [hy44, hc44]; exact Nat.sub_le_sub_right hroom44 _) hr44); have HC279 := Aside0.mk (show y275.length ≤ c44 from by rw [hy44, hc44]; exact Nat.sub_le_sub_right hroom44 _); clear hr44 hC44 hroom44 hi044 hsz44 hc44; have KY44 := Aside0.mk hy44; have KA44 := Aside0.mk hA44; clear hy44 hA44; replace q44 := eq_true q44)))
             go_roundg kj8
             case measure => have := HK1.out; have := HJ2.out; have := HJ8.out; omega
             case rel => exact ⟨(y275), (x1_1), (y272), H', ⟨by have := HK1.out; have := HJ2.out; have := HJ8.out; omega⟩, ⟨by (with_reducible repeat (first | apply zM | apply zN | apply zO)); exact HO279.out⟩, ⟨by (with_reducible repeat (first | apply zM | apply zN | apply zO)); exact HO_1.out⟩, ⟨by (with_reducible repeat (first | apply zG | apply zH | apply zI)); exact HO274.out⟩, ⟨by repeat (first | (with_reducible first | exact HB.out | apply zA | apply zB | apply zC) | exact HB.out)⟩⟩
            ·rw [if_neg c40] at H
             exact absurd H (by simp)
           ·rw [if_neg c39] at H
            exact absurd H (by simp)
          ·rw [if_neg c38] at H
           exact absurd H (by simp)
        ·replace c19 := Bool.eq_false_iff.mpr c19
         subst c19
         have H1 : (if 0 < (x1_1.length : Int) then (if x5_1.length < 8796093022208 then (if 1 ≤ (x1_1.length : Int) then (impl_merge.l0 kj8 x0_1 (x1_1.drop 1) (x5_1 ++ [(⟨(rd_T53 x1_1 0).f0, (rd_T53 x1_1 0).f1⟩ : S53)])) else (none)) else (none)) else (none)) = some r := by rw [if_neg (show ¬ (false = true) by decide)] at H; exact H
         clear H
         have H := H1
         clear H1
         by_cases c45 : 0 < (x1_1.length : Int)
         ·rw [if_pos c45] at H
          have c45b0 : decide (0 < (x1_1.length : Int)) = true := decide_eq_true c45
          have c45b1 : decide (0 < x1_1.length) = true := decide_eq_true (by omega)
          clear c45
          by_cases c46 : x5_1.length < 8796093022208
          ·rw [if_pos c46] at H
           have LMc46 := Aside0.mk c46
           clear c46
           obtain ⟨y281, hy281⟩ : ∃ y_ : List (S53), y_ = (x5_1 ++ [(⟨(rd_T53 x1_1 0).f0, (rd_T53 x1_1 0).f1⟩ : S53)]) := ⟨_, rfl⟩
           replace H : (if 1 ≤ (x1_1.length : Int) then (impl_merge.l0 kj8 x0_1 (x1_1.drop 1) y281) else (none)) = some r := by first | (rw [hy281]; with_reducible exact H) | (have H2_ := (Option.bind_some _ _).symm.trans H; rw [hy281]; with_reducible exact H2_) | (have H2_ := (Option.bind_some _ _).symm.trans H; with_reducible exact H2_) | with_reducible exact H | (rw [hy281]; exact H) | exact H
           have Ny281 := Aside0.mk hy281
           clear hy281
           by_cases c47 : 1 ≤ (x1_1.length : Int)
           ·rw [if_pos c47] at H
            have c47b0 := eq_true c47
            have c47b1 : decide (1 ≤ (x1_1.length : Int)) = true := decide_eq_true c47
            clear c47
            obtain ⟨y284, hy284⟩ : ∃ y_ : List (S53), y_ = (x1_1.drop 1) := ⟨_, rfl⟩
            replace H : (impl_merge.l0 kj8 x0_1 y284 y281) = some r := by first | (rw [hy284]; with_reducible exact H) | (have H2_ := (Option.bind_some _ _).symm.trans H; rw [hy284]; with_reducible exact H2_) | (have H2_ := (Option.bind_some _ _).symm.trans H; with_reducible exact H2_) | with_reducible exact H | (rw [hy284]; exact H) | exact H
            have Ny284 := Aside0.mk hy284
            clear hy284
            have H' := Aside0.mk H
            clear H
            obtain ⟨Ao48, co48, eo48⟩ := Kd.V_slice HO_1.out
            subst eo48
            have p280 : 0 ≤ (0 : Int) := (by omega)
            have q280 : 0 < (x1_1.length : Int) := zX (by first | (with_reducible assumption) | assumption)
            obtain ⟨ad280, e280, hx280_0, hx280_1⟩ := at_T53 (Kd.V_reads' HO_1.out).2.2 0 p280 q280
            cases e280
            have qi280 : (0 < x1_1.length) = True := eq_true (by omega)
            (try rw [show ((0 : Int)).toNat = 0 from rfl] at hx280_0)
            (try rw [show 0 * 2 = 0 from rfl] at hx280_0)
            (try rw [Addr.add_zero'] at hx280_0)
            (try rw [show ((0 : Int)).toNat = 0 from rfl] at hx280_1)
            (try rw [show 0 * 2 = 0 from rfl] at hx280_1)
            (try rw [Addr.add_zero'] at hx280_1)
            replace p280 := eq_true p280
            replace q280 := eq_true q280
            go_wp2_with (first | ((with_reducible refine gate_builtin (b := .append) (xs := #[.tmp 57, .tmp 61]) rfl ?_); (try (refine gate_guard (by rfl) ?_; dsimp only)); at_builtin; refine Kd.R_append k53 (w0 := w) w.heap.size rfl (.tmp 57) (.tmp 61) 46 53 (.agg #[(.int .i64 0), (.int .i64 0)]) 16 rfl Try.underlying46 info53 rfl (by decide) (by omega) u5 x5_1 (⟨(rd_T53 x1_1 0).f0, (rd_T53 x1_1 0).f1⟩ : S53) [.int .i64 ((rd_T53 x1_1 0).f0), .int .i64 ((rd_T53 x1_1 0).f1)] (fun k_ => (w.heap.size ≤ k_)) (fun _ => False) rfl rfl ?aP (fun _ hk => hk.elim) ?aF ?aO ?aB ?aS ?aL ?_; (case aP => exact k53_mkM _ _ _ (⟨(rd_T53 x1_1 0).f0, (rd_T53 x1_1 0).f1⟩ : S53)); (case aB => exact (by repeat (first | (with_reducible first | exact HB.out | apply zA | apply zB | apply zC) | exact HB.out))); (case aF => exact (fun k_ hk => (Nat.le_trans (zW (by repeat (first | (with_reducible first | exact HB.out | apply zA | apply zB | apply zC) | exact HB.out))) hk))); (case aO => exact (by (with_reducible repeat (first | apply zG | apply zH | apply zI)); exact HO_5.out)); (case aS => exact (zW (by repeat (first | (with_reducible first | exact HB.out | apply zA | apply zB | apply zC) | exact HB.out)))); (case aL => have := LMc46.out; omega); intro v282 w49 ho hb hg hat; rw [← Ny281.out] at ho; have n0_ := Aside0.mk (Kd.V_afterv (ok := (fun k_ => ((P0_ k_ ∨ P1_ k_) ∨ w.heap.size ≤ k_))) (by (with_reducible repeat (first | apply zM | apply zN | apply zO)); exact HO_0.out) hg hat); have n1_ := Aside0.mk (Kd.V_afterv (ok := (fun k_ => ((P0_ k_ ∨ P1_ k_) ∨ w.heap.size ≤ k_))) (by (with_reducible repeat (first | apply zM | apply zN | apply zO)); exact HO_1.out) hg hat); have n2_ := Aside0.mk (hb); have n3_ := Aside0.mk (ho); clear HO_0; clear HO_1; clear HB; clear HO_5; have HO_0 := n0_; have HO_1 := n1_; have HB := n2_; have HO283 := n3_; clear n0_ n1_ n2_ n3_; clear ho hb hg hat; have q50 : (1 : Int) ≤ ((x1_1.length : Int) : Int) := zX (by first | (with_reducible assumption) | assumption); obtain ⟨i050, hi050, _, hsz50, _⟩ := info_parts info53; have hroom50 : x1_1.length ≤ co48 := (Kd.V_reads' HO_1.out).2.1; have hC50 : Kd.F k53 _ _ (some ad280) x1_1.length x1_1 := (Kd.V_at (base := w.heap.size) HO_1.out).2.2; have hcut50 := cut_from (P := Try.prog) 46 53 .i64 Try.underlying46 hi050 2 hsz50 (some ad280) x1_1.length co48 1 (by omega) q50; have hr50 := Kd.F_cut (m := (1 : Int).toNat) (c := co48) hC50 (by omega) hroom50; obtain ⟨A50, hA50⟩ : ∃ A1, A1 = (if co48 = (1 : Int).toNat then (some ad280) else ((some ad280) : Option Addr).map (·.add ((1 : Int).toNat * 2))) := ⟨_, rfl⟩; obtain ⟨c50, hc50⟩ : ∃ c1, c1 = co48 - (1 : Int).toNat := ⟨_, rfl⟩; have hy50 : y284.length = x1_1.length - (1 : Int).toNat := (by rw [Ny284.out, List.length_drop] <;> omega); rw [show (x1_1).drop (1 : Int).toNat = y284 from Ny284.out.symm] at hr50; replace hr50 : Kd.F k53 _ _ A50 y284.length y284 := (by rw [hA50]; exact hr50); rw [← hy50, ← hA50, ← hc50] at hcut50; have HO288 := Aside0.mk (show Kd.V k53 53 _ w.heap.size _ (.slice A50 y284.length c50) y284 from Kd.V_mk (by rw [hy50, hc50]; exact Nat.sub_le_sub_right hroom50 _) hr50); have HC288 := Aside0.mk (show y284.length ≤ c50 from by rw [hy50, hc50]; exact Nat.sub_le_sub_right hroom50 _); clear hr50 hC50 hroom50 hi050 hsz50 hc50; have KY50 := Aside0.mk hy50; have KA50 := Aside0.mk hA50; clear hy50 hA50; replace q50 := eq_true q50))
            repeat (go_quiet (first | ((with_reducible refine gate_builtin (b := .append) (xs := #[.tmp 57, .tmp 61]) rfl ?_); (try (refine gate_guard (by rfl) ?_; dsimp only)); at_builtin; refine Kd.R_append k53 (w0 := w) w.heap.size rfl (.tmp 57) (.tmp 61) 46 53 (.agg #[(.int .i64 0), (.int .i64 0)]) 16 rfl Try.underlying46 info53 rfl (by decide) (by omega) u5 x5_1 (⟨(rd_T53 x1_1 0).f0, (rd_T53 x1_1 0).f1⟩ : S53) [.int .i64 ((rd_T53 x1_1 0).f0), .int .i64 ((rd_T53 x1_1 0).f1)] (fun k_ => (w.heap.size ≤ k_)) (fun _ => False) rfl rfl ?aP (fun _ hk => hk.elim) ?aF ?aO ?aB ?aS ?aL ?_; (case aP => exact k53_mkM _ _ _ (⟨(rd_T53 x1_1 0).f0, (rd_T53 x1_1 0).f1⟩ : S53)); (case aB => exact (by repeat (first | (with_reducible first | exact HB.out | apply zA | apply zB | apply zC) | exact HB.out))); (case aF => exact (fun k_ hk => (Nat.le_trans (zW (by repeat (first | (with_reducible first | exact HB.out | apply zA | apply zB | apply zC) | exact HB.out))) hk))); (case aO => exact (by (with_reducible repeat (first | apply zG | apply zH | apply zI)); exact HO_5.out)); (case aS => exact (zW (by repeat (first | (with_reducible first | exact HB.out | apply zA | apply zB | apply zC) | exact HB.out)))); (case aL => have := LMc46.out; omega); intro v282 w49 ho hb hg hat; rw [← Ny281.out] at ho; have n0_ := Aside0.mk (Kd.V_afterv (ok := (fun k_ => ((P0_ k_ ∨ P1_ k_) ∨ w.heap.size ≤ k_))) (by (with_reducible repeat (first | apply zM | apply zN | apply zO)); exact HO_0.out) hg hat); have n1_ := Aside0.mk (Kd.V_afterv (ok := (fun k_ => ((P0_ k_ ∨ P1_ k_) ∨ w.heap.size ≤ k_))) (by (with_reducible repeat (first | apply zM | apply zN | apply zO)); exact HO_1.out) hg hat); have n2_ := Aside0.mk (hb); have n3_ := Aside0.mk (ho); clear HO_0; clear HO_1; clear HB; clear HO_5; have HO_0 := n0_; have HO_1 := n1_; have HB := n2_; have HO283 := n3_; clear n0_ n1_ n2_ n3_; clear ho hb hg hat; have q50 : (1 : Int) ≤ ((x1_1.length : Int) : Int) := zX (by first | (with_reducible assumption) | assumption); obtain ⟨i050, hi050, _, hsz50, _⟩ := info_parts info53; have hroom50 : x1_1.length ≤ co48 := (Kd.V_reads' HO_1.out).2.1; have hC50 : Kd.F k53 _ _ (some ad280) x1_1.length x1_1 := (Kd.V_at (base := w.heap.size) HO_1.out).2.2; have hcut50 := cut_from (P := Try.prog) 46 53 .i64 Try.underlying46 hi050 2 hsz50 (some ad280) x1_1.length co48 1 (by omega) q50; have hr50 := Kd.F_cut (m := (1 : Int).toNat) (c := co48) hC50 (by omega) hroom50; obtain ⟨A50, hA50⟩ : ∃ A1, A1 = (if co48 = (1 : Int).toNat then (some ad280) else ((some ad280) : Option Addr).map (·.add ((1 : Int).toNat * 2))) := ⟨_, rfl⟩; obtain ⟨c50, hc50⟩ : ∃ c1, c1 = co48 - (1 : Int).toNat := ⟨_, rfl⟩; have hy50 : y284.length = x1_1.length - (1 : Int).toNat := (by rw [Ny284.out, List.length_drop] <;> omega); rw [show (x1_1).drop (1 : Int).toNat = y284 from Ny284.out.symm] at hr50; replace hr50 : Kd.F k53 _ _ A50 y284.length y284 := (by rw [hA50]; exact hr50); rw [← hy50, ← hA50, ← hc50] at hcut50; have HO288 := Aside0.mk (show Kd.V k53 53 _ w.heap.size _ (.slice A50 y284.length c50) y284 from Kd.V_mk (by rw [hy50, hc50]; exact Nat.sub_le_sub_right hroom50 _) hr50); have HC288 := Aside0.mk (show y284.length ≤ c50 from by rw [hy50, hc50]; exact Nat.sub_le_sub_right hroom50 _); clear hr50 hC50 hroom50 hi050 hsz50 hc50; have KY50 := Aside0.mk hy50; have KA50 := Aside0.mk hA50; clear hy50 hA50; replace q50 := eq_true q50)); try go_wp2_with (first | ((with_reducible refine gate_builtin (b := .append) (xs := #[.tmp 57, .tmp 61]) rfl ?_); (try (refine gate_guard (by rfl) ?_; dsimp only)); at_builtin; refine Kd.R_append k53 (w0 := w) w.heap.size rfl (.tmp 57) (.tmp 61) 46 53 (.agg #[(.int .i64 0), (.int .i64 0)]) 16 rfl Try.underlying46 info53 rfl (by decide) (by omega) u5 x5_1 (⟨(rd_T53 x1_1 0).f0, (rd_T53 x1_1 0).f1⟩ : S53) [.int .i64 ((rd_T53 x1_1 0).f0), .int .i64 ((rd_T53 x1_1 0).f1)] (fun k_ => (w.heap.size ≤ k_)) (fun _ => False) rfl rfl ?aP (fun _ hk => hk.elim) ?aF ?aO ?aB ?aS ?aL ?_; (case aP => exact k53_mkM _ _ _ (⟨(rd_T53 x1_1 0).f0, (rd_T53 x1_1 0).f1⟩ : S53)); (case aB => exact (by repeat (first | (with_reducible first | exact HB.out | apply zA | apply zB | apply zC) | exact HB.out))); (case aF => exact (fun k_ hk => (Nat.le_trans (zW (by repeat (first | (with_reducible first | exact HB.out | apply zA | apply zB | apply zC) | exact HB.out))) hk))); (case aO => exact (by (with_reducible repeat (first | apply zG | apply zH | apply zI)); exact HO_5.out)); (case aS => exact (zW (by repeat (first | (with_reducible first | exact HB.out | apply zA | apply zB | apply zC) | exact HB.out)))); (case aL => have := LMc46.out; omega); intro v282 w49 ho hb hg hat; rw [← Ny281.out] at ho; have n0_ := Aside0.mk (Kd.V_afterv (ok := (fun k_ => ((P0_ k_ ∨ P1_ k_) ∨ w.heap.size ≤ k_))) (by (with_reducible repeat (first | apply zM | apply zN | apply zO)); exact HO_0.out) hg hat); have n1_ := Aside0.mk (Kd.V_afterv (ok := (fun k_ => ((P0_ k_ ∨ P1_ k_) ∨ w.heap.size ≤ k_))) (by (with_reducible repeat (first | apply zM | apply zN | apply zO)); exact HO_1.out) hg hat); have n2_ := Aside0.mk (hb); have n3_ := Aside0.mk (ho); clear HO_0; clear HO_1; clear HB; clear HO_5; have HO_0 := n0_; have HO_1 := n1_; have HB := n2_; have HO283 := n3_; clear n0_ n1_ n2_ n3_; clear ho hb hg hat; have q50 : (1 : Int) ≤ ((x1_1.length : Int) : Int) := zX (by first | (with_reducible assumption) | assumption); obtain ⟨i050, hi050, _, hsz50, _⟩ := info_parts info53; have hroom50 : x1_1.length ≤ co48 := (Kd.V_reads' HO_1.out).2.1; have hC50 : Kd.F k53 _ _ (some ad280) x1_1.length x1_1 := (Kd.V_at (base := w.heap.size) HO_1.out).2.2; have hcut50 := cut_from (P := Try.prog) 46 53 .i64 Try.underlying46 hi050 2 hsz50 (some ad280) x1_1.length co48 1 (by omega) q50; have hr50 := Kd.F_cut (m := (1 : Int).toNat) (c := co48) hC50 (by omega) hroom50; obtain ⟨A50, hA50⟩ : ∃ A1, A1 = (if co48 = (1 : Int).toNat then (some ad280) else ((some ad280) : Option Addr).map (·.add ((1 : Int).toNat * 2))) := ⟨_, rfl⟩; obtain ⟨c50, hc50⟩ : ∃ c1, c1 = co48 - (1 : Int).toNat := ⟨_, rfl⟩; have hy50 : y284.length = x1_1.length - (1 : Int).toNat := (by rw [Ny284.out, List.length_drop] <;> omega); rw [show (x1_1).drop (1 : Int).toNat = y284 from Ny284.out.symm] at hr50; replace hr50 : Kd.F k53 _ _ A50 y284.length y284 := (by rw [hA50]; exact hr50); rw [← hy50, ← hA50, ← hc50] at hcut50; have HO288 := Aside0.mk (show Kd.V k53 53 _ w.heap.size _ (.slice A50 y284.length c50) y284 from Kd.V_mk (by rw [hy50, hc50]; exact Nat.sub_le_sub_right hroom50 _) hr50); have HC288 := Aside0.mk (show y284.length ≤ c50 from by rw [hy50, hc50]; exact Nat.sub_le_sub_right hroom50 _); clear hr50 hC50 hroom50 hi050 hsz50 hc50; have KY50 := Aside0.mk hy50; have KA50 := Aside0.mk hA50; clear hy50 hA50; replace q50 := eq_true q50)))
            go_roundg kj8
            case measure => have := HK1.out; have := HJ2.out; have := HJ8.out; omega
            case rel => exact ⟨(x0_1), (y284), (y281), H', ⟨by have := HK1.out; have := HJ2.out; have := HJ8.out; omega⟩, ⟨by (with_reducible repeat (first | apply zM | apply zN | apply zO)); exact HO_0.out⟩, ⟨by (with_reducible repeat (first | apply zM | apply zN | apply zO)); exact HO288.out⟩, ⟨by (with_reducible repeat (first | apply zG | apply zH | apply zI)); exact HO283.out⟩, ⟨by repeat (first | (with_reducible first | exact HB.out | apply zA | apply zB | apply zC) | exact HB.out)⟩⟩
           ·rw [if_neg c47] at H
            exact absurd H (by simp)
          ·rw [if_neg c46] at H
           exact absurd H (by simp)
         ·rw [if_neg c45] at H
          exact absurd H (by simp)
     ·replace c8 := Bool.eq_false_iff.mpr c8
      subst c8
      have H1 : (some x5_1) = some r := by rw [if_neg (show ¬ (false = true) by decide)] at H; exact H
      clear H
      have H := H1
      clear H1
      obtain rfl := Option.some.inj H
      go_wp2
      repeat (go_quiet (fail); try go_wp2)
      go_ret
      exact ⟨_, by first | rfl | (simp [errW_none, errW_some] <;> rfl) | (simp [*, errW_none, errW_some] <;> rfl), by (with_reducible repeat (first | apply zG | apply zH | apply zI)); exact HO_5.out, by repeat (first | (with_reducible first | exact HB.out | apply zA | apply zB | apply zC) | exact HB.out)⟩

/-! ### impl_MergeSamples: function 25 -/
def impl_MergeSamples.j0 : Nat → List (S53) → List (S53) → Bool → Option ((List (S53)))
 | 0, _, _, _ => none
 | k + 1, x0, x1, x13 => if x13 = true then (some ([] : List (S53))) else ((impl_merge.f k x0 x1).bind fun t291 => (if (t291.length : Int) > 2000 then (some ([] : List (S53))) else (some t291)))
def impl_MergeSamples.f (k : Nat) (l0 : List (S53)) (l1 : List (S53)) : Option ((List (S53))) := (impl_GoodSamples.f k l0).bind fun t289 => (if t289 = true then ((impl_GoodSamples.f k l1).bind fun t290 => (impl_MergeSamples.j0 k l0 l1 (!t290))) else (impl_MergeSamples.j0 k l0 l1 true))
theorem impl_MergeSamples.mono_l : ∀ k, (∀ y0 y1 y2, LeO (impl_MergeSamples.j0 k y0 y1 y2) (impl_MergeSamples.j0 (k + 1) y0 y1 y2))
 | 0 => fun _ _ _ r h => by simp [impl_MergeSamples.j0] at h
 | k + 1 => by
  have ih0 := impl_MergeSamples.mono_l k
  ·intro y0 y1 y2
   unfold impl_MergeSamples.j0
   repeat' first
   | (with_reducible exact ih0 _ _ _)
   | (with_reducible exact impl_GoodSamples.mono _ _)
   | (with_reducible exact impl_merge.mono _ _ _)
   | (with_reducible exact LeO.refl _)
   | (with_reducible exact LeO.none _)
   | (with_reducible refine LeO.ite ?_ ?_)
   | (with_reducible refine LeO.bind ?_ (fun _ => ?_))
   | exact ih0 _ _ _
   | exact impl_GoodSamples.mono _ _
   | exact impl_merge.mono _ _ _
   | exact LeO.none _
   | refine LeO.ite ?_ ?_
   | refine LeO.bind ?_ (fun _ => ?_)
theorem impl_MergeSamples.mono : ∀ a0 a1 k, LeO (impl_MergeSamples.f k a0 a1) (impl_MergeSamples.f (k + 1) a0 a1) := by
 intro a0 a1 k
 have ih0 := impl_MergeSamples.mono_l k
 unfold impl_MergeSamples.f
 repeat' first
   | (with_reducible exact ih0 _ _ _)
   | (with_reducible exact impl_GoodSamples.mono _ _)
   | (with_reducible exact impl_merge.mono _ _ _)
   | (with_reducible exact LeO.refl _)
   | (with_reducible exact LeO.none _)
   | (with_reducible refine LeO.ite ?_ ?_)
   | (with_reducible refine LeO.bind ?_ (fun _ => ?_))
   | exact ih0 _ _ _
   | exact impl_GoodSamples.mono _ _
   | exact impl_merge.mono _ _ _
   | exact LeO.none _
   | refine LeO.ite ?_ ?_
   | refine LeO.bind ?_ (fun _ => ?_)
set_option maxHeartbeats 8000000 in
set_option maxRecDepth 100000 in
theorem impl_MergeSamples.calls (k : Nat) (A0 : Option Addr) (c0 : Nat) (l0 : List (S53)) (A1 : Option Addr) (c1 : Nat) (l1 : List (S53)) (r : List (S53)) (w : World) (hr0 : Kd.C k53 w A0 l0.length l0) (hc0 : l0.length ≤ c0) (hr1 : Kd.C k53 w A1 l1.length l1) (hc1 : l1.length ≤ c1) (h : impl_MergeSamples.f k l0 l1 = some r) :
  Calls Try.prog 25 #[.slice A0 l0.length c0, .slice A1 l1.length c1] w fun e w' => ∃ v0_ : Value, e = .returned (v0_) ∧ Kd.R k53 53 w' w.heap.size (fun _ => True) v0_ r ∧ Below w.heap.size w w' := by
 have HR0 := Aside0.mk hr0
 have HC0 := Aside0.mk hc0
 clear hr0 hc0
 have HR1 := Aside0.mk hr1
 have HC1 := Aside0.mk hc1
 clear hr1 hc1
 have HB := Aside0.mk (Below.refl w.heap.size w)
 have H : ((impl_GoodSamples.f k l0).bind fun t289 => (if t289 = true then ((impl_GoodSamples.f k l1).bind fun t290 => (impl_MergeSamples.j0 k l0 l1 (!t290))) else (impl_MergeSamples.j0 k l0 l1 true))) = some r := h
 clear h
 have HC3 := Aside0.mk H
 clear H
 go_enter Try.func25, Try.ntmps25
 go_upto_region 1 with (fail)
 go_cut [13] (fun v13 wc => ∃ (kq : Nat) (x13_2 : Bool), v13 = .bool x13_2 ∧ Aside0 (impl_MergeSamples.j0 kq l0 l1 x13_2 = some r) ∧ Aside0 (kq ≤ k) ∧ Aside0 (Below w.heap.size w wc))
 case first =>
  have H := HC3.out
  clear HC3
  replace H := Option.bind_eq_some_iff.mp H
  obtain ⟨t289, A40, H⟩ := H
  replace H : (if t289 = true then ((impl_GoodSamples.f k l1).bind fun t290 => (impl_MergeSamples.j0 k l0 l1 (!t290))) else (impl_MergeSamples.j0 k l0 l1 true)) = some r := H
  have A4 := Aside0.mk A40
  clear A40
  by_cases c5 : t289 = true
  ·subst c5
   have H1 : ((impl_GoodSamples.f k l1).bind fun t290 => (impl_MergeSamples.j0 k l0 l1 (!t290))) = some r := by rw [if_pos rfl] at H; exact H
   clear H
   have H := H1
   clear H1
   replace H := Option.bind_eq_some_iff.mp H
   obtain ⟨t290, A60, H⟩ := H
   replace H : (impl_MergeSamples.j0 k l0 l1 (!t290)) = some r := H
   have A6 := Aside0.mk A60
   clear A60
   have H' := Aside0.mk H
   clear H
   go_wp2_with (first | ((with_reducible refine gate_callee (f := 57) rfl ?_); refine goesL_ (some 7) rfl rfl Try.func57 (by kernel_rfl) rfl #[.slice A0 l0.length c0] rfl (by (try simp only [List.map_toArray, List.map_cons, List.map_nil]); first | done | rfl | (simp only [List.length_drop, List.length_take]; rfl)) ?_; (with_reducible refine (impl_GoodSamples.calls k _ _ l0 true _ ?side1 ?side2 A4.out).mono ?_); (case side1 => repeat (first | exact (Kd.C_below HR0.out HB.out) | (with_reducible refine zJ ?_ _) | (with_reducible refine zK ?_ _) | (with_reducible refine zL ?_))); (case side2 => exact HC0.out); rintro e w7 ⟨rfl, hb⟩; refine ⟨_, rfl, ?_⟩; have n0_ := Aside0.mk (below_step (by repeat (first | (with_reducible first | exact HB.out | apply zA | apply zB | apply zC) | exact HB.out)) hb); clear HB; have HB := n0_; clear n0_; (try clear hb); (try clear hb2); (try clear hk); (try clear hi)) | (go_at_call 57; (with_reducible refine (impl_GoodSamples.calls k _ _ l1 t290 _ ?side1 ?side2 A6.out).mono ?_); (case side1 => repeat (first | exact (Kd.C_below HR1.out HB.out) | (with_reducible refine zJ ?_ _) | (with_reducible refine zK ?_ _) | (with_reducible refine zL ?_))); (case side2 => exact HC1.out); rintro e w8 ⟨rfl, hb⟩; have n0_ := Aside0.mk (below_step (by repeat (first | (with_reducible first | exact HB.out | apply zA | apply zB | apply zC) | exact HB.out)) hb); clear HB; have HB := n0_; clear n0_; (try clear hb); (try clear hb2); (try clear hk); (try clear hi)))
   go_meet
   case rel => exact ⟨_, (!t290), (by first | rfl | (simp; done) | (simp [*]; done)), H', ⟨by first | omega | exact Nat.le_refl _⟩, ⟨by repeat (first | (with_reducible first | exact HB.out | apply zA | apply zB | apply zC) | exact HB.out)⟩⟩
  ·replace c5 := Bool.eq_false_iff.mpr c5
   subst c5
   have H1 : (impl_MergeSamples.j0 k l0 l1 true) = some r := by rw [if_neg (show ¬ (false = true) by decide)] at H; exact H
   clear H
   have H := H1
   clear H1
   have H' := Aside0.mk H
   clear H
   go_wp2_with (first | ((with_reducible refine gate_callee (f := 57) rfl ?_); refine goesL_ (some 7) rfl rfl Try.func57 (by kernel_rfl) rfl #[.slice A0 l0.length c0] rfl (by (try simp only [List.map_toArray, List.map_cons, List.map_nil]); first | done | rfl | (simp only [List.length_drop, List.length_take]; rfl)) ?_; (with_reducible refine (impl_GoodSamples.calls k _ _ l0 false _ ?side1 ?side2 A4.out).mono ?_); (case side1 => repeat (first | exact (Kd.C_below HR0.out HB.out) | (with_reducible refine zJ ?_ _) | (with_reducible refine zK ?_ _) | (with_reducible refine zL ?_))); (case side2 => exact HC0.out); rintro e w9 ⟨rfl, hb⟩; refine ⟨_, rfl, ?_⟩; have n0_ := Aside0.mk (below_step (by repeat (first | (with_reducible first | exact HB.out | apply zA | apply zB | apply zC) | exact HB.out)) hb); clear HB; have HB := n0_; clear n0_; (try clear hb); (try clear hb2); (try clear hk); (try clear hi)))
   go_meet
   case rel => exact ⟨_, (true), (by first | rfl | (simp; done) | (simp [*]; done)), H', ⟨by first | omega | exact Nat.le_refl _⟩, ⟨by repeat (first | (with_reducible first | exact HB.out | apply zA | apply zB | apply zC) | exact HB.out)⟩⟩
 case rest =>
  clear HC3
  try clear c1
  try clear c2
  try clear p2
  try clear c5
  obtain ⟨kq, x13_2, rfl, HA, HJ2, HB⟩ := hcut
  cases kq with
  | zero => exact absurd HA.out (by simp [impl_MergeSamples.j0])
  | succ kj2 =>
   have H := HA.out
   clear HA
   simp only [impl_MergeSamples.j0] at H
   by_cases c10 : x13_2 = true
   ·subst c10
    have H1 : (some ([] : List (S53))) = some r := by rw [if_pos rfl] at H; exact H
    clear H
    have H := H1
    clear H1
    obtain rfl := Option.some.inj H
    go_wp2
    go_ret
    exact ⟨_, by first | rfl | (simp [errW_none, errW_some] <;> rfl) | (simp [*, errW_none, errW_some] <;> rfl), by first | exact Kd.R_nil _ _ _ _ _ | exact Kd.N_nil _ _ _ _ _ | exact Kd.V_nil _ _ _ _ _ | exact Kd.Q_nil _ _ _ _ _ | exact Kd.S_nil _ _ _ _ _, by repeat (first | (with_reducible first | exact HB.out | apply zA | apply zB | apply zC) | exact HB.out)⟩
   ·replace c10 := Bool.eq_false_iff.mpr c10
    subst c10
    have H1 : ((impl_merge.f kj2 l0 l1).bind fun t291 => (if (t291.length : Int) > 2000 then (some ([] : List (S53))) else (some t291))) = some r := by rw [if_neg (show ¬ (false = true) by decide)] at H; exact H
    clear H
    have H := H1
    clear H1
    replace H := Option.bind_eq_some_iff.mp H
    obtain ⟨t291, A110, H⟩ := H
    replace H : (if (t291.length : Int) > 2000 then (some ([] : List (S53))) else (some t291)) = some r := H
    have A11 := Aside0.mk A110
    clear A110
    by_cases c12 : (t291.length : Int) > 2000
    ·rw [if_pos c12] at H
     have c12b0 : decide (2000 < (t291.length : Int)) = true := decide_eq_true c12
     have c12b1 : decide (2000 < t291.length) = true := decide_eq_true (by omega)
     clear c12
     obtain rfl := Option.some.inj H
     go_wp2_with (first | ((with_reducible refine gate_callee (f := 58) rfl ?_); refine goesL_ (some 16) rfl rfl Try.func58 (by kernel_rfl) rfl #[.slice A0 l0.length c0, .slice A1 l1.length c1] rfl (by (try simp only [List.map_toArray, List.map_cons, List.map_nil]); first | done | rfl | (simp only [List.length_drop, List.length_take]; rfl)) ?_; (with_reducible refine (impl_merge.calls kj2 (fun k_ => k_ < w.heap.size) _ _ l0 (fun k_ => k_ < w.heap.size) _ _ l1 t291 _ ?side1 ?side2 A11.out).mono ?_); (case side1 => exact Kd.V_mk HC0.out (Kd.F_below (Kd.C_F k53_heap HR0.out) (by repeat (first | (with_reducible first | exact HB.out | apply zA | apply zB | apply zC) | exact HB.out)))); (case side2 => exact Kd.V_mk HC1.out (Kd.F_below (Kd.C_F k53_heap HR1.out) (by repeat (first | (with_reducible first | exact HB.out | apply zA | apply zB | apply zC) | exact HB.out)))); rintro e w13 ⟨v292, rfl, ho0, hb⟩; refine ⟨_, rfl, ?_⟩; have n0_ := Aside0.mk (Kd.R_lower (Kd.R_mono (ok' := fun k_ => True) ho0 (fun _ hk_ => trivial)) (zW (by repeat (first | (with_reducible first | exact HB.out | apply zA | apply zB | apply zC) | exact HB.out)))); have n1_ := Aside0.mk (below_step (by repeat (first | (with_reducible first | exact HB.out | apply zA | apply zB | apply zC) | exact HB.out)) hb); clear HB; have HO293 := n0_; have HB := n1_; clear n0_ n1_; (try clear hb); (try clear hb2); (try clear hk); (try clear hi); (try clear ho0); obtain ⟨Ao14, co14, eo14⟩ := Kd.R_slice HO293.out; subst eo14))
     go_ret
     exact ⟨_, by first | rfl | (simp [errW_none, errW_some] <;> rfl) | (simp [*, errW_none, errW_some] <;> rfl), by first | exact Kd.R_nil _ _ _ _ _ | exact Kd.N_nil _ _ _ _ _ | exact Kd.V_nil _ _ _ _ _ | exact Kd.Q_nil _ _ _ _ _ | exact Kd.S_nil _ _ _ _ _, by repeat (first | (with_reducible first | exact HB.out | apply zA | apply zB | apply zC) | exact HB.out)⟩
    ·rw [if_neg c12] at H
     have c12b0 : decide (2000 < (t291.length : Int)) = false := decide_eq_false c12
     have c12b1 : decide (2000 < t291.length) = false := decide_eq_false (by omega)
     clear c12
     obtain rfl := Option.some.inj H
     go_wp2_with (first | ((with_reducible refine gate_callee (f := 58) rfl ?_); refine goesL_ (some 16) rfl rfl Try.func58 (by kernel_rfl) rfl #[.slice A0 l0.length c0, .slice A1 l1.length c1] rfl (by (try simp only [List.map_toArray, List.map_cons, List.map_nil]); first | done | rfl | (simp only [List.length_drop, List.length_take]; rfl)) ?_; (with_reducible refine (impl_merge.calls kj2 (fun k_ => k_ < w.heap.size) _ _ l0 (fun k_ => k_ < w.heap.size) _ _ l1 t291 _ ?side1 ?side2 A11.out).mono ?_); (case side1 => exact Kd.V_mk HC0.out (Kd.F_below (Kd.C_F k53_heap HR0.out) (by repeat (first | (with_reducible first | exact HB.out | apply zA | apply zB | apply zC) | exact HB.out)))); (case side2 => exact Kd.V_mk HC1.out (Kd.F_below (Kd.C_F k53_heap HR1.out) (by repeat (first | (with_reducible first | exact HB.out | apply zA | apply zB | apply zC) | exact HB.out)))); rintro e w15 ⟨v292, rfl, ho0, hb⟩; refine ⟨_, rfl, ?_⟩; have n0_ := Aside0.mk (Kd.R_lower (Kd.R_mono (ok' := fun k_ => True) ho0 (fun _ hk_ => trivial)) (zW (by repeat (first | (with_reducible first | exact HB.out | apply zA | apply zB | apply zC) | exact HB.out)))); have n1_ := Aside0.mk (below_step (by repeat (first | (with_reducible first | exact HB.out | apply zA | apply zB | apply zC) | exact HB.out)) hb); clear HB; have HO293 := n0_; have HB := n1_; clear n0_ n1_; (try clear hb); (try clear hb2); (try clear hk); (try clear hi); (try clear ho0); obtain ⟨Ao16, co16, eo16⟩ := Kd.R_slice HO293.out; subst eo16))
     go_ret
     exact ⟨_, by first | rfl | (simp [errW_none, errW_some] <;> rfl) | (simp [*, errW_none, errW_some] <;> rfl), by (with_reducible repeat (first | apply zG | apply zH | apply zI)); exact HO293.out, by repeat (first | (with_reducible first | exact HB.out | apply zA | apply zB | apply zC) | exact HB.out)⟩

end Go.Proofs.Ytppifefhpjhmaaa.PFnMerged
