-- Written by a program of this session (xprint.py, over the kit's print).
import Derived.Test.YtppifefhpjhmaabPFnExactAggOverx0
import Derived.Test.YtppifefhpjhmaabPFnExactAggOverx1
import Derived.Test.YtppifefhpjhmaabPFnExactAggOverx4
import Derived.Test.YtppifefhpjhmaabPFnExactAggOverx5
import Derived.Test.YtppifefhpjhmaabPFnExactAggOverx8
namespace Go.Proofs.Ytppifefhpjhmaab.PFnExactAggOver
open Go.RowKit Go.Proofs.YtppifefhpjhmaabW.PrintWords Go.Proofs.YtppifefhpjhmaabW.PrintLast Go.Proofs.YtppifefhpjhmaabW.PrintMore Go.Proofs.Ytppifefhpjhmaab.XWords
attribute [local go_sem] max2_int min2_int max_two min_two max_three min_three max_four min_four   -- for this text's walks alone
set_option linter.unusedVariables false
set_option linter.unusedSimpArgs false

/-! ### laws_eqAggS: function 12 -/
def laws_eqAggS.l0 : Nat → List (S55) → List (S55) → Int → Option (Bool)
 | 0, _, _, _ => none
 | k + 1, x0, x1, x5 => if x5 < (x0.length : Int) then (if 0 ≤ x5 then (if x5 < (x1.length : Int) then ((laws_eqAgg.f ((rd_T55 x0 x5).f0) ((rd_T55 x0 x5).f1) ((rd_T55 x0 x5).f2) ((rd_T55 x0 x5).f3) ((rd_T55 x0 x5).f4) ((rd_T55 x0 x5).f5) ((rd_T55 x0 x5).f6) ((rd_T55 x0 x5).f7) ((rd_T55 x1 x5).f0) ((rd_T55 x1 x5).f1) ((rd_T55 x1 x5).f2) ((rd_T55 x1 x5).f3) ((rd_T55 x1 x5).f4) ((rd_T55 x1 x5).f5) ((rd_T55 x1 x5).f6) ((rd_T55 x1 x5).f7)).bind fun t204 => (if t204 = true then (laws_eqAggS.l0 k x0 x1 (wrap64 (x5 + 1))) else (some false))) else (none)) else (none)) else (some true)
def laws_eqAggS.f (k : Nat) (l0 : List (S55)) (l1 : List (S55)) : Option (Bool) := if (l0.length : Int) = (l1.length : Int) then (laws_eqAggS.l0 k l0 l1 0) else (some false)
theorem laws_eqAggS.mono_l : ∀ k, (∀ y0 y1 y2, LeO (laws_eqAggS.l0 k y0 y1 y2) (laws_eqAggS.l0 (k + 1) y0 y1 y2))
 | 0 => fun _ _ _ r h => by simp [laws_eqAggS.l0] at h
 | k + 1 => by
  have ih0 := laws_eqAggS.mono_l k
  ·intro y0 y1 y2
   unfold laws_eqAggS.l0
   repeat' first
   | (with_reducible exact ih0 _ _ _)
   | (with_reducible exact LeO.refl _)
   | (with_reducible exact LeO.none _)
   | (with_reducible refine LeO.ite ?_ ?_)
   | (with_reducible refine LeO.bind ?_ (fun _ => ?_))
   | exact ih0 _ _ _
   | exact LeO.none _
   | refine LeO.ite ?_ ?_
   | refine LeO.bind ?_ (fun _ => ?_)
theorem laws_eqAggS.mono : ∀ a0 a1 k, LeO (laws_eqAggS.f k a0 a1) (laws_eqAggS.f (k + 1) a0 a1) := by
 intro a0 a1 k
 have ih0 := laws_eqAggS.mono_l k
 unfold laws_eqAggS.f
 repeat' first
   | (with_reducible exact ih0 _ _ _)
   | (with_reducible exact LeO.refl _)
   | (with_reducible exact LeO.none _)
   | (with_reducible refine LeO.ite ?_ ?_)
   | (with_reducible refine LeO.bind ?_ (fun _ => ?_))
   | exact ih0 _ _ _
   | exact LeO.none _
   | refine LeO.ite ?_ ?_
   | refine LeO.bind ?_ (fun _ => ?_)
def laws_eqAggS.T6 : Bool × List (List Nat × List Nat) := (true, [([], []), ([], []), ([0, 1], [0, 1]), ([2], [2]), ([], []), ([], []), ([4, 5], [4, 5]), ([6], [6]), ([3, 7], [3, 7]), ([8], [8])])
def laws_eqAggS.B6 : List Nat := [0, 0, 3, 7, 0, 0, 48, 112, 255, 511]
theorem laws_eqAggS.tab6 : rtab .any (opsOf Try.f12 6) = laws_eqAggS.T6 := by kernel_rfl
theorem laws_eqAggS.bits6 : waitsOk laws_eqAggS.T6.2 laws_eqAggS.B6 = true := by kernel_rfl
set_option maxHeartbeats 8000000 in
set_option maxRecDepth 100000 in
theorem laws_eqAggS.calls (k : Nat) (A0 : Option Addr) (c0 : Nat) (l0 : List (S55)) (A1 : Option Addr) (c1 : Nat) (l1 : List (S55)) (r : Bool) (w : World) (hr0 : Kd.C k55 w A0 l0.length l0) (hc0 : l0.length ≤ c0) (hr1 : Kd.C k55 w A1 l1.length l1) (hc1 : l1.length ≤ c1) (h : laws_eqAggS.f k l0 l1 = some r) :
  Calls Try.prog 12 #[.slice A0 l0.length c0, .slice A1 l1.length c1] w fun e w' => e = .returned (.bool r) ∧ Below w.heap.size w w' := by
 have hu55 := Try.underlying55
 have HR0 := Aside0.mk hr0
 have HC0 := Aside0.mk hc0
 clear hr0 hc0
 have HR1 := Aside0.mk hr1
 have HC1 := Aside0.mk hc1
 clear hr1 hc1
 have HB := Aside0.mk (Below.refl w.heap.size w)
 have H : (if (l0.length : Int) = (l1.length : Int) then (laws_eqAggS.l0 k l0 l1 0) else (some false)) = some r := h
 clear h
 by_cases c3 : (l0.length : Int) = (l1.length : Int)
 ·rw [if_pos c3] at H
  have c3b0 : ((l0.length : Int) == (l1.length : Int)) = true := beq_iff_eq.mpr c3
  have c3b1 : ((l0.length : Int) != (l1.length : Int)) = false := bne_eq_false_iff_eq.mpr c3
  have c3b2 : (l0.length == l1.length) = true := by first | simpa using c3 | (simp at c3 ⊢; omega)
  clear c3
  have H' := Aside0.mk H
  clear H
  go_enter Try.func12, Try.ntmps12
  go_wp2
  go_loopg [5] k (fun kq v5 w' => ∃ (x5_1 : Int), v5 = .int .i64 x5_1 ∧ Aside0 (laws_eqAggS.l0 kq l0 l1 x5_1 = some r) ∧ Aside0 (kq ≤ k) ∧ Aside0 (Below w.heap.size w w'))
  case atStart => exact ⟨(0), (by first | rfl | (simp; done) | (simp [*]; done)), H', ⟨Nat.le_refl _⟩, ⟨by repeat (first | (with_reducible first | exact HB.out | apply zA | apply zB | apply zC) | exact HB.out)⟩⟩
  case round =>
   clear H'
   try clear c1
   try clear p2
   try clear c3
   try clear c3b0
   try clear c3b1
   try clear c3b2
   obtain ⟨x5_1, rfl, HA, HK1, HB⟩ := hrel
   cases gk with
   | zero => exact absurd HA.out (by simp [laws_eqAggS.l0])
   | succ k1 =>
    have H := HA.out
    clear HA
    simp only [laws_eqAggS.l0] at H
    by_cases c4 : x5_1 < (l0.length : Int)
    ·rw [if_pos c4] at H
     have c4b0 : decide (x5_1 < (l0.length : Int)) = true := decide_eq_true c4
     clear c4
     by_cases c5 : 0 ≤ x5_1
     ·rw [if_pos c5] at H
      have c5b0 : decide (0 ≤ x5_1) = true := decide_eq_true c5
      clear c5
      by_cases c6 : x5_1 < (l1.length : Int)
      ·rw [if_pos c6] at H
       have c6b0 : decide (x5_1 < (l1.length : Int)) = true := decide_eq_true c6
       clear c6
       replace H := Option.bind_eq_some_iff.mp H
       obtain ⟨t204, A70, H⟩ := H
       replace H : (if t204 = true then (laws_eqAggS.l0 k1 l0 l1 (wrap64 (x5_1 + 1))) else (some false)) = some r := H
       have A7 := Aside0.mk A70
       clear A70
       by_cases c8 : t204 = true
       ·subst c8
        have H1 : (laws_eqAggS.l0 k1 l0 l1 (wrap64 (x5_1 + 1))) = some r := by rw [if_pos rfl] at H; exact H
        clear H
        have H := H1
        clear H1
        have H' := Aside0.mk H
        clear H
        try go_wp2
        have n0_ := Aside0.mk (zC HB.out)
        clear HB
        have HB := n0_
        clear n0_
        have p202 : 0 ≤ (x5_1 : Int) := zX (by first | (with_reducible assumption) | assumption)
        have q202 : x5_1 < (l0.length : Int) := zX (by first | (with_reducible assumption) | assumption)
        obtain ⟨ad202, e202, hx202_0, hx202_1, hx202_2, hx202_3, hx202_4, hx202_5, hx202_6, hx202_7⟩ := at_T55 HR0.out x5_1 p202 q202
        have hw202_7 := hx202_7
        have hw202_6 := hx202_6
        have hw202_5 := hx202_5
        have hw202_4 := hx202_4
        have hw202_3 := hx202_3
        have hw202_2 := hx202_2
        have hw202_1 := hx202_1
        have hw202_0 := hx202_0
        cases e202
        replace hx202_0 := (HB.out.cell (zR w _ hx202_0)).trans hx202_0
        replace hx202_1 := (HB.out.cell (zR w _ hx202_1)).trans hx202_1
        replace hx202_2 := (HB.out.cell (zR w _ hx202_2)).trans hx202_2
        replace hx202_3 := (HB.out.cell (zR w _ hx202_3)).trans hx202_3
        replace hx202_4 := (HB.out.cell (zR w _ hx202_4)).trans hx202_4
        replace hx202_5 := (HB.out.cell (zR w _ hx202_5)).trans hx202_5
        replace hx202_6 := (HB.out.cell (zR w _ hx202_6)).trans hx202_6
        replace hx202_7 := (HB.out.cell (zR w _ hx202_7)).trans hx202_7
        replace p202 := eq_true p202
        replace q202 := eq_true q202
        have p203 : 0 ≤ (x5_1 : Int) := zX (by first | (with_reducible assumption) | assumption)
        have q203 : x5_1 < (l1.length : Int) := zX (by first | (with_reducible assumption) | assumption)
        obtain ⟨ad203, e203, hx203_0, hx203_1, hx203_2, hx203_3, hx203_4, hx203_5, hx203_6, hx203_7⟩ := at_T55 HR1.out x5_1 p203 q203
        have hw203_7 := hx203_7
        have hw203_6 := hx203_6
        have hw203_5 := hx203_5
        have hw203_4 := hx203_4
        have hw203_3 := hx203_3
        have hw203_2 := hx203_2
        have hw203_1 := hx203_1
        have hw203_0 := hx203_0
        cases e203
        replace hx203_0 := (HB.out.cell (zR w _ hx203_0)).trans hx203_0
        replace hx203_1 := (HB.out.cell (zR w _ hx203_1)).trans hx203_1
        replace hx203_2 := (HB.out.cell (zR w _ hx203_2)).trans hx203_2
        replace hx203_3 := (HB.out.cell (zR w _ hx203_3)).trans hx203_3
        replace hx203_4 := (HB.out.cell (zR w _ hx203_4)).trans hx203_4
        replace hx203_5 := (HB.out.cell (zR w _ hx203_5)).trans hx203_5
        replace hx203_6 := (HB.out.cell (zR w _ hx203_6)).trans hx203_6
        replace hx203_7 := (HB.out.cell (zR w _ hx203_7)).trans hx203_7
        replace p203 := eq_true p203
        replace q203 := eq_true q203
        refine start_ (n := 10) (S := fun w' => w'.cell? (ad202.add ((x5_1).toNat * 8)) = some (.int .i64 ((rd_T55 l0 x5_1).f0)) ∧ w'.cell? ⟨(ad202.add ((x5_1).toNat * 8)).block, (ad202.add ((x5_1).toNat * 8)).off + 1, none⟩ = some (.int .i64 ((rd_T55 l0 x5_1).f1)) ∧ w'.cell? ⟨(ad202.add ((x5_1).toNat * 8)).block, (ad202.add ((x5_1).toNat * 8)).off + 2, none⟩ = some (.int .i64 ((rd_T55 l0 x5_1).f2)) ∧ w'.cell? ⟨(ad202.add ((x5_1).toNat * 8)).block, (ad202.add ((x5_1).toNat * 8)).off + 3, none⟩ = some (.int .i64 ((rd_T55 l0 x5_1).f3)) ∧ w'.cell? ⟨(ad202.add ((x5_1).toNat * 8)).block, (ad202.add ((x5_1).toNat * 8)).off + 4, none⟩ = some (.int .i64 ((rd_T55 l0 x5_1).f4)) ∧ w'.cell? ⟨(ad202.add ((x5_1).toNat * 8)).block, (ad202.add ((x5_1).toNat * 8)).off + 5, none⟩ = some (.int .i64 ((rd_T55 l0 x5_1).f5)) ∧ w'.cell? ⟨(ad202.add ((x5_1).toNat * 8)).block, (ad202.add ((x5_1).toNat * 8)).off + 6, none⟩ = some (.int .i64 ((rd_T55 l0 x5_1).f6)) ∧ w'.cell? ⟨(ad202.add ((x5_1).toNat * 8)).block, (ad202.add ((x5_1).toNat * 8)).off + 7, none⟩ = some (.int .i64 ((rd_T55 l0 x5_1).f7)) ∧ w'.cell? (ad203.add ((x5_1).toNat * 8)) = some (.int .i64 ((rd_T55 l1 x5_1).f0)) ∧ w'.cell? ⟨(ad203.add ((x5_1).toNat * 8)).block, (ad203.add ((x5_1).toNat * 8)).off + 1, none⟩ = some (.int .i64 ((rd_T55 l1 x5_1).f1)) ∧ w'.cell? ⟨(ad203.add ((x5_1).toNat * 8)).block, (ad203.add ((x5_1).toNat * 8)).off + 2, none⟩ = some (.int .i64 ((rd_T55 l1 x5_1).f2)) ∧ w'.cell? ⟨(ad203.add ((x5_1).toNat * 8)).block, (ad203.add ((x5_1).toNat * 8)).off + 3, none⟩ = some (.int .i64 ((rd_T55 l1 x5_1).f3)) ∧ w'.cell? ⟨(ad203.add ((x5_1).toNat * 8)).block, (ad203.add ((x5_1).toNat * 8)).off + 4, none⟩ = some (.int .i64 ((rd_T55 l1 x5_1).f4)) ∧ w'.cell? ⟨(ad203.add ((x5_1).toNat * 8)).block, (ad203.add ((x5_1).toNat * 8)).off + 5, none⟩ = some (.int .i64 ((rd_T55 l1 x5_1).f5)) ∧ w'.cell? ⟨(ad203.add ((x5_1).toNat * 8)).block, (ad203.add ((x5_1).toNat * 8)).off + 6, none⟩ = some (.int .i64 ((rd_T55 l1 x5_1).f6)) ∧ w'.cell? ⟨(ad203.add ((x5_1).toNat * 8)).block, (ad203.add ((x5_1).toNat * 8)).off + 7, none⟩ = some (.int .i64 ((rd_T55 l1 x5_1).f7))) (ds := []) #[false, false, false, false, false, false, false, false, false, false] (by kernel_rfl) rfl rfl ⟨((HB.out.cell (zR w _ hw202_0)).trans hw202_0), ((HB.out.cell (zR w _ hw202_1)).trans hw202_1), ((HB.out.cell (zR w _ hw202_2)).trans hw202_2), ((HB.out.cell (zR w _ hw202_3)).trans hw202_3), ((HB.out.cell (zR w _ hw202_4)).trans hw202_4), ((HB.out.cell (zR w _ hw202_5)).trans hw202_5), ((HB.out.cell (zR w _ hw202_6)).trans hw202_6), ((HB.out.cell (zR w _ hw202_7)).trans hw202_7), ((HB.out.cell (zR w _ hw203_0)).trans hw203_0), ((HB.out.cell (zR w _ hw203_1)).trans hw203_1), ((HB.out.cell (zR w _ hw203_2)).trans hw203_2), ((HB.out.cell (zR w _ hw203_3)).trans hw203_3), ((HB.out.cell (zR w _ hw203_4)).trans hw203_4), ((HB.out.cell (zR w _ hw203_5)).trans hw203_5), ((HB.out.cell (zR w _ hw203_6)).trans hw203_6), ((HB.out.cell (zR w _ hw203_7)).trans hw203_7)⟩ (fun hHeld => ?_); refine with_tabW laws_eqAggS.tab6 laws_eqAggS.bits6 (fun HT_ HW_ => ?_)
        generalize wr.drew = w9 at HB hx202_0 hx202_1 hx202_2 hx202_3 hx202_4 hx202_5 hx202_6 hx202_7 hx203_0 hx203_1 hx203_2 hx203_3 hx203_4 hx203_5 hx203_6 hx203_7 hHeld ⊢
        refine pure_ (i := 0) (N := some 17) (v := ?_) (a' := ?_) #[true, false, false, false, false, false, false, false, false, false] rfl rfl (any_of HT_.out (by kernel_rfl)) (fun _ _ _ h => h) (Or.inl ⟨by rfl, ?_⟩) ?_ ?_
        rotate_left
        ·intro w'
         go_simp
         with_reducible rfl
        rotate_left
        ·simp only [Act.put, zT, zU, zV, i64_w, i32_w]
         rfl
        refine pure_ (i := 1) (N := some 18) (v := ?_) (a' := ?_) #[true, true, false, false, false, false, false, false, false, false] rfl rfl (any_of HT_.out (by kernel_rfl)) (fun _ _ _ h => h) (Or.inl ⟨by rfl, ?_⟩) ?_ ?_
        rotate_left
        ·intro w'
         go_simp
         with_reducible rfl
        rotate_left
        ·simp only [Act.put, zT, zU, zV, i64_w, i32_w]
         rfl
        refine pure_ (i := 2) (N := some 19) (v := ?_) (a' := ?_) #[true, true, true, false, false, false, false, false, false, false] rfl rfl (any_of HT_.out (by kernel_rfl)) (fun _ _ _ h => h) (Or.inl ⟨by rfl, ?_⟩) ?_ ?_
        rotate_left
        ·intro w'
         go_simp
         with_reducible rfl
        rotate_left
        ·simp only [Act.put, zT, zU, zV, i64_w, i32_w]
         rfl
        refine pure_ (i := 4) (N := some 21) (v := ?_) (a' := ?_) #[true, true, true, false, true, false, false, false, false, false] rfl rfl (any_of HT_.out (by kernel_rfl)) (fun _ _ _ h => h) (Or.inl ⟨by rfl, ?_⟩) ?_ ?_
        rotate_left
        ·intro w'
         go_simp
         with_reducible rfl
        rotate_left
        ·simp only [Act.put, zT, zU, zV, i64_w, i32_w]
         rfl
        refine pure_ (i := 5) (N := some 22) (v := ?_) (a' := ?_) #[true, true, true, false, true, true, false, false, false, false] rfl rfl (any_of HT_.out (by kernel_rfl)) (fun _ _ _ h => h) (Or.inl ⟨by rfl, ?_⟩) ?_ ?_
        rotate_left
        ·intro w'
         go_simp
         with_reducible rfl
        rotate_left
        ·simp only [Act.put, zT, zU, zV, i64_w, i32_w]
         rfl
        refine pure_ (i := 6) (N := some 23) (v := ?_) (a' := ?_) #[true, true, true, false, true, true, true, false, false, false] rfl rfl (any_of HT_.out (by kernel_rfl)) (fun _ _ _ h => h) (Or.inl ⟨by rfl, ?_⟩) ?_ ?_
        rotate_left
        ·intro w'
         go_simp
         with_reducible rfl
        rotate_left
        ·simp only [Act.put, zT, zU, zV, i64_w, i32_w]
         rfl
        refine take_ (i := 3) (N := some 20) (v := ?_) (a' := ?_) #[true, true, true, true, true, true, true, false, false, false] rfl rfl (take_ofW HT_.out HW_.out (by kernel_rfl)) (fun _ _ _ h => h) (Or.inl ⟨by rfl, ?_⟩) hHeld ?_ ?_
        rotate_left
        ·rintro w' ⟨s0, s1, s2, s3, s4, s5, s6, s7, s8, s9, s10, s11, s12, s13, s14, s15⟩
         go_simp
         with_reducible rfl
        rotate_left
        ·simp only [Act.put, zT, zU, zV, i64_w, i32_w]
         rfl
        refine take_ (i := 7) (N := some 24) (v := ?_) (a' := ?_) #[true, true, true, true, true, true, true, true, false, false] rfl rfl (take_ofW HT_.out HW_.out (by kernel_rfl)) (fun _ _ _ h => h) (Or.inl ⟨by rfl, ?_⟩) hHeld ?_ ?_
        rotate_left
        ·rintro w' ⟨s0, s1, s2, s3, s4, s5, s6, s7, s8, s9, s10, s11, s12, s13, s14, s15⟩
         go_simp
         with_reducible rfl
        rotate_left
        ·simp only [Act.put, zT, zU, zV, i64_w, i32_w]
         rfl
        refine one_ (i := 8) (N := some 25) #[true, true, true, true, true, true, true, true, true, false] rfl rfl (one_of HT_.out (by kernel_rfl)) (by decide) (fun K hK => ?_)
        refine goes_ Try.func47 (by kernel_rfl) rfl #[.agg #[.int .i64 ((rd_T55 l0 x5_1).f0), .int .i64 ((rd_T55 l0 x5_1).f1), .int .i64 ((rd_T55 l0 x5_1).f2), .int .i64 ((rd_T55 l0 x5_1).f3), .int .i64 ((rd_T55 l0 x5_1).f4), .int .i64 ((rd_T55 l0 x5_1).f5), .int .i64 ((rd_T55 l0 x5_1).f6), .int .i64 ((rd_T55 l0 x5_1).f7)], .agg #[.int .i64 ((rd_T55 l1 x5_1).f0), .int .i64 ((rd_T55 l1 x5_1).f1), .int .i64 ((rd_T55 l1 x5_1).f2), .int .i64 ((rd_T55 l1 x5_1).f3), .int .i64 ((rd_T55 l1 x5_1).f4), .int .i64 ((rd_T55 l1 x5_1).f5), .int .i64 ((rd_T55 l1 x5_1).f6), .int .i64 ((rd_T55 l1 x5_1).f7)]] (by rfl) rfl rfl (by (try simp only [List.map_toArray, List.map_cons, List.map_nil]); first | done | rfl | (simp only [List.length_drop, List.length_take]; rfl)) ?_
        with_reducible refine (laws_eqAgg.calls ((rd_T55 l0 x5_1).f0) ((rd_T55 l0 x5_1).f1) ((rd_T55 l0 x5_1).f2) ((rd_T55 l0 x5_1).f3) ((rd_T55 l0 x5_1).f4) ((rd_T55 l0 x5_1).f5) ((rd_T55 l0 x5_1).f6) ((rd_T55 l0 x5_1).f7) ((rd_T55 l1 x5_1).f0) ((rd_T55 l1 x5_1).f1) ((rd_T55 l1 x5_1).f2) ((rd_T55 l1 x5_1).f3) ((rd_T55 l1 x5_1).f4) ((rd_T55 l1 x5_1).f5) ((rd_T55 l1 x5_1).f6) ((rd_T55 l1 x5_1).f7) true _ A7.out).mono ?_
        rintro e w10 ⟨rfl, hb⟩
        refine ⟨_, rfl, ?_⟩
        have n0_ := Aside0.mk (below_step (by repeat (first | (with_reducible first | exact HB.out | apply zA | apply zB | apply zC) | exact HB.out)) hb)
        clear HB
        have HB := n0_
        clear n0_
        (try clear hb)
        (try clear hb2)
        (try clear hk)
        (try clear hi)
        refine hK.out _ _ ⟨((HB.out.cell (zR w _ hw202_0)).trans hw202_0), ((HB.out.cell (zR w _ hw202_1)).trans hw202_1), ((HB.out.cell (zR w _ hw202_2)).trans hw202_2), ((HB.out.cell (zR w _ hw202_3)).trans hw202_3), ((HB.out.cell (zR w _ hw202_4)).trans hw202_4), ((HB.out.cell (zR w _ hw202_5)).trans hw202_5), ((HB.out.cell (zR w _ hw202_6)).trans hw202_6), ((HB.out.cell (zR w _ hw202_7)).trans hw202_7), ((HB.out.cell (zR w _ hw203_0)).trans hw203_0), ((HB.out.cell (zR w _ hw203_1)).trans hw203_1), ((HB.out.cell (zR w _ hw203_2)).trans hw203_2), ((HB.out.cell (zR w _ hw203_3)).trans hw203_3), ((HB.out.cell (zR w _ hw203_4)).trans hw203_4), ((HB.out.cell (zR w _ hw203_5)).trans hw203_5), ((HB.out.cell (zR w _ hw203_6)).trans hw203_6), ((HB.out.cell (zR w _ hw203_7)).trans hw203_7)⟩ (fun hHeld => ?_)
        clear hK K
        refine norm_ (a' := ?_) ?_ ?_
        rotate_left
        ·show Act.put _ (some 25) _ = _
         simp only [Act.put, zT, zU, zV, i64_w, i32_w]
         rfl
        refine pure_ (i := 9) (N := some 26) (v := ?_) (a' := ?_) #[true, true, true, true, true, true, true, true, true, true] rfl rfl (any_of HT_.out (by kernel_rfl)) (fun _ _ _ h => h) (Or.inl ⟨by rfl, ?_⟩) ?_ ?_
        rotate_left
        ·intro w'
         go_simp
         with_reducible rfl
        rotate_left
        ·simp only [Act.put, zT, zU, zV, i64_w, i32_w]
         rfl
        refine done_ (done_of HT_.out (by kernel_rfl)) ?_
        try go_wp2
        go_roundg k1
        case measure => have := HK1.out; omega
        case rel => exact ⟨(wrap64 (x5_1 + 1)), (by first | rfl | (simp; done) | (simp [*]; done)), H', ⟨by have := HK1.out; omega⟩, ⟨by repeat (first | (with_reducible first | exact HB.out | apply zA | apply zB | apply zC) | exact HB.out)⟩⟩
       ·replace c8 := Bool.eq_false_iff.mpr c8
        subst c8
        have H1 : (some false) = some r := by rw [if_neg (show ¬ (false = true) by decide)] at H; exact H
        clear H
        have H := H1
        clear H1
        obtain rfl := Option.some.inj H
        try go_wp2
        have n0_ := Aside0.mk (zC HB.out)
        clear HB
        have HB := n0_
        clear n0_
        have p202 : 0 ≤ (x5_1 : Int) := zX (by first | (with_reducible assumption) | assumption)
        have q202 : x5_1 < (l0.length : Int) := zX (by first | (with_reducible assumption) | assumption)
        obtain ⟨ad202, e202, hx202_0, hx202_1, hx202_2, hx202_3, hx202_4, hx202_5, hx202_6, hx202_7⟩ := at_T55 HR0.out x5_1 p202 q202
        have hw202_7 := hx202_7
        have hw202_6 := hx202_6
        have hw202_5 := hx202_5
        have hw202_4 := hx202_4
        have hw202_3 := hx202_3
        have hw202_2 := hx202_2
        have hw202_1 := hx202_1
        have hw202_0 := hx202_0
        cases e202
        replace hx202_0 := (HB.out.cell (zR w _ hx202_0)).trans hx202_0
        replace hx202_1 := (HB.out.cell (zR w _ hx202_1)).trans hx202_1
        replace hx202_2 := (HB.out.cell (zR w _ hx202_2)).trans hx202_2
        replace hx202_3 := (HB.out.cell (zR w _ hx202_3)).trans hx202_3
        replace hx202_4 := (HB.out.cell (zR w _ hx202_4)).trans hx202_4
        replace hx202_5 := (HB.out.cell (zR w _ hx202_5)).trans hx202_5
        replace hx202_6 := (HB.out.cell (zR w _ hx202_6)).trans hx202_6
        replace hx202_7 := (HB.out.cell (zR w _ hx202_7)).trans hx202_7
        replace p202 := eq_true p202
        replace q202 := eq_true q202
        have p203 : 0 ≤ (x5_1 : Int) := zX (by first | (with_reducible assumption) | assumption)
        have q203 : x5_1 < (l1.length : Int) := zX (by first | (with_reducible assumption) | assumption)
        obtain ⟨ad203, e203, hx203_0, hx203_1, hx203_2, hx203_3, hx203_4, hx203_5, hx203_6, hx203_7⟩ := at_T55 HR1.out x5_1 p203 q203
        have hw203_7 := hx203_7
        have hw203_6 := hx203_6
        have hw203_5 := hx203_5
        have hw203_4 := hx203_4
        have hw203_3 := hx203_3
        have hw203_2 := hx203_2
        have hw203_1 := hx203_1
        have hw203_0 := hx203_0
        cases e203
        replace hx203_0 := (HB.out.cell (zR w _ hx203_0)).trans hx203_0
        replace hx203_1 := (HB.out.cell (zR w _ hx203_1)).trans hx203_1
        replace hx203_2 := (HB.out.cell (zR w _ hx203_2)).trans hx203_2
        replace hx203_3 := (HB.out.cell (zR w _ hx203_3)).trans hx203_3
        replace hx203_4 := (HB.out.cell (zR w _ hx203_4)).trans hx203_4
        replace hx203_5 := (HB.out.cell (zR w _ hx203_5)).trans hx203_5
        replace hx203_6 := (HB.out.cell (zR w _ hx203_6)).trans hx203_6
        replace hx203_7 := (HB.out.cell (zR w _ hx203_7)).trans hx203_7
        replace p203 := eq_true p203
        replace q203 := eq_true q203
        refine start_ (n := 10) (S := fun w' => w'.cell? (ad202.add ((x5_1).toNat * 8)) = some (.int .i64 ((rd_T55 l0 x5_1).f0)) ∧ w'.cell? ⟨(ad202.add ((x5_1).toNat * 8)).block, (ad202.add ((x5_1).toNat * 8)).off + 1, none⟩ = some (.int .i64 ((rd_T55 l0 x5_1).f1)) ∧ w'.cell? ⟨(ad202.add ((x5_1).toNat * 8)).block, (ad202.add ((x5_1).toNat * 8)).off + 2, none⟩ = some (.int .i64 ((rd_T55 l0 x5_1).f2)) ∧ w'.cell? ⟨(ad202.add ((x5_1).toNat * 8)).block, (ad202.add ((x5_1).toNat * 8)).off + 3, none⟩ = some (.int .i64 ((rd_T55 l0 x5_1).f3)) ∧ w'.cell? ⟨(ad202.add ((x5_1).toNat * 8)).block, (ad202.add ((x5_1).toNat * 8)).off + 4, none⟩ = some (.int .i64 ((rd_T55 l0 x5_1).f4)) ∧ w'.cell? ⟨(ad202.add ((x5_1).toNat * 8)).block, (ad202.add ((x5_1).toNat * 8)).off + 5, none⟩ = some (.int .i64 ((rd_T55 l0 x5_1).f5)) ∧ w'.cell? ⟨(ad202.add ((x5_1).toNat * 8)).block, (ad202.add ((x5_1).toNat * 8)).off + 6, none⟩ = some (.int .i64 ((rd_T55 l0 x5_1).f6)) ∧ w'.cell? ⟨(ad202.add ((x5_1).toNat * 8)).block, (ad202.add ((x5_1).toNat * 8)).off + 7, none⟩ = some (.int .i64 ((rd_T55 l0 x5_1).f7)) ∧ w'.cell? (ad203.add ((x5_1).toNat * 8)) = some (.int .i64 ((rd_T55 l1 x5_1).f0)) ∧ w'.cell? ⟨(ad203.add ((x5_1).toNat * 8)).block, (ad203.add ((x5_1).toNat * 8)).off + 1, none⟩ = some (.int .i64 ((rd_T55 l1 x5_1).f1)) ∧ w'.cell? ⟨(ad203.add ((x5_1).toNat * 8)).block, (ad203.add ((x5_1).toNat * 8)).off + 2, none⟩ = some (.int .i64 ((rd_T55 l1 x5_1).f2)) ∧ w'.cell? ⟨(ad203.add ((x5_1).toNat * 8)).block, (ad203.add ((x5_1).toNat * 8)).off + 3, none⟩ = some (.int .i64 ((rd_T55 l1 x5_1).f3)) ∧ w'.cell? ⟨(ad203.add ((x5_1).toNat * 8)).block, (ad203.add ((x5_1).toNat * 8)).off + 4, none⟩ = some (.int .i64 ((rd_T55 l1 x5_1).f4)) ∧ w'.cell? ⟨(ad203.add ((x5_1).toNat * 8)).block, (ad203.add ((x5_1).toNat * 8)).off + 5, none⟩ = some (.int .i64 ((rd_T55 l1 x5_1).f5)) ∧ w'.cell? ⟨(ad203.add ((x5_1).toNat * 8)).block, (ad203.add ((x5_1).toNat * 8)).off + 6, none⟩ = some (.int .i64 ((rd_T55 l1 x5_1).f6)) ∧ w'.cell? ⟨(ad203.add ((x5_1).toNat * 8)).block, (ad203.add ((x5_1).toNat * 8)).off + 7, none⟩ = some (.int .i64 ((rd_T55 l1 x5_1).f7))) (ds := []) #[false, false, false, false, false, false, false, false, false, false] (by kernel_rfl) rfl rfl ⟨((HB.out.cell (zR w _ hw202_0)).trans hw202_0), ((HB.out.cell (zR w _ hw202_1)).trans hw202_1), ((HB.out.cell (zR w _ hw202_2)).trans hw202_2), ((HB.out.cell (zR w _ hw202_3)).trans hw202_3), ((HB.out.cell (zR w _ hw202_4)).trans hw202_4), ((HB.out.cell (zR w _ hw202_5)).trans hw202_5), ((HB.out.cell (zR w _ hw202_6)).trans hw202_6), ((HB.out.cell (zR w _ hw202_7)).trans hw202_7), ((HB.out.cell (zR w _ hw203_0)).trans hw203_0), ((HB.out.cell (zR w _ hw203_1)).trans hw203_1), ((HB.out.cell (zR w _ hw203_2)).trans hw203_2), ((HB.out.cell (zR w _ hw203_3)).trans hw203_3), ((HB.out.cell (zR w _ hw203_4)).trans hw203_4), ((HB.out.cell (zR w _ hw203_5)).trans hw203_5), ((HB.out.cell (zR w _ hw203_6)).trans hw203_6), ((HB.out.cell (zR w _ hw203_7)).trans hw203_7)⟩ (fun hHeld => ?_); refine with_tabW laws_eqAggS.tab6 laws_eqAggS.bits6 (fun HT_ HW_ => ?_)
        generalize wr.drew = w11 at HB hx202_0 hx202_1 hx202_2 hx202_3 hx202_4 hx202_5 hx202_6 hx202_7 hx203_0 hx203_1 hx203_2 hx203_3 hx203_4 hx203_5 hx203_6 hx203_7 hHeld ⊢
        refine pure_ (i := 0) (N := some 17) (v := ?_) (a' := ?_) #[true, false, false, false, false, false, false, false, false, false] rfl rfl (any_of HT_.out (by kernel_rfl)) (fun _ _ _ h => h) (Or.inl ⟨by rfl, ?_⟩) ?_ ?_
        rotate_left
        ·intro w'
         go_simp
         with_reducible rfl
        rotate_left
        ·simp only [Act.put, zT, zU, zV, i64_w, i32_w]
         rfl
        refine pure_ (i := 1) (N := some 18) (v := ?_) (a' := ?_) #[true, true, false, false, false, false, false, false, false, false] rfl rfl (any_of HT_.out (by kernel_rfl)) (fun _ _ _ h => h) (Or.inl ⟨by rfl, ?_⟩) ?_ ?_
        rotate_left
        ·intro w'
         go_simp
         with_reducible rfl
        rotate_left
        ·simp only [Act.put, zT, zU, zV, i64_w, i32_w]
         rfl
        refine pure_ (i := 2) (N := some 19) (v := ?_) (a' := ?_) #[true, true, true, false, false, false, false, false, false, false] rfl rfl (any_of HT_.out (by kernel_rfl)) (fun _ _ _ h => h) (Or.inl ⟨by rfl, ?_⟩) ?_ ?_
        rotate_left
        ·intro w'
         go_simp
         with_reducible rfl
        rotate_left
        ·simp only [Act.put, zT, zU, zV, i64_w, i32_w]
         rfl
        refine pure_ (i := 4) (N := some 21) (v := ?_) (a' := ?_) #[true, true, true, false, true, false, false, false, false, false] rfl rfl (any_of HT_.out (by kernel_rfl)) (fun _ _ _ h => h) (Or.inl ⟨by rfl, ?_⟩) ?_ ?_
        rotate_left
        ·intro w'
         go_simp
         with_reducible rfl
        rotate_left
        ·simp only [Act.put, zT, zU, zV, i64_w, i32_w]
         rfl
        refine pure_ (i := 5) (N := some 22) (v := ?_) (a' := ?_) #[true, true, true, false, true, true, false, false, false, false] rfl rfl (any_of HT_.out (by kernel_rfl)) (fun _ _ _ h => h) (Or.inl ⟨by rfl, ?_⟩) ?_ ?_
        rotate_left
        ·intro w'
         go_simp
         with_reducible rfl
        rotate_left
        ·simp only [Act.put, zT, zU, zV, i64_w, i32_w]
         rfl
        refine pure_ (i := 6) (N := some 23) (v := ?_) (a' := ?_) #[true, true, true, false, true, true, true, false, false, false] rfl rfl (any_of HT_.out (by kernel_rfl)) (fun _ _ _ h => h) (Or.inl ⟨by rfl, ?_⟩) ?_ ?_
        rotate_left
        ·intro w'
         go_simp
         with_reducible rfl
        rotate_left
        ·simp only [Act.put, zT, zU, zV, i64_w, i32_w]
         rfl
        refine take_ (i := 3) (N := some 20) (v := ?_) (a' := ?_) #[true, true, true, true, true, true, true, false, false, false] rfl rfl (take_ofW HT_.out HW_.out (by kernel_rfl)) (fun _ _ _ h => h) (Or.inl ⟨by rfl, ?_⟩) hHeld ?_ ?_
        rotate_left
        ·rintro w' ⟨s0, s1, s2, s3, s4, s5, s6, s7, s8, s9, s10, s11, s12, s13, s14, s15⟩
         go_simp
         with_reducible rfl
        rotate_left
        ·simp only [Act.put, zT, zU, zV, i64_w, i32_w]
         rfl
        refine take_ (i := 7) (N := some 24) (v := ?_) (a' := ?_) #[true, true, true, true, true, true, true, true, false, false] rfl rfl (take_ofW HT_.out HW_.out (by kernel_rfl)) (fun _ _ _ h => h) (Or.inl ⟨by rfl, ?_⟩) hHeld ?_ ?_
        rotate_left
        ·rintro w' ⟨s0, s1, s2, s3, s4, s5, s6, s7, s8, s9, s10, s11, s12, s13, s14, s15⟩
         go_simp
         with_reducible rfl
        rotate_left
        ·simp only [Act.put, zT, zU, zV, i64_w, i32_w]
         rfl
        refine one_ (i := 8) (N := some 25) #[true, true, true, true, true, true, true, true, true, false] rfl rfl (one_of HT_.out (by kernel_rfl)) (by decide) (fun K hK => ?_)
        refine goes_ Try.func47 (by kernel_rfl) rfl #[.agg #[.int .i64 ((rd_T55 l0 x5_1).f0), .int .i64 ((rd_T55 l0 x5_1).f1), .int .i64 ((rd_T55 l0 x5_1).f2), .int .i64 ((rd_T55 l0 x5_1).f3), .int .i64 ((rd_T55 l0 x5_1).f4), .int .i64 ((rd_T55 l0 x5_1).f5), .int .i64 ((rd_T55 l0 x5_1).f6), .int .i64 ((rd_T55 l0 x5_1).f7)], .agg #[.int .i64 ((rd_T55 l1 x5_1).f0), .int .i64 ((rd_T55 l1 x5_1).f1), .int .i64 ((rd_T55 l1 x5_1).f2), .int .i64 ((rd_T55 l1 x5_1).f3), .int .i64 ((rd_T55 l1 x5_1).f4), .int .i64 ((rd_T55 l1 x5_1).f5), .int .i64 ((rd_T55 l1 x5_1).f6), .int .i64 ((rd_T55 l1 x5_1).f7)]] (by rfl) rfl rfl (by (try simp only [List.map_toArray, List.map_cons, List.map_nil]); first | done | rfl | (simp only [List.length_drop, List.length_take]; rfl)) ?_
        with_reducible refine (laws_eqAgg.calls ((rd_T55 l0 x5_1).f0) ((rd_T55 l0 x5_1).f1) ((rd_T55 l0 x5_1).f2) ((rd_T55 l0 x5_1).f3) ((rd_T55 l0 x5_1).f4) ((rd_T55 l0 x5_1).f5) ((rd_T55 l0 x5_1).f6) ((rd_T55 l0 x5_1).f7) ((rd_T55 l1 x5_1).f0) ((rd_T55 l1 x5_1).f1) ((rd_T55 l1 x5_1).f2) ((rd_T55 l1 x5_1).f3) ((rd_T55 l1 x5_1).f4) ((rd_T55 l1 x5_1).f5) ((rd_T55 l1 x5_1).f6) ((rd_T55 l1 x5_1).f7) false _ A7.out).mono ?_
        rintro e w12 ⟨rfl, hb⟩
        refine ⟨_, rfl, ?_⟩
        have n0_ := Aside0.mk (below_step (by repeat (first | (with_reducible first | exact HB.out | apply zA | apply zB | apply zC) | exact HB.out)) hb)
        clear HB
        have HB := n0_
        clear n0_
        (try clear hb)
        (try clear hb2)
        (try clear hk)
        (try clear hi)
        refine hK.out _ _ ⟨((HB.out.cell (zR w _ hw202_0)).trans hw202_0), ((HB.out.cell (zR w _ hw202_1)).trans hw202_1), ((HB.out.cell (zR w _ hw202_2)).trans hw202_2), ((HB.out.cell (zR w _ hw202_3)).trans hw202_3), ((HB.out.cell (zR w _ hw202_4)).trans hw202_4), ((HB.out.cell (zR w _ hw202_5)).trans hw202_5), ((HB.out.cell (zR w _ hw202_6)).trans hw202_6), ((HB.out.cell (zR w _ hw202_7)).trans hw202_7), ((HB.out.cell (zR w _ hw203_0)).trans hw203_0), ((HB.out.cell (zR w _ hw203_1)).trans hw203_1), ((HB.out.cell (zR w _ hw203_2)).trans hw203_2), ((HB.out.cell (zR w _ hw203_3)).trans hw203_3), ((HB.out.cell (zR w _ hw203_4)).trans hw203_4), ((HB.out.cell (zR w _ hw203_5)).trans hw203_5), ((HB.out.cell (zR w _ hw203_6)).trans hw203_6), ((HB.out.cell (zR w _ hw203_7)).trans hw203_7)⟩ (fun hHeld => ?_)
        clear hK K
        refine norm_ (a' := ?_) ?_ ?_
        rotate_left
        ·show Act.put _ (some 25) _ = _
         simp only [Act.put, zT, zU, zV, i64_w, i32_w]
         rfl
        refine pure_ (i := 9) (N := some 26) (v := ?_) (a' := ?_) #[true, true, true, true, true, true, true, true, true, true] rfl rfl (any_of HT_.out (by kernel_rfl)) (fun _ _ _ h => h) (Or.inl ⟨by rfl, ?_⟩) ?_ ?_
        rotate_left
        ·intro w'
         go_simp
         with_reducible rfl
        rotate_left
        ·simp only [Act.put, zT, zU, zV, i64_w, i32_w]
         rfl
        refine done_ (done_of HT_.out (by kernel_rfl)) ?_
        try go_wp2
        go_ret
        exact ⟨by first | rfl | (simp [errW_none, errW_some] <;> rfl) | (simp [*, errW_none, errW_some] <;> rfl), by repeat (first | (with_reducible first | exact HB.out | apply zA | apply zB | apply zC) | exact HB.out)⟩
      ·rw [if_neg c6] at H
       exact absurd H (by simp)
     ·rw [if_neg c5] at H
      exact absurd H (by simp)
    ·rw [if_neg c4] at H
     have c4b0 : decide (x5_1 < (l0.length : Int)) = false := decide_eq_false c4
     clear c4
     obtain rfl := Option.some.inj H
     go_wp2
     go_ret
     exact ⟨by first | rfl | (simp [errW_none, errW_some] <;> rfl) | (simp [*, errW_none, errW_some] <;> rfl), by repeat (first | (with_reducible first | exact HB.out | apply zA | apply zB | apply zC) | exact HB.out)⟩
 ·rw [if_neg c3] at H
  have c3b0 : ((l0.length : Int) == (l1.length : Int)) = false := beq_eq_false_iff_ne.mpr c3
  have c3b1 : ((l0.length : Int) != (l1.length : Int)) = true := bne_iff_ne.mpr c3
  have c3b2 : (l0.length == l1.length) = false := by first | simpa using c3 | (simp at c3 ⊢; omega)
  obtain rfl := Option.some.inj H
  go_enter Try.func12, Try.ntmps12
  go_wp2
  go_ret
  exact ⟨by first | rfl | (simp [errW_none, errW_some] <;> rfl) | (simp [*, errW_none, errW_some] <;> rfl), by repeat (first | (with_reducible first | exact HB.out | apply zA | apply zB | apply zC) | exact HB.out)⟩

/-! ### laws_FnExactAggOver: function 3 -/
def laws_FnExactAggOver.j0 : Nat → List (S76) → List (S55) → Bool → Option (Bool)
 | 0, _, _, _ => none
 | k + 1, x0, x14, x50 => if x50 = true then (some false) else ((laws_toAggS.f k x0).bind fun t216 => ((laws_eqAggS.f k x14 t216).bind fun t219 => (if t219 = true then (some true) else (some false))))
def laws_FnExactAggOver.f (k : Nat) (l0 : List (S76)) (a1 : Int) (a2 : Int) (a3 : Int) (a4 : Int) : Option (Bool) := (laws_szAggS.f l0 1048576).bind fun t205 => (if t205 < 0 then (some true) else ((laws_toAggS.f k l0).bind fun t206 => ((spec_AggOver.f k t206 a1 a2 a3 a4).bind fun bt209 => ((laws_toAggS.f k l0).bind fun t211 => ((impl_AggOver.f k t211 a1 a2 a3 a4).bind fun bt214 => (if bt214.1 = bt209.1 then (laws_FnExactAggOver.j0 k l0 t211 (bt214.2 != bt209.2)) else (laws_FnExactAggOver.j0 k l0 t211 true)))))))
theorem laws_FnExactAggOver.mono_l : ∀ k, (∀ y0 y1 y2, LeO (laws_FnExactAggOver.j0 k y0 y1 y2) (laws_FnExactAggOver.j0 (k + 1) y0 y1 y2))
 | 0 => fun _ _ _ r h => by simp [laws_FnExactAggOver.j0] at h
 | k + 1 => by
  have ih0 := laws_FnExactAggOver.mono_l k
  ·intro y0 y1 y2
   unfold laws_FnExactAggOver.j0
   repeat' first
   | (with_reducible exact ih0 _ _ _)
   | (with_reducible exact impl_AggOver.mono _ _ _ _ _ _)
   | (with_reducible exact laws_eqAggS.mono _ _ _)
   | (with_reducible exact laws_toAggS.mono _ _)
   | (with_reducible exact spec_AggOver.mono _ _ _ _ _ _)
   | (with_reducible exact LeO.refl _)
   | (with_reducible exact LeO.none _)
   | (with_reducible refine LeO.ite ?_ ?_)
   | (with_reducible refine LeO.bind ?_ (fun _ => ?_))
   | exact ih0 _ _ _
   | exact impl_AggOver.mono _ _ _ _ _ _
   | exact laws_eqAggS.mono _ _ _
   | exact laws_toAggS.mono _ _
   | exact spec_AggOver.mono _ _ _ _ _ _
   | exact LeO.none _
   | refine LeO.ite ?_ ?_
   | refine LeO.bind ?_ (fun _ => ?_)
theorem laws_FnExactAggOver.mono : ∀ a0 a1 a2 a3 a4 k, LeO (laws_FnExactAggOver.f k a0 a1 a2 a3 a4) (laws_FnExactAggOver.f (k + 1) a0 a1 a2 a3 a4) := by
 intro a0 a1 a2 a3 a4 k
 have ih0 := laws_FnExactAggOver.mono_l k
 unfold laws_FnExactAggOver.f
 repeat' first
   | (with_reducible exact ih0 _ _ _)
   | (with_reducible exact impl_AggOver.mono _ _ _ _ _ _)
   | (with_reducible exact laws_eqAggS.mono _ _ _)
   | (with_reducible exact laws_toAggS.mono _ _)
   | (with_reducible exact spec_AggOver.mono _ _ _ _ _ _)
   | (with_reducible exact LeO.refl _)
   | (with_reducible exact LeO.none _)
   | (with_reducible refine LeO.ite ?_ ?_)
   | (with_reducible refine LeO.bind ?_ (fun _ => ?_))
   | exact ih0 _ _ _
   | exact impl_AggOver.mono _ _ _ _ _ _
   | exact laws_eqAggS.mono _ _ _
   | exact laws_toAggS.mono _ _
   | exact spec_AggOver.mono _ _ _ _ _ _
   | exact LeO.none _
   | refine LeO.ite ?_ ?_
   | refine LeO.bind ?_ (fun _ => ?_)
set_option maxHeartbeats 8000000 in
set_option maxRecDepth 100000 in
theorem laws_FnExactAggOver.calls (k : Nat) (A0 : Option Addr) (c0 : Nat) (l0 : List (S76)) (a1 : Int) (a2 : Int) (a3 : Int) (a4 : Int) (r : Bool) (w : World) (hr0 : Kd.C k76 w A0 l0.length l0) (hc0 : l0.length ≤ c0) (h : laws_FnExactAggOver.f k l0 a1 a2 a3 a4 = some r) :
  Calls Try.prog 3 #[.slice A0 l0.length c0, .int .i64 a1, .int .i64 a2, .int .i64 a3, .int .i64 a4] w fun e w' => e = .returned (.bool r) ∧ Below w.heap.size w w' := by
 have HR0 := Aside0.mk hr0
 have HC0 := Aside0.mk hc0
 clear hr0 hc0
 have HB := Aside0.mk (Below.refl w.heap.size w)
 have H : ((laws_szAggS.f l0 1048576).bind fun t205 => (if t205 < 0 then (some true) else ((laws_toAggS.f k l0).bind fun t206 => ((spec_AggOver.f k t206 a1 a2 a3 a4).bind fun bt209 => ((laws_toAggS.f k l0).bind fun t211 => ((impl_AggOver.f k t211 a1 a2 a3 a4).bind fun bt214 => (if bt214.1 = bt209.1 then (laws_FnExactAggOver.j0 k l0 t211 (bt214.2 != bt209.2)) else (laws_FnExactAggOver.j0 k l0 t211 true)))))))) = some r := h
 clear h
 replace H := Option.bind_eq_some_iff.mp H
 obtain ⟨t205, A60, H⟩ := H
 replace H : (if t205 < 0 then (some true) else ((laws_toAggS.f k l0).bind fun t206 => ((spec_AggOver.f k t206 a1 a2 a3 a4).bind fun bt209 => ((laws_toAggS.f k l0).bind fun t211 => ((impl_AggOver.f k t211 a1 a2 a3 a4).bind fun bt214 => (if bt214.1 = bt209.1 then (laws_FnExactAggOver.j0 k l0 t211 (bt214.2 != bt209.2)) else (laws_FnExactAggOver.j0 k l0 t211 true))))))) = some r := H
 have A6 := Aside0.mk A60
 clear A60
 by_cases c7 : t205 < 0
 ·rw [if_pos c7] at H
  have c7b0 : decide (t205 < 0) = true := decide_eq_true c7
  clear c7
  obtain rfl := Option.some.inj H
  go_enter Try.func3, Try.ntmps3
  go_wp2_with (first | ((with_reducible refine gate_callee (f := 8) rfl ?_); refine goesL_ (some 19) rfl rfl Try.func8 (by kernel_rfl) rfl #[.slice A0 l0.length c0, .int .i64 1048576] rfl (by (try simp only [List.map_toArray, List.map_cons, List.map_nil]); first | done | rfl | (simp only [List.length_drop, List.length_take]; rfl)) ?_; (with_reducible refine (laws_szAggS.calls _ _ l0 1048576 t205 _ ?side1 ?side2 A6.out).mono ?_); (case side1 => repeat (first | exact HR0.out | (with_reducible refine zJ ?_ _) | (with_reducible refine zK ?_ _) | (with_reducible refine zL ?_))); (case side2 => exact HC0.out); rintro e w' ⟨rfl, ⟨nd, rfl⟩⟩; refine ⟨_, rfl, ?_⟩))
  go_ret
  exact ⟨by first | rfl | (simp [errW_none, errW_some] <;> rfl) | (simp [*, errW_none, errW_some] <;> rfl), by repeat (first | (with_reducible first | exact HB.out | apply zA | apply zB | apply zC) | exact HB.out)⟩
 ·rw [if_neg c7] at H
  have c7b0 : decide (t205 < 0) = false := decide_eq_false c7
  clear c7
  replace H := Option.bind_eq_some_iff.mp H
  obtain ⟨t206, A80, H⟩ := H
  replace H : ((spec_AggOver.f k t206 a1 a2 a3 a4).bind fun bt209 => ((laws_toAggS.f k l0).bind fun t211 => ((impl_AggOver.f k t211 a1 a2 a3 a4).bind fun bt214 => (if bt214.1 = bt209.1 then (laws_FnExactAggOver.j0 k l0 t211 (bt214.2 != bt209.2)) else (laws_FnExactAggOver.j0 k l0 t211 true))))) = some r := H
  have A8 := Aside0.mk A80
  clear A80
  replace H := Option.bind_eq_some_iff.mp H
  obtain ⟨⟨t209, t210⟩, A90, H⟩ := H
  replace H : ((laws_toAggS.f k l0).bind fun t211 => ((impl_AggOver.f k t211 a1 a2 a3 a4).bind fun bt214 => (if bt214.1 = t209 then (laws_FnExactAggOver.j0 k l0 t211 (bt214.2 != t210)) else (laws_FnExactAggOver.j0 k l0 t211 true)))) = some r := H
  have A9 := Aside0.mk A90
  clear A90
  replace H := Option.bind_eq_some_iff.mp H
  obtain ⟨t211, A100, H⟩ := H
  replace H : ((impl_AggOver.f k t211 a1 a2 a3 a4).bind fun bt214 => (if bt214.1 = t209 then (laws_FnExactAggOver.j0 k l0 t211 (bt214.2 != t210)) else (laws_FnExactAggOver.j0 k l0 t211 true))) = some r := H
  have A10 := Aside0.mk A100
  clear A100
  replace H := Option.bind_eq_some_iff.mp H
  obtain ⟨⟨t214, t215⟩, A110, H⟩ := H
  replace H : (if t214 = t209 then (laws_FnExactAggOver.j0 k l0 t211 (t215 != t210)) else (laws_FnExactAggOver.j0 k l0 t211 true)) = some r := H
  have A11 := Aside0.mk A110
  clear A110
  have HC12 := Aside0.mk H
  clear H
  go_enter Try.func3, Try.ntmps3
  go_upto_region 8 with (first | ((with_reducible refine gate_callee (f := 8) rfl ?_); refine goesL_ (some 19) rfl rfl Try.func8 (by kernel_rfl) rfl #[.slice A0 l0.length c0, .int .i64 1048576] rfl (by (try simp only [List.map_toArray, List.map_cons, List.map_nil]); first | done | rfl | (simp only [List.length_drop, List.length_take]; rfl)) ?_; (with_reducible refine (laws_szAggS.calls _ _ l0 1048576 t205 _ ?side1 ?side2 A6.out).mono ?_); (case side1 => repeat (first | exact HR0.out | (with_reducible refine zJ ?_ _) | (with_reducible refine zK ?_ _) | (with_reducible refine zL ?_))); (case side2 => exact HC0.out); rintro e w' ⟨rfl, ⟨nd, rfl⟩⟩; refine ⟨_, rfl, ?_⟩) | ((with_reducible refine gate_callee (f := 10) rfl ?_); refine goesL_ (some 24) rfl rfl Try.func10 (by kernel_rfl) rfl #[.slice A0 l0.length c0] rfl (by (try simp only [List.map_toArray, List.map_cons, List.map_nil]); first | done | rfl | (simp only [List.length_drop, List.length_take]; rfl)) ?_; (with_reducible refine (laws_toAggS.calls k _ _ l0 t206 _ ?side1 ?side2 A8.out).mono ?_); (case side1 => repeat (first | exact HR0.out | (with_reducible refine zJ ?_ _) | (with_reducible refine zK ?_ _) | (with_reducible refine zL ?_))); (case side2 => exact HC0.out); rintro e w13 ⟨v207, rfl, ho0, hb⟩; refine ⟨_, rfl, ?_⟩; have n0_ := Aside0.mk (Kd.R_lower ho0 (zW (by repeat (first | (with_reducible first | exact HB.out | apply zA | apply zB | apply zC) | exact HB.out)))); have n1_ := Aside0.mk (below_step (by repeat (first | (with_reducible first | exact HB.out | apply zA | apply zB | apply zC) | exact HB.out)) hb); clear HB; have HO208 := n0_; have HB := n1_; clear n0_ n1_; (try clear hb); (try clear hb2); (try clear hk); (try clear hi); (try clear ho0); obtain ⟨Ao14, co14, eo14⟩ := Kd.R_slice HO208.out; subst eo14) | ((with_reducible refine gate_callee (f := 9) rfl ?_); refine goesL_ (some 29) rfl rfl Try.func9 (by kernel_rfl) rfl #[.slice Ao14 t206.length co14, .int .i64 a1, .int .i64 a2, .int .i64 a3, .int .i64 a4] rfl (by (try simp only [List.map_toArray, List.map_cons, List.map_nil]); first | done | rfl | (simp only [List.length_drop, List.length_take]; rfl)) ?_; (with_reducible refine (spec_AggOver.calls k _ _ t206 a1 a2 a3 a4 t209 t210 _ ?side1 ?side2 A9.out).mono ?_); (case side1 => repeat (first | exact (Kd.R_reads' HO208.out).2.2 | (with_reducible refine zJ ?_ _) | (with_reducible refine zK ?_ _) | (with_reducible refine zL ?_))); (case side2 => exact (Kd.R_reads' HO208.out).2.1); rintro e w15 ⟨rfl, hb⟩; refine ⟨_, rfl, ?_⟩; have n0_ := Aside0.mk (Kd.R_below (by (with_reducible repeat (first | apply zG | apply zH | apply zI)); exact HO208.out) hb); have n1_ := Aside0.mk (below_step (by repeat (first | (with_reducible first | exact HB.out | apply zA | apply zB | apply zC) | exact HB.out)) hb); clear HO208; clear HB; have HO208 := n0_; have HB := n1_; clear n0_ n1_; (try clear hb); (try clear hb2); (try clear hk); (try clear hi)) | ((with_reducible refine gate_callee (f := 10) rfl ?_); refine goesL_ (some 33) rfl rfl Try.func10 (by kernel_rfl) rfl #[.slice A0 l0.length c0] rfl (by (try simp only [List.map_toArray, List.map_cons, List.map_nil]); first | done | rfl | (simp only [List.length_drop, List.length_take]; rfl)) ?_; (with_reducible refine (laws_toAggS.calls k _ _ l0 t211 _ ?side1 ?side2 A10.out).mono ?_); (case side1 => repeat (first | exact (Kd.C_below HR0.out HB.out) | (with_reducible refine zJ ?_ _) | (with_reducible refine zK ?_ _) | (with_reducible refine zL ?_))); (case side2 => exact HC0.out); rintro e w16 ⟨v212, rfl, ho0, hb⟩; refine ⟨_, rfl, ?_⟩; have n0_ := Aside0.mk (Kd.R_elder' (by (with_reducible repeat (first | apply zG | apply zH | apply zI)); exact HO208.out) (Kd.R_base ho0) hb); have n1_ := Aside0.mk (Kd.R_lower (Kd.R_new' ho0 (Kd.R_lt (by (with_reducible repeat (first | apply zG | apply zH | apply zI)); exact HO208.out))) (zW (by repeat (first | (with_reducible first | exact HB.out | apply zA | apply zB | apply zC) | exact HB.out)))); have n2_ := Aside0.mk (below_step (by repeat (first | (with_reducible first | exact HB.out | apply zA | apply zB | apply zC) | exact HB.out)) hb); clear HO208; clear HB; have HO208 := n0_; have HO213 := n1_; have HB := n2_; clear n0_ n1_ n2_; (try clear hb); (try clear hb2); (try clear hk); (try clear hi); (try clear ho0); obtain ⟨Ao17, co17, eo17⟩ := Kd.R_slice HO213.out; subst eo17) | ((with_reducible refine gate_callee (f := 11) rfl ?_); refine goesL_ (some 40) rfl rfl Try.func11 (by kernel_rfl) rfl #[.slice Ao17 t211.length co17, .int .i64 a1, .int .i64 a2, .int .i64 a3, .int .i64 a4] rfl (by (try simp only [List.map_toArray, List.map_cons, List.map_nil]); first | done | rfl | (simp only [List.length_drop, List.length_take]; rfl)) ?_; (with_reducible refine (impl_AggOver.calls k _ _ t211 a1 a2 a3 a4 t214 t215 _ ?side1 ?side2 A11.out).mono ?_); (case side1 => repeat (first | exact (Kd.R_reads' HO213.out).2.2 | (with_reducible refine zJ ?_ _) | (with_reducible refine zK ?_ _) | (with_reducible refine zL ?_))); (case side2 => exact (Kd.R_reads' HO213.out).2.1); rintro e w18 ⟨rfl, hb⟩; refine ⟨_, rfl, ?_⟩; have n0_ := Aside0.mk (Kd.R_below (by (with_reducible repeat (first | apply zG | apply zH | apply zI)); exact HO208.out) hb); have n1_ := Aside0.mk (Kd.R_below (by (with_reducible repeat (first | apply zG | apply zH | apply zI)); exact HO213.out) hb); have n2_ := Aside0.mk (below_step (by repeat (first | (with_reducible first | exact HB.out | apply zA | apply zB | apply zC) | exact HB.out)) hb); clear HO208; clear HO213; clear HB; have HO208 := n0_; have HO213 := n1_; have HB := n2_; clear n0_ n1_ n2_; (try clear hb); (try clear hb2); (try clear hk); (try clear hi)))
  (try simp only [Act.put, zT, zU, zV])
  go_cut [50] (fun v50 wc => ∃ (kq : Nat) (x50_11 : Bool), v50 = .bool x50_11 ∧ Aside0 (laws_FnExactAggOver.j0 kq l0 t211 x50_11 = some r) ∧ Aside0 (kq ≤ k) ∧ Aside0 (Kd.R k55 55 wc w.heap.size (fun _ => True) (.slice Ao17 t211.length co17) t211) ∧ Aside0 (Below w.heap.size w wc))
  case first =>
   have H := HC12.out
   clear HC12
   by_cases c19 : t214 = t209
   ·rw [if_pos c19] at H
    have c19b0 : (t214 == t209) = true := beq_iff_eq.mpr c19
    have c19b1 : (t214 != t209) = false := bne_eq_false_iff_eq.mpr c19
    clear c19
    (first | rw [c19b0] | (simp only [i64_w, i32_w]; rw [c19b0]) | skip)
    have H' := Aside0.mk H
    clear H
    go_wp2
    go_meet
    case rel => exact ⟨_, ((t215 != t210)), (by first | rfl | (simp; done) | (simp [*]; done)), H', ⟨by first | omega | exact Nat.le_refl _⟩, ⟨by (with_reducible repeat (first | apply zG | apply zH | apply zI)); exact Kd.R_mono HO213.out (fun _ hk => trivial)⟩, ⟨by repeat (first | (with_reducible first | exact HB.out | apply zA | apply zB | apply zC) | exact HB.out)⟩⟩
   ·rw [if_neg c19] at H
    have c19b0 : (t214 == t209) = false := beq_eq_false_iff_ne.mpr c19
    have c19b1 : (t214 != t209) = true := bne_iff_ne.mpr c19
    (first | rw [c19b0] | (simp only [i64_w, i32_w]; rw [c19b0]) | skip)
    have H' := Aside0.mk H
    clear H
    go_wp2
    go_meet
    case rel => exact ⟨_, (true), (by first | rfl | (simp; done) | (simp [*]; done)), H', ⟨by first | omega | exact Nat.le_refl _⟩, ⟨by (with_reducible repeat (first | apply zG | apply zH | apply zI)); exact Kd.R_mono HO213.out (fun _ hk => trivial)⟩, ⟨by repeat (first | (with_reducible first | exact HB.out | apply zA | apply zB | apply zC) | exact HB.out)⟩⟩
  case rest =>
   clear HC12
   try clear c1
   try clear p2
   try clear c3
   try clear c7
   try clear c7b0
   try clear c8
   try clear c9
   try clear c10
   try clear c11
   try clear c19
   try clear c19b0
   try clear c19b1
   obtain ⟨kq, x50_11, rfl, HA, HJ11, HO_14, HB⟩ := hcut
   cases kq with
   | zero => exact absurd HA.out (by simp [laws_FnExactAggOver.j0])
   | succ kj11 =>
    have H := HA.out
    clear HA
    simp only [laws_FnExactAggOver.j0] at H
    by_cases c20 : x50_11 = true
    ·subst c20
     have H1 : (some false) = some r := by rw [if_pos rfl] at H; exact H
     clear H
     have H := H1
     clear H1
     obtain rfl := Option.some.inj H
     go_wp2
     go_ret
     exact ⟨by first | rfl | (simp [errW_none, errW_some] <;> rfl) | (simp [*, errW_none, errW_some] <;> rfl), by repeat (first | (with_reducible first | exact HB.out | apply zA | apply zB | apply zC) | exact HB.out)⟩
    ·replace c20 := Bool.eq_false_iff.mpr c20
     subst c20
     have H1 : ((laws_toAggS.f kj11 l0).bind fun t216 => ((laws_eqAggS.f kj11 t211 t216).bind fun t219 => (if t219 = true then (some true) else (some false)))) = some r := by rw [if_neg (show ¬ (false = true) by decide)] at H; exact H
     clear H
     have H := H1
     clear H1
     replace H := Option.bind_eq_some_iff.mp H
     obtain ⟨t216, A210, H⟩ := H
     replace H : ((laws_eqAggS.f kj11 t211 t216).bind fun t219 => (if t219 = true then (some true) else (some false))) = some r := H
     have A21 := Aside0.mk A210
     clear A210
     replace H := Option.bind_eq_some_iff.mp H
     obtain ⟨t219, A220, H⟩ := H
     replace H : (if t219 = true then (some true) else (some false)) = some r := H
     have A22 := Aside0.mk A220
     clear A220
     by_cases c23 : t219 = true
     ·subst c23
      have H1 : (some true) = some r := by rw [if_pos rfl] at H; exact H
      clear H
      have H := H1
      clear H1
      obtain rfl := Option.some.inj H
      go_wp2_with (first | ((with_reducible refine gate_callee (f := 10) rfl ?_); refine goesL_ (some 53) rfl rfl Try.func10 (by kernel_rfl) rfl #[.slice A0 l0.length c0] rfl (by (try simp only [List.map_toArray, List.map_cons, List.map_nil]); first | done | rfl | (simp only [List.length_drop, List.length_take]; rfl)) ?_; (with_reducible refine (laws_toAggS.calls kj11 _ _ l0 t216 _ ?side1 ?side2 A21.out).mono ?_); (case side1 => repeat (first | exact (Kd.C_below HR0.out HB.out) | (with_reducible refine zJ ?_ _) | (with_reducible refine zK ?_ _) | (with_reducible refine zL ?_))); (case side2 => exact HC0.out); rintro e w24 ⟨v217, rfl, ho0, hb⟩; refine ⟨_, rfl, ?_⟩; have n0_ := Aside0.mk (Kd.R_elder' (by (with_reducible repeat (first | apply zG | apply zH | apply zI)); exact HO_14.out) (Kd.R_base ho0) hb); have n1_ := Aside0.mk (Kd.R_lower (Kd.R_new' ho0 (Kd.R_lt (by (with_reducible repeat (first | apply zG | apply zH | apply zI)); exact HO_14.out))) (zW (by repeat (first | (with_reducible first | exact HB.out | apply zA | apply zB | apply zC) | exact HB.out)))); have n2_ := Aside0.mk (below_step (by repeat (first | (with_reducible first | exact HB.out | apply zA | apply zB | apply zC) | exact HB.out)) hb); clear HO_14; clear HB; have HO_14 := n0_; have HO218 := n1_; have HB := n2_; clear n0_ n1_ n2_; (try clear hb); (try clear hb2); (try clear hk); (try clear hi); (try clear ho0); obtain ⟨Ao25, co25, eo25⟩ := Kd.R_slice HO218.out; subst eo25) | ((with_reducible refine gate_callee (f := 12) rfl ?_); refine goesL_ (some 54) rfl rfl Try.func12 (by kernel_rfl) rfl #[.slice Ao17 t211.length co17, .slice Ao25 t216.length co25] rfl (by (try simp only [List.map_toArray, List.map_cons, List.map_nil]); first | done | rfl | (simp only [List.length_drop, List.length_take]; rfl)) ?_; (with_reducible refine (laws_eqAggS.calls kj11 _ _ t211 _ _ t216 true _ ?side1 ?side2 ?side3 ?side4 A22.out).mono ?_); (case side1 => repeat (first | exact (Kd.R_reads' HO_14.out).2.2 | (with_reducible refine zJ ?_ _) | (with_reducible refine zK ?_ _) | (with_reducible refine zL ?_))); (case side2 => exact (Kd.R_reads' HO_14.out).2.1); (case side3 => repeat (first | exact (Kd.R_reads' HO218.out).2.2 | (with_reducible refine zJ ?_ _) | (with_reducible refine zK ?_ _) | (with_reducible refine zL ?_))); (case side4 => exact (Kd.R_reads' HO218.out).2.1); rintro e w26 ⟨rfl, hb⟩; refine ⟨_, rfl, ?_⟩; have n0_ := Aside0.mk (Kd.R_below (by (with_reducible repeat (first | apply zG | apply zH | apply zI)); exact HO_14.out) hb); have n1_ := Aside0.mk (Kd.R_below (by (with_reducible repeat (first | apply zG | apply zH | apply zI)); exact HO218.out) hb); have n2_ := Aside0.mk (below_step (by repeat (first | (with_reducible first | exact HB.out | apply zA | apply zB | apply zC) | exact HB.out)) hb); clear HO_14; clear HO218; clear HB; have HO_14 := n0_; have HO218 := n1_; have HB := n2_; clear n0_ n1_ n2_; (try clear hb); (try clear hb2); (try clear hk); (try clear hi)))
      go_ret
      exact ⟨by first | rfl | (simp [errW_none, errW_some] <;> rfl) | (simp [*, errW_none, errW_some] <;> rfl), by repeat (first | (with_reducible first | exact HB.out | apply zA | apply zB | apply zC) | exact HB.out)⟩
     ·replace c23 := Bool.eq_false_iff.mpr c23
      subst c23
      have H1 : (some false) = some r := by rw [if_neg (show ¬ (false = true) by decide)] at H; exact H
      clear H
      have H := H1
      clear H1
      obtain rfl := Option.some.inj H
      go_wp2_with (first | ((with_reducible refine gate_callee (f := 10) rfl ?_); refine goesL_ (some 53) rfl rfl Try.func10 (by kernel_rfl) rfl #[.slice A0 l0.length c0] rfl (by (try simp only [List.map_toArray, List.map_cons, List.map_nil]); first | done | rfl | (simp only [List.length_drop, List.length_take]; rfl)) ?_; (with_reducible refine (laws_toAggS.calls kj11 _ _ l0 t216 _ ?side1 ?side2 A21.out).mono ?_); (case side1 => repeat (first | exact (Kd.C_below HR0.out HB.out) | (with_reducible refine zJ ?_ _) | (with_reducible refine zK ?_ _) | (with_reducible refine zL ?_))); (case side2 => exact HC0.out); rintro e w27 ⟨v217, rfl, ho0, hb⟩; refine ⟨_, rfl, ?_⟩; have n0_ := Aside0.mk (Kd.R_elder' (by (with_reducible repeat (first | apply zG | apply zH | apply zI)); exact HO_14.out) (Kd.R_base ho0) hb); have n1_ := Aside0.mk (Kd.R_lower (Kd.R_new' ho0 (Kd.R_lt (by (with_reducible repeat (first | apply zG | apply zH | apply zI)); exact HO_14.out))) (zW (by repeat (first | (with_reducible first | exact HB.out | apply zA | apply zB | apply zC) | exact HB.out)))); have n2_ := Aside0.mk (below_step (by repeat (first | (with_reducible first | exact HB.out | apply zA | apply zB | apply zC) | exact HB.out)) hb); clear HO_14; clear HB; have HO_14 := n0_; have HO218 := n1_; have HB := n2_; clear n0_ n1_ n2_; (try clear hb); (try clear hb2); (try clear hk); (try clear hi); (try clear ho0); obtain ⟨Ao28, co28, eo28⟩ := Kd.R_slice HO218.out; subst eo28) | ((with_reducible refine gate_callee (f := 12) rfl ?_); refine goesL_ (some 54) rfl rfl Try.func12 (by kernel_rfl) rfl #[.slice Ao17 t211.length co17, .slice Ao28 t216.length co28] rfl (by (try simp only [List.map_toArray, List.map_cons, List.map_nil]); first | done | rfl | (simp only [List.length_drop, List.length_take]; rfl)) ?_; (with_reducible refine (laws_eqAggS.calls kj11 _ _ t211 _ _ t216 false _ ?side1 ?side2 ?side3 ?side4 A22.out).mono ?_); (case side1 => repeat (first | exact (Kd.R_reads' HO_14.out).2.2 | (with_reducible refine zJ ?_ _) | (with_reducible refine zK ?_ _) | (with_reducible refine zL ?_))); (case side2 => exact (Kd.R_reads' HO_14.out).2.1); (case side3 => repeat (first | exact (Kd.R_reads' HO218.out).2.2 | (with_reducible refine zJ ?_ _) | (with_reducible refine zK ?_ _) | (with_reducible refine zL ?_))); (case side4 => exact (Kd.R_reads' HO218.out).2.1); rintro e w29 ⟨rfl, hb⟩; refine ⟨_, rfl, ?_⟩; have n0_ := Aside0.mk (Kd.R_below (by (with_reducible repeat (first | apply zG | apply zH | apply zI)); exact HO_14.out) hb); have n1_ := Aside0.mk (Kd.R_below (by (with_reducible repeat (first | apply zG | apply zH | apply zI)); exact HO218.out) hb); have n2_ := Aside0.mk (below_step (by repeat (first | (with_reducible first | exact HB.out | apply zA | apply zB | apply zC) | exact HB.out)) hb); clear HO_14; clear HO218; clear HB; have HO_14 := n0_; have HO218 := n1_; have HB := n2_; clear n0_ n1_ n2_; (try clear hb); (try clear hb2); (try clear hk); (try clear hi)))
      go_ret
      exact ⟨by first | rfl | (simp [errW_none, errW_some] <;> rfl) | (simp [*, errW_none, errW_some] <;> rfl), by repeat (first | (with_reducible first | exact HB.out | apply zA | apply zB | apply zC) | exact HB.out)⟩

end Go.Proofs.Ytppifefhpjhmaab.PFnExactAggOver
