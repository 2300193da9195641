-- Written by a program of this session (xprint.py, over the kit's print).
import Derived.Test.YtppifefhpjhmaaaPFnExactDownAggsx0
import Derived.Test.YtppifefhpjhmaaaPFnExactDownAggsx2
namespace Go.Proofs.Ytppifefhpjhmaaa.PFnExactDownAggs
open Go.RowKit Go.Proofs.YtppifefhpjhmaaaW.PrintWords Go.Proofs.YtppifefhpjhmaaaW.PrintLast Go.Proofs.YtppifefhpjhmaaaW.PrintMore Go.Proofs.Ytppifefhpjhmaaa.XWords
attribute [local go_sem] max2_int min2_int max_two min_two max_three min_three max_four min_four   -- for this text's walks alone
set_option linter.unusedVariables false
set_option linter.unusedSimpArgs false

/-! ### spec_GoodAggs: function 13 -/
mutual
def spec_GoodAggs.j0 : Nat → List (S24) → Int → Bool → Option (Bool)
 | 0, _, _, _ => none
 | k + 1, x0, x1, x14 => if x14 = true then (some false) else (spec_GoodAggs.l0 k x0 x1 x0 (x0.length : Int) 0)
def spec_GoodAggs.l0 : Nat → List (S24) → Int → List (S24) → Int → Int → Option (Bool)
 | 0, _, _, _, _, _ => none
 | k + 1, x0, x1, x15, x16, x17 => if x17 < x16 then (if 0 ≤ x17 then (if x17 < (x15.length : Int) then (if x1 = 0 then (none) else (if (Int.tmod ((rd_T24 x15 x17).f0) x1) = 0 then (if ((rd_T24 x15 x17).f0) < 0 then (spec_GoodAggs.j2 k x0 x1 x15 x16 x17 true ((rd_T24 x15 x17).f0) ((rd_T24 x15 x17).f1) ((rd_T24 x15 x17).f2) ((rd_T24 x15 x17).f3) ((rd_T24 x15 x17).f4) ((rd_T24 x15 x17).f5) ((rd_T24 x15 x17).f6) ((rd_T24 x15 x17).f7)) else (if ((rd_T24 x15 x17).f0) > 1000001000000 then (spec_GoodAggs.j2 k x0 x1 x15 x16 x17 true ((rd_T24 x15 x17).f0) ((rd_T24 x15 x17).f1) ((rd_T24 x15 x17).f2) ((rd_T24 x15 x17).f3) ((rd_T24 x15 x17).f4) ((rd_T24 x15 x17).f5) ((rd_T24 x15 x17).f6) ((rd_T24 x15 x17).f7)) else (if x17 > 0 then (if 0 ≤ (wrap64 (x17 - 1)) then (if (wrap64 (x17 - 1)) < (x0.length : Int) then (if ((rd_T24 x0 (wrap64 (x17 - 1))).f0) ≥ ((rd_T24 x15 x17).f0) then (spec_GoodAggs.j2 k x0 x1 x15 x16 x17 true ((rd_T24 x15 x17).f0) ((rd_T24 x15 x17).f1) ((rd_T24 x15 x17).f2) ((rd_T24 x15 x17).f3) ((rd_T24 x15 x17).f4) ((rd_T24 x15 x17).f5) ((rd_T24 x15 x17).f6) ((rd_T24 x15 x17).f7)) else (if ((rd_T24 x15 x17).f1) < 1 then (spec_GoodAggs.j2 k x0 x1 x15 x16 x17 true ((rd_T24 x15 x17).f0) ((rd_T24 x15 x17).f1) ((rd_T24 x15 x17).f2) ((rd_T24 x15 x17).f3) ((rd_T24 x15 x17).f4) ((rd_T24 x15 x17).f5) ((rd_T24 x15 x17).f6) ((rd_T24 x15 x17).f7)) else (spec_GoodAggs.j2 k x0 x1 x15 x16 x17 (decide (((rd_T24 x15 x17).f1) > 2000)) ((rd_T24 x15 x17).f0) ((rd_T24 x15 x17).f1) ((rd_T24 x15 x17).f2) ((rd_T24 x15 x17).f3) ((rd_T24 x15 x17).f4) ((rd_T24 x15 x17).f5) ((rd_T24 x15 x17).f6) ((rd_T24 x15 x17).f7)))) else (none)) else (none)) else (if ((rd_T24 x15 x17).f1) < 1 then (spec_GoodAggs.j2 k x0 x1 x15 x16 x17 true ((rd_T24 x15 x17).f0) ((rd_T24 x15 x17).f1) ((rd_T24 x15 x17).f2) ((rd_T24 x15 x17).f3) ((rd_T24 x15 x17).f4) ((rd_T24 x15 x17).f5) ((rd_T24 x15 x17).f6) ((rd_T24 x15 x17).f7)) else (spec_GoodAggs.j2 k x0 x1 x15 x16 x17 (decide (((rd_T24 x15 x17).f1) > 2000)) ((rd_T24 x15 x17).f0) ((rd_T24 x15 x17).f1) ((rd_T24 x15 x17).f2) ((rd_T24 x15 x17).f3) ((rd_T24 x15 x17).f4) ((rd_T24 x15 x17).f5) ((rd_T24 x15 x17).f6) ((rd_T24 x15 x17).f7)))))) else (spec_GoodAggs.j2 k x0 x1 x15 x16 x17 true ((rd_T24 x15 x17).f0) ((rd_T24 x15 x17).f1) ((rd_T24 x15 x17).f2) ((rd_T24 x15 x17).f3) ((rd_T24 x15 x17).f4) ((rd_T24 x15 x17).f5) ((rd_T24 x15 x17).f6) ((rd_T24 x15 x17).f7)))) else (none)) else (none)) else (some true)
def spec_GoodAggs.j2 : Nat → List (S24) → Int → List (S24) → Int → Int → Bool → Int → Int → Int → Int → Int → Int → Int → Int → Option (Bool)
 | 0, _, _, _, _, _, _, _, _, _, _, _, _, _, _ => none
 | k + 1, x0, x1, x15, x16, x17, x61, x131000, x131001, x131002, x131003, x131004, x131005, x131006, x131007 => if x61 = true then (some false) else (if x131005 < x131003 then (spec_GoodAggs.j3 k x0 x1 x15 x16 x17 true) else (if x131005 > x131004 then (spec_GoodAggs.j3 k x0 x1 x15 x16 x17 true) else (if x131006 < x131003 then (spec_GoodAggs.j3 k x0 x1 x15 x16 x17 true) else (spec_GoodAggs.j3 k x0 x1 x15 x16 x17 (decide (x131006 > x131004))))))
def spec_GoodAggs.j3 : Nat → List (S24) → Int → List (S24) → Int → Int → Bool → Option (Bool)
 | 0, _, _, _, _, _, _ => none
 | k + 1, x0, x1, x15, x16, x17, x87 => if x87 = true then (some false) else (spec_GoodAggs.l0 k x0 x1 x15 x16 (wrap64 (x17 + 1)))
end
def spec_GoodAggs.f (k : Nat) (l0 : List (S24)) (a1 : Int) : Option (Bool) := (spec_l11Res.f a1).bind fun t128 => (if t128 = true then (spec_GoodAggs.j0 k l0 a1 (decide ((l0.length : Int) > 2000))) else (spec_GoodAggs.j0 k l0 a1 true))
theorem spec_GoodAggs.mono_l : ∀ k, (∀ y0 y1 y2, LeO (spec_GoodAggs.j0 k y0 y1 y2) (spec_GoodAggs.j0 (k + 1) y0 y1 y2)) ∧ (∀ y0 y1 y2 y3 y4, LeO (spec_GoodAggs.l0 k y0 y1 y2 y3 y4) (spec_GoodAggs.l0 (k + 1) y0 y1 y2 y3 y4)) ∧ (∀ y0 y1 y2 y3 y4 y5 y6 y7 y8 y9 y10 y11 y12 y13, LeO (spec_GoodAggs.j2 k y0 y1 y2 y3 y4 y5 y6 y7 y8 y9 y10 y11 y12 y13) (spec_GoodAggs.j2 (k + 1) y0 y1 y2 y3 y4 y5 y6 y7 y8 y9 y10 y11 y12 y13)) ∧ (∀ y0 y1 y2 y3 y4 y5, LeO (spec_GoodAggs.j3 k y0 y1 y2 y3 y4 y5) (spec_GoodAggs.j3 (k + 1) y0 y1 y2 y3 y4 y5))
 | 0 => ⟨fun _ _ _ r h => by simp [spec_GoodAggs.j0] at h, fun _ _ _ _ _ r h => by simp [spec_GoodAggs.l0] at h, fun _ _ _ _ _ _ _ _ _ _ _ _ _ _ r h => by simp [spec_GoodAggs.j2] at h, fun _ _ _ _ _ _ r h => by simp [spec_GoodAggs.j3] at h⟩
 | k + 1 => by
  obtain ⟨ih0, ih1, ih2, ih3⟩ := spec_GoodAggs.mono_l k
  refine ⟨?_, ?_, ?_, ?_⟩
  ·intro y0 y1 y2
   unfold spec_GoodAggs.j0
   repeat' first
   | (with_reducible exact ih0 _ _ _)
   | (with_reducible exact ih1 _ _ _ _ _)
   | (with_reducible exact ih2 _ _ _ _ _ _ _ _ _ _ _ _ _ _)
   | (with_reducible exact ih3 _ _ _ _ _ _)
   | (with_reducible exact LeO.refl _)
   | (with_reducible exact LeO.none _)
   | (with_reducible refine LeO.ite ?_ ?_)
   | (with_reducible refine LeO.bind ?_ (fun _ => ?_))
   | exact ih0 _ _ _
   | exact ih1 _ _ _ _ _
   | exact ih2 _ _ _ _ _ _ _ _ _ _ _ _ _ _
   | exact ih3 _ _ _ _ _ _
   | exact LeO.none _
   | refine LeO.ite ?_ ?_
   | refine LeO.bind ?_ (fun _ => ?_)
  ·intro y0 y1 y2 y3 y4
   unfold spec_GoodAggs.l0
   repeat' first
   | (with_reducible exact ih0 _ _ _)
   | (with_reducible exact ih1 _ _ _ _ _)
   | (with_reducible exact ih2 _ _ _ _ _ _ _ _ _ _ _ _ _ _)
   | (with_reducible exact ih3 _ _ _ _ _ _)
   | (with_reducible exact LeO.refl _)
   | (with_reducible exact LeO.none _)
   | (with_reducible refine LeO.ite ?_ ?_)
   | (with_reducible refine LeO.bind ?_ (fun _ => ?_))
   | exact ih0 _ _ _
   | exact ih1 _ _ _ _ _
   | exact ih2 _ _ _ _ _ _ _ _ _ _ _ _ _ _
   | exact ih3 _ _ _ _ _ _
   | exact LeO.none _
   | refine LeO.ite ?_ ?_
   | refine LeO.bind ?_ (fun _ => ?_)
  ·intro y0 y1 y2 y3 y4 y5 y6 y7 y8 y9 y10 y11 y12 y13
   unfold spec_GoodAggs.j2
   repeat' first
   | (with_reducible exact ih0 _ _ _)
   | (with_reducible exact ih1 _ _ _ _ _)
   | (with_reducible exact ih2 _ _ _ _ _ _ _ _ _ _ _ _ _ _)
   | (with_reducible exact ih3 _ _ _ _ _ _)
   | (with_reducible exact LeO.refl _)
   | (with_reducible exact LeO.none _)
   | (with_reducible refine LeO.ite ?_ ?_)
   | (with_reducible refine LeO.bind ?_ (fun _ => ?_))
   | exact ih0 _ _ _
   | exact ih1 _ _ _ _ _
   | exact ih2 _ _ _ _ _ _ _ _ _ _ _ _ _ _
   | exact ih3 _ _ _ _ _ _
   | exact LeO.none _
   | refine LeO.ite ?_ ?_
   | refine LeO.bind ?_ (fun _ => ?_)
  ·intro y0 y1 y2 y3 y4 y5
   unfold spec_GoodAggs.j3
   repeat' first
   | (with_reducible exact ih0 _ _ _)
   | (with_reducible exact ih1 _ _ _ _ _)
   | (with_reducible exact ih2 _ _ _ _ _ _ _ _ _ _ _ _ _ _)
   | (with_reducible exact ih3 _ _ _ _ _ _)
   | (with_reducible exact LeO.refl _)
   | (with_reducible exact LeO.none _)
   | (with_reducible refine LeO.ite ?_ ?_)
   | (with_reducible refine LeO.bind ?_ (fun _ => ?_))
   | exact ih0 _ _ _
   | exact ih1 _ _ _ _ _
   | exact ih2 _ _ _ _ _ _ _ _ _ _ _ _ _ _
   | exact ih3 _ _ _ _ _ _
   | exact LeO.none _
   | refine LeO.ite ?_ ?_
   | refine LeO.bind ?_ (fun _ => ?_)
theorem spec_GoodAggs.mono : ∀ a0 a1 k, LeO (spec_GoodAggs.f k a0 a1) (spec_GoodAggs.f (k + 1) a0 a1) := by
 intro a0 a1 k
 obtain ⟨ih0, ih1, ih2, ih3⟩ := spec_GoodAggs.mono_l k
 unfold spec_GoodAggs.f
 repeat' first
   | (with_reducible exact ih0 _ _ _)
   | (with_reducible exact ih1 _ _ _ _ _)
   | (with_reducible exact ih2 _ _ _ _ _ _ _ _ _ _ _ _ _ _)
   | (with_reducible exact ih3 _ _ _ _ _ _)
   | (with_reducible exact LeO.refl _)
   | (with_reducible exact LeO.none _)
   | (with_reducible refine LeO.ite ?_ ?_)
   | (with_reducible refine LeO.bind ?_ (fun _ => ?_))
   | exact ih0 _ _ _
   | exact ih1 _ _ _ _ _
   | exact ih2 _ _ _ _ _ _ _ _ _ _ _ _ _ _
   | exact ih3 _ _ _ _ _ _
   | exact LeO.none _
   | refine LeO.ite ?_ ?_
   | refine LeO.bind ?_ (fun _ => ?_)
set_option maxHeartbeats 8000000 in
set_option maxRecDepth 100000 in
theorem spec_GoodAggs.calls (k : Nat) (A0 : Option Addr) (c0 : Nat) (l0 : List (S24)) (a1 : Int) (r : Bool) (w : World) (hr0 : Kd.C k24 w A0 l0.length l0) (hc0 : l0.length ≤ c0) (h : spec_GoodAggs.f k l0 a1 = some r) :
  Calls Try.prog 13 #[.slice A0 l0.length c0, .int .i64 a1] w fun e w' => e = .returned (.bool r) ∧ Below w.heap.size w w' := by
 have hu24 := Try.underlying24
 have HR0 := Aside0.mk hr0
 have HC0 := Aside0.mk hc0
 clear hr0 hc0
 have HB := Aside0.mk (Below.refl w.heap.size w)
 have H : ((spec_l11Res.f a1).bind fun t128 => (if t128 = true then (spec_GoodAggs.j0 k l0 a1 (decide ((l0.length : Int) > 2000))) else (spec_GoodAggs.j0 k l0 a1 true))) = some r := h
 clear h
 have HC3 := Aside0.mk H
 clear H
 go_enter Try.func13, Try.ntmps13
 go_upto_region 1 with (fail)
 repeat (go_quiet (fail); go_upto_region 1 with (fail))
 go_cut [14] (fun v14 wc => ∃ (kq : Nat) (x14_2 : Bool), v14 = .bool x14_2 ∧ Aside0 (spec_GoodAggs.j0 kq l0 a1 x14_2 = some r) ∧ Aside0 (kq ≤ k) ∧ Aside0 (Below w.heap.size w wc))
 case first =>
  have H := HC3.out
  clear HC3
  replace H := Option.bind_eq_some_iff.mp H
  obtain ⟨t128, A40, H⟩ := H
  replace H : (if t128 = true then (spec_GoodAggs.j0 k l0 a1 (decide ((l0.length : Int) > 2000))) else (spec_GoodAggs.j0 k l0 a1 true)) = some r := H
  have A4 := Aside0.mk A40
  clear A40
  by_cases c5 : t128 = true
  ·subst c5
   have H1 : (spec_GoodAggs.j0 k l0 a1 (decide ((l0.length : Int) > 2000))) = some r := by rw [if_pos rfl] at H; exact H
   clear H
   have H := H1
   clear H1
   have H' := Aside0.mk H
   clear H
   go_wp2_with (first | (go_at_call 41; (with_reducible refine (spec_l11Res.calls a1 true _ A4.out).mono ?_); rintro e w' ⟨rfl, ⟨nd, rfl⟩⟩; (try first | exact ⟨rfl, _, World.drewN_drewN _ _ _⟩ | exact ⟨rfl, _, Eq.trans (World.drewN_drewN _ _ _) (congrArg (World.drewN _) (Nat.add_assoc _ _ _))⟩)))
   repeat (go_quiet (first | (go_at_call 41; (with_reducible refine (spec_l11Res.calls a1 true _ A4.out).mono ?_); rintro e w' ⟨rfl, ⟨nd, rfl⟩⟩; (try first | exact ⟨rfl, _, World.drewN_drewN _ _ _⟩ | exact ⟨rfl, _, Eq.trans (World.drewN_drewN _ _ _) (congrArg (World.drewN _) (Nat.add_assoc _ _ _))⟩))); try go_wp2_with (first | (go_at_call 41; (with_reducible refine (spec_l11Res.calls a1 true _ A4.out).mono ?_); rintro e w' ⟨rfl, ⟨nd, rfl⟩⟩; (try first | exact ⟨rfl, _, World.drewN_drewN _ _ _⟩ | exact ⟨rfl, _, Eq.trans (World.drewN_drewN _ _ _) (congrArg (World.drewN _) (Nat.add_assoc _ _ _))⟩))))
   go_meet
   case rel => exact ⟨_, (decide ((l0.length : Int) > 2000)), (by first | rfl | (simp; done) | (simp [*]; done)), H', ⟨by first | omega | exact Nat.le_refl _⟩, ⟨by repeat (first | (with_reducible first | exact HB.out | apply zA | apply zB | apply zC) | exact HB.out)⟩⟩
  ·replace c5 := Bool.eq_false_iff.mpr c5
   subst c5
   have H1 : (spec_GoodAggs.j0 k l0 a1 true) = some r := by rw [if_neg (show ¬ (false = true) by decide)] at H; exact H
   clear H
   have H := H1
   clear H1
   have H' := Aside0.mk H
   clear H
   go_wp2_with (first | (go_at_call 41; (with_reducible refine (spec_l11Res.calls a1 false _ A4.out).mono ?_); rintro e w' ⟨rfl, ⟨nd, rfl⟩⟩; (try first | exact ⟨rfl, _, World.drewN_drewN _ _ _⟩ | exact ⟨rfl, _, Eq.trans (World.drewN_drewN _ _ _) (congrArg (World.drewN _) (Nat.add_assoc _ _ _))⟩)))
   repeat (go_quiet (first | (go_at_call 41; (with_reducible refine (spec_l11Res.calls a1 false _ A4.out).mono ?_); rintro e w' ⟨rfl, ⟨nd, rfl⟩⟩; (try first | exact ⟨rfl, _, World.drewN_drewN _ _ _⟩ | exact ⟨rfl, _, Eq.trans (World.drewN_drewN _ _ _) (congrArg (World.drewN _) (Nat.add_assoc _ _ _))⟩))); try go_wp2_with (first | (go_at_call 41; (with_reducible refine (spec_l11Res.calls a1 false _ A4.out).mono ?_); rintro e w' ⟨rfl, ⟨nd, rfl⟩⟩; (try first | exact ⟨rfl, _, World.drewN_drewN _ _ _⟩ | exact ⟨rfl, _, Eq.trans (World.drewN_drewN _ _ _) (congrArg (World.drewN _) (Nat.add_assoc _ _ _))⟩))))
   go_meet
   case rel => exact ⟨_, (true), (by first | rfl | (simp; done) | (simp [*]; done)), H', ⟨by first | omega | exact Nat.le_refl _⟩, ⟨by repeat (first | (with_reducible first | exact HB.out | apply zA | apply zB | apply zC) | exact HB.out)⟩⟩
 case rest =>
  clear HC3
  try clear c1
  try clear p2
  try clear c5
  obtain ⟨kq, x14_2, rfl, HA, HJ2, HB⟩ := hcut
  cases kq with
  | zero => exact absurd HA.out (by simp [spec_GoodAggs.j0])
  | succ kj2 =>
   have H := HA.out
   clear HA
   simp only [spec_GoodAggs.j0] at H
   by_cases c6 : x14_2 = true
   ·subst c6
    have H1 : (some false) = some r := by rw [if_pos rfl] at H; exact H
    clear H
    have H := H1
    clear H1
    obtain rfl := Option.some.inj H
    go_wp2
    repeat (go_quiet (fail); try go_wp2)
    go_ret
    exact ⟨by first | rfl | (simp [errW_none, errW_some] <;> rfl) | (simp [*, errW_none, errW_some] <;> rfl), by repeat (first | (with_reducible first | exact HB.out | apply zA | apply zB | apply zC) | exact HB.out)⟩
   ·replace c6 := Bool.eq_false_iff.mpr c6
    subst c6
    have H1 : (spec_GoodAggs.l0 kj2 l0 a1 l0 (l0.length : Int) 0) = some r := by rw [if_neg (show ¬ (false = true) by decide)] at H; exact H
    clear H
    have H := H1
    clear H1
    have H' := Aside0.mk H
    clear H
    go_wp2
    repeat (go_quiet (fail); try go_wp2)
    go_loopg [17] kj2 (fun kq v17 w' => ∃ (x17_2 : Int), v17 = .int .i64 x17_2 ∧ Aside0 (spec_GoodAggs.l0 kq l0 a1 l0 (l0.length : Int) x17_2 = some r) ∧ Aside0 (kq ≤ kj2) ∧ Aside0 (Below w.heap.size w w'))
    case atStart => exact ⟨(0), (by first | rfl | (simp; done) | (simp [*]; done)), H', ⟨Nat.le_refl _⟩, ⟨by repeat (first | (with_reducible first | exact HB.out | apply zA | apply zB | apply zC) | exact HB.out)⟩⟩
    case round =>
     clear H'
     try clear c1
     try clear p2
     try clear c5
     try clear c6
     try clear p2
     obtain ⟨x17_2, rfl, HA, HK2, HB⟩ := hrel
     cases gk with
     | zero => exact absurd HA.out (by simp [spec_GoodAggs.l0])
     | succ k2 =>
      have H := HA.out
      clear HA
      simp only [spec_GoodAggs.l0] at H
      by_cases c7 : x17_2 < (l0.length : Int)
      ·rw [if_pos c7] at H
       have c7b0 : decide (x17_2 < (l0.length : Int)) = true := decide_eq_true c7
       clear c7
       by_cases c8 : 0 ≤ x17_2
       ·rw [if_pos c8] at H
        have c8b0 : decide (0 ≤ x17_2) = true := decide_eq_true c8
        clear c8
        by_cases c9 : x17_2 < (l0.length : Int)
        ·rw [if_pos c9] at H
         have c9b0 : decide (x17_2 < (l0.length : Int)) = true := decide_eq_true c9
         clear c9
         have HC10 := Aside0.mk H
         clear H
         have p129 : 0 ≤ (x17_2 : Int) := zX (by first | (with_reducible assumption) | assumption)
         have q129 : x17_2 < (l0.length : Int) := zX (by first | (with_reducible assumption) | assumption)
         obtain ⟨ad129, e129, hx129_0, hx129_1, hx129_2, hx129_3, hx129_4, hx129_5, hx129_6, hx129_7⟩ := at_T24 HR0.out x17_2 p129 q129
         cases e129
         replace hx129_0 := (HB.out.cell (zR w _ hx129_0)).trans hx129_0
         replace hx129_1 := (HB.out.cell (zR w _ hx129_1)).trans hx129_1
         replace hx129_2 := (HB.out.cell (zR w _ hx129_2)).trans hx129_2
         replace hx129_3 := (HB.out.cell (zR w _ hx129_3)).trans hx129_3
         replace hx129_4 := (HB.out.cell (zR w _ hx129_4)).trans hx129_4
         replace hx129_5 := (HB.out.cell (zR w _ hx129_5)).trans hx129_5
         replace hx129_6 := (HB.out.cell (zR w _ hx129_6)).trans hx129_6
         replace hx129_7 := (HB.out.cell (zR w _ hx129_7)).trans hx129_7
         replace p129 := eq_true p129
         replace q129 := eq_true q129
         go_upto_region 6 with (first | ((with_reducible refine gate_dst (N := 6) rfl ?_); (try (refine gate_guard (by rfl) ?_; dsimp only)); refine box_event ?hg (N := 6) ?hd (cs := #[.int .i64 0, .int .i64 0, .int .i64 0, .int .i64 0, .int .i64 0, .int .i64 0, .int .i64 0, .int .i64 0]) (t := 24) ?hr ?_; (case hd => rfl); (case hg => rfl); (case hr => first | (go_simp; done) | (go_simp; rfl)); intro gb130 hg w11 hbox hb; have n0_ := Aside0.mk (below_step (by repeat (first | (with_reducible first | exact HB.out | apply zA | apply zB | apply zC) | exact HB.out)) hb); have n1_ := Aside0.mk (hbox); have n2_ := Aside0.mk ((by rw [hg]; exact (zW (by repeat (first | (with_reducible first | exact HB.out | apply zA | apply zB | apply zC) | exact HB.out))) : w.heap.size ≤ gb130)); have n3_ := Aside0.mk ((by rw [hg]; exact (zW (by repeat (first | (with_reducible first | exact HB.out | apply zA | apply zB | apply zC) | exact HB.out))) : w.heap.size ≤ gb130)); clear HB; have HB := n0_; have BK130 := n1_; have GW130 := n2_; have GE130 := n3_; clear n0_ n1_ n2_ n3_; clear hb hbox hg; have hcz12_0 : w11.cell? ⟨gb130, 0, none⟩ = some (.int .i64 0) := (zQ BK130.out 0).trans rfl; have hcz12_1 : w11.cell? ⟨gb130, 1, none⟩ = some (.int .i64 0) := (zQ BK130.out 1).trans rfl; have hcz12_2 : w11.cell? ⟨gb130, 2, none⟩ = some (.int .i64 0) := (zQ BK130.out 2).trans rfl; have hcz12_3 : w11.cell? ⟨gb130, 3, none⟩ = some (.int .i64 0) := (zQ BK130.out 3).trans rfl; have hcz12_4 : w11.cell? ⟨gb130, 4, none⟩ = some (.int .i64 0) := (zQ BK130.out 4).trans rfl; have hcz12_5 : w11.cell? ⟨gb130, 5, none⟩ = some (.int .i64 0) := (zQ BK130.out 5).trans rfl; have hcz12_6 : w11.cell? ⟨gb130, 6, none⟩ = some (.int .i64 0) := (zQ BK130.out 6).trans rfl; have hcz12_7 : w11.cell? ⟨gb130, 7, none⟩ = some (.int .i64 0) := (zQ BK130.out 7).trans rfl; have hfz12_0 := blk_frozen BK130.out 0; have hfz12_1 := blk_frozen BK130.out 1; have hfz12_2 := blk_frozen BK130.out 2; have hfz12_3 := blk_frozen BK130.out 3; have hfz12_4 := blk_frozen BK130.out 4; have hfz12_5 := blk_frozen BK130.out 5; have hfz12_6 := blk_frozen BK130.out 6; have hfz12_7 := blk_frozen BK130.out 7))
         repeat (go_quiet (first | ((with_reducible refine gate_dst (N := 6) rfl ?_); (try (refine gate_guard (by rfl) ?_; dsimp only)); refine box_event ?hg (N := 6) ?hd (cs := #[.int .i64 0, .int .i64 0, .int .i64 0, .int .i64 0, .int .i64 0, .int .i64 0, .int .i64 0, .int .i64 0]) (t := 24) ?hr ?_; (case hd => rfl); (case hg => rfl); (case hr => first | (go_simp; done) | (go_simp; rfl)); intro gb130 hg w11 hbox hb; have n0_ := Aside0.mk (below_step (by repeat (first | (with_reducible first | exact HB.out | apply zA | apply zB | apply zC) | exact HB.out)) hb); have n1_ := Aside0.mk (hbox); have n2_ := Aside0.mk ((by rw [hg]; exact (zW (by repeat (first | (with_reducible first | exact HB.out | apply zA | apply zB | apply zC) | exact HB.out))) : w.heap.size ≤ gb130)); have n3_ := Aside0.mk ((by rw [hg]; exact (zW (by repeat (first | (with_reducible first | exact HB.out | apply zA | apply zB | apply zC) | exact HB.out))) : w.heap.size ≤ gb130)); clear HB; have HB := n0_; have BK130 := n1_; have GW130 := n2_; have GE130 := n3_; clear n0_ n1_ n2_ n3_; clear hb hbox hg; have hcz12_0 : w11.cell? ⟨gb130, 0, none⟩ = some (.int .i64 0) := (zQ BK130.out 0).trans rfl; have hcz12_1 : w11.cell? ⟨gb130, 1, none⟩ = some (.int .i64 0) := (zQ BK130.out 1).trans rfl; have hcz12_2 : w11.cell? ⟨gb130, 2, none⟩ = some (.int .i64 0) := (zQ BK130.out 2).trans rfl; have hcz12_3 : w11.cell? ⟨gb130, 3, none⟩ = some (.int .i64 0) := (zQ BK130.out 3).trans rfl; have hcz12_4 : w11.cell? ⟨gb130, 4, none⟩ = some (.int .i64 0) := (zQ BK130.out 4).trans rfl; have hcz12_5 : w11.cell? ⟨gb130, 5, none⟩ = some (.int .i64 0) := (zQ BK130.out 5).trans rfl; have hcz12_6 : w11.cell? ⟨gb130, 6, none⟩ = some (.int .i64 0) := (zQ BK130.out 6).trans rfl; have hcz12_7 : w11.cell? ⟨gb130, 7, none⟩ = some (.int .i64 0) := (zQ BK130.out 7).trans rfl; have hfz12_0 := blk_frozen BK130.out 0; have hfz12_1 := blk_frozen BK130.out 1; have hfz12_2 := blk_frozen BK130.out 2; have hfz12_3 := blk_frozen BK130.out 3; have hfz12_4 := blk_frozen BK130.out 4; have hfz12_5 := blk_frozen BK130.out 5; have hfz12_6 := blk_frozen BK130.out 6; have hfz12_7 := blk_frozen BK130.out 7)); go_upto_region 6 with (first | ((with_reducible refine gate_dst (N := 6) rfl ?_); (try (refine gate_guard (by rfl) ?_; dsimp only)); refine box_event ?hg (N := 6) ?hd (cs := #[.int .i64 0, .int .i64 0, .int .i64 0, .int .i64 0, .int .i64 0, .int .i64 0, .int .i64 0, .int .i64 0]) (t := 24) ?hr ?_; (case hd => rfl); (case hg => rfl); (case hr => first | (go_simp; done) | (go_simp; rfl)); intro gb130 hg w11 hbox hb; have n0_ := Aside0.mk (below_step (by repeat (first | (with_reducible first | exact HB.out | apply zA | apply zB | apply zC) | exact HB.out)) hb); have n1_ := Aside0.mk (hbox); have n2_ := Aside0.mk ((by rw [hg]; exact (zW (by repeat (first | (with_reducible first | exact HB.out | apply zA | apply zB | apply zC) | exact HB.out))) : w.heap.size ≤ gb130)); have n3_ := Aside0.mk ((by rw [hg]; exact (zW (by repeat (first | (with_reducible first | exact HB.out | apply zA | apply zB | apply zC) | exact HB.out))) : w.heap.size ≤ gb130)); clear HB; have HB := n0_; have BK130 := n1_; have GW130 := n2_; have GE130 := n3_; clear n0_ n1_ n2_ n3_; clear hb hbox hg; have hcz12_0 : w11.cell? ⟨gb130, 0, none⟩ = some (.int .i64 0) := (zQ BK130.out 0).trans rfl; have hcz12_1 : w11.cell? ⟨gb130, 1, none⟩ = some (.int .i64 0) := (zQ BK130.out 1).trans rfl; have hcz12_2 : w11.cell? ⟨gb130, 2, none⟩ = some (.int .i64 0) := (zQ BK130.out 2).trans rfl; have hcz12_3 : w11.cell? ⟨gb130, 3, none⟩ = some (.int .i64 0) := (zQ BK130.out 3).trans rfl; have hcz12_4 : w11.cell? ⟨gb130, 4, none⟩ = some (.int .i64 0) := (zQ BK130.out 4).trans rfl; have hcz12_5 : w11.cell? ⟨gb130, 5, none⟩ = some (.int .i64 0) := (zQ BK130.out 5).trans rfl; have hcz12_6 : w11.cell? ⟨gb130, 6, none⟩ = some (.int .i64 0) := (zQ BK130.out 6).trans rfl; have hcz12_7 : w11.cell? ⟨gb130, 7, none⟩ = some (.int .i64 0) := (zQ BK130.out 7).trans rfl; have hfz12_0 := blk_frozen BK130.out 0; have hfz12_1 := blk_frozen BK130.out 1; have hfz12_2 := blk_frozen BK130.out 2; have hfz12_3 := blk_frozen BK130.out 3; have hfz12_4 := blk_frozen BK130.out 4; have hfz12_5 := blk_frozen BK130.out 5; have hfz12_6 := blk_frozen BK130.out 6; have hfz12_7 := blk_frozen BK130.out 7)))
         (try simp only [Act.put, zT, zU, zV])
         go_cut [61] (fun v61 wc => ∃ (kq : Nat) (x61_9 : Bool), v61 = .bool x61_9 ∧ Aside0 (spec_GoodAggs.j2 kq l0 a1 l0 (l0.length : Int) x17_2 x61_9 ((rd_T24 l0 x17_2).f0) ((rd_T24 l0 x17_2).f1) ((rd_T24 l0 x17_2).f2) ((rd_T24 l0 x17_2).f3) ((rd_T24 l0 x17_2).f4) ((rd_T24 l0 x17_2).f5) ((rd_T24 l0 x17_2).f6) ((rd_T24 l0 x17_2).f7) = some r) ∧ Aside0 (kq ≤ k2) ∧ Aside0 (wc.heap[gb130]? = some (.cells #[.int .i64 ((rd_T24 l0 x17_2).f0), .int .i64 ((rd_T24 l0 x17_2).f1), .int .i64 ((rd_T24 l0 x17_2).f2), .int .i64 ((rd_T24 l0 x17_2).f3), .int .i64 ((rd_T24 l0 x17_2).f4), .int .i64 ((rd_T24 l0 x17_2).f5), .int .i64 ((rd_T24 l0 x17_2).f6), .int .i64 ((rd_T24 l0 x17_2).f7)] 24 (0, 0))) ∧ Aside0 (Below w.heap.size w wc))
         case first =>
          have H := HC10.out
          clear HC10
          by_cases c13 : a1 = 0
          ·rw [if_pos c13] at H
           exact absurd H (by simp)
          ·rw [if_neg c13] at H
           have c13b0 : (a1 == 0) = false := beq_eq_false_iff_ne.mpr c13
           have c13b1 : (a1 != 0) = true := bne_iff_ne.mpr c13
           (first | rw [c13b0] | (simp only [i64_w, i32_w]; rw [c13b0]) | skip)
           by_cases c14 : (Int.tmod ((rd_T24 l0 x17_2).f0) a1) = 0
           ·rw [if_pos c14] at H
            have c14b0 : ((Int.tmod ((rd_T24 l0 x17_2).f0) a1) == 0) = true := beq_iff_eq.mpr c14
            have c14b1 : ((Int.tmod ((rd_T24 l0 x17_2).f0) a1) != 0) = false := bne_eq_false_iff_eq.mpr c14
            clear c14
            by_cases c15 : ((rd_T24 l0 x17_2).f0) < 0
            ·rw [if_pos c15] at H
             have c15b0 : decide (((rd_T24 l0 x17_2).f0) < 0) = true := decide_eq_true c15
             clear c15
             have H' := Aside0.mk H
             clear H
             have hcz16_0 : w11.cell? ⟨gb130, 0, none⟩ = some (.int .i64 0) := (zQ BK130.out 0).trans rfl
             have hcz16_1 : w11.cell? ⟨gb130, 1, none⟩ = some (.int .i64 0) := (zQ BK130.out 1).trans rfl
             have hcz16_2 : w11.cell? ⟨gb130, 2, none⟩ = some (.int .i64 0) := (zQ BK130.out 2).trans rfl
             have hcz16_3 : w11.cell? ⟨gb130, 3, none⟩ = some (.int .i64 0) := (zQ BK130.out 3).trans rfl
             have hcz16_4 : w11.cell? ⟨gb130, 4, none⟩ = some (.int .i64 0) := (zQ BK130.out 4).trans rfl
             have hcz16_5 : w11.cell? ⟨gb130, 5, none⟩ = some (.int .i64 0) := (zQ BK130.out 5).trans rfl
             have hcz16_6 : w11.cell? ⟨gb130, 6, none⟩ = some (.int .i64 0) := (zQ BK130.out 6).trans rfl
             have hcz16_7 : w11.cell? ⟨gb130, 7, none⟩ = some (.int .i64 0) := (zQ BK130.out 7).trans rfl
             have hfz16_0 := blk_frozen BK130.out 0
             have hfz16_1 := blk_frozen BK130.out 1
             have hfz16_2 := blk_frozen BK130.out 2
             have hfz16_3 := blk_frozen BK130.out 3
             have hfz16_4 := blk_frozen BK130.out 4
             have hfz16_5 := blk_frozen BK130.out 5
             have hfz16_6 := blk_frozen BK130.out 6
             have hfz16_7 := blk_frozen BK130.out 7
             go_wp2
             repeat (go_quiet (fail); try go_wp2)
             go_meet
             case rel => exact ⟨_, (true), (by first | rfl | (simp; done) | (simp [*]; done)), H', ⟨by have := HJ2.out; have := HK2.out; first | omega | exact Nat.le_refl _⟩, ⟨by (with_reducible repeat (first | refine zE ?_ _ | refine zF ?_ | refine zD ?_ _)); refine blk_put (cs := #[.int .i64 ((rd_T24 l0 x17_2).f0), .int .i64 ((rd_T24 l0 x17_2).f1), .int .i64 ((rd_T24 l0 x17_2).f2), .int .i64 ((rd_T24 l0 x17_2).f3), .int .i64 ((rd_T24 l0 x17_2).f4), .int .i64 ((rd_T24 l0 x17_2).f5), .int .i64 ((rd_T24 l0 x17_2).f6), .int .i64 0]) ?_ 7 _ rfl; (with_reducible repeat (first | refine zE ?_ _ | refine zF ?_ | refine zD ?_ _)); refine blk_put (cs := #[.int .i64 ((rd_T24 l0 x17_2).f0), .int .i64 ((rd_T24 l0 x17_2).f1), .int .i64 ((rd_T24 l0 x17_2).f2), .int .i64 ((rd_T24 l0 x17_2).f3), .int .i64 ((rd_T24 l0 x17_2).f4), .int .i64 ((rd_T24 l0 x17_2).f5), .int .i64 0, .int .i64 0]) ?_ 6 _ rfl; (with_reducible repeat (first | refine zE ?_ _ | refine zF ?_ | refine zD ?_ _)); refine blk_put (cs := #[.int .i64 ((rd_T24 l0 x17_2).f0), .int .i64 ((rd_T24 l0 x17_2).f1), .int .i64 ((rd_T24 l0 x17_2).f2), .int .i64 ((rd_T24 l0 x17_2).f3), .int .i64 ((rd_T24 l0 x17_2).f4), .int .i64 0, .int .i64 0, .int .i64 0]) ?_ 5 _ rfl; (with_reducible repeat (first | refine zE ?_ _ | refine zF ?_ | refine zD ?_ _)); refine blk_put (cs := #[.int .i64 ((rd_T24 l0 x17_2).f0), .int .i64 ((rd_T24 l0 x17_2).f1), .int .i64 ((rd_T24 l0 x17_2).f2), .int .i64 ((rd_T24 l0 x17_2).f3), .int .i64 0, .int .i64 0, .int .i64 0, .int .i64 0]) ?_ 4 _ rfl; (with_reducible repeat (first | refine zE ?_ _ | refine zF ?_ | refine zD ?_ _)); refine blk_put (cs := #[.int .i64 ((rd_T24 l0 x17_2).f0), .int .i64 ((rd_T24 l0 x17_2).f1), .int .i64 ((rd_T24 l0 x17_2).f2), .int .i64 0, .int .i64 0, .int .i64 0, .int .i64 0, .int .i64 0]) ?_ 3 _ rfl; (with_reducible repeat (first | refine zE ?_ _ | refine zF ?_ | refine zD ?_ _)); refine blk_put (cs := #[.int .i64 ((rd_T24 l0 x17_2).f0), .int .i64 ((rd_T24 l0 x17_2).f1), .int .i64 0, .int .i64 0, .int .i64 0, .int .i64 0, .int .i64 0, .int .i64 0]) ?_ 2 _ rfl; (with_reducible repeat (first | refine zE ?_ _ | refine zF ?_ | refine zD ?_ _)); refine blk_put (cs := #[.int .i64 ((rd_T24 l0 x17_2).f0), .int .i64 0, .int .i64 0, .int .i64 0, .int .i64 0, .int .i64 0, .int .i64 0, .int .i64 0]) ?_ 1 _ rfl; (with_reducible repeat (first | refine zE ?_ _ | refine zF ?_ | refine zD ?_ _)); refine blk_put (cs := #[.int .i64 0, .int .i64 0, .int .i64 0, .int .i64 0, .int .i64 0, .int .i64 0, .int .i64 0, .int .i64 0]) ?_ 0 _ rfl; (with_reducible repeat (first | refine zE ?_ _ | refine zF ?_ | refine zD ?_ _)); exact BK130.out⟩, ⟨by repeat (first | (with_reducible first | exact HB.out | apply zA | apply zB | apply zC | refine below_set ?_ GE130.out) | exact HB.out)⟩⟩
            ·rw [if_neg c15] at H
             have c15b0 : decide (((rd_T24 l0 x17_2).f0) < 0) = false := decide_eq_false c15
             clear c15
             by_cases c17 : ((rd_T24 l0 x17_2).f0) > 1000001000000
             ·rw [if_pos c17] at H
              have c17b0 : decide (1000001000000 < ((rd_T24 l0 x17_2).f0)) = true := decide_eq_true c17
              clear c17
              have H' := Aside0.mk H
              clear H
              have hcz18_0 : w11.cell? ⟨gb130, 0, none⟩ = some (.int .i64 0) := (zQ BK130.out 0).trans rfl
              have hcz18_1 : w11.cell? ⟨gb130, 1, none⟩ = some (.int .i64 0) := (zQ BK130.out 1).trans rfl
              have hcz18_2 : w11.cell? ⟨gb130, 2, none⟩ = some (.int .i64 0) := (zQ BK130.out 2).trans rfl
              have hcz18_3 : w11.cell? ⟨gb130, 3, none⟩ = some (.int .i64 0) := (zQ BK130.out 3).trans rfl
              have hcz18_4 : w11.cell? ⟨gb130, 4, none⟩ = some (.int .i64 0) := (zQ BK130.out 4).trans rfl
              have hcz18_5 : w11.cell? ⟨gb130, 5, none⟩ = some (.int .i64 0) := (zQ BK130.out 5).trans rfl
              have hcz18_6 : w11.cell? ⟨gb130, 6, none⟩ = some (.int .i64 0) := (zQ BK130.out 6).trans rfl
              have hcz18_7 : w11.cell? ⟨gb130, 7, none⟩ = some (.int .i64 0) := (zQ BK130.out 7).trans rfl
              have hfz18_0 := blk_frozen BK130.out 0
              have hfz18_1 := blk_frozen BK130.out 1
              have hfz18_2 := blk_frozen BK130.out 2
              have hfz18_3 := blk_frozen BK130.out 3
              have hfz18_4 := blk_frozen BK130.out 4
              have hfz18_5 := blk_frozen BK130.out 5
              have hfz18_6 := blk_frozen BK130.out 6
              have hfz18_7 := blk_frozen BK130.out 7
              go_wp2
              repeat (go_quiet (fail); try go_wp2)
              go_meet
              case rel => exact ⟨_, (true), (by first | rfl | (simp; done) | (simp [*]; done)), H', ⟨by have := HJ2.out; have := HK2.out; first | omega | exact Nat.le_refl _⟩, ⟨by (with_reducible repeat (first | refine zE ?_ _ | refine zF ?_ | refine zD ?_ _)); refine blk_put (cs := #[.int .i64 ((rd_T24 l0 x17_2).f0), .int .i64 ((rd_T24 l0 x17_2).f1), .int .i64 ((rd_T24 l0 x17_2).f2), .int .i64 ((rd_T24 l0 x17_2).f3), .int .i64 ((rd_T24 l0 x17_2).f4), .int .i64 ((rd_T24 l0 x17_2).f5), .int .i64 ((rd_T24 l0 x17_2).f6), .int .i64 0]) ?_ 7 _ rfl; (with_reducible repeat (first | refine zE ?_ _ | refine zF ?_ | refine zD ?_ _)); refine blk_put (cs := #[.int .i64 ((rd_T24 l0 x17_2).f0), .int .i64 ((rd_T24 l0 x17_2).f1), .int .i64 ((rd_T24 l0 x17_2).f2), .int .i64 ((rd_T24 l0 x17_2).f3), .int .i64 ((rd_T24 l0 x17_2).f4), .int .i64 ((rd_T24 l0 x17_2).f5), .int .i64 0, .int .i64 0]) ?_ 6 _ rfl; (with_reducible repeat (first | refine zE ?_ _ | refine zF ?_ | refine zD ?_ _)); refine blk_put (cs := #[.int .i64 ((rd_T24 l0 x17_2).f0), .int .i64 ((rd_T24 l0 x17_2).f1), .int .i64 ((rd_T24 l0 x17_2).f2), .int .i64 ((rd_T24 l0 x17_2).f3), .int .i64 ((rd_T24 l0 x17_2).f4), .int .i64 0, .int .i64 0, .int .i64 0]) ?_ 5 _ rfl; (with_reducible repeat (first | refine zE ?_ _ | refine zF ?_ | refine zD ?_ _)); refine blk_put (cs := #[.int .i64 ((rd_T24 l0 x17_2).f0), .int .i64 ((rd_T24 l0 x17_2).f1), .int .i64 ((rd_T24 l0 x17_2).f2), .int .i64 ((rd_T24 l0 x17_2).f3), .int .i64 0, .int .i64 0, .int .i64 0, .int .i64 0]) ?_ 4 _ rfl; (with_reducible repeat (first | refine zE ?_ _ | refine zF ?_ | refine zD ?_ _)); refine blk_put (cs := #[.int .i64 ((rd_T24 l0 x17_2).f0), .int .i64 ((rd_T24 l0 x17_2).f1), .int .i64 ((rd_T24 l0 x17_2).f2), .int .i64 0, .int .i64 0, .int .i64 0, .int .i64 0, .int .i64 0]) ?_ 3 _ rfl; (with_reducible repeat (first | refine zE ?_ _ | refine zF ?_ | refine zD ?_ _)); refine blk_put (cs := #[.int .i64 ((rd_T24 l0 x17_2).f0), .int .i64 ((rd_T24 l0 x17_2).f1), .int .i64 0, .int .i64 0, .int .i64 0, .int .i64 0, .int .i64 0, .int .i64 0]) ?_ 2 _ rfl; (with_reducible repeat (first | refine zE ?_ _ | refine zF ?_ | refine zD ?_ _)); refine blk_put (cs := #[.int .i64 ((rd_T24 l0 x17_2).f0), .int .i64 0, .int .i64 0, .int .i64 0, .int .i64 0, .int .i64 0, .int .i64 0, .int .i64 0]) ?_ 1 _ rfl; (with_reducible repeat (first | refine zE ?_ _ | refine zF ?_ | refine zD ?_ _)); refine blk_put (cs := #[.int .i64 0, .int .i64 0, .int .i64 0, .int .i64 0, .int .i64 0, .int .i64 0, .int .i64 0, .int .i64 0]) ?_ 0 _ rfl; (with_reducible repeat (first | refine zE ?_ _ | refine zF ?_ | refine zD ?_ _)); exact BK130.out⟩, ⟨by repeat (first | (with_reducible first | exact HB.out | apply zA | apply zB | apply zC | refine below_set ?_ GE130.out) | exact HB.out)⟩⟩
             ·rw [if_neg c17] at H
              have c17b0 : decide (1000001000000 < ((rd_T24 l0 x17_2).f0)) = false := decide_eq_false c17
              clear c17
              by_cases c19 : x17_2 > 0
              ·rw [if_pos c19] at H
               have c19b0 : decide (0 < x17_2) = true := decide_eq_true c19
               clear c19
               obtain ⟨ji20, hji20⟩ : ∃ j_ : Int, (wrap64 (x17_2 - 1)) = j_ := ⟨_, rfl⟩
               replace H : (if 0 ≤ (ji20) then (if (ji20) < (l0.length : Int) then (if ((rd_T24 l0 (ji20)).f0) ≥ ((rd_T24 l0 x17_2).f0) then (spec_GoodAggs.j2 k2 l0 a1 l0 (l0.length : Int) x17_2 true ((rd_T24 l0 x17_2).f0) ((rd_T24 l0 x17_2).f1) ((rd_T24 l0 x17_2).f2) ((rd_T24 l0 x17_2).f3) ((rd_T24 l0 x17_2).f4) ((rd_T24 l0 x17_2).f5) ((rd_T24 l0 x17_2).f6) ((rd_T24 l0 x17_2).f7)) else (if ((rd_T24 l0 x17_2).f1) < 1 then (spec_GoodAggs.j2 k2 l0 a1 l0 (l0.length : Int) x17_2 true ((rd_T24 l0 x17_2).f0) ((rd_T24 l0 x17_2).f1) ((rd_T24 l0 x17_2).f2) ((rd_T24 l0 x17_2).f3) ((rd_T24 l0 x17_2).f4) ((rd_T24 l0 x17_2).f5) ((rd_T24 l0 x17_2).f6) ((rd_T24 l0 x17_2).f7)) else (spec_GoodAggs.j2 k2 l0 a1 l0 (l0.length : Int) x17_2 (decide (((rd_T24 l0 x17_2).f1) > 2000)) ((rd_T24 l0 x17_2).f0) ((rd_T24 l0 x17_2).f1) ((rd_T24 l0 x17_2).f2) ((rd_T24 l0 x17_2).f3) ((rd_T24 l0 x17_2).f4) ((rd_T24 l0 x17_2).f5) ((rd_T24 l0 x17_2).f6) ((rd_T24 l0 x17_2).f7)))) else (none)) else (none)) = some r := by first | (rw [hji20] at H; exact H) | (simp only [hji20] at H ⊢; exact H)
               have hji20w : (IntKind.i64.wrap (x17_2 - 1)) = ji20 := (i64_w _).trans hji20
               by_cases c21 : 0 ≤ (ji20)
               ·rw [if_pos c21] at H
                have c21b0 : decide (0 ≤ (ji20)) = true := decide_eq_true c21
                clear c21
                by_cases c22 : (ji20) < (l0.length : Int)
                ·rw [if_pos c22] at H
                 have c22b0 : decide ((ji20) < (l0.length : Int)) = true := decide_eq_true c22
                 clear c22
                 by_cases c23 : ((rd_T24 l0 (ji20)).f0) ≥ ((rd_T24 l0 x17_2).f0)
                 ·rw [if_pos c23] at H
                  have c23b0 : decide (((rd_T24 l0 x17_2).f0) ≤ ((rd_T24 l0 (ji20)).f0)) = true := decide_eq_true c23
                  clear c23
                  have H' := Aside0.mk H
                  clear H
                  have hcz24_0 : w11.cell? ⟨gb130, 0, none⟩ = some (.int .i64 0) := (zQ BK130.out 0).trans rfl
                  have hcz24_1 : w11.cell? ⟨gb130, 1, none⟩ = some (.int .i64 0) := (zQ BK130.out 1).trans rfl
                  have hcz24_2 : w11.cell? ⟨gb130, 2, none⟩ = some (.int .i64 0) := (zQ BK130.out 2).trans rfl
                  have hcz24_3 : w11.cell? ⟨gb130, 3, none⟩ = some (.int .i64 0) := (zQ BK130.out 3).trans rfl
                  have hcz24_4 : w11.cell? ⟨gb130, 4, none⟩ = some (.int .i64 0) := (zQ BK130.out 4).trans rfl
                  have hcz24_5 : w11.cell? ⟨gb130, 5, none⟩ = some (.int .i64 0) := (zQ BK130.out 5).trans rfl
                  have hcz24_6 : w11.cell? ⟨gb130, 6, none⟩ = some (.int .i64 0) := (zQ BK130.out 6).trans rfl
                  have hcz24_7 : w11.cell? ⟨gb130, 7, none⟩ = some (.int .i64 0) := (zQ BK130.out 7).trans rfl
                  have hfz24_0 := blk_frozen BK130.out 0
                  have hfz24_1 := blk_frozen BK130.out 1
                  have hfz24_2 := blk_frozen BK130.out 2
                  have hfz24_3 := blk_frozen BK130.out 3
                  have hfz24_4 := blk_frozen BK130.out 4
                  have hfz24_5 := blk_frozen BK130.out 5
                  have hfz24_6 := blk_frozen BK130.out 6
                  have hfz24_7 := blk_frozen BK130.out 7
                  have p131 : 0 ≤ ((ji20) : Int) := zX (by first | (with_reducible assumption) | assumption)
                  have q131 : (ji20) < (l0.length : Int) := zX (by first | (with_reducible assumption) | assumption)
                  obtain ⟨ad131, e131, hx131_0, hx131_1, hx131_2, hx131_3, hx131_4, hx131_5, hx131_6, hx131_7⟩ := at_T24 HR0.out (ji20) p131 q131
                  obtain rfl : ad129 = ad131 := (by injection e131)
                  have hn131_0 : ad129.block ≠ gb130 := Nat.ne_of_lt (zS (by have := zR _ _ hx131_0; first | rwa [add_block] at this | exact this) GW130.out)
                  have hn131_1 : ad129.block ≠ gb130 := Nat.ne_of_lt (zS (by have := zR _ _ hx131_0; first | rwa [add_block] at this | exact this) GW130.out)
                  have hn131_2 : ad129.block ≠ gb130 := Nat.ne_of_lt (zS (by have := zR _ _ hx131_0; first | rwa [add_block] at this | exact this) GW130.out)
                  have hn131_3 : ad129.block ≠ gb130 := Nat.ne_of_lt (zS (by have := zR _ _ hx131_0; first | rwa [add_block] at this | exact this) GW130.out)
                  have hn131_4 : ad129.block ≠ gb130 := Nat.ne_of_lt (zS (by have := zR _ _ hx131_0; first | rwa [add_block] at this | exact this) GW130.out)
                  have hn131_5 : ad129.block ≠ gb130 := Nat.ne_of_lt (zS (by have := zR _ _ hx131_0; first | rwa [add_block] at this | exact this) GW130.out)
                  have hn131_6 : ad129.block ≠ gb130 := Nat.ne_of_lt (zS (by have := zR _ _ hx131_0; first | rwa [add_block] at this | exact this) GW130.out)
                  have hn131_7 : ad129.block ≠ gb130 := Nat.ne_of_lt (zS (by have := zR _ _ hx131_0; first | rwa [add_block] at this | exact this) GW130.out)
                  replace hx131_0 := (HB.out.cell (zR w _ hx131_0)).trans hx131_0
                  replace hx131_1 := (HB.out.cell (zR w _ hx131_1)).trans hx131_1
                  replace hx131_2 := (HB.out.cell (zR w _ hx131_2)).trans hx131_2
                  replace hx131_3 := (HB.out.cell (zR w _ hx131_3)).trans hx131_3
                  replace hx131_4 := (HB.out.cell (zR w _ hx131_4)).trans hx131_4
                  replace hx131_5 := (HB.out.cell (zR w _ hx131_5)).trans hx131_5
                  replace hx131_6 := (HB.out.cell (zR w _ hx131_6)).trans hx131_6
                  replace hx131_7 := (HB.out.cell (zR w _ hx131_7)).trans hx131_7
                  replace hx131_0 := (zP (p := ⟨gb130, 0, none⟩) (by first | (rw [add_block]; exact hn131_0) | (show (Addr.add _ _).block ≠ _; rw [add_block]; exact hn131_0) | exact hn131_0) (.int .i64 ((rd_T24 l0 x17_2).f0))).trans hx131_0
                  replace hx131_1 := (zP (p := ⟨gb130, 0, none⟩) (by first | (rw [add_block]; exact hn131_0) | (show (Addr.add _ _).block ≠ _; rw [add_block]; exact hn131_0) | exact hn131_0) (.int .i64 ((rd_T24 l0 x17_2).f0))).trans hx131_1
                  replace hx131_2 := (zP (p := ⟨gb130, 0, none⟩) (by first | (rw [add_block]; exact hn131_0) | (show (Addr.add _ _).block ≠ _; rw [add_block]; exact hn131_0) | exact hn131_0) (.int .i64 ((rd_T24 l0 x17_2).f0))).trans hx131_2
                  replace hx131_3 := (zP (p := ⟨gb130, 0, none⟩) (by first | (rw [add_block]; exact hn131_0) | (show (Addr.add _ _).block ≠ _; rw [add_block]; exact hn131_0) | exact hn131_0) (.int .i64 ((rd_T24 l0 x17_2).f0))).trans hx131_3
                  replace hx131_4 := (zP (p := ⟨gb130, 0, none⟩) (by first | (rw [add_block]; exact hn131_0) | (show (Addr.add _ _).block ≠ _; rw [add_block]; exact hn131_0) | exact hn131_0) (.int .i64 ((rd_T24 l0 x17_2).f0))).trans hx131_4
                  replace hx131_5 := (zP (p := ⟨gb130, 0, none⟩) (by first | (rw [add_block]; exact hn131_0) | (show (Addr.add _ _).block ≠ _; rw [add_block]; exact hn131_0) | exact hn131_0) (.int .i64 ((rd_T24 l0 x17_2).f0))).trans hx131_5
                  replace hx131_6 := (zP (p := ⟨gb130, 0, none⟩) (by first | (rw [add_block]; exact hn131_0) | (show (Addr.add _ _).block ≠ _; rw [add_block]; exact hn131_0) | exact hn131_0) (.int .i64 ((rd_T24 l0 x17_2).f0))).trans hx131_6
                  replace hx131_7 := (zP (p := ⟨gb130, 0, none⟩) (by first | (rw [add_block]; exact hn131_0) | (show (Addr.add _ _).block ≠ _; rw [add_block]; exact hn131_0) | exact hn131_0) (.int .i64 ((rd_T24 l0 x17_2).f0))).trans hx131_7
                  replace hx131_0 := (zP (p := ⟨gb130, 1, none⟩) (by first | (rw [add_block]; exact hn131_1) | (show (Addr.add _ _).block ≠ _; rw [add_block]; exact hn131_1) | exact hn131_1) (.int .i64 ((rd_T24 l0 x17_2).f1))).trans hx131_0
                  replace hx131_1 := (zP (p := ⟨gb130, 1, none⟩) (by first | (rw [add_block]; exact hn131_1) | (show (Addr.add _ _).block ≠ _; rw [add_block]; exact hn131_1) | exact hn131_1) (.int .i64 ((rd_T24 l0 x17_2).f1))).trans hx131_1
                  replace hx131_2 := (zP (p := ⟨gb130, 1, none⟩) (by first | (rw [add_block]; exact hn131_1) | (show (Addr.add _ _).block ≠ _; rw [add_block]; exact hn131_1) | exact hn131_1) (.int .i64 ((rd_T24 l0 x17_2).f1))).trans hx131_2
                  replace hx131_3 := (zP (p := ⟨gb130, 1, none⟩) (by first | (rw [add_block]; exact hn131_1) | (show (Addr.add _ _).block ≠ _; rw [add_block]; exact hn131_1) | exact hn131_1) (.int .i64 ((rd_T24 l0 x17_2).f1))).trans hx131_3
                  replace hx131_4 := (zP (p := ⟨gb130, 1, none⟩) (by first | (rw [add_block]; exact hn131_1) | (show (Addr.add _ _).block ≠ _; rw [add_block]; exact hn131_1) | exact hn131_1) (.int .i64 ((rd_T24 l0 x17_2).f1))).trans hx131_4
                  replace hx131_5 := (zP (p := ⟨gb130, 1, none⟩) (by first | (rw [add_block]; exact hn131_1) | (show (Addr.add _ _).block ≠ _; rw [add_block]; exact hn131_1) | exact hn131_1) (.int .i64 ((rd_T24 l0 x17_2).f1))).trans hx131_5
                  replace hx131_6 := (zP (p := ⟨gb130, 1, none⟩) (by first | (rw [add_block]; exact hn131_1) | (show (Addr.add _ _).block ≠ _; rw [add_block]; exact hn131_1) | exact hn131_1) (.int .i64 ((rd_T24 l0 x17_2).f1))).trans hx131_6
                  replace hx131_7 := (zP (p := ⟨gb130, 1, none⟩) (by first | (rw [add_block]; exact hn131_1) | (show (Addr.add _ _).block ≠ _; rw [add_block]; exact hn131_1) | exact hn131_1) (.int .i64 ((rd_T24 l0 x17_2).f1))).trans hx131_7
                  replace hx131_0 := (zP (p := ⟨gb130, 2, none⟩) (by first | (rw [add_block]; exact hn131_2) | (show (Addr.add _ _).block ≠ _; rw [add_block]; exact hn131_2) | exact hn131_2) (.int .i64 ((rd_T24 l0 x17_2).f2))).trans hx131_0
                  replace hx131_1 := (zP (p := ⟨gb130, 2, none⟩) (by first | (rw [add_block]; exact hn131_2) | (show (Addr.add _ _).block ≠ _; rw [add_block]; exact hn131_2) | exact hn131_2) (.int .i64 ((rd_T24 l0 x17_2).f2))).trans hx131_1
                  replace hx131_2 := (zP (p := ⟨gb130, 2, none⟩) (by first | (rw [add_block]; exact hn131_2) | (show (Addr.add _ _).block ≠ _; rw [add_block]; exact hn131_2) | exact hn131_2) (.int .i64 ((rd_T24 l0 x17_2).f2))).trans hx131_2
                  replace hx131_3 := (zP (p := ⟨gb130, 2, none⟩) (by first | (rw [add_block]; exact hn131_2) | (show (Addr.add _ _).block ≠ _; rw [add_block]; exact hn131_2) | exact hn131_2) (.int .i64 ((rd_T24 l0 x17_2).f2))).trans hx131_3
                  replace hx131_4 := (zP (p := ⟨gb130, 2, none⟩) (by first | (rw [add_block]; exact hn131_2) | (show (Addr.add _ _).block ≠ _; rw [add_block]; exact hn131_2) | exact hn131_2) (.int .i64 ((rd_T24 l0 x17_2).f2))).trans hx131_4
                  replace hx131_5 := (zP (p := ⟨gb130, 2, none⟩) (by first | (rw [add_block]; exact hn131_2) | (show (Addr.add _ _).block ≠ _; rw [add_block]; exact hn131_2) | exact hn131_2) (.int .i64 ((rd_T24 l0 x17_2).f2))).trans hx131_5
                  replace hx131_6 := (zP (p := ⟨gb130, 2, none⟩) (by first | (rw [add_block]; exact hn131_2) | (show (Addr.add _ _).block ≠ _; rw [add_block]; exact hn131_2) | exact hn131_2) (.int .i64 ((rd_T24 l0 x17_2).f2))).trans hx131_6
                  replace hx131_7 := (zP (p := ⟨gb130, 2, none⟩) (by first | (rw [add_block]; exact hn131_2) | (show (Addr.add _ _).block ≠ _; rw [add_block]; exact hn131_2) | exact hn131_2) (.int .i64 ((rd_T24 l0 x17_2).f2))).trans hx131_7
                  replace hx131_0 := (zP (p := ⟨gb130, 3, none⟩) (by first | (rw [add_block]; exact hn131_3) | (show (Addr.add _ _).block ≠ _; rw [add_block]; exact hn131_3) | exact hn131_3) (.int .i64 ((rd_T24 l0 x17_2).f3))).trans hx131_0
                  replace hx131_1 := (zP (p := ⟨gb130, 3, none⟩) (by first | (rw [add_block]; exact hn131_3) | (show (Addr.add _ _).block ≠ _; rw [add_block]; exact hn131_3) | exact hn131_3) (.int .i64 ((rd_T24 l0 x17_2).f3))).trans hx131_1
                  replace hx131_2 := (zP (p := ⟨gb130, 3, none⟩) (by first | (rw [add_block]; exact hn131_3) | (show (Addr.add _ _).block ≠ _; rw [add_block]; exact hn131_3) | exact hn131_3) (.int .i64 ((rd_T24 l0 x17_2).f3))).trans hx131_2
                  replace hx131_3 := (zP (p := ⟨gb130, 3, none⟩) (by first | (rw [add_block]; exact hn131_3) | (show (Addr.add _ _).block ≠ _; rw [add_block]; exact hn131_3) | exact hn131_3) (.int .i64 ((rd_T24 l0 x17_2).f3))).trans hx131_3
                  replace hx131_4 := (zP (p := ⟨gb130, 3, none⟩) (by first | (rw [add_block]; exact hn131_3) | (show (Addr.add _ _).block ≠ _; rw [add_block]; exact hn131_3) | exact hn131_3) (.int .i64 ((rd_T24 l0 x17_2).f3))).trans hx131_4
                  replace hx131_5 := (zP (p := ⟨gb130, 3, none⟩) (by first | (rw [add_block]; exact hn131_3) | (show (Addr.add _ _).block ≠ _; rw [add_block]; exact hn131_3) | exact hn131_3) (.int .i64 ((rd_T24 l0 x17_2).f3))).trans hx131_5
                  replace hx131_6 := (zP (p := ⟨gb130, 3, none⟩) (by first | (rw [add_block]; exact hn131_3) | (show (Addr.add _ _).block ≠ _; rw [add_block]; exact hn131_3) | exact hn131_3) (.int .i64 ((rd_T24 l0 x17_2).f3))).trans hx131_6
                  replace hx131_7 := (zP (p := ⟨gb130, 3, none⟩) (by first | (rw [add_block]; exact hn131_3) | (show (Addr.add _ _).block ≠ _; rw [add_block]; exact hn131_3) | exact hn131_3) (.int .i64 ((rd_T24 l0 x17_2).f3))).trans hx131_7
                  replace hx131_0 := (zP (p := ⟨gb130, 4, none⟩) (by first | (rw [add_block]; exact hn131_4) | (show (Addr.add _ _).block ≠ _; rw [add_block]; exact hn131_4) | exact hn131_4) (.int .i64 ((rd_T24 l0 x17_2).f4))).trans hx131_0
                  replace hx131_1 := (zP (p := ⟨gb130, 4, none⟩) (by first | (rw [add_block]; exact hn131_4) | (show (Addr.add _ _).block ≠ _; rw [add_block]; exact hn131_4) | exact hn131_4) (.int .i64 ((rd_T24 l0 x17_2).f4))).trans hx131_1
                  replace hx131_2 := (zP (p := ⟨gb130, 4, none⟩) (by first | (rw [add_block]; exact hn131_4) | (show (Addr.add _ _).block ≠ _; rw [add_block]; exact hn131_4) | exact hn131_4) (.int .i64 ((rd_T24 l0 x17_2).f4))).trans hx131_2
                  replace hx131_3 := (zP (p := ⟨gb130, 4, none⟩) (by first | (rw [add_block]; exact hn131_4) | (show (Addr.add _ _).block ≠ _; rw [add_block]; exact hn131_4) | exact hn131_4) (.int .i64 ((rd_T24 l0 x17_2).f4))).trans hx131_3
                  replace hx131_4 := (zP (p := ⟨gb130, 4, none⟩) (by first | (rw [add_block]; exact hn131_4) | (show (Addr.add _ _).block ≠ _; rw [add_block]; exact hn131_4) | exact hn131_4) (.int .i64 ((rd_T24 l0 x17_2).f4))).trans hx131_4
                  replace hx131_5 := (zP (p := ⟨gb130, 4, none⟩) (by first | (rw [add_block]; exact hn131_4) | (show (Addr.add _ _).block ≠ _; rw [add_block]; exact hn131_4) | exact hn131_4) (.int .i64 ((rd_T24 l0 x17_2).f4))).trans hx131_5
                  replace hx131_6 := (zP (p := ⟨gb130, 4, none⟩) (by first | (rw [add_block]; exact hn131_4) | (show (Addr.add _ _).block ≠ _; rw [add_block]; exact hn131_4) | exact hn131_4) (.int .i64 ((rd_T24 l0 x17_2).f4))).trans hx131_6
                  replace hx131_7 := (zP (p := ⟨gb130, 4, none⟩) (by first | (rw [add_block]; exact hn131_4) | (show (Addr.add _ _).block ≠ _; rw [add_block]; exact hn131_4) | exact hn131_4) (.int .i64 ((rd_T24 l0 x17_2).f4))).trans hx131_7
                  replace hx131_0 := (zP (p := ⟨gb130, 5, none⟩) (by first | (rw [add_block]; exact hn131_5) | (show (Addr.add _ _).block ≠ _; rw [add_block]; exact hn131_5) | exact hn131_5) (.int .i64 ((rd_T24 l0 x17_2).f5))).trans hx131_0
                  replace hx131_1 := (zP (p := ⟨gb130, 5, none⟩) (by first | (rw [add_block]; exact hn131_5) | (show (Addr.add _ _).block ≠ _; rw [add_block]; exact hn131_5) | exact hn131_5) (.int .i64 ((rd_T24 l0 x17_2).f5))).trans hx131_1
                  replace hx131_2 := (zP (p := ⟨gb130, 5, none⟩) (by first | (rw [add_block]; exact hn131_5) | (show (Addr.add _ _).block ≠ _; rw [add_block]; exact hn131_5) | exact hn131_5) (.int .i64 ((rd_T24 l0 x17_2).f5))).trans hx131_2
                  replace hx131_3 := (zP (p := ⟨gb130, 5, none⟩) (by first | (rw [add_block]; exact hn131_5) | (show (Addr.add _ _).block ≠ _; rw [add_block]; exact hn131_5) | exact hn131_5) (.int .i64 ((rd_T24 l0 x17_2).f5))).trans hx131_3
                  replace hx131_4 := (zP (p := ⟨gb130, 5, none⟩) (by first | (rw [add_block]; exact hn131_5) | (show (Addr.add _ _).block ≠ _; rw [add_block]; exact hn131_5) | exact hn131_5) (.int .i64 ((rd_T24 l0 x17_2).f5))).trans hx131_4
                  replace hx131_5 := (zP (p := ⟨gb130, 5, none⟩) (by first | (rw [add_block]; exact hn131_5) | (show (Addr.add _ _).block ≠ _; rw [add_block]; exact hn131_5) | exact hn131_5) (.int .i64 ((rd_T24 l0 x17_2).f5))).trans hx131_5
                  replace hx131_6 := (zP (p := ⟨gb130, 5, none⟩) (by first | (rw [add_block]; exact hn131_5) | (show (Addr.add _ _).block ≠ _; rw [add_block]; exact hn131_5) | exact hn131_5) (.int .i64 ((rd_T24 l0 x17_2).f5))).trans hx131_6
                  replace hx131_7 := (zP (p := ⟨gb130, 5, none⟩) (by first | (rw [add_block]; exact hn131_5) | (show (Addr.add _ _).block ≠ _; rw [add_block]; exact hn131_5) | exact hn131_5) (.int .i64 ((rd_T24 l0 x17_2).f5))).trans hx131_7
                  replace hx131_0 := (zP (p := ⟨gb130, 6, none⟩) (by first | (rw [add_block]; exact hn131_6) | (show (Addr.add _ _).block ≠ _; rw [add_block]; exact hn131_6) | exact hn131_6) (.int .i64 ((rd_T24 l0 x17_2).f6))).trans hx131_0
                  replace hx131_1 := (zP (p := ⟨gb130, 6, none⟩) (by first | (rw [add_block]; exact hn131_6) | (show (Addr.add _ _).block ≠ _; rw [add_block]; exact hn131_6) | exact hn131_6) (.int .i64 ((rd_T24 l0 x17_2).f6))).trans hx131_1
                  replace hx131_2 := (zP (p := ⟨gb130, 6, none⟩) (by first | (rw [add_block]; exact hn131_6) | (show (Addr.add _ _).block ≠ _; rw [add_block]; exact hn131_6) | exact hn131_6) (.int .i64 ((rd_T24 l0 x17_2).f6))).trans hx131_2
                  replace hx131_3 := (zP (p := ⟨gb130, 6, none⟩) (by first | (rw [add_block]; exact hn131_6) | (show (Addr.add _ _).block ≠ _; rw [add_block]; exact hn131_6) | exact hn131_6) (.int .i64 ((rd_T24 l0 x17_2).f6))).trans hx131_3
                  replace hx131_4 := (zP (p := ⟨gb130, 6, none⟩) (by first | (rw [add_block]; exact hn131_6) | (show (Addr.add _ _).block ≠ _; rw [add_block]; exact hn131_6) | exact hn131_6) (.int .i64 ((rd_T24 l0 x17_2).f6))).trans hx131_4
                  replace hx131_5 := (zP (p := ⟨gb130, 6, none⟩) (by first | (rw [add_block]; exact hn131_6) | (show (Addr.add _ _).block ≠ _; rw [add_block]; exact hn131_6) | exact hn131_6) (.int .i64 ((rd_T24 l0 x17_2).f6))).trans hx131_5
                  replace hx131_6 := (zP (p := ⟨gb130, 6, none⟩) (by first | (rw [add_block]; exact hn131_6) | (show (Addr.add _ _).block ≠ _; rw [add_block]; exact hn131_6) | exact hn131_6) (.int .i64 ((rd_T24 l0 x17_2).f6))).trans hx131_6
                  replace hx131_7 := (zP (p := ⟨gb130, 6, none⟩) (by first | (rw [add_block]; exact hn131_6) | (show (Addr.add _ _).block ≠ _; rw [add_block]; exact hn131_6) | exact hn131_6) (.int .i64 ((rd_T24 l0 x17_2).f6))).trans hx131_7
                  replace hx131_0 := (zP (p := ⟨gb130, 7, none⟩) (by first | (rw [add_block]; exact hn131_7) | (show (Addr.add _ _).block ≠ _; rw [add_block]; exact hn131_7) | exact hn131_7) (.int .i64 ((rd_T24 l0 x17_2).f7))).trans hx131_0
                  replace hx131_1 := (zP (p := ⟨gb130, 7, none⟩) (by first | (rw [add_block]; exact hn131_7) | (show (Addr.add _ _).block ≠ _; rw [add_block]; exact hn131_7) | exact hn131_7) (.int .i64 ((rd_T24 l0 x17_2).f7))).trans hx131_1
                  replace hx131_2 := (zP (p := ⟨gb130, 7, none⟩) (by first | (rw [add_block]; exact hn131_7) | (show (Addr.add _ _).block ≠ _; rw [add_block]; exact hn131_7) | exact hn131_7) (.int .i64 ((rd_T24 l0 x17_2).f7))).trans hx131_2
                  replace hx131_3 := (zP (p := ⟨gb130, 7, none⟩) (by first | (rw [add_block]; exact hn131_7) | (show (Addr.add _ _).block ≠ _; rw [add_block]; exact hn131_7) | exact hn131_7) (.int .i64 ((rd_T24 l0 x17_2).f7))).trans hx131_3
                  replace hx131_4 := (zP (p := ⟨gb130, 7, none⟩) (by first | (rw [add_block]; exact hn131_7) | (show (Addr.add _ _).block ≠ _; rw [add_block]; exact hn131_7) | exact hn131_7) (.int .i64 ((rd_T24 l0 x17_2).f7))).trans hx131_4
                  replace hx131_5 := (zP (p := ⟨gb130, 7, none⟩) (by first | (rw [add_block]; exact hn131_7) | (show (Addr.add _ _).block ≠ _; rw [add_block]; exact hn131_7) | exact hn131_7) (.int .i64 ((rd_T24 l0 x17_2).f7))).trans hx131_5
                  replace hx131_6 := (zP (p := ⟨gb130, 7, none⟩) (by first | (rw [add_block]; exact hn131_7) | (show (Addr.add _ _).block ≠ _; rw [add_block]; exact hn131_7) | exact hn131_7) (.int .i64 ((rd_T24 l0 x17_2).f7))).trans hx131_6
                  replace hx131_7 := (zP (p := ⟨gb130, 7, none⟩) (by first | (rw [add_block]; exact hn131_7) | (show (Addr.add _ _).block ≠ _; rw [add_block]; exact hn131_7) | exact hn131_7) (.int .i64 ((rd_T24 l0 x17_2).f7))).trans hx131_7
                  clear hn131_0
                  clear hn131_1
                  clear hn131_2
                  clear hn131_3
                  clear hn131_4
                  clear hn131_5
                  clear hn131_6
                  clear hn131_7
                  replace p131 := eq_true p131
                  replace q131 := eq_true q131
                  go_wp2
                  repeat (go_quiet (fail); try go_wp2)
                  go_meet
                  case rel => exact ⟨_, (true), (by first | rfl | (simp; done) | (simp [*]; done)), H', ⟨by have := HJ2.out; have := HK2.out; first | omega | exact Nat.le_refl _⟩, ⟨by (with_reducible repeat (first | refine zE ?_ _ | refine zF ?_ | refine zD ?_ _)); refine blk_put (cs := #[.int .i64 ((rd_T24 l0 x17_2).f0), .int .i64 ((rd_T24 l0 x17_2).f1), .int .i64 ((rd_T24 l0 x17_2).f2), .int .i64 ((rd_T24 l0 x17_2).f3), .int .i64 ((rd_T24 l0 x17_2).f4), .int .i64 ((rd_T24 l0 x17_2).f5), .int .i64 ((rd_T24 l0 x17_2).f6), .int .i64 0]) ?_ 7 _ rfl; (with_reducible repeat (first | refine zE ?_ _ | refine zF ?_ | refine zD ?_ _)); refine blk_put (cs := #[.int .i64 ((rd_T24 l0 x17_2).f0), .int .i64 ((rd_T24 l0 x17_2).f1), .int .i64 ((rd_T24 l0 x17_2).f2), .int .i64 ((rd_T24 l0 x17_2).f3), .int .i64 ((rd_T24 l0 x17_2).f4), .int .i64 ((rd_T24 l0 x17_2).f5), .int .i64 0, .int .i64 0]) ?_ 6 _ rfl; (with_reducible repeat (first | refine zE ?_ _ | refine zF ?_ | refine zD ?_ _)); refine blk_put (cs := #[.int .i64 ((rd_T24 l0 x17_2).f0), .int .i64 ((rd_T24 l0 x17_2).f1), .int .i64 ((rd_T24 l0 x17_2).f2), .int .i64 ((rd_T24 l0 x17_2).f3), .int .i64 ((rd_T24 l0 x17_2).f4), .int .i64 0, .int .i64 0, .int .i64 0]) ?_ 5 _ rfl; (with_reducible repeat (first | refine zE ?_ _ | refine zF ?_ | refine zD ?_ _)); refine blk_put (cs := #[.int .i64 ((rd_T24 l0 x17_2).f0), .int .i64 ((rd_T24 l0 x17_2).f1), .int .i64 ((rd_T24 l0 x17_2).f2), .int .i64 ((rd_T24 l0 x17_2).f3), .int .i64 0, .int .i64 0, .int .i64 0, .int .i64 0]) ?_ 4 _ rfl; (with_reducible repeat (first | refine zE ?_ _ | refine zF ?_ | refine zD ?_ _)); refine blk_put (cs := #[.int .i64 ((rd_T24 l0 x17_2).f0), .int .i64 ((rd_T24 l0 x17_2).f1), .int .i64 ((rd_T24 l0 x17_2).f2), .int .i64 0, .int .i64 0, .int .i64 0, .int .i64 0, .int .i64 0]) ?_ 3 _ rfl; (with_reducible repeat (first | refine zE ?_ _ | refine zF ?_ | refine zD ?_ _)); refine blk_put (cs := #[.int .i64 ((rd_T24 l0 x17_2).f0), .int .i64 ((rd_T24 l0 x17_2).f1), .int .i64 0, .int .i64 0, .int .i64 0, .int .i64 0, .int .i64 0, .int .i64 0]) ?_ 2 _ rfl; (with_reducible repeat (first | refine zE ?_ _ | refine zF ?_ | refine zD ?_ _)); refine blk_put (cs := #[.int .i64 ((rd_T24 l0 x17_2).f0), .int .i64 0, .int .i64 0, .int .i64 0, .int .i64 0, .int .i64 0, .int .i64 0, .int .i64 0]) ?_ 1 _ rfl; (with_reducible repeat (first | refine zE ?_ _ | refine zF ?_ | refine zD ?_ _)); refine blk_put (cs := #[.int .i64 0, .int .i64 0, .int .i64 0, .int .i64 0, .int .i64 0, .int .i64 0, .int .i64 0, .int .i64 0]) ?_ 0 _ rfl; (with_reducible repeat (first | refine zE ?_ _ | refine zF ?_ | refine zD ?_ _)); exact BK130.out⟩, ⟨by repeat (first | (with_reducible first | exact HB.out | apply zA | apply zB | apply zC | refine below_set ?_ GE130.out) | exact HB.out)⟩⟩
                 ·rw [if_neg c23] at H
                  have c23b0 : decide (((rd_T24 l0 x17_2).f0) ≤ ((rd_T24 l0 (ji20)).f0)) = false := decide_eq_false c23
                  clear c23
                  by_cases c25 : ((rd_T24 l0 x17_2).f1) < 1
                  ·rw [if_pos c25] at H
                   have c25b0 : decide (((rd_T24 l0 x17_2).f1) < 1) = true := decide_eq_true c25
                   clear c25
                   have H' := Aside0.mk H
                   clear H
                   have hcz26_0 : w11.cell? ⟨gb130, 0, none⟩ = some (.int .i64 0) := (zQ BK130.out 0).trans rfl
                   have hcz26_1 : w11.cell? ⟨gb130, 1, none⟩ = some (.int .i64 0) := (zQ BK130.out 1).trans rfl
                   have hcz26_2 : w11.cell? ⟨gb130, 2, none⟩ = some (.int .i64 0) := (zQ BK130.out 2).trans rfl
                   have hcz26_3 : w11.cell? ⟨gb130, 3, none⟩ = some (.int .i64 0) := (zQ BK130.out 3).trans rfl
                   have hcz26_4 : w11.cell? ⟨gb130, 4, none⟩ = some (.int .i64 0) := (zQ BK130.out 4).trans rfl
                   have hcz26_5 : w11.cell? ⟨gb130, 5, none⟩ = some (.int .i64 0) := (zQ BK130.out 5).trans rfl
                   have hcz26_6 : w11.cell? ⟨gb130, 6, none⟩ = some (.int .i64 0) := (zQ BK130.out 6).trans rfl
                   have hcz26_7 : w11.cell? ⟨gb130, 7, none⟩ = some (.int .i64 0) := (zQ BK130.out 7).trans rfl
                   have hfz26_0 := blk_frozen BK130.out 0
                   have hfz26_1 := blk_frozen BK130.out 1
                   have hfz26_2 := blk_frozen BK130.out 2
                   have hfz26_3 := blk_frozen BK130.out 3
                   have hfz26_4 := blk_frozen BK130.out 4
                   have hfz26_5 := blk_frozen BK130.out 5
                   have hfz26_6 := blk_frozen BK130.out 6
                   have hfz26_7 := blk_frozen BK130.out 7
                   have p131 : 0 ≤ ((ji20) : Int) := zX (by first | (with_reducible assumption) | assumption)
                   have q131 : (ji20) < (l0.length : Int) := zX (by first | (with_reducible assumption) | assumption)
                   obtain ⟨ad131, e131, hx131_0, hx131_1, hx131_2, hx131_3, hx131_4, hx131_5, hx131_6, hx131_7⟩ := at_T24 HR0.out (ji20) p131 q131
                   obtain rfl : ad129 = ad131 := (by injection e131)
                   have hn131_0 : ad129.block ≠ gb130 := Nat.ne_of_lt (zS (by have := zR _ _ hx131_0; first | rwa [add_block] at this | exact this) GW130.out)
                   have hn131_1 : ad129.block ≠ gb130 := Nat.ne_of_lt (zS (by have := zR _ _ hx131_0; first | rwa [add_block] at this | exact this) GW130.out)
                   have hn131_2 : ad129.block ≠ gb130 := Nat.ne_of_lt (zS (by have := zR _ _ hx131_0; first | rwa [add_block] at this | exact this) GW130.out)
                   have hn131_3 : ad129.block ≠ gb130 := Nat.ne_of_lt (zS (by have := zR _ _ hx131_0; first | rwa [add_block] at this | exact this) GW130.out)
                   have hn131_4 : ad129.block ≠ gb130 := Nat.ne_of_lt (zS (by have := zR _ _ hx131_0; first | rwa [add_block] at this | exact this) GW130.out)
                   have hn131_5 : ad129.block ≠ gb130 := Nat.ne_of_lt (zS (by have := zR _ _ hx131_0; first | rwa [add_block] at this | exact this) GW130.out)
                   have hn131_6 : ad129.block ≠ gb130 := Nat.ne_of_lt (zS (by have := zR _ _ hx131_0; first | rwa [add_block] at this | exact this) GW130.out)
                   have hn131_7 : ad129.block ≠ gb130 := Nat.ne_of_lt (zS (by have := zR _ _ hx131_0; first | rwa [add_block] at this | exact this) GW130.out)
                   replace hx131_0 := (HB.out.cell (zR w _ hx131_0)).trans hx131_0
                   replace hx131_1 := (HB.out.cell (zR w _ hx131_1)).trans hx131_1
                   replace hx131_2 := (HB.out.cell (zR w _ hx131_2)).trans hx131_2
                   replace hx131_3 := (HB.out.cell (zR w _ hx131_3)).trans hx131_3
                   replace hx131_4 := (HB.out.cell (zR w _ hx131_4)).trans hx131_4
                   replace hx131_5 := (HB.out.cell (zR w _ hx131_5)).trans hx131_5
                   replace hx131_6 := (HB.out.cell (zR w _ hx131_6)).trans hx131_6
                   replace hx131_7 := (HB.out.cell (zR w _ hx131_7)).trans hx131_7
                   replace hx131_0 := (zP (p := ⟨gb130, 0, none⟩) (by first | (rw [add_block]; exact hn131_0) | (show (Addr.add _ _).block ≠ _; rw [add_block]; exact hn131_0) | exact hn131_0) (.int .i64 ((rd_T24 l0 x17_2).f0))).trans hx131_0
                   replace hx131_1 := (zP (p := ⟨gb130, 0, none⟩) (by first | (rw [add_block]; exact hn131_0) | (show (Addr.add _ _).block ≠ _; rw [add_block]; exact hn131_0) | exact hn131_0) (.int .i64 ((rd_T24 l0 x17_2).f0))).trans hx131_1
                   replace hx131_2 := (zP (p := ⟨gb130, 0, none⟩) (by first | (rw [add_block]; exact hn131_0) | (show (Addr.add _ _).block ≠ _; rw [add_block]; exact hn131_0) | exact hn131_0) (.int .i64 ((rd_T24 l0 x17_2).f0))).trans hx131_2
                   replace hx131_3 := (zP (p := ⟨gb130, 0, none⟩) (by first | (rw [add_block]; exact hn131_0) | (show (Addr.add _ _).block ≠ _; rw [add_block]; exact hn131_0) | exact hn131_0) (.int .i64 ((rd_T24 l0 x17_2).f0))).trans hx131_3
                   replace hx131_4 := (zP (p := ⟨gb130, 0, none⟩) (by first | (rw [add_block]; exact hn131_0) | (show (Addr.add _ _).block ≠ _; rw [add_block]; exact hn131_0) | exact hn131_0) (.int .i64 ((rd_T24 l0 x17_2).f0))).trans hx131_4
                   replace hx131_5 := (zP (p := ⟨gb130, 0, none⟩) (by first | (rw [add_block]; exact hn131_0) | (show (Addr.add _ _).block ≠ _; rw [add_block]; exact hn131_0) | exact hn131_0) (.int .i64 ((rd_T24 l0 x17_2).f0))).trans hx131_5
                   replace hx131_6 := (zP (p := ⟨gb130, 0, none⟩) (by first | (rw [add_block]; exact hn131_0) | (show (Addr.add _ _).block ≠ _; rw [add_block]; exact hn131_0) | exact hn131_0) (.int .i64 ((rd_T24 l0 x17_2).f0))).trans hx131_6
                   replace hx131_7 := (zP (p := ⟨gb130, 0, none⟩) (by first | (rw [add_block]; exact hn131_0) | (show (Addr.add _ _).block ≠ _; rw [add_block]; exact hn131_0) | exact hn131_0) (.int .i64 ((rd_T24 l0 x17_2).f0))).trans hx131_7
                   replace hx131_0 := (zP (p := ⟨gb130, 1, none⟩) (by first | (rw [add_block]; exact hn131_1) | (show (Addr.add _ _).block ≠ _; rw [add_block]; exact hn131_1) | exact hn131_1) (.int .i64 ((rd_T24 l0 x17_2).f1))).trans hx131_0
                   replace hx131_1 := (zP (p := ⟨gb130, 1, none⟩) (by first | (rw [add_block]; exact hn131_1) | (show (Addr.add _ _).block ≠ _; rw [add_block]; exact hn131_1) | exact hn131_1) (.int .i64 ((rd_T24 l0 x17_2).f1))).trans hx131_1
                   replace hx131_2 := (zP (p := ⟨gb130, 1, none⟩) (by first | (rw [add_block]; exact hn131_1) | (show (Addr.add _ _).block ≠ _; rw [add_block]; exact hn131_1) | exact hn131_1) (.int .i64 ((rd_T24 l0 x17_2).f1))).trans hx131_2
                   replace hx131_3 := (zP (p := ⟨gb130, 1, none⟩) (by first | (rw [add_block]; exact hn131_1) | (show (Addr.add _ _).block ≠ _; rw [add_block]; exact hn131_1) | exact hn131_1) (.int .i64 ((rd_T24 l0 x17_2).f1))).trans hx131_3
                   replace hx131_4 := (zP (p := ⟨gb130, 1, none⟩) (by first | (rw [add_block]; exact hn131_1) | (show (Addr.add _ _).block ≠ _; rw [add_block]; exact hn131_1) | exact hn131_1) (.int .i64 ((rd_T24 l0 x17_2).f1))).trans hx131_4
                   replace hx131_5 := (zP (p := ⟨gb130, 1, none⟩) (by first | (rw [add_block]; exact hn131_1) | (show (Addr.add _ _).block ≠ _; rw [add_block]; exact hn131_1) | exact hn131_1) (.int .i64 ((rd_T24 l0 x17_2).f1))).trans hx131_5
                   replace hx131_6 := (zP (p := ⟨gb130, 1, none⟩) (by first | (rw [add_block]; exact hn131_1) | (show (Addr.add _ _).block ≠ _; rw [add_block]; exact hn131_1) | exact hn131_1) (.int .i64 ((rd_T24 l0 x17_2).f1))).trans hx131_6
                   replace hx131_7 := (zP (p := ⟨gb130, 1, none⟩) (by first | (rw [add_block]; exact hn131_1) | (show (Addr.add _ _).block ≠ _; rw [add_block]; exact hn131_1) | exact hn131_1) (.int .i64 ((rd_T24 l0 x17_2).f1))).trans hx131_7
                   replace hx131_0 := (zP (p := ⟨gb130, 2, none⟩) (by first | (rw [add_block]; exact hn131_2) | (show (Addr.add _ _).block ≠ _; rw [add_block]; exact hn131_2) | exact hn131_2) (.int .i64 ((rd_T24 l0 x17_2).f2))).trans hx131_0
                   replace hx131_1 := (zP (p := ⟨gb130, 2, none⟩) (by first | (rw [add_block]; exact hn131_2) | (show (Addr.add _ _).block ≠ _; rw [add_block]; exact hn131_2) | exact hn131_2) (.int .i64 ((rd_T24 l0 x17_2).f2))).trans hx131_1
                   replace hx131_2 := (zP (p := ⟨gb130, 2, none⟩) (by first | (rw [add_block]; exact hn131_2) | (show (Addr.add _ _).block ≠ _; rw [add_block]; exact hn131_2) | exact hn131_2) (.int .i64 ((rd_T24 l0 x17_2).f2))).trans hx131_2
                   replace hx131_3 := (zP (p := ⟨gb130, 2, none⟩) (by first | (rw [add_block]; exact hn131_2) | (show (Addr.add _ _).block ≠ _; rw [add_block]; exact hn131_2) | exact hn131_2) (.int .i64 ((rd_T24 l0 x17_2).f2))).trans hx131_3
                   replace hx131_4 := (zP (p := ⟨gb130, 2, none⟩) (by first | (rw [add_block]; exact hn131_2) | (show (Addr.add _ _).block ≠ _; rw [add_block]; exact hn131_2) | exact hn131_2) (.int .i64 ((rd_T24 l0 x17_2).f2))).trans hx131_4
                   replace hx131_5 := (zP (p := ⟨gb130, 2, none⟩) (by first | (rw [add_block]; exact hn131_2) | (show (Addr.add _ _).block ≠ _; rw [add_block]; exact hn131_2) | exact hn131_2) (.int .i64 ((rd_T24 l0 x17_2).f2))).trans hx131_5
                   replace hx131_6 := (zP (p := ⟨gb130, 2, none⟩) (by first | (rw [add_block]; exact hn131_2) | (show (Addr.add _ _).block ≠ _; rw [add_block]; exact hn131_2) | exact hn131_2) (.int .i64 ((rd_T24 l0 x17_2).f2))).trans hx131_6
                   replace hx131_7 := (zP (p := ⟨gb130, 2, none⟩) (by first | (rw [add_block]; exact hn131_2) | (show (Addr.add _ _).block ≠ _; rw [add_block]; exact hn131_2) | exact hn131_2) (.int .i64 ((rd_T24 l0 x17_2).f2))).trans hx131_7
                   replace hx131_0 := (zP (p := ⟨gb130, 3, none⟩) (by first | (rw [add_block]; exact hn131_3) | (show (Addr.add _ _).block ≠ _; rw [add_block]; exact hn131_3) | exact hn131_3) (.int .i64 ((rd_T24 l0 x17_2).f3))).trans hx131_0
                   replace hx131_1 := (zP (p := ⟨gb130, 3, none⟩) (by first | (rw [add_block]; exact hn131_3) | (show (Addr.add _ _).block ≠ _; rw [add_block]; exact hn131_3) | exact hn131_3) (.int .i64 ((rd_T24 l0 x17_2).f3))).trans hx131_1
                   replace hx131_2 := (zP (p := ⟨gb130, 3, none⟩) (by first | (rw [add_block]; exact hn131_3) | (show (Addr.add _ _).block ≠ _; rw [add_block]; exact hn131_3) | exact hn131_3) (.int .i64 ((rd_T24 l0 x17_2).f3))).trans hx131_2
                   replace hx131_3 := (zP (p := ⟨gb130, 3, none⟩) (by first | (rw [add_block]; exact hn131_3) | (show (Addr.add _ _).block ≠ _; rw [add_block]; exact hn131_3) | exact hn131_3) (.int .i64 ((rd_T24 l0 x17_2).f3))).trans hx131_3
                   replace hx131_4 := (zP (p := ⟨gb130, 3, none⟩) (by first | (rw [add_block]; exact hn131_3) | (show (Addr.add _ _).block ≠ _; rw [add_block]; exact hn131_3) | exact hn131_3) (.int .i64 ((rd_T24 l0 x17_2).f3))).trans hx131_4
                   replace hx131_5 := (zP (p := ⟨gb130, 3, none⟩) (by first | (rw [add_block]; exact hn131_3) | (show (Addr.add _ _).block ≠ _; rw [add_block]; exact hn131_3) | exact hn131_3) (.int .i64 ((rd_T24 l0 x17_2).f3))).trans hx131_5
                   replace hx131_6 := (zP (p := ⟨gb130, 3, none⟩) (by first | (rw [add_block]; exact hn131_3) | (show (Addr.add _ _).block ≠ _; rw [add_block]; exact hn131_3) | exact hn131_3) (.int .i64 ((rd_T24 l0 x17_2).f3))).trans hx131_6
                   replace hx131_7 := (zP (p := ⟨gb130, 3, none⟩) (by first | (rw [add_block]; exact hn131_3) | (show (Addr.add _ _).block ≠ _; rw [add_block]; exact hn131_3) | exact hn131_3) (.int .i64 ((rd_T24 l0 x17_2).f3))).trans hx131_7
                   replace hx131_0 := (zP (p := ⟨gb130, 4, none⟩) (by first | (rw [add_block]; exact hn131_4) | (show (Addr.add _ _).block ≠ _; rw [add_block]; exact hn131_4) | exact hn131_4) (.int .i64 ((rd_T24 l0 x17_2).f4))).trans hx131_0
                   replace hx131_1 := (zP (p := ⟨gb130, 4, none⟩) (by first | (rw [add_block]; exact hn131_4) | (show (Addr.add _ _).block ≠ _; rw [add_block]; exact hn131_4) | exact hn131_4) (.int .i64 ((rd_T24 l0 x17_2).f4))).trans hx131_1
                   replace hx131_2 := (zP (p := ⟨gb130, 4, none⟩) (by first | (rw [add_block]; exact hn131_4) | (show (Addr.add _ _).block ≠ _; rw [add_block]; exact hn131_4) | exact hn131_4) (.int .i64 ((rd_T24 l0 x17_2).f4))).trans hx131_2
                   replace hx131_3 := (zP (p := ⟨gb130, 4, none⟩) (by first | (rw [add_block]; exact hn131_4) | (show (Addr.add _ _).block ≠ _; rw [add_block]; exact hn131_4) | exact hn131_4) (.int .i64 ((rd_T24 l0 x17_2).f4))).trans hx131_3
                   replace hx131_4 := (zP (p := ⟨gb130, 4, none⟩) (by first | (rw [add_block]; exact hn131_4) | (show (Addr.add _ _).block ≠ _; rw [add_block]; exact hn131_4) | exact hn131_4) (.int .i64 ((rd_T24 l0 x17_2).f4))).trans hx131_4
                   replace hx131_5 := (zP (p := ⟨gb130, 4, none⟩) (by first | (rw [add_block]; exact hn131_4) | (show (Addr.add _ _).block ≠ _; rw [add_block]; exact hn131_4) | exact hn131_4) (.int .i64 ((rd_T24 l0 x17_2).f4))).trans hx131_5
                   replace hx131_6 := (zP (p := ⟨gb130, 4, none⟩) (by first | (rw [add_block]; exact hn131_4) | (show (Addr.add _ _).block ≠ _; rw [add_block]; exact hn131_4) | exact hn131_4) (.int .i64 ((rd_T24 l0 x17_2).f4))).trans hx131_6
                   replace hx131_7 := (zP (p := ⟨gb130, 4, none⟩) (by first | (rw [add_block]; exact hn131_4) | (show (Addr.add _ _).block ≠ _; rw [add_block]; exact hn131_4) | exact hn131_4) (.int .i64 ((rd_T24 l0 x17_2).f4))).trans hx131_7
                   replace hx131_0 := (zP (p := ⟨gb130, 5, none⟩) (by first | (rw [add_block]; exact hn131_5) | (show (Addr.add _ _).block ≠ _; rw [add_block]; exact hn131_5) | exact hn131_5) (.int .i64 ((rd_T24 l0 x17_2).f5))).trans hx131_0
                   replace hx131_1 := (zP (p := ⟨gb130, 5, none⟩) (by first | (rw [add_block]; exact hn131_5) | (show (Addr.add _ _).block ≠ _; rw [add_block]; exact hn131_5) | exact hn131_5) (.int .i64 ((rd_T24 l0 x17_2).f5))).trans hx131_1
                   replace hx131_2 := (zP (p := ⟨gb130, 5, none⟩) (by first | (rw [add_block]; exact hn131_5) | (show (Addr.add _ _).block ≠ _; rw [add_block]; exact hn131_5) | exact hn131_5) (.int .i64 ((rd_T24 l0 x17_2).f5))).trans hx131_2
                   replace hx131_3 := (zP (p := ⟨gb130, 5, none⟩) (by first | (rw [add_block]; exact hn131_5) | (show (Addr.add _ _).block ≠ _; rw [add_block]; exact hn131_5) | exact hn131_5) (.int .i64 ((rd_T24 l0 x17_2).f5))).trans hx131_3
                   replace hx131_4 := (zP (p := ⟨gb130, 5, none⟩) (by first | (rw [add_block]; exact hn131_5) | (show (Addr.add _ _).block ≠ _; rw [add_block]; exact hn131_5) | exact hn131_5) (.int .i64 ((rd_T24 l0 x17_2).f5))).trans hx131_4
                   replace hx131_5 := (zP (p := ⟨gb130, 5, none⟩) (by first | (rw [add_block]; exact hn131_5) | (show (Addr.add _ _).block ≠ _; rw [add_block]; exact hn131_5) | exact hn131_5) (.int .i64 ((rd_T24 l0 x17_2).f5))).trans hx131_5
                   replace hx131_6 := (zP (p := ⟨gb130, 5, none⟩) (by first | (rw [add_block]; exact hn131_5) | (show (Addr.add _ _).block ≠ _; rw [add_block]; exact hn131_5) | exact hn131_5) (.int .i64 ((rd_T24 l0 x17_2).f5))).trans hx131_6
                   replace hx131_7 := (zP (p := ⟨gb130, 5, none⟩) (by first | (rw [add_block]; exact hn131_5) | (show (Addr.add _ _).block ≠ _; rw [add_block]; exact hn131_5) | exact hn131_5) (.int .i64 ((rd_T24 l0 x17_2).f5))).trans hx131_7
                   replace hx131_0 := (zP (p := ⟨gb130, 6, none⟩) (by first | (rw [add_block]; exact hn131_6) | (show (Addr.add _ _).block ≠ _; rw [add_block]; exact hn131_6) | exact hn131_6) (.int .i64 ((rd_T24 l0 x17_2).f6))).trans hx131_0
                   replace hx131_1 := (zP (p := ⟨gb130, 6, none⟩) (by first | (rw [add_block]; exact hn131_6) | (show (Addr.add _ _).block ≠ _; rw [add_block]; exact hn131_6) | exact hn131_6) (.int .i64 ((rd_T24 l0 x17_2).f6))).trans hx131_1
                   replace hx131_2 := (zP (p := ⟨gb130, 6, none⟩) (by first | (rw [add_block]; exact hn131_6) | (show (Addr.add _ _).block ≠ _; rw [add_block]; exact hn131_6) | exact hn131_6) (.int .i64 ((rd_T24 l0 x17_2).f6))).trans hx131_2
                   replace hx131_3 := (zP (p := ⟨gb130, 6, none⟩) (by first | (rw [add_block]; exact hn131_6) | (show (Addr.add _ _).block ≠ _; rw [add_block]; exact hn131_6) | exact hn131_6) (.int .i64 ((rd_T24 l0 x17_2).f6))).trans hx131_3
                   replace hx131_4 := (zP (p := ⟨gb130, 6, none⟩) (by first | (rw [add_block]; exact hn131_6) | (show (Addr.add _ _).block ≠ _; rw [add_block]; exact hn131_6) | exact hn131_6) (.int .i64 ((rd_T24 l0 x17_2).f6))).trans hx131_4
                   replace hx131_5 := (zP (p := ⟨gb130, 6, none⟩) (by first | (rw [add_block]; exact hn131_6) | (show (Addr.add _ _).block ≠ _; rw [add_block]; exact hn131_6) | exact hn131_6) (.int .i64 ((rd_T24 l0 x17_2).f6))).trans hx131_5
                   replace hx131_6 := (zP (p := ⟨gb130, 6, none⟩) (by first | (rw [add_block]; exact hn131_6) | (show (Addr.add _ _).block ≠ _; rw [add_block]; exact hn131_6) | exact hn131_6) (.int .i64 ((rd_T24 l0 x17_2).f6))).trans hx131_6
                   replace hx131_7 := (zP (p := ⟨gb130, 6, none⟩) (by first | (rw [add_block]; exact hn131_6) | (show (Addr.add _ _).block ≠ _; rw [add_block]; exact hn131_6) | exact hn131_6) (.int .i64 ((rd_T24 l0 x17_2).f6))).trans hx131_7
                   replace hx131_0 := (zP (p := ⟨gb130, 7, none⟩) (by first | (rw [add_block]; exact hn131_7) | (show (Addr.add _ _).block ≠ _; rw [add_block]; exact hn131_7) | exact hn131_7) (.int .i64 ((rd_T24 l0 x17_2).f7))).trans hx131_0
                   replace hx131_1 := (zP (p := ⟨gb130, 7, none⟩) (by first | (rw [add_block]; exact hn131_7) | (show (Addr.add _ _).block ≠ _; rw [add_block]; exact hn131_7) | exact hn131_7) (.int .i64 ((rd_T24 l0 x17_2).f7))).trans hx131_1
                   replace hx131_2 := (zP (p := ⟨gb130, 7, none⟩) (by first | (rw [add_block]; exact hn131_7) | (show (Addr.add _ _).block ≠ _; rw [add_block]; exact hn131_7) | exact hn131_7) (.int .i64 ((rd_T24 l0 x17_2).f7))).trans hx131_2
                   replace hx131_3 := (zP (p := ⟨gb130, 7, none⟩) (by first | (rw [add_block]; exact hn131_7) | (show (Addr.add _ _).block ≠ _; rw [add_block]; exact hn131_7) | exact hn131_7) (.int .i64 ((rd_T24 l0 x17_2).f7))).trans hx131_3
                   replace hx131_4 := (zP (p := ⟨gb130, 7, none⟩) (by first | (rw [add_block]; exact hn131_7) | (show (Addr.add _ _).block ≠ _; rw [add_block]; exact hn131_7) | exact hn131_7) (.int .i64 ((rd_T24 l0 x17_2).f7))).trans hx131_4
                   replace hx131_5 := (zP (p := ⟨gb130, 7, none⟩) (by first | (rw [add_block]; exact hn131_7) | (show (Addr.add _ _).block ≠ _; rw [add_block]; exact hn131_7) | exact hn131_7) (.int .i64 ((rd_T24 l0 x17_2).f7))).trans hx131_5
                   replace hx131_6 := (zP (p := ⟨gb130, 7, none⟩) (by first | (rw [add_block]; exact hn131_7) | (show (Addr.add _ _).block ≠ _; rw [add_block]; exact hn131_7) | exact hn131_7) (.int .i64 ((rd_T24 l0 x17_2).f7))).trans hx131_6
                   replace hx131_7 := (zP (p := ⟨gb130, 7, none⟩) (by first | (rw [add_block]; exact hn131_7) | (show (Addr.add _ _).block ≠ _; rw [add_block]; exact hn131_7) | exact hn131_7) (.int .i64 ((rd_T24 l0 x17_2).f7))).trans hx131_7
                   clear hn131_0
                   clear hn131_1
                   clear hn131_2
                   clear hn131_3
                   clear hn131_4
                   clear hn131_5
                   clear hn131_6
                   clear hn131_7
                   replace p131 := eq_true p131
                   replace q131 := eq_true q131
                   go_wp2
                   repeat (go_quiet (fail); try go_wp2)
                   go_meet
                   case rel => exact ⟨_, (true), (by first | rfl | (simp; done) | (simp [*]; done)), H', ⟨by have := HJ2.out; have := HK2.out; first | omega | exact Nat.le_refl _⟩, ⟨by (with_reducible repeat (first | refine zE ?_ _ | refine zF ?_ | refine zD ?_ _)); refine blk_put (cs := #[.int .i64 ((rd_T24 l0 x17_2).f0), .int .i64 ((rd_T24 l0 x17_2).f1), .int .i64 ((rd_T24 l0 x17_2).f2), .int .i64 ((rd_T24 l0 x17_2).f3), .int .i64 ((rd_T24 l0 x17_2).f4), .int .i64 ((rd_T24 l0 x17_2).f5), .int .i64 ((rd_T24 l0 x17_2).f6), .int .i64 0]) ?_ 7 _ rfl; (with_reducible repeat (first | refine zE ?_ _ | refine zF ?_ | refine zD ?_ _)); refine blk_put (cs := #[.int .i64 ((rd_T24 l0 x17_2).f0), .int .i64 ((rd_T24 l0 x17_2).f1), .int .i64 ((rd_T24 l0 x17_2).f2), .int .i64 ((rd_T24 l0 x17_2).f3), .int .i64 ((rd_T24 l0 x17_2).f4), .int .i64 ((rd_T24 l0 x17_2).f5), .int .i64 0, .int .i64 0]) ?_ 6 _ rfl; (with_reducible repeat (first | refine zE ?_ _ | refine zF ?_ | refine zD ?_ _)); refine blk_put (cs := #[.int .i64 ((rd_T24 l0 x17_2).f0), .int .i64 ((rd_T24 l0 x17_2).f1), .int .i64 ((rd_T24 l0 x17_2).f2), .int .i64 ((rd_T24 l0 x17_2).f3), .int .i64 ((rd_T24 l0 x17_2).f4), .int .i64 0, .int .i64 0, .int .i64 0]) ?_ 5 _ rfl; (with_reducible repeat (first | refine zE ?_ _ | refine zF ?_ | refine zD ?_ _)); refine blk_put (cs := #[.int .i64 ((rd_T24 l0 x17_2).f0), .int .i64 ((rd_T24 l0 x17_2).f1), .int .i64 ((rd_T24 l0 x17_2).f2), .int .i64 ((rd_T24 l0 x17_2).f3), .int .i64 0, .int .i64 0, .int .i64 0, .int .i64 0]) ?_ 4 _ rfl; (with_reducible repeat (first | refine zE ?_ _ | refine zF ?_ | refine zD ?_ _)); refine blk_put (cs := #[.int .i64 ((rd_T24 l0 x17_2).f0), .int .i64 ((rd_T24 l0 x17_2).f1), .int .i64 ((rd_T24 l0 x17_2).f2), .int .i64 0, .int .i64 0, .int .i64 0, .int .i64 0, .int .i64 0]) ?_ 3 _ rfl; (with_reducible repeat (first | refine zE ?_ _ | refine zF ?_ | refine zD ?_ _)); refine blk_put (cs := #[.int .i64 ((rd_T24 l0 x17_2).f0), .int .i64 ((rd_T24 l0 x17_2).f1), .int .i64 0, .int .i64 0, .int .i64 0, .int .i64 0, .int .i64 0, .int .i64 0]) ?_ 2 _ rfl; (with_reducible repeat (first | refine zE ?_ _ | refine zF ?_ | refine zD ?_ _)); refine blk_put (cs := #[.int .i64 ((rd_T24 l0 x17_2).f0), .int .i64 0, .int .i64 0, .int .i64 0, .int .i64 0, .int .i64 0, .int .i64 0, .int .i64 0]) ?_ 1 _ rfl; (with_reducible repeat (first | refine zE ?_ _ | refine zF ?_ | refine zD ?_ _)); refine blk_put (cs := #[.int .i64 0, .int .i64 0, .int .i64 0, .int .i64 0, .int .i64 0, .int .i64 0, .int .i64 0, .int .i64 0]) ?_ 0 _ rfl; (with_reducible repeat (first | refine zE ?_ _ | refine zF ?_ | refine zD ?_ _)); exact BK130.out⟩, ⟨by repeat (first | (with_reducible first | exact HB.out | apply zA | apply zB | apply zC | refine below_set ?_ GE130.out) | exact HB.out)⟩⟩
                  ·rw [if_neg c25] at H
                   have c25b0 : decide (((rd_T24 l0 x17_2).f1) < 1) = false := decide_eq_false c25
                   clear c25
                   have H' := Aside0.mk H
                   clear H
                   have hcz27_0 : w11.cell? ⟨gb130, 0, none⟩ = some (.int .i64 0) := (zQ BK130.out 0).trans rfl
                   have hcz27_1 : w11.cell? ⟨gb130, 1, none⟩ = some (.int .i64 0) := (zQ BK130.out 1).trans rfl
                   have hcz27_2 : w11.cell? ⟨gb130, 2, none⟩ = some (.int .i64 0) := (zQ BK130.out 2).trans rfl
                   have hcz27_3 : w11.cell? ⟨gb130, 3, none⟩ = some (.int .i64 0) := (zQ BK130.out 3).trans rfl
                   have hcz27_4 : w11.cell? ⟨gb130, 4, none⟩ = some (.int .i64 0) := (zQ BK130.out 4).trans rfl
                   have hcz27_5 : w11.cell? ⟨gb130, 5, none⟩ = some (.int .i64 0) := (zQ BK130.out 5).trans rfl
                   have hcz27_6 : w11.cell? ⟨gb130, 6, none⟩ = some (.int .i64 0) := (zQ BK130.out 6).trans rfl
                   have hcz27_7 : w11.cell? ⟨gb130, 7, none⟩ = some (.int .i64 0) := (zQ BK130.out 7).trans rfl
                   have hfz27_0 := blk_frozen BK130.out 0
                   have hfz27_1 := blk_frozen BK130.out 1
                   have hfz27_2 := blk_frozen BK130.out 2
                   have hfz27_3 := blk_frozen BK130.out 3
                   have hfz27_4 := blk_frozen BK130.out 4
                   have hfz27_5 := blk_frozen BK130.out 5
                   have hfz27_6 := blk_frozen BK130.out 6
                   have hfz27_7 := blk_frozen BK130.out 7
                   have p131 : 0 ≤ ((ji20) : Int) := zX (by first | (with_reducible assumption) | assumption)
                   have q131 : (ji20) < (l0.length : Int) := zX (by first | (with_reducible assumption) | assumption)
                   obtain ⟨ad131, e131, hx131_0, hx131_1, hx131_2, hx131_3, hx131_4, hx131_5, hx131_6, hx131_7⟩ := at_T24 HR0.out (ji20) p131 q131
                   obtain rfl : ad129 = ad131 := (by injection e131)
                   have hn131_0 : ad129.block ≠ gb130 := Nat.ne_of_lt (zS (by have := zR _ _ hx131_0; first | rwa [add_block] at this | exact this) GW130.out)
                   have hn131_1 : ad129.block ≠ gb130 := Nat.ne_of_lt (zS (by have := zR _ _ hx131_0; first | rwa [add_block] at this | exact this) GW130.out)
                   have hn131_2 : ad129.block ≠ gb130 := Nat.ne_of_lt (zS (by have := zR _ _ hx131_0; first | rwa [add_block] at this | exact this) GW130.out)
                   have hn131_3 : ad129.block ≠ gb130 := Nat.ne_of_lt (zS (by have := zR _ _ hx131_0; first | rwa [add_block] at this | exact this) GW130.out)
                   have hn131_4 : ad129.block ≠ gb130 := Nat.ne_of_lt (zS (by have := zR _ _ hx131_0; first | rwa [add_block] at this | exact this) GW130.out)
                   have hn131_5 : ad129.block ≠ gb130 := Nat.ne_of_lt (zS (by have := zR _ _ hx131_0; first | rwa [add_block] at this | exact this) GW130.out)
                   have hn131_6 : ad129.block ≠ gb130 := Nat.ne_of_lt (zS (by have := zR _ _ hx131_0; first | rwa [add_block] at this | exact this) GW130.out)
                   have hn131_7 : ad129.block ≠ gb130 := Nat.ne_of_lt (zS (by have := zR _ _ hx131_0; first | rwa [add_block] at this | exact this) GW130.out)
                   replace hx131_0 := (HB.out.cell (zR w _ hx131_0)).trans hx131_0
                   replace hx131_1 := (HB.out.cell (zR w _ hx131_1)).trans hx131_1
                   replace hx131_2 := (HB.out.cell (zR w _ hx131_2)).trans hx131_2
                   replace hx131_3 := (HB.out.cell (zR w _ hx131_3)).trans hx131_3
                   replace hx131_4 := (HB.out.cell (zR w _ hx131_4)).trans hx131_4
                   replace hx131_5 := (HB.out.cell (zR w _ hx131_5)).trans hx131_5
                   replace hx131_6 := (HB.out.cell (zR w _ hx131_6)).trans hx131_6
                   replace hx131_7 := (HB.out.cell (zR w _ hx131_7)).trans hx131_7
                   replace hx131_0 := (zP (p := ⟨gb130, 0, none⟩) (by first | (rw [add_block]; exact hn131_0) | (show (Addr.add _ _).block ≠ _; rw [add_block]; exact hn131_0) | exact hn131_0) (.int .i64 ((rd_T24 l0 x17_2).f0))).trans hx131_0
                   replace hx131_1 := (zP (p := ⟨gb130, 0, none⟩) (by first | (rw [add_block]; exact hn131_0) | (show (Addr.add _ _).block ≠ _; rw [add_block]; exact hn131_0) | exact hn131_0) (.int .i64 ((rd_T24 l0 x17_2).f0))).trans hx131_1
                   replace hx131_2 := (zP (p := ⟨gb130, 0, none⟩) (by first | (rw [add_block]; exact hn131_0) | (show (Addr.add _ _).block ≠ _; rw [add_block]; exact hn131_0) | exact hn131_0) (.int .i64 ((rd_T24 l0 x17_2).f0))).trans hx131_2
                   replace hx131_3 := (zP (p := ⟨gb130, 0, none⟩) (by first | (rw [add_block]; exact hn131_0) | (show (Addr.add _ _).block ≠ _; rw [add_block]; exact hn131_0) | exact hn131_0) (.int .i64 ((rd_T24 l0 x17_2).f0))).trans hx131_3
                   replace hx131_4 := (zP (p := ⟨gb130, 0, none⟩) (by first | (rw [add_block]; exact hn131_0) | (show (Addr.add _ _).block ≠ _; rw [add_block]; exact hn131_0) | exact hn131_0) (.int .i64 ((rd_T24 l0 x17_2).f0))).trans hx131_4
                   replace hx131_5 := (zP (p := ⟨gb130, 0, none⟩) (by first | (rw [add_block]; exact hn131_0) | (show (Addr.add _ _).block ≠ _; rw [add_block]; exact hn131_0) | exact hn131_0) (.int .i64 ((rd_T24 l0 x17_2).f0))).trans hx131_5
                   replace hx131_6 := (zP (p := ⟨gb130, 0, none⟩) (by first | (rw [add_block]; exact hn131_0) | (show (Addr.add _ _).block ≠ _; rw [add_block]; exact hn131_0) | exact hn131_0) (.int .i64 ((rd_T24 l0 x17_2).f0))).trans hx131_6
                   replace hx131_7 := (zP (p := ⟨gb130, 0, none⟩) (by first | (rw [add_block]; exact hn131_0) | (show (Addr.add _ _).block ≠ _; rw [add_block]; exact hn131_0) | exact hn131_0) (.int .i64 ((rd_T24 l0 x17_2).f0))).trans hx131_7
                   replace hx131_0 := (zP (p := ⟨gb130, 1, none⟩) (by first | (rw [add_block]; exact hn131_1) | (show (Addr.add _ _).block ≠ _; rw [add_block]; exact hn131_1) | exact hn131_1) (.int .i64 ((rd_T24 l0 x17_2).f1))).trans hx131_0
                   replace hx131_1 := (zP (p := ⟨gb130, 1, none⟩) (by first | (rw [add_block]; exact hn131_1) | (show (Addr.add _ _).block ≠ _; rw [add_block]; exact hn131_1) | exact hn131_1) (.int .i64 ((rd_T24 l0 x17_2).f1))).trans hx131_1
                   replace hx131_2 := (zP (p := ⟨gb130, 1, none⟩) (by first | (rw [add_block]; exact hn131_1) | (show (Addr.add _ _).block ≠ _; rw [add_block]; exact hn131_1) | exact hn131_1) (.int .i64 ((rd_T24 l0 x17_2).f1))).trans hx131_2
                   replace hx131_3 := (zP (p := ⟨gb130, 1, none⟩) (by first | (rw [add_block]; exact hn131_1) | (show (Addr.add _ _).block ≠ _; rw [add_block]; exact hn131_1) | exact hn131_1) (.int .i64 ((rd_T24 l0 x17_2).f1))).trans hx131_3
                   replace hx131_4 := (zP (p := ⟨gb130, 1, none⟩) (by first | (rw [add_block]; exact hn131_1) | (show (Addr.add _ _).block ≠ _; rw [add_block]; exact hn131_1) | exact hn131_1) (.int .i64 ((rd_T24 l0 x17_2).f1))).trans hx131_4
                   replace hx131_5 := (zP (p := ⟨gb130, 1, none⟩) (by first | (rw [add_block]; exact hn131_1) | (show (Addr.add _ _).block ≠ _; rw [add_block]; exact hn131_1) | exact hn131_1) (.int .i64 ((rd_T24 l0 x17_2).f1))).trans hx131_5
                   replace hx131_6 := (zP (p := ⟨gb130, 1, none⟩) (by first | (rw [add_block]; exact hn131_1) | (show (Addr.add _ _).block ≠ _; rw [add_block]; exact hn131_1) | exact hn131_1) (.int .i64 ((rd_T24 l0 x17_2).f1))).trans hx131_6
                   replace hx131_7 := (zP (p := ⟨gb130, 1, none⟩) (by first | (rw [add_block]; exact hn131_1) | (show (Addr.add _ _).block ≠ _; rw [add_block]; exact hn131_1) | exact hn131_1) (.int .i64 ((rd_T24 l0 x17_2).f1))).trans hx131_7
                   replace hx131_0 := (zP (p := ⟨gb130, 2, none⟩) (by first | (rw [add_block]; exact hn131_2) | (show (Addr.add _ _).block ≠ _; rw [add_block]; exact hn131_2) | exact hn131_2) (.int .i64 ((rd_T24 l0 x17_2).f2))).trans hx131_0
                   replace hx131_1 := (zP (p := ⟨gb130, 2, none⟩) (by first | (rw [add_block]; exact hn131_2) | (show (Addr.add _ _).block ≠ _; rw [add_block]; exact hn131_2) | exact hn131_2) (.int .i64 ((rd_T24 l0 x17_2).f2))).trans hx131_1
                   replace hx131_2 := (zP (p := ⟨gb130, 2, none⟩) (by first | (rw [add_block]; exact hn131_2) | (show (Addr.add _ _).block ≠ _; rw [add_block]; exact hn131_2) | exact hn131_2) (.int .i64 ((rd_T24 l0 x17_2).f2))).trans hx131_2
                   replace hx131_3 := (zP (p := ⟨gb130, 2, none⟩) (by first | (rw [add_block]; exact hn131_2) | (show (Addr.add _ _).block ≠ _; rw [add_block]; exact hn131_2) | exact hn131_2) (.int .i64 ((rd_T24 l0 x17_2).f2))).trans hx131_3
                   replace hx131_4 := (zP (p := ⟨gb130, 2, none⟩) (by first | (rw [add_block]; exact hn131_2) | (show (Addr.add _ _).block ≠ _; rw [add_block]; exact hn131_2) | exact hn131_2) (.int .i64 ((rd_T24 l0 x17_2).f2))).trans hx131_4
                   replace hx131_5 := (zP (p := ⟨gb130, 2, none⟩) (by first | (rw [add_block]; exact hn131_2) | (show (Addr.add _ _).block ≠ _; rw [add_block]; exact hn131_2) | exact hn131_2) (.int .i64 ((rd_T24 l0 x17_2).f2))).trans hx131_5
                   replace hx131_6 := (zP (p := ⟨gb130, 2, none⟩) (by first | (rw [add_block]; exact hn131_2) | (show (Addr.add _ _).block ≠ _; rw [add_block]; exact hn131_2) | exact hn131_2) (.int .i64 ((rd_T24 l0 x17_2).f2))).trans hx131_6
                   replace hx131_7 := (zP (p := ⟨gb130, 2, none⟩) (by first | (rw [add_block]; exact hn131_2) | (show (Addr.add _ _).block ≠ _; rw [add_block]; exact hn131_2) | exact hn131_2) (.int .i64 ((rd_T24 l0 x17_2).f2))).trans hx131_7
                   replace hx131_0 := (zP (p := ⟨gb130, 3, none⟩) (by first | (rw [add_block]; exact hn131_3) | (show (Addr.add _ _).block ≠ _; rw [add_block]; exact hn131_3) | exact hn131_3) (.int .i64 ((rd_T24 l0 x17_2).f3))).trans hx131_0
                   replace hx131_1 := (zP (p := ⟨gb130, 3, none⟩) (by first | (rw [add_block]; exact hn131_3) | (show (Addr.add _ _).block ≠ _; rw [add_block]; exact hn131_3) | exact hn131_3) (.int .i64 ((rd_T24 l0 x17_2).f3))).trans hx131_1
                   replace hx131_2 := (zP (p := ⟨gb130, 3, none⟩) (by first | (rw [add_block]; exact hn131_3) | (show (Addr.add _ _).block ≠ _; rw [add_block]; exact hn131_3) | exact hn131_3) (.int .i64 ((rd_T24 l0 x17_2).f3))).trans hx131_2
                   replace hx131_3 := (zP (p := ⟨gb130, 3, none⟩) (by first | (rw [add_block]; exact hn131_3) | (show (Addr.add _ _).block ≠ _; rw [add_block]; exact hn131_3) | exact hn131_3) (.int .i64 ((rd_T24 l0 x17_2).f3))).trans hx131_3
                   replace hx131_4 := (zP (p := ⟨gb130, 3, none⟩) (by first | (rw [add_block]; exact hn131_3) | (show (Addr.add _ _).block ≠ _; rw [add_block]; exact hn131_3) | exact hn131_3) (.int .i64 ((rd_T24 l0 x17_2).f3))).trans hx131_4
                   replace hx131_5 := (zP (p := ⟨gb130, 3, none⟩) (by first | (rw [add_block]; exact hn131_3) | (show (Addr.add _ _).block ≠ _; rw [add_block]; exact hn131_3) | exact hn131_3) (.int .i64 ((rd_T24 l0 x17_2).f3))).trans hx131_5
                   replace hx131_6 := (zP (p := ⟨gb130, 3, none⟩) (by first | (rw [add_block]; exact hn131_3) | (show (Addr.add _ _).block ≠ _; rw [add_block]; exact hn131_3) | exact hn131_3) (.int .i64 ((rd_T24 l0 x17_2).f3))).trans hx131_6
                   replace hx131_7 := (zP (p := ⟨gb130, 3, none⟩) (by first | (rw [add_block]; exact hn131_3) | (show (Addr.add _ _).block ≠ _; rw [add_block]; exact hn131_3) | exact hn131_3) (.int .i64 ((rd_T24 l0 x17_2).f3))).trans hx131_7
                   replace hx131_0 := (zP (p := ⟨gb130, 4, none⟩) (by first | (rw [add_block]; exact hn131_4) | (show (Addr.add _ _).block ≠ _; rw [add_block]; exact hn131_4) | exact hn131_4) (.int .i64 ((rd_T24 l0 x17_2).f4))).trans hx131_0
                   replace hx131_1 := (zP (p := ⟨gb130, 4, none⟩) (by first | (rw [add_block]; exact hn131_4) | (show (Addr.add _ _).block ≠ _; rw [add_block]; exact hn131_4) | exact hn131_4) (.int .i64 ((rd_T24 l0 x17_2).f4))).trans hx131_1
                   replace hx131_2 := (zP (p := ⟨gb130, 4, none⟩) (by first | (rw [add_block]; exact hn131_4) | (show (Addr.add _ _).block ≠ _; rw [add_block]; exact hn131_4) | exact hn131_4) (.int .i64 ((rd_T24 l0 x17_2).f4))).trans hx131_2
                   replace hx131_3 := (zP (p := ⟨gb130, 4, none⟩) (by first | (rw [add_block]; exact hn131_4) | (show (Addr.add _ _).block ≠ _; rw [add_block]; exact hn131_4) | exact hn131_4) (.int .i64 ((rd_T24 l0 x17_2).f4))).trans hx131_3
                   replace hx131_4 := (zP (p := ⟨gb130, 4, none⟩) (by first | (rw [add_block]; exact hn131_4) | (show (Addr.add _ _).block ≠ _; rw [add_block]; exact hn131_4) | exact hn131_4) (.int .i64 ((rd_T24 l0 x17_2).f4))).trans hx131_4
                   replace hx131_5 := (zP (p := ⟨gb130, 4, none⟩) (by first | (rw [add_block]; exact hn131_4) | (show (Addr.add _ _).block ≠ _; rw [add_block]; exact hn131_4) | exact hn131_4) (.int .i64 ((rd_T24 l0 x17_2).f4))).trans hx131_5
                   replace hx131_6 := (zP (p := ⟨gb130, 4, none⟩) (by first | (rw [add_block]; exact hn131_4) | (show (Addr.add _ _).block ≠ _; rw [add_block]; exact hn131_4) | exact hn131_4) (.int .i64 ((rd_T24 l0 x17_2).f4))).trans hx131_6
                   replace hx131_7 := (zP (p := ⟨gb130, 4, none⟩) (by first | (rw [add_block]; exact hn131_4) | (show (Addr.add _ _).block ≠ _; rw [add_block]; exact hn131_4) | exact hn131_4) (.int .i64 ((rd_T24 l0 x17_2).f4))).trans hx131_7
                   replace hx131_0 := (zP (p := ⟨gb130, 5, none⟩) (by first | (rw [add_block]; exact hn131_5) | (show (Addr.add _ _).block ≠ _; rw [add_block]; exact hn131_5) | exact hn131_5) (.int .i64 ((rd_T24 l0 x17_2).f5))).trans hx131_0
                   replace hx131_1 := (zP (p := ⟨gb130, 5, none⟩) (by first | (rw [add_block]; exact hn131_5) | (show (Addr.add _ _).block ≠ _; rw [add_block]; exact hn131_5) | exact hn131_5) (.int .i64 ((rd_T24 l0 x17_2).f5))).trans hx131_1
                   replace hx131_2 := (zP (p := ⟨gb130, 5, none⟩) (by first | (rw [add_block]; exact hn131_5) | (show (Addr.add _ _).block ≠ _; rw [add_block]; exact hn131_5) | exact hn131_5) (.int .i64 ((rd_T24 l0 x17_2).f5))).trans hx131_2
                   replace hx131_3 := (zP (p := ⟨gb130, 5, none⟩) (by first | (rw [add_block]; exact hn131_5) | (show (Addr.add _ _).block ≠ _; rw [add_block]; exact hn131_5) | exact hn131_5) (.int .i64 ((rd_T24 l0 x17_2).f5))).trans hx131_3
                   replace hx131_4 := (zP (p := ⟨gb130, 5, none⟩) (by first | (rw [add_block]; exact hn131_5) | (show (Addr.add _ _).block ≠ _; rw [add_block]; exact hn131_5) | exact hn131_5) (.int .i64 ((rd_T24 l0 x17_2).f5))).trans hx131_4
                   replace hx131_5 := (zP (p := ⟨gb130, 5, none⟩) (by first | (rw [add_block]; exact hn131_5) | (show (Addr.add _ _).block ≠ _; rw [add_block]; exact hn131_5) | exact hn131_5) (.int .i64 ((rd_T24 l0 x17_2).f5))).trans hx131_5
                   replace hx131_6 := (zP (p := ⟨gb130, 5, none⟩) (by first | (rw [add_block]; exact hn131_5) | (show (Addr.add _ _).block ≠ _; rw [add_block]; exact hn131_5) | exact hn131_5) (.int .i64 ((rd_T24 l0 x17_2).f5))).trans hx131_6
                   replace hx131_7 := (zP (p := ⟨gb130, 5, none⟩) (by first | (rw [add_block]; exact hn131_5) | (show (Addr.add _ _).block ≠ _; rw [add_block]; exact hn131_5) | exact hn131_5) (.int .i64 ((rd_T24 l0 x17_2).f5))).trans hx131_7
                   replace hx131_0 := (zP (p := ⟨gb130, 6, none⟩) (by first | (rw [add_block]; exact hn131_6) | (show (Addr.add _ _).block ≠ _; rw [add_block]; exact hn131_6) | exact hn131_6) (.int .i64 ((rd_T24 l0 x17_2).f6))).trans hx131_0
                   replace hx131_1 := (zP (p := ⟨gb130, 6, none⟩) (by first | (rw [add_block]; exact hn131_6) | (show (Addr.add _ _).block ≠ _; rw [add_block]; exact hn131_6) | exact hn131_6) (.int .i64 ((rd_T24 l0 x17_2).f6))).trans hx131_1
                   replace hx131_2 := (zP (p := ⟨gb130, 6, none⟩) (by first | (rw [add_block]; exact hn131_6) | (show (Addr.add _ _).block ≠ _; rw [add_block]; exact hn131_6) | exact hn131_6) (.int .i64 ((rd_T24 l0 x17_2).f6))).trans hx131_2
                   replace hx131_3 := (zP (p := ⟨gb130, 6, none⟩) (by first | (rw [add_block]; exact hn131_6) | (show (Addr.add _ _).block ≠ _; rw [add_block]; exact hn131_6) | exact hn131_6) (.int .i64 ((rd_T24 l0 x17_2).f6))).trans hx131_3
                   replace hx131_4 := (zP (p := ⟨gb130, 6, none⟩) (by first | (rw [add_block]; exact hn131_6) | (show (Addr.add _ _).block ≠ _; rw [add_block]; exact hn131_6) | exact hn131_6) (.int .i64 ((rd_T24 l0 x17_2).f6))).trans hx131_4
                   replace hx131_5 := (zP (p := ⟨gb130, 6, none⟩) (by first | (rw [add_block]; exact hn131_6) | (show (Addr.add _ _).block ≠ _; rw [add_block]; exact hn131_6) | exact hn131_6) (.int .i64 ((rd_T24 l0 x17_2).f6))).trans hx131_5
                   replace hx131_6 := (zP (p := ⟨gb130, 6, none⟩) (by first | (rw [add_block]; exact hn131_6) | (show (Addr.add _ _).block ≠ _; rw [add_block]; exact hn131_6) | exact hn131_6) (.int .i64 ((rd_T24 l0 x17_2).f6))).trans hx131_6
                   replace hx131_7 := (zP (p := ⟨gb130, 6, none⟩) (by first | (rw [add_block]; exact hn131_6) | (show (Addr.add _ _).block ≠ _; rw [add_block]; exact hn131_6) | exact hn131_6) (.int .i64 ((rd_T24 l0 x17_2).f6))).trans hx131_7
                   replace hx131_0 := (zP (p := ⟨gb130, 7, none⟩) (by first | (rw [add_block]; exact hn131_7) | (show (Addr.add _ _).block ≠ _; rw [add_block]; exact hn131_7) | exact hn131_7) (.int .i64 ((rd_T24 l0 x17_2).f7))).trans hx131_0
                   replace hx131_1 := (zP (p := ⟨gb130, 7, none⟩) (by first | (rw [add_block]; exact hn131_7) | (show (Addr.add _ _).block ≠ _; rw [add_block]; exact hn131_7) | exact hn131_7) (.int .i64 ((rd_T24 l0 x17_2).f7))).trans hx131_1
                   replace hx131_2 := (zP (p := ⟨gb130, 7, none⟩) (by first | (rw [add_block]; exact hn131_7) | (show (Addr.add _ _).block ≠ _; rw [add_block]; exact hn131_7) | exact hn131_7) (.int .i64 ((rd_T24 l0 x17_2).f7))).trans hx131_2
                   replace hx131_3 := (zP (p := ⟨gb130, 7, none⟩) (by first | (rw [add_block]; exact hn131_7) | (show (Addr.add _ _).block ≠ _; rw [add_block]; exact hn131_7) | exact hn131_7) (.int .i64 ((rd_T24 l0 x17_2).f7))).trans hx131_3
                   replace hx131_4 := (zP (p := ⟨gb130, 7, none⟩) (by first | (rw [add_block]; exact hn131_7) | (show (Addr.add _ _).block ≠ _; rw [add_block]; exact hn131_7) | exact hn131_7) (.int .i64 ((rd_T24 l0 x17_2).f7))).trans hx131_4
                   replace hx131_5 := (zP (p := ⟨gb130, 7, none⟩) (by first | (rw [add_block]; exact hn131_7) | (show (Addr.add _ _).block ≠ _; rw [add_block]; exact hn131_7) | exact hn131_7) (.int .i64 ((rd_T24 l0 x17_2).f7))).trans hx131_5
                   replace hx131_6 := (zP (p := ⟨gb130, 7, none⟩) (by first | (rw [add_block]; exact hn131_7) | (show (Addr.add _ _).block ≠ _; rw [add_block]; exact hn131_7) | exact hn131_7) (.int .i64 ((rd_T24 l0 x17_2).f7))).trans hx131_6
                   replace hx131_7 := (zP (p := ⟨gb130, 7, none⟩) (by first | (rw [add_block]; exact hn131_7) | (show (Addr.add _ _).block ≠ _; rw [add_block]; exact hn131_7) | exact hn131_7) (.int .i64 ((rd_T24 l0 x17_2).f7))).trans hx131_7
                   clear hn131_0
                   clear hn131_1
                   clear hn131_2
                   clear hn131_3
                   clear hn131_4
                   clear hn131_5
                   clear hn131_6
                   clear hn131_7
                   replace p131 := eq_true p131
                   replace q131 := eq_true q131
                   go_wp2
                   repeat (go_quiet (fail); try go_wp2)
                   go_meet
                   case rel => exact ⟨_, (decide (((rd_T24 l0 x17_2).f1) > 2000)), (by first | rfl | (simp; done) | (simp [*]; done)), H', ⟨by have := HJ2.out; have := HK2.out; first | omega | exact Nat.le_refl _⟩, ⟨by (with_reducible repeat (first | refine zE ?_ _ | refine zF ?_ | refine zD ?_ _)); refine blk_put (cs := #[.int .i64 ((rd_T24 l0 x17_2).f0), .int .i64 ((rd_T24 l0 x17_2).f1), .int .i64 ((rd_T24 l0 x17_2).f2), .int .i64 ((rd_T24 l0 x17_2).f3), .int .i64 ((rd_T24 l0 x17_2).f4), .int .i64 ((rd_T24 l0 x17_2).f5), .int .i64 ((rd_T24 l0 x17_2).f6), .int .i64 0]) ?_ 7 _ rfl; (with_reducible repeat (first | refine zE ?_ _ | refine zF ?_ | refine zD ?_ _)); refine blk_put (cs := #[.int .i64 ((rd_T24 l0 x17_2).f0), .int .i64 ((rd_T24 l0 x17_2).f1), .int .i64 ((rd_T24 l0 x17_2).f2), .int .i64 ((rd_T24 l0 x17_2).f3), .int .i64 ((rd_T24 l0 x17_2).f4), .int .i64 ((rd_T24 l0 x17_2).f5), .int .i64 0, .int .i64 0]) ?_ 6 _ rfl; (with_reducible repeat (first | refine zE ?_ _ | refine zF ?_ | refine zD ?_ _)); refine blk_put (cs := #[.int .i64 ((rd_T24 l0 x17_2).f0), .int .i64 ((rd_T24 l0 x17_2).f1), .int .i64 ((rd_T24 l0 x17_2).f2), .int .i64 ((rd_T24 l0 x17_2).f3), .int .i64 ((rd_T24 l0 x17_2).f4), .int .i64 0, .int .i64 0, .int .i64 0]) ?_ 5 _ rfl; (with_reducible repeat (first | refine zE ?_ _ | refine zF ?_ | refine zD ?_ _)); refine blk_put (cs := #[.int .i64 ((rd_T24 l0 x17_2).f0), .int .i64 ((rd_T24 l0 x17_2).f1), .int .i64 ((rd_T24 l0 x17_2).f2), .int .i64 ((rd_T24 l0 x17_2).f3), .int .i64 0, .int .i64 0, .int .i64 0, .int .i64 0]) ?_ 4 _ rfl; (with_reducible repeat (first | refine zE ?_ _ | refine zF ?_ | refine zD ?_ _)); refine blk_put (cs := #[.int .i64 ((rd_T24 l0 x17_2).f0), .int .i64 ((rd_T24 l0 x17_2).f1), .int .i64 ((rd_T24 l0 x17_2).f2), .int .i64 0, .int .i64 0, .int .i64 0, .int .i64 0, .int .i64 0]) ?_ 3 _ rfl; (with_reducible repeat (first | refine zE ?_ _ | refine zF ?_ | refine zD ?_ _)); refine blk_put (cs := #[.int .i64 ((rd_T24 l0 x17_2).f0), .int .i64 ((rd_T24 l0 x17_2).f1), .int .i64 0, .int .i64 0, .int .i64 0, .int .i64 0, .int .i64 0, .int .i64 0]) ?_ 2 _ rfl; (with_reducible repeat (first | refine zE ?_ _ | refine zF ?_ | refine zD ?_ _)); refine blk_put (cs := #[.int .i64 ((rd_T24 l0 x17_2).f0), .int .i64 0, .int .i64 0, .int .i64 0, .int .i64 0, .int .i64 0, .int .i64 0, .int .i64 0]) ?_ 1 _ rfl; (with_reducible repeat (first | refine zE ?_ _ | refine zF ?_ | refine zD ?_ _)); refine blk_put (cs := #[.int .i64 0, .int .i64 0, .int .i64 0, .int .i64 0, .int .i64 0, .int .i64 0, .int .i64 0, .int .i64 0]) ?_ 0 _ rfl; (with_reducible repeat (first | refine zE ?_ _ | refine zF ?_ | refine zD ?_ _)); exact BK130.out⟩, ⟨by repeat (first | (with_reducible first | exact HB.out | apply zA | apply zB | apply zC | refine below_set ?_ GE130.out) | exact HB.out)⟩⟩
                ·rw [if_neg c22] at H
                 exact absurd H (by simp)
               ·rw [if_neg c21] at H
                exact absurd H (by simp)
              ·rw [if_neg c19] at H
               have c19b0 : decide (0 < x17_2) = false := decide_eq_false c19
               clear c19
               by_cases c28 : ((rd_T24 l0 x17_2).f1) < 1
               ·rw [if_pos c28] at H
                have c28b0 : decide (((rd_T24 l0 x17_2).f1) < 1) = true := decide_eq_true c28
                clear c28
                have H' := Aside0.mk H
                clear H
                have hcz29_0 : w11.cell? ⟨gb130, 0, none⟩ = some (.int .i64 0) := (zQ BK130.out 0).trans rfl
                have hcz29_1 : w11.cell? ⟨gb130, 1, none⟩ = some (.int .i64 0) := (zQ BK130.out 1).trans rfl
                have hcz29_2 : w11.cell? ⟨gb130, 2, none⟩ = some (.int .i64 0) := (zQ BK130.out 2).trans rfl
                have hcz29_3 : w11.cell? ⟨gb130, 3, none⟩ = some (.int .i64 0) := (zQ BK130.out 3).trans rfl
                have hcz29_4 : w11.cell? ⟨gb130, 4, none⟩ = some (.int .i64 0) := (zQ BK130.out 4).trans rfl
                have hcz29_5 : w11.cell? ⟨gb130, 5, none⟩ = some (.int .i64 0) := (zQ BK130.out 5).trans rfl
                have hcz29_6 : w11.cell? ⟨gb130, 6, none⟩ = some (.int .i64 0) := (zQ BK130.out 6).trans rfl
                have hcz29_7 : w11.cell? ⟨gb130, 7, none⟩ = some (.int .i64 0) := (zQ BK130.out 7).trans rfl
                have hfz29_0 := blk_frozen BK130.out 0
                have hfz29_1 := blk_frozen BK130.out 1
                have hfz29_2 := blk_frozen BK130.out 2
                have hfz29_3 := blk_frozen BK130.out 3
                have hfz29_4 := blk_frozen BK130.out 4
                have hfz29_5 := blk_frozen BK130.out 5
                have hfz29_6 := blk_frozen BK130.out 6
                have hfz29_7 := blk_frozen BK130.out 7
                go_wp2
                repeat (go_quiet (fail); try go_wp2)
                go_meet
                case rel => exact ⟨_, (true), (by first | rfl | (simp; done) | (simp [*]; done)), H', ⟨by have := HJ2.out; have := HK2.out; first | omega | exact Nat.le_refl _⟩, ⟨by (with_reducible repeat (first | refine zE ?_ _ | refine zF ?_ | refine zD ?_ _)); refine blk_put (cs := #[.int .i64 ((rd_T24 l0 x17_2).f0), .int .i64 ((rd_T24 l0 x17_2).f1), .int .i64 ((rd_T24 l0 x17_2).f2), .int .i64 ((rd_T24 l0 x17_2).f3), .int .i64 ((rd_T24 l0 x17_2).f4), .int .i64 ((rd_T24 l0 x17_2).f5), .int .i64 ((rd_T24 l0 x17_2).f6), .int .i64 0]) ?_ 7 _ rfl; (with_reducible repeat (first | refine zE ?_ _ | refine zF ?_ | refine zD ?_ _)); refine blk_put (cs := #[.int .i64 ((rd_T24 l0 x17_2).f0), .int .i64 ((rd_T24 l0 x17_2).f1), .int .i64 ((rd_T24 l0 x17_2).f2), .int .i64 ((rd_T24 l0 x17_2).f3), .int .i64 ((rd_T24 l0 x17_2).f4), .int .i64 ((rd_T24 l0 x17_2).f5), .int .i64 0, .int .i64 0]) ?_ 6 _ rfl; (with_reducible repeat (first | refine zE ?_ _ | refine zF ?_ | refine zD ?_ _)); refine blk_put (cs := #[.int .i64 ((rd_T24 l0 x17_2).f0), .int .i64 ((rd_T24 l0 x17_2).f1), .int .i64 ((rd_T24 l0 x17_2).f2), .int .i64 ((rd_T24 l0 x17_2).f3), .int .i64 ((rd_T24 l0 x17_2).f4), .int .i64 0, .int .i64 0, .int .i64 0]) ?_ 5 _ rfl; (with_reducible repeat (first | refine zE ?_ _ | refine zF ?_ | refine zD ?_ _)); refine blk_put (cs := #[.int .i64 ((rd_T24 l0 x17_2).f0), .int .i64 ((rd_T24 l0 x17_2).f1), .int .i64 ((rd_T24 l0 x17_2).f2), .int .i64 ((rd_T24 l0 x17_2).f3), .int .i64 0, .int .i64 0, .int .i64 0, .int .i64 0]) ?_ 4 _ rfl; (with_reducible repeat (first | refine zE ?_ _ | refine zF ?_ | refine zD ?_ _)); refine blk_put (cs := #[.int .i64 ((rd_T24 l0 x17_2).f0), .int .i64 ((rd_T24 l0 x17_2).f1), .int .i64 ((rd_T24 l0 x17_2).f2), .int .i64 0, .int .i64 0, .int .i64 0, .int .i64 0, .int .i64 0]) ?_ 3 _ rfl; (with_reducible repeat (first | refine zE ?_ _ | refine zF ?_ | refine zD ?_ _)); refine blk_put (cs := #[.int .i64 ((rd_T24 l0 x17_2).f0), .int .i64 ((rd_T24 l0 x17_2).f1), .int .i64 0, .int .i64 0, .int .i64 0, .int .i64 0, .int .i64 0, .int .i64 0]) ?_ 2 _ rfl; (with_reducible repeat (first | refine zE ?_ _ | refine zF ?_ | refine zD ?_ _)); refine blk_put (cs := #[.int .i64 ((rd_T24 l0 x17_2).f0), .int .i64 0, .int .i64 0, .int .i64 0, .int .i64 0, .int .i64 0, .int .i64 0, .int .i64 0]) ?_ 1 _ rfl; (with_reducible repeat (first | refine zE ?_ _ | refine zF ?_ | refine zD ?_ _)); refine blk_put (cs := #[.int .i64 0, .int .i64 0, .int .i64 0, .int .i64 0, .int .i64 0, .int .i64 0, .int .i64 0, .int .i64 0]) ?_ 0 _ rfl; (with_reducible repeat (first | refine zE ?_ _ | refine zF ?_ | refine zD ?_ _)); exact BK130.out⟩, ⟨by repeat (first | (with_reducible first | exact HB.out | apply zA | apply zB | apply zC | refine below_set ?_ GE130.out) | exact HB.out)⟩⟩
               ·rw [if_neg c28] at H
                have c28b0 : decide (((rd_T24 l0 x17_2).f1) < 1) = false := decide_eq_false c28
                clear c28
                have H' := Aside0.mk H
                clear H
                have hcz30_0 : w11.cell? ⟨gb130, 0, none⟩ = some (.int .i64 0) := (zQ BK130.out 0).trans rfl
                have hcz30_1 : w11.cell? ⟨gb130, 1, none⟩ = some (.int .i64 0) := (zQ BK130.out 1).trans rfl
                have hcz30_2 : w11.cell? ⟨gb130, 2, none⟩ = some (.int .i64 0) := (zQ BK130.out 2).trans rfl
                have hcz30_3 : w11.cell? ⟨gb130, 3, none⟩ = some (.int .i64 0) := (zQ BK130.out 3).trans rfl
                have hcz30_4 : w11.cell? ⟨gb130, 4, none⟩ = some (.int .i64 0) := (zQ BK130.out 4).trans rfl
                have hcz30_5 : w11.cell? ⟨gb130, 5, none⟩ = some (.int .i64 0) := (zQ BK130.out 5).trans rfl
                have hcz30_6 : w11.cell? ⟨gb130, 6, none⟩ = some (.int .i64 0) := (zQ BK130.out 6).trans rfl
                have hcz30_7 : w11.cell? ⟨gb130, 7, none⟩ = some (.int .i64 0) := (zQ BK130.out 7).trans rfl
                have hfz30_0 := blk_frozen BK130.out 0
                have hfz30_1 := blk_frozen BK130.out 1
                have hfz30_2 := blk_frozen BK130.out 2
                have hfz30_3 := blk_frozen BK130.out 3
                have hfz30_4 := blk_frozen BK130.out 4
                have hfz30_5 := blk_frozen BK130.out 5
                have hfz30_6 := blk_frozen BK130.out 6
                have hfz30_7 := blk_frozen BK130.out 7
                go_wp2
                repeat (go_quiet (fail); try go_wp2)
                go_meet
                case rel => exact ⟨_, (decide (((rd_T24 l0 x17_2).f1) > 2000)), (by first | rfl | (simp; done) | (simp [*]; done)), H', ⟨by have := HJ2.out; have := HK2.out; first | omega | exact Nat.le_refl _⟩, ⟨by (with_reducible repeat (first | refine zE ?_ _ | refine zF ?_ | refine zD ?_ _)); refine blk_put (cs := #[.int .i64 ((rd_T24 l0 x17_2).f0), .int .i64 ((rd_T24 l0 x17_2).f1), .int .i64 ((rd_T24 l0 x17_2).f2), .int .i64 ((rd_T24 l0 x17_2).f3), .int .i64 ((rd_T24 l0 x17_2).f4), .int .i64 ((rd_T24 l0 x17_2).f5), .int .i64 ((rd_T24 l0 x17_2).f6), .int .i64 0]) ?_ 7 _ rfl; (with_reducible repeat (first | refine zE ?_ _ | refine zF ?_ | refine zD ?_ _)); refine blk_put (cs := #[.int .i64 ((rd_T24 l0 x17_2).f0), .int .i64 ((rd_T24 l0 x17_2).f1), .int .i64 ((rd_T24 l0 x17_2).f2), .int .i64 ((rd_T24 l0 x17_2).f3), .int .i64 ((rd_T24 l0 x17_2).f4), .int .i64 ((rd_T24 l0 x17_2).f5), .int .i64 0, .int .i64 0]) ?_ 6 _ rfl; (with_reducible repeat (first | refine zE ?_ _ | refine zF ?_ | refine zD ?_ _)); refine blk_put (cs := #[.int .i64 ((rd_T24 l0 x17_2).f0), .int .i64 ((rd_T24 l0 x17_2).f1), .int .i64 ((rd_T24 l0 x17_2).f2), .int .i64 ((rd_T24 l0 x17_2).f3), .int .i64 ((rd_T24 l0 x17_2).f4), .int .i64 0, .int .i64 0, .int .i64 0]) ?_ 5 _ rfl; (with_reducible repeat (first | refine zE ?_ _ | refine zF ?_ | refine zD ?_ _)); refine blk_put (cs := #[.int .i64 ((rd_T24 l0 x17_2).f0), .int .i64 ((rd_T24 l0 x17_2).f1), .int .i64 ((rd_T24 l0 x17_2).f2), .int .i64 ((rd_T24 l0 x17_2).f3), .int .i64 0, .int .i64 0, .int .i64 0, .int .i64 0]) ?_ 4 _ rfl; (with_reducible repeat (first | refine zE ?_ _ | refine zF ?_ | refine zD ?_ _)); refine blk_put (cs := #[.int .i64 ((rd_T24 l0 x17_2).f0), .int .i64 ((rd_T24 l0 x17_2).f1), .int .i64 ((rd_T24 l0 x17_2).f2), .int .i64 0, .int .i64 0, .int .i64 0, .int .i64 0, .int .i64 0]) ?_ 3 _ rfl; (with_reducible repeat (first | refine zE ?_ _ | refine zF ?_ | refine zD ?_ _)); refine blk_put (cs := #[.int .i64 ((rd_T24 l0 x17_2).f0), .int .i64 ((rd_T24 l0 x17_2).f1), .int .i64 0, .int .i64 0, .int .i64 0, .int .i64 0, .int .i64 0, .int .i64 0]) ?_ 2 _ rfl; (with_reducible repeat (first | refine zE ?_ _ | refine zF ?_ | refine zD ?_ _)); refine blk_put (cs := #[.int .i64 ((rd_T24 l0 x17_2).f0), .int .i64 0, .int .i64 0, .int .i64 0, .int .i64 0, .int .i64 0, .int .i64 0, .int .i64 0]) ?_ 1 _ rfl; (with_reducible repeat (first | refine zE ?_ _ | refine zF ?_ | refine zD ?_ _)); refine blk_put (cs := #[.int .i64 0, .int .i64 0, .int .i64 0, .int .i64 0, .int .i64 0, .int .i64 0, .int .i64 0, .int .i64 0]) ?_ 0 _ rfl; (with_reducible repeat (first | refine zE ?_ _ | refine zF ?_ | refine zD ?_ _)); exact BK130.out⟩, ⟨by repeat (first | (with_reducible first | exact HB.out | apply zA | apply zB | apply zC | refine below_set ?_ GE130.out) | exact HB.out)⟩⟩
           ·rw [if_neg c14] at H
            have c14b0 : ((Int.tmod ((rd_T24 l0 x17_2).f0) a1) == 0) = false := beq_eq_false_iff_ne.mpr c14
            have c14b1 : ((Int.tmod ((rd_T24 l0 x17_2).f0) a1) != 0) = true := bne_iff_ne.mpr c14
            have H' := Aside0.mk H
            clear H
            have hcz31_0 : w11.cell? ⟨gb130, 0, none⟩ = some (.int .i64 0) := (zQ BK130.out 0).trans rfl
            have hcz31_1 : w11.cell? ⟨gb130, 1, none⟩ = some (.int .i64 0) := (zQ BK130.out 1).trans rfl
            have hcz31_2 : w11.cell? ⟨gb130, 2, none⟩ = some (.int .i64 0) := (zQ BK130.out 2).trans rfl
            have hcz31_3 : w11.cell? ⟨gb130, 3, none⟩ = some (.int .i64 0) := (zQ BK130.out 3).trans rfl
            have hcz31_4 : w11.cell? ⟨gb130, 4, none⟩ = some (.int .i64 0) := (zQ BK130.out 4).trans rfl
            have hcz31_5 : w11.cell? ⟨gb130, 5, none⟩ = some (.int .i64 0) := (zQ BK130.out 5).trans rfl
            have hcz31_6 : w11.cell? ⟨gb130, 6, none⟩ = some (.int .i64 0) := (zQ BK130.out 6).trans rfl
            have hcz31_7 : w11.cell? ⟨gb130, 7, none⟩ = some (.int .i64 0) := (zQ BK130.out 7).trans rfl
            have hfz31_0 := blk_frozen BK130.out 0
            have hfz31_1 := blk_frozen BK130.out 1
            have hfz31_2 := blk_frozen BK130.out 2
            have hfz31_3 := blk_frozen BK130.out 3
            have hfz31_4 := blk_frozen BK130.out 4
            have hfz31_5 := blk_frozen BK130.out 5
            have hfz31_6 := blk_frozen BK130.out 6
            have hfz31_7 := blk_frozen BK130.out 7
            go_wp2
            repeat (go_quiet (fail); try go_wp2)
            go_meet
            case rel => exact ⟨_, (true), (by first | rfl | (simp; done) | (simp [*]; done)), H', ⟨by have := HJ2.out; have := HK2.out; first | omega | exact Nat.le_refl _⟩, ⟨by (with_reducible repeat (first | refine zE ?_ _ | refine zF ?_ | refine zD ?_ _)); refine blk_put (cs := #[.int .i64 ((rd_T24 l0 x17_2).f0), .int .i64 ((rd_T24 l0 x17_2).f1), .int .i64 ((rd_T24 l0 x17_2).f2), .int .i64 ((rd_T24 l0 x17_2).f3), .int .i64 ((rd_T24 l0 x17_2).f4), .int .i64 ((rd_T24 l0 x17_2).f5), .int .i64 ((rd_T24 l0 x17_2).f6), .int .i64 0]) ?_ 7 _ rfl; (with_reducible repeat (first | refine zE ?_ _ | refine zF ?_ | refine zD ?_ _)); refine blk_put (cs := #[.int .i64 ((rd_T24 l0 x17_2).f0), .int .i64 ((rd_T24 l0 x17_2).f1), .int .i64 ((rd_T24 l0 x17_2).f2), .int .i64 ((rd_T24 l0 x17_2).f3), .int .i64 ((rd_T24 l0 x17_2).f4), .int .i64 ((rd_T24 l0 x17_2).f5), .int .i64 0, .int .i64 0]) ?_ 6 _ rfl; (with_reducible repeat (first | refine zE ?_ _ | refine zF ?_ | refine zD ?_ _)); refine blk_put (cs := #[.int .i64 ((rd_T24 l0 x17_2).f0), .int .i64 ((rd_T24 l0 x17_2).f1), .int .i64 ((rd_T24 l0 x17_2).f2), .int .i64 ((rd_T24 l0 x17_2).f3), .int .i64 ((rd_T24 l0 x17_2).f4), .int .i64 0, .int .i64 0, .int .i64 0]) ?_ 5 _ rfl; (with_reducible repeat (first | refine zE ?_ _ | refine zF ?_ | refine zD ?_ _)); refine blk_put (cs := #[.int .i64 ((rd_T24 l0 x17_2).f0), .int .i64 ((rd_T24 l0 x17_2).f1), .int .i64 ((rd_T24 l0 x17_2).f2), .int .i64 ((rd_T24 l0 x17_2).f3), .int .i64 0, .int .i64 0, .int .i64 0, .int .i64 0]) ?_ 4 _ rfl; (with_reducible repeat (first | refine zE ?_ _ | refine zF ?_ | refine zD ?_ _)); refine blk_put (cs := #[.int .i64 ((rd_T24 l0 x17_2).f0), .int .i64 ((rd_T24 l0 x17_2).f1), .int .i64 ((rd_T24 l0 x17_2).f2), .int .i64 0, .int .i64 0, .int .i64 0, .int .i64 0, .int .i64 0]) ?_ 3 _ rfl; (with_reducible repeat (first | refine zE ?_ _ | refine zF ?_ | refine zD ?_ _)); refine blk_put (cs := #[.int .i64 ((rd_T24 l0 x17_2).f0), .int .i64 ((rd_T24 l0 x17_2).f1), .int .i64 0, .int .i64 0, .int .i64 0, .int .i64 0, .int .i64 0, .int .i64 0]) ?_ 2 _ rfl; (with_reducible repeat (first | refine zE ?_ _ | refine zF ?_ | refine zD ?_ _)); refine blk_put (cs := #[.int .i64 ((rd_T24 l0 x17_2).f0), .int .i64 0, .int .i64 0, .int .i64 0, .int .i64 0, .int .i64 0, .int .i64 0, .int .i64 0]) ?_ 1 _ rfl; (with_reducible repeat (first | refine zE ?_ _ | refine zF ?_ | refine zD ?_ _)); refine blk_put (cs := #[.int .i64 0, .int .i64 0, .int .i64 0, .int .i64 0, .int .i64 0, .int .i64 0, .int .i64 0, .int .i64 0]) ?_ 0 _ rfl; (with_reducible repeat (first | refine zE ?_ _ | refine zF ?_ | refine zD ?_ _)); exact BK130.out⟩, ⟨by repeat (first | (with_reducible first | exact HB.out | apply zA | apply zB | apply zC | refine below_set ?_ GE130.out) | exact HB.out)⟩⟩
         case rest =>
          clear HC10
          try clear c1
          try clear p1
          try clear q1
          try clear hx1
          try clear c2
          try clear p2
          try clear c5
          try clear c6
          try clear p6
          try clear c7
          try clear c7b0
          try clear c8
          try clear c8b0
          try clear c9
          try clear c9b0
          try clear p12
          try clear q12
          try clear hx12
          try clear c13
          try clear c13b0
          try clear c13b1
          try clear p13
          try clear q13
          try clear hx13
          try clear c14
          try clear c14b0
          try clear c14b1
          try clear c15
          try clear c15b0
          try clear c17
          try clear c17b0
          try clear c19
          try clear c19b0
          try clear c21
          try clear c21b0
          try clear c22
          try clear c22b0
          try clear c23
          try clear c23b0
          try clear c25
          try clear c25b0
          try clear c28
          try clear c28b0
          try clear hcz12_0
          try clear hcz12_1
          try clear hcz12_2
          try clear hcz12_3
          try clear hcz12_4
          try clear hcz12_5
          try clear hcz12_6
          try clear hcz12_7
          try clear hcz16_0
          try clear hcz16_1
          try clear hcz16_2
          try clear hcz16_3
          try clear hcz16_4
          try clear hcz16_5
          try clear hcz16_6
          try clear hcz16_7
          try clear hcz18_0
          try clear hcz18_1
          try clear hcz18_2
          try clear hcz18_3
          try clear hcz18_4
          try clear hcz18_5
          try clear hcz18_6
          try clear hcz18_7
          try clear hcz24_0
          try clear hcz24_1
          try clear hcz24_2
          try clear hcz24_3
          try clear hcz24_4
          try clear hcz24_5
          try clear hcz24_6
          try clear hcz24_7
          try clear hcz26_0
          try clear hcz26_1
          try clear hcz26_2
          try clear hcz26_3
          try clear hcz26_4
          try clear hcz26_5
          try clear hcz26_6
          try clear hcz26_7
          try clear hcz27_0
          try clear hcz27_1
          try clear hcz27_2
          try clear hcz27_3
          try clear hcz27_4
          try clear hcz27_5
          try clear hcz27_6
          try clear hcz27_7
          try clear hcz29_0
          try clear hcz29_1
          try clear hcz29_2
          try clear hcz29_3
          try clear hcz29_4
          try clear hcz29_5
          try clear hcz29_6
          try clear hcz29_7
          try clear hcz30_0
          try clear hcz30_1
          try clear hcz30_2
          try clear hcz30_3
          try clear hcz30_4
          try clear hcz30_5
          try clear hcz30_6
          try clear hcz30_7
          try clear hcz31_0
          try clear hcz31_1
          try clear hcz31_2
          try clear hcz31_3
          try clear hcz31_4
          try clear hcz31_5
          try clear hcz31_6
          try clear hcz31_7
          try clear hfz12_0
          try clear hfz12_1
          try clear hfz12_2
          try clear hfz12_3
          try clear hfz12_4
          try clear hfz12_5
          try clear hfz12_6
          try clear hfz12_7
          try clear hfz16_0
          try clear hfz16_1
          try clear hfz16_2
          try clear hfz16_3
          try clear hfz16_4
          try clear hfz16_5
          try clear hfz16_6
          try clear hfz16_7
          try clear hfz18_0
          try clear hfz18_1
          try clear hfz18_2
          try clear hfz18_3
          try clear hfz18_4
          try clear hfz18_5
          try clear hfz18_6
          try clear hfz18_7
          try clear hfz24_0
          try clear hfz24_1
          try clear hfz24_2
          try clear hfz24_3
          try clear hfz24_4
          try clear hfz24_5
          try clear hfz24_6
          try clear hfz24_7
          try clear hfz26_0
          try clear hfz26_1
          try clear hfz26_2
          try clear hfz26_3
          try clear hfz26_4
          try clear hfz26_5
          try clear hfz26_6
          try clear hfz26_7
          try clear hfz27_0
          try clear hfz27_1
          try clear hfz27_2
          try clear hfz27_3
          try clear hfz27_4
          try clear hfz27_5
          try clear hfz27_6
          try clear hfz27_7
          try clear hfz29_0
          try clear hfz29_1
          try clear hfz29_2
          try clear hfz29_3
          try clear hfz29_4
          try clear hfz29_5
          try clear hfz29_6
          try clear hfz29_7
          try clear hfz30_0
          try clear hfz30_1
          try clear hfz30_2
          try clear hfz30_3
          try clear hfz30_4
          try clear hfz30_5
          try clear hfz30_6
          try clear hfz30_7
          try clear hfz31_0
          try clear hfz31_1
          try clear hfz31_2
          try clear hfz31_3
          try clear hfz31_4
          try clear hfz31_5
          try clear hfz31_6
          try clear hfz31_7
          try clear hx129_0
          try clear hx129_1
          try clear hx129_2
          try clear hx129_3
          try clear hx129_4
          try clear hx129_5
          try clear hx129_6
          try clear hx129_7
          try clear hx131_0
          try clear hx131_1
          try clear hx131_2
          try clear hx131_3
          try clear hx131_4
          try clear hx131_5
          try clear hx131_6
          try clear hx131_7
          try clear p129
          try clear p131
          try clear p2
          try clear q129
          try clear q131
          obtain ⟨kq, x61_9, rfl, HA, HJ9, BK130, HB⟩ := hcut
          cases kq with
          | zero => exact absurd HA.out (by simp [spec_GoodAggs.j2])
          | succ kj9 =>
           have H := HA.out
           clear HA
           simp only [spec_GoodAggs.j2] at H
           by_cases c32 : x61_9 = true
           ·subst c32
            have H1 : (some false) = some r := by rw [if_pos rfl] at H; exact H
            clear H
            have H := H1
            clear H1
            obtain rfl := Option.some.inj H
            go_wp2
            repeat (go_quiet (fail); try go_wp2)
            go_ret
            exact ⟨by first | rfl | (simp [errW_none, errW_some] <;> rfl) | (simp [*, errW_none, errW_some] <;> rfl), by repeat (first | (with_reducible first | exact HB.out | apply zA | apply zB | apply zC | refine below_set ?_ GE130.out) | exact HB.out)⟩
           ·replace c32 := Bool.eq_false_iff.mpr c32
            subst c32
            have H1 : (if ((rd_T24 l0 x17_2).f5) < ((rd_T24 l0 x17_2).f3) then (spec_GoodAggs.j3 kj9 l0 a1 l0 (l0.length : Int) x17_2 true) else (if ((rd_T24 l0 x17_2).f5) > ((rd_T24 l0 x17_2).f4) then (spec_GoodAggs.j3 kj9 l0 a1 l0 (l0.length : Int) x17_2 true) else (if ((rd_T24 l0 x17_2).f6) < ((rd_T24 l0 x17_2).f3) then (spec_GoodAggs.j3 kj9 l0 a1 l0 (l0.length : Int) x17_2 true) else (spec_GoodAggs.j3 kj9 l0 a1 l0 (l0.length : Int) x17_2 (decide (((rd_T24 l0 x17_2).f6) > ((rd_T24 l0 x17_2).f4))))))) = some r := by rw [if_neg (show ¬ (false = true) by decide)] at H; exact H
            clear H
            have H := H1
            clear H1
            have HC33 := Aside0.mk H
            clear H
            go_upto_region 8 with (fail)
            repeat (go_quiet (fail); go_upto_region 8 with (fail))
            go_cut [87] (fun v87 wc => ∃ (kq : Nat) (x87_32 : Bool), v87 = .bool x87_32 ∧ Aside0 (spec_GoodAggs.j3 kq l0 a1 l0 (l0.length : Int) x17_2 x87_32 = some r) ∧ Aside0 (kq ≤ kj9) ∧ Aside0 (wc.heap[gb130]? = some (.cells #[.int .i64 ((rd_T24 l0 x17_2).f0), .int .i64 ((rd_T24 l0 x17_2).f1), .int .i64 ((rd_T24 l0 x17_2).f2), .int .i64 ((rd_T24 l0 x17_2).f3), .int .i64 ((rd_T24 l0 x17_2).f4), .int .i64 ((rd_T24 l0 x17_2).f5), .int .i64 ((rd_T24 l0 x17_2).f6), .int .i64 ((rd_T24 l0 x17_2).f7)] 24 (0, 0))) ∧ Aside0 (Below w.heap.size w wc))
            case first =>
             have H := HC33.out
             clear HC33
             by_cases c34 : ((rd_T24 l0 x17_2).f5) < ((rd_T24 l0 x17_2).f3)
             ·rw [if_pos c34] at H
              have c34b0 : decide (((rd_T24 l0 x17_2).f5) < ((rd_T24 l0 x17_2).f3)) = true := decide_eq_true c34
              clear c34
              (first | rw [c34b0] | (simp only [i64_w, i32_w]; rw [c34b0]) | skip)
              have H' := Aside0.mk H
              clear H
              have hcz35_0 : wc.cell? ⟨gb130, 0, none⟩ = some (.int .i64 ((rd_T24 l0 x17_2).f0)) := (zQ BK130.out 0).trans rfl
              have hcz35_1 : wc.cell? ⟨gb130, 1, none⟩ = some (.int .i64 ((rd_T24 l0 x17_2).f1)) := (zQ BK130.out 1).trans rfl
              have hcz35_2 : wc.cell? ⟨gb130, 2, none⟩ = some (.int .i64 ((rd_T24 l0 x17_2).f2)) := (zQ BK130.out 2).trans rfl
              have hcz35_3 : wc.cell? ⟨gb130, 3, none⟩ = some (.int .i64 ((rd_T24 l0 x17_2).f3)) := (zQ BK130.out 3).trans rfl
              have hcz35_4 : wc.cell? ⟨gb130, 4, none⟩ = some (.int .i64 ((rd_T24 l0 x17_2).f4)) := (zQ BK130.out 4).trans rfl
              have hcz35_5 : wc.cell? ⟨gb130, 5, none⟩ = some (.int .i64 ((rd_T24 l0 x17_2).f5)) := (zQ BK130.out 5).trans rfl
              have hcz35_6 : wc.cell? ⟨gb130, 6, none⟩ = some (.int .i64 ((rd_T24 l0 x17_2).f6)) := (zQ BK130.out 6).trans rfl
              have hcz35_7 : wc.cell? ⟨gb130, 7, none⟩ = some (.int .i64 ((rd_T24 l0 x17_2).f7)) := (zQ BK130.out 7).trans rfl
              have hfz35_0 := blk_frozen BK130.out 0
              have hfz35_1 := blk_frozen BK130.out 1
              have hfz35_2 := blk_frozen BK130.out 2
              have hfz35_3 := blk_frozen BK130.out 3
              have hfz35_4 := blk_frozen BK130.out 4
              have hfz35_5 := blk_frozen BK130.out 5
              have hfz35_6 := blk_frozen BK130.out 6
              have hfz35_7 := blk_frozen BK130.out 7
              go_wp2
              repeat (go_quiet (fail); try go_wp2)
              go_meet
              case rel => exact ⟨_, (true), (by first | rfl | (simp; done) | (simp [*]; done)), H', ⟨by have := HJ2.out; have := HK2.out; have := HJ9.out; first | omega | exact Nat.le_refl _⟩, ⟨by (with_reducible repeat (first | refine zE ?_ _ | refine zF ?_ | refine zD ?_ _)); exact BK130.out⟩, ⟨by repeat (first | (with_reducible first | exact HB.out | apply zA | apply zB | apply zC | refine below_set ?_ GE130.out) | exact HB.out)⟩⟩
             ·rw [if_neg c34] at H
              have c34b0 : decide (((rd_T24 l0 x17_2).f5) < ((rd_T24 l0 x17_2).f3)) = false := decide_eq_false c34
              clear c34
              (first | rw [c34b0] | (simp only [i64_w, i32_w]; rw [c34b0]) | skip)
              by_cases c36 : ((rd_T24 l0 x17_2).f5) > ((rd_T24 l0 x17_2).f4)
              ·rw [if_pos c36] at H
               have c36b0 : decide (((rd_T24 l0 x17_2).f4) < ((rd_T24 l0 x17_2).f5)) = true := decide_eq_true c36
               clear c36
               have H' := Aside0.mk H
               clear H
               have hcz37_0 : wc.cell? ⟨gb130, 0, none⟩ = some (.int .i64 ((rd_T24 l0 x17_2).f0)) := (zQ BK130.out 0).trans rfl
               have hcz37_1 : wc.cell? ⟨gb130, 1, none⟩ = some (.int .i64 ((rd_T24 l0 x17_2).f1)) := (zQ BK130.out 1).trans rfl
               have hcz37_2 : wc.cell? ⟨gb130, 2, none⟩ = some (.int .i64 ((rd_T24 l0 x17_2).f2)) := (zQ BK130.out 2).trans rfl
               have hcz37_3 : wc.cell? ⟨gb130, 3, none⟩ = some (.int .i64 ((rd_T24 l0 x17_2).f3)) := (zQ BK130.out 3).trans rfl
               have hcz37_4 : wc.cell? ⟨gb130, 4, none⟩ = some (.int .i64 ((rd_T24 l0 x17_2).f4)) := (zQ BK130.out 4).trans rfl
               have hcz37_5 : wc.cell? ⟨gb130, 5, none⟩ = some (.int .i64 ((rd_T24 l0 x17_2).f5)) := (zQ BK130.out 5).trans rfl
               have hcz37_6 : wc.cell? ⟨gb130, 6, none⟩ = some (.int .i64 ((rd_T24 l0 x17_2).f6)) := (zQ BK130.out 6).trans rfl
               have hcz37_7 : wc.cell? ⟨gb130, 7, none⟩ = some (.int .i64 ((rd_T24 l0 x17_2).f7)) := (zQ BK130.out 7).trans rfl
               have hfz37_0 := blk_frozen BK130.out 0
               have hfz37_1 := blk_frozen BK130.out 1
               have hfz37_2 := blk_frozen BK130.out 2
               have hfz37_3 := blk_frozen BK130.out 3
               have hfz37_4 := blk_frozen BK130.out 4
               have hfz37_5 := blk_frozen BK130.out 5
               have hfz37_6 := blk_frozen BK130.out 6
               have hfz37_7 := blk_frozen BK130.out 7
               go_wp2
               repeat (go_quiet (fail); try go_wp2)
               go_meet
               case rel => exact ⟨_, (true), (by first | rfl | (simp; done) | (simp [*]; done)), H', ⟨by have := HJ2.out; have := HK2.out; have := HJ9.out; first | omega | exact Nat.le_refl _⟩, ⟨by (with_reducible repeat (first | refine zE ?_ _ | refine zF ?_ | refine zD ?_ _)); exact BK130.out⟩, ⟨by repeat (first | (with_reducible first | exact HB.out | apply zA | apply zB | apply zC | refine below_set ?_ GE130.out) | exact HB.out)⟩⟩
              ·rw [if_neg c36] at H
               have c36b0 : decide (((rd_T24 l0 x17_2).f4) < ((rd_T24 l0 x17_2).f5)) = false := decide_eq_false c36
               clear c36
               by_cases c38 : ((rd_T24 l0 x17_2).f6) < ((rd_T24 l0 x17_2).f3)
               ·rw [if_pos c38] at H
                have c38b0 : decide (((rd_T24 l0 x17_2).f6) < ((rd_T24 l0 x17_2).f3)) = true := decide_eq_true c38
                clear c38
                have H' := Aside0.mk H
                clear H
                have hcz39_0 : wc.cell? ⟨gb130, 0, none⟩ = some (.int .i64 ((rd_T24 l0 x17_2).f0)) := (zQ BK130.out 0).trans rfl
                have hcz39_1 : wc.cell? ⟨gb130, 1, none⟩ = some (.int .i64 ((rd_T24 l0 x17_2).f1)) := (zQ BK130.out 1).trans rfl
                have hcz39_2 : wc.cell? ⟨gb130, 2, none⟩ = some (.int .i64 ((rd_T24 l0 x17_2).f2)) := (zQ BK130.out 2).trans rfl
                have hcz39_3 : wc.cell? ⟨gb130, 3, none⟩ = some (.int .i64 ((rd_T24 l0 x17_2).f3)) := (zQ BK130.out 3).trans rfl
                have hcz39_4 : wc.cell? ⟨gb130, 4, none⟩ = some (.int .i64 ((rd_T24 l0 x17_2).f4)) := (zQ BK130.out 4).trans rfl
                have hcz39_5 : wc.cell? ⟨gb130, 5, none⟩ = some (.int .i64 ((rd_T24 l0 x17_2).f5)) := (zQ BK130.out 5).trans rfl
                have hcz39_6 : wc.cell? ⟨gb130, 6, none⟩ = some (.int .i64 ((rd_T24 l0 x17_2).f6)) := (zQ BK130.out 6).trans rfl
                have hcz39_7 : wc.cell? ⟨gb130, 7, none⟩ = some (.int .i64 ((rd_T24 l0 x17_2).f7)) := (zQ BK130.out 7).trans rfl
                have hfz39_0 := blk_frozen BK130.out 0
                have hfz39_1 := blk_frozen BK130.out 1
                have hfz39_2 := blk_frozen BK130.out 2
                have hfz39_3 := blk_frozen BK130.out 3
                have hfz39_4 := blk_frozen BK130.out 4
                have hfz39_5 := blk_frozen BK130.out 5
                have hfz39_6 := blk_frozen BK130.out 6
                have hfz39_7 := blk_frozen BK130.out 7
                go_wp2
                repeat (go_quiet (fail); try go_wp2)
                go_meet
                case rel => exact ⟨_, (true), (by first | rfl | (simp; done) | (simp [*]; done)), H', ⟨by have := HJ2.out; have := HK2.out; have := HJ9.out; first | omega | exact Nat.le_refl _⟩, ⟨by (with_reducible repeat (first | refine zE ?_ _ | refine zF ?_ | refine zD ?_ _)); exact BK130.out⟩, ⟨by repeat (first | (with_reducible first | exact HB.out | apply zA | apply zB | apply zC | refine below_set ?_ GE130.out) | exact HB.out)⟩⟩
               ·rw [if_neg c38] at H
                have c38b0 : decide (((rd_T24 l0 x17_2).f6) < ((rd_T24 l0 x17_2).f3)) = false := decide_eq_false c38
                clear c38
                have H' := Aside0.mk H
                clear H
                have hcz40_0 : wc.cell? ⟨gb130, 0, none⟩ = some (.int .i64 ((rd_T24 l0 x17_2).f0)) := (zQ BK130.out 0).trans rfl
                have hcz40_1 : wc.cell? ⟨gb130, 1, none⟩ = some (.int .i64 ((rd_T24 l0 x17_2).f1)) := (zQ BK130.out 1).trans rfl
                have hcz40_2 : wc.cell? ⟨gb130, 2, none⟩ = some (.int .i64 ((rd_T24 l0 x17_2).f2)) := (zQ BK130.out 2).trans rfl
                have hcz40_3 : wc.cell? ⟨gb130, 3, none⟩ = some (.int .i64 ((rd_T24 l0 x17_2).f3)) := (zQ BK130.out 3).trans rfl
                have hcz40_4 : wc.cell? ⟨gb130, 4, none⟩ = some (.int .i64 ((rd_T24 l0 x17_2).f4)) := (zQ BK130.out 4).trans rfl
                have hcz40_5 : wc.cell? ⟨gb130, 5, none⟩ = some (.int .i64 ((rd_T24 l0 x17_2).f5)) := (zQ BK130.out 5).trans rfl
                have hcz40_6 : wc.cell? ⟨gb130, 6, none⟩ = some (.int .i64 ((rd_T24 l0 x17_2).f6)) := (zQ BK130.out 6).trans rfl
                have hcz40_7 : wc.cell? ⟨gb130, 7, none⟩ = some (.int .i64 ((rd_T24 l0 x17_2).f7)) := (zQ BK130.out 7).trans rfl
                have hfz40_0 := blk_frozen BK130.out 0
                have hfz40_1 := blk_frozen BK130.out 1
                have hfz40_2 := blk_frozen BK130.out 2
                have hfz40_3 := blk_frozen BK130.out 3
                have hfz40_4 := blk_frozen BK130.out 4
                have hfz40_5 := blk_frozen BK130.out 5
                have hfz40_6 := blk_frozen BK130.out 6
                have hfz40_7 := blk_frozen BK130.out 7
                go_wp2
                repeat (go_quiet (fail); try go_wp2)
                go_meet
                case rel => exact ⟨_, (decide (((rd_T24 l0 x17_2).f6) > ((rd_T24 l0 x17_2).f4))), (by first | rfl | (simp; done) | (simp [*]; done)), H', ⟨by have := HJ2.out; have := HK2.out; have := HJ9.out; first | omega | exact Nat.le_refl _⟩, ⟨by (with_reducible repeat (first | refine zE ?_ _ | refine zF ?_ | refine zD ?_ _)); exact BK130.out⟩, ⟨by repeat (first | (with_reducible first | exact HB.out | apply zA | apply zB | apply zC | refine below_set ?_ GE130.out) | exact HB.out)⟩⟩
            case rest =>
             clear HC33
             try clear c1
             try clear p1
             try clear q1
             try clear hx1
             try clear c2
             try clear p2
             try clear c3
             try clear c5
             try clear c6
             try clear p6
             try clear c7
             try clear c7b0
             try clear c8
             try clear c8b0
             try clear c9
             try clear c9b0
             try clear p12
             try clear q12
             try clear hx12
             try clear c13
             try clear c13b0
             try clear c13b1
             try clear p13
             try clear q13
             try clear hx13
             try clear c14
             try clear c14b0
             try clear c14b1
             try clear c15
             try clear c15b0
             try clear c17
             try clear c17b0
             try clear c19
             try clear c19b0
             try clear c21
             try clear c21b0
             try clear c22
             try clear c22b0
             try clear c23
             try clear c23b0
             try clear c25
             try clear c25b0
             try clear c28
             try clear c28b0
             try clear c32
             try clear c34
             try clear c34b0
             try clear c36
             try clear c36b0
             try clear c38
             try clear c38b0
             try clear hcz12_0
             try clear hcz12_1
             try clear hcz12_2
             try clear hcz12_3
             try clear hcz12_4
             try clear hcz12_5
             try clear hcz12_6
             try clear hcz12_7
             try clear hcz16_0
             try clear hcz16_1
             try clear hcz16_2
             try clear hcz16_3
             try clear hcz16_4
             try clear hcz16_5
             try clear hcz16_6
             try clear hcz16_7
             try clear hcz18_0
             try clear hcz18_1
             try clear hcz18_2
             try clear hcz18_3
             try clear hcz18_4
             try clear hcz18_5
             try clear hcz18_6
             try clear hcz18_7
             try clear hcz24_0
             try clear hcz24_1
             try clear hcz24_2
             try clear hcz24_3
             try clear hcz24_4
             try clear hcz24_5
             try clear hcz24_6
             try clear hcz24_7
             try clear hcz26_0
             try clear hcz26_1
             try clear hcz26_2
             try clear hcz26_3
             try clear hcz26_4
             try clear hcz26_5
             try clear hcz26_6
             try clear hcz26_7
             try clear hcz27_0
             try clear hcz27_1
             try clear hcz27_2
             try clear hcz27_3
             try clear hcz27_4
             try clear hcz27_5
             try clear hcz27_6
             try clear hcz27_7
             try clear hcz29_0
             try clear hcz29_1
             try clear hcz29_2
             try clear hcz29_3
             try clear hcz29_4
             try clear hcz29_5
             try clear hcz29_6
             try clear hcz29_7
             try clear hcz30_0
             try clear hcz30_1
             try clear hcz30_2
             try clear hcz30_3
             try clear hcz30_4
             try clear hcz30_5
             try clear hcz30_6
             try clear hcz30_7
             try clear hcz31_0
             try clear hcz31_1
             try clear hcz31_2
             try clear hcz31_3
             try clear hcz31_4
             try clear hcz31_5
             try clear hcz31_6
             try clear hcz31_7
             try clear hcz35_0
             try clear hcz35_1
             try clear hcz35_2
             try clear hcz35_3
             try clear hcz35_4
             try clear hcz35_5
             try clear hcz35_6
             try clear hcz35_7
             try clear hcz37_0
             try clear hcz37_1
             try clear hcz37_2
             try clear hcz37_3
             try clear hcz37_4
             try clear hcz37_5
             try clear hcz37_6
             try clear hcz37_7
             try clear hcz39_0
             try clear hcz39_1
             try clear hcz39_2
             try clear hcz39_3
             try clear hcz39_4
             try clear hcz39_5
             try clear hcz39_6
             try clear hcz39_7
             try clear hcz40_0
             try clear hcz40_1
             try clear hcz40_2
             try clear hcz40_3
             try clear hcz40_4
             try clear hcz40_5
             try clear hcz40_6
             try clear hcz40_7
             try clear hfz12_0
             try clear hfz12_1
             try clear hfz12_2
             try clear hfz12_3
             try clear hfz12_4
             try clear hfz12_5
             try clear hfz12_6
             try clear hfz12_7
             try clear hfz16_0
             try clear hfz16_1
             try clear hfz16_2
             try clear hfz16_3
             try clear hfz16_4
             try clear hfz16_5
             try clear hfz16_6
             try clear hfz16_7
             try clear hfz18_0
             try clear hfz18_1
             try clear hfz18_2
             try clear hfz18_3
             try clear hfz18_4
             try clear hfz18_5
             try clear hfz18_6
             try clear hfz18_7
             try clear hfz24_0
             try clear hfz24_1
             try clear hfz24_2
             try clear hfz24_3
             try clear hfz24_4
             try clear hfz24_5
             try clear hfz24_6
             try clear hfz24_7
             try clear hfz26_0
             try clear hfz26_1
             try clear hfz26_2
             try clear hfz26_3
             try clear hfz26_4
             try clear hfz26_5
             try clear hfz26_6
             try clear hfz26_7
             try clear hfz27_0
             try clear hfz27_1
             try clear hfz27_2
             try clear hfz27_3
             try clear hfz27_4
             try clear hfz27_5
             try clear hfz27_6
             try clear hfz27_7
             try clear hfz29_0
             try clear hfz29_1
             try clear hfz29_2
             try clear hfz29_3
             try clear hfz29_4
             try clear hfz29_5
             try clear hfz29_6
             try clear hfz29_7
             try clear hfz30_0
             try clear hfz30_1
             try clear hfz30_2
             try clear hfz30_3
             try clear hfz30_4
             try clear hfz30_5
             try clear hfz30_6
             try clear hfz30_7
             try clear hfz31_0
             try clear hfz31_1
             try clear hfz31_2
             try clear hfz31_3
             try clear hfz31_4
             try clear hfz31_5
             try clear hfz31_6
             try clear hfz31_7
             try clear hfz35_0
             try clear hfz35_1
             try clear hfz35_2
             try clear hfz35_3
             try clear hfz35_4
             try clear hfz35_5
             try clear hfz35_6
             try clear hfz35_7
             try clear hfz37_0
             try clear hfz37_1
             try clear hfz37_2
             try clear hfz37_3
             try clear hfz37_4
             try clear hfz37_5
             try clear hfz37_6
             try clear hfz37_7
             try clear hfz39_0
             try clear hfz39_1
             try clear hfz39_2
             try clear hfz39_3
             try clear hfz39_4
             try clear hfz39_5
             try clear hfz39_6
             try clear hfz39_7
             try clear hfz40_0
             try clear hfz40_1
             try clear hfz40_2
             try clear hfz40_3
             try clear hfz40_4
             try clear hfz40_5
             try clear hfz40_6
             try clear hfz40_7
             try clear hx129_0
             try clear hx129_1
             try clear hx129_2
             try clear hx129_3
             try clear hx129_4
             try clear hx129_5
             try clear hx129_6
             try clear hx129_7
             try clear hx131_0
             try clear hx131_1
             try clear hx131_2
             try clear hx131_3
             try clear hx131_4
             try clear hx131_5
             try clear hx131_6
             try clear hx131_7
             try clear p1
             try clear p12
             try clear p129
             try clear p13
             try clear p131
             try clear p2
             try clear p6
             try clear q1
             try clear q12
             try clear q129
             try clear q13
             try clear q131
             obtain ⟨kq, x87_32, rfl, HA, HJ32, BK130, HB⟩ := hcut
             cases kq with
             | zero => exact absurd HA.out (by simp [spec_GoodAggs.j3])
             | succ kj32 =>
              have H := HA.out
              clear HA
              simp only [spec_GoodAggs.j3] at H
              by_cases c41 : x87_32 = true
              ·subst c41
               have H1 : (some false) = some r := by rw [if_pos rfl] at H; exact H
               clear H
               have H := H1
               clear H1
               obtain rfl := Option.some.inj H
               go_wp2
               repeat (go_quiet (fail); try go_wp2)
               go_ret
               exact ⟨by first | rfl | (simp [errW_none, errW_some] <;> rfl) | (simp [*, errW_none, errW_some] <;> rfl), by repeat (first | (with_reducible first | exact HB.out | apply zA | apply zB | apply zC | refine below_set ?_ GE130.out) | exact HB.out)⟩
              ·replace c41 := Bool.eq_false_iff.mpr c41
               subst c41
               have H1 : (spec_GoodAggs.l0 kj32 l0 a1 l0 (l0.length : Int) (wrap64 (x17_2 + 1))) = some r := by rw [if_neg (show ¬ (false = true) by decide)] at H; exact H
               clear H
               have H := H1
               clear H1
               have H' := Aside0.mk H
               clear H
               go_wp2
               repeat (go_quiet (fail); try go_wp2)
               go_roundg kj32
               case measure => have := HJ2.out; have := HK2.out; have := HJ9.out; have := HJ32.out; omega
               case rel => exact ⟨(wrap64 (x17_2 + 1)), (by first | rfl | (simp; done) | (simp [*]; done)), H', ⟨by have := HJ2.out; have := HK2.out; have := HJ9.out; have := HJ32.out; omega⟩, ⟨by repeat (first | (with_reducible first | exact HB.out | apply zA | apply zB | apply zC | refine below_set ?_ GE130.out) | exact HB.out)⟩⟩
        ·rw [if_neg c9] at H
         exact absurd H (by simp)
       ·rw [if_neg c8] at H
        exact absurd H (by simp)
      ·rw [if_neg c7] at H
       have c7b0 : decide (x17_2 < (l0.length : Int)) = false := decide_eq_false c7
       clear c7
       obtain rfl := Option.some.inj H
       go_wp2
       repeat (go_quiet (fail); try go_wp2)
       go_ret
       exact ⟨by first | rfl | (simp [errW_none, errW_some] <;> rfl) | (simp [*, errW_none, errW_some] <;> rfl), by repeat (first | (with_reducible first | exact HB.out | apply zA | apply zB | apply zC) | exact HB.out)⟩

end Go.Proofs.Ytppifefhpjhmaaa.PFnExactDownAggs
