-- Written by a program of this session (xprint.py, over the kit's print).
import Derived.Test.YtppifefhpjhmaaaPFnExactDownAggsx0
import Derived.Test.YtppifefhpjhmaaaPFnExactDownAggsx5
import Derived.Test.YtppifefhpjhmaaaQCut
namespace Go.Proofs.Ytppifefhpjhmaaa.PFnExactDownAggs
open Go.RowKit Go.Proofs.YtppifefhpjhmaaaW.PrintWords Go.Proofs.YtppifefhpjhmaaaW.PrintLast Go.Proofs.YtppifefhpjhmaaaW.PrintMore Go.Proofs.Ytppifefhpjhmaaa.XWords Go.Proofs.Ytppifefhpjhmaaa.QCut
attribute [local go_sem] max2_int min2_int max_two min_two max_three min_three max_four min_four   -- for this text's walks alone
set_option linter.unusedVariables false
set_option linter.unusedSimpArgs false

/-! ### impl_GoodAggs: function 15 -/
mutual
def impl_GoodAggs.j0 : Nat → List (S24) → Int → Bool → Option (Bool)
 | 0, _, _, _ => none
 | k + 1, x0, x1, x14 => if x14 = true then (some false) else (impl_GoodAggs.l0 k x0 x1 x0 (x0.length : Int) 0)
def impl_GoodAggs.l0 : Nat → List (S24) → Int → List (S24) → Int → Int → Option (Bool)
 | 0, _, _, _, _, _ => none
 | k + 1, x0, x1, x15, x16, x17 => if x17 < x16 then (if 0 ≤ x17 then (if x17 < (x15.length : Int) then (if x1 = 0 then (none) else (if (Int.tmod ((rd_T24 x15 x17).f0) x1) = 0 then (if ((rd_T24 x15 x17).f0) < 0 then (impl_GoodAggs.j2 k x0 x1 x15 x16 x17 true) else (if ((rd_T24 x15 x17).f0) > 1000001000000 then (impl_GoodAggs.j2 k x0 x1 x15 x16 x17 true) else (if x17 > 0 then (if 0 ≤ (wrap64 (x17 - 1)) then (if (wrap64 (x17 - 1)) < (x0.length : Int) then (if ((rd_T24 x0 (wrap64 (x17 - 1))).f0) ≥ ((rd_T24 x15 x17).f0) then (impl_GoodAggs.j2 k x0 x1 x15 x16 x17 true) else (if ((rd_T24 x15 x17).f1) < 1 then (impl_GoodAggs.j2 k x0 x1 x15 x16 x17 true) else (if ((rd_T24 x15 x17).f1) > 2000 then (impl_GoodAggs.j2 k x0 x1 x15 x16 x17 true) else (if ((rd_T24 x15 x17).f5) < ((rd_T24 x15 x17).f3) then (impl_GoodAggs.j2 k x0 x1 x15 x16 x17 true) else (if ((rd_T24 x15 x17).f5) > ((rd_T24 x15 x17).f4) then (impl_GoodAggs.j2 k x0 x1 x15 x16 x17 true) else (if ((rd_T24 x15 x17).f6) < ((rd_T24 x15 x17).f3) then (impl_GoodAggs.j2 k x0 x1 x15 x16 x17 true) else (impl_GoodAggs.j2 k x0 x1 x15 x16 x17 (decide (((rd_T24 x15 x17).f6) > ((rd_T24 x15 x17).f4)))))))))) else (none)) else (none)) else (if ((rd_T24 x15 x17).f1) < 1 then (impl_GoodAggs.j2 k x0 x1 x15 x16 x17 true) else (if ((rd_T24 x15 x17).f1) > 2000 then (impl_GoodAggs.j2 k x0 x1 x15 x16 x17 true) else (if ((rd_T24 x15 x17).f5) < ((rd_T24 x15 x17).f3) then (impl_GoodAggs.j2 k x0 x1 x15 x16 x17 true) else (if ((rd_T24 x15 x17).f5) > ((rd_T24 x15 x17).f4) then (impl_GoodAggs.j2 k x0 x1 x15 x16 x17 true) else (if ((rd_T24 x15 x17).f6) < ((rd_T24 x15 x17).f3) then (impl_GoodAggs.j2 k x0 x1 x15 x16 x17 true) else (impl_GoodAggs.j2 k x0 x1 x15 x16 x17 (decide (((rd_T24 x15 x17).f6) > ((rd_T24 x15 x17).f4)))))))))))) else (impl_GoodAggs.j2 k x0 x1 x15 x16 x17 true))) else (none)) else (none)) else (some true)
def impl_GoodAggs.j2 : Nat → List (S24) → Int → List (S24) → Int → Int → Bool → Option (Bool)
 | 0, _, _, _, _, _, _ => none
 | k + 1, x0, x1, x15, x16, x17, x89 => if x89 = true then (some false) else (impl_GoodAggs.l0 k x0 x1 x15 x16 (wrap64 (x17 + 1)))
end
def impl_GoodAggs.f (k : Nat) (l0 : List (S24)) (a1 : Int) : Option (Bool) := (impl_goodRes.f a1).bind fun t157 => (if t157 = true then (impl_GoodAggs.j0 k l0 a1 (decide ((l0.length : Int) > 2000))) else (impl_GoodAggs.j0 k l0 a1 true))
theorem impl_GoodAggs.mono_l : ∀ k, (∀ y0 y1 y2, LeO (impl_GoodAggs.j0 k y0 y1 y2) (impl_GoodAggs.j0 (k + 1) y0 y1 y2)) ∧ (∀ y0 y1 y2 y3 y4, LeO (impl_GoodAggs.l0 k y0 y1 y2 y3 y4) (impl_GoodAggs.l0 (k + 1) y0 y1 y2 y3 y4)) ∧ (∀ y0 y1 y2 y3 y4 y5, LeO (impl_GoodAggs.j2 k y0 y1 y2 y3 y4 y5) (impl_GoodAggs.j2 (k + 1) y0 y1 y2 y3 y4 y5))
 | 0 => ⟨fun _ _ _ r h => by simp [impl_GoodAggs.j0] at h, fun _ _ _ _ _ r h => by simp [impl_GoodAggs.l0] at h, fun _ _ _ _ _ _ r h => by simp [impl_GoodAggs.j2] at h⟩
 | k + 1 => by
  obtain ⟨ih0, ih1, ih2⟩ := impl_GoodAggs.mono_l k
  refine ⟨?_, ?_, ?_⟩
  ·intro y0 y1 y2
   unfold impl_GoodAggs.j0
   repeat' first
   | (with_reducible exact ih0 _ _ _)
   | (with_reducible exact ih1 _ _ _ _ _)
   | (with_reducible exact ih2 _ _ _ _ _ _)
   | (with_reducible exact LeO.refl _)
   | (with_reducible exact LeO.none _)
   | (with_reducible refine LeO.ite ?_ ?_)
   | (with_reducible refine LeO.bind ?_ (fun _ => ?_))
   | exact ih0 _ _ _
   | exact ih1 _ _ _ _ _
   | exact ih2 _ _ _ _ _ _
   | exact LeO.none _
   | refine LeO.ite ?_ ?_
   | refine LeO.bind ?_ (fun _ => ?_)
  ·intro y0 y1 y2 y3 y4
   unfold impl_GoodAggs.l0
   repeat' first
   | (with_reducible exact ih0 _ _ _)
   | (with_reducible exact ih1 _ _ _ _ _)
   | (with_reducible exact ih2 _ _ _ _ _ _)
   | (with_reducible exact LeO.refl _)
   | (with_reducible exact LeO.none _)
   | (with_reducible refine LeO.ite ?_ ?_)
   | (with_reducible refine LeO.bind ?_ (fun _ => ?_))
   | exact ih0 _ _ _
   | exact ih1 _ _ _ _ _
   | exact ih2 _ _ _ _ _ _
   | exact LeO.none _
   | refine LeO.ite ?_ ?_
   | refine LeO.bind ?_ (fun _ => ?_)
  ·intro y0 y1 y2 y3 y4 y5
   unfold impl_GoodAggs.j2
   repeat' first
   | (with_reducible exact ih0 _ _ _)
   | (with_reducible exact ih1 _ _ _ _ _)
   | (with_reducible exact ih2 _ _ _ _ _ _)
   | (with_reducible exact LeO.refl _)
   | (with_reducible exact LeO.none _)
   | (with_reducible refine LeO.ite ?_ ?_)
   | (with_reducible refine LeO.bind ?_ (fun _ => ?_))
   | exact ih0 _ _ _
   | exact ih1 _ _ _ _ _
   | exact ih2 _ _ _ _ _ _
   | exact LeO.none _
   | refine LeO.ite ?_ ?_
   | refine LeO.bind ?_ (fun _ => ?_)
theorem impl_GoodAggs.mono : ∀ a0 a1 k, LeO (impl_GoodAggs.f k a0 a1) (impl_GoodAggs.f (k + 1) a0 a1) := by
 intro a0 a1 k
 obtain ⟨ih0, ih1, ih2⟩ := impl_GoodAggs.mono_l k
 unfold impl_GoodAggs.f
 repeat' first
   | (with_reducible exact ih0 _ _ _)
   | (with_reducible exact ih1 _ _ _ _ _)
   | (with_reducible exact ih2 _ _ _ _ _ _)
   | (with_reducible exact LeO.refl _)
   | (with_reducible exact LeO.none _)
   | (with_reducible refine LeO.ite ?_ ?_)
   | (with_reducible refine LeO.bind ?_ (fun _ => ?_))
   | exact ih0 _ _ _
   | exact ih1 _ _ _ _ _
   | exact ih2 _ _ _ _ _ _
   | exact LeO.none _
   | refine LeO.ite ?_ ?_
   | refine LeO.bind ?_ (fun _ => ?_)
set_option maxHeartbeats 8000000 in
set_option maxRecDepth 100000 in
theorem impl_GoodAggs.calls (k : Nat) (A0 : Option Addr) (c0 : Nat) (l0 : List (S24)) (a1 : Int) (r : Bool) (w : World) (hr0 : Kd.C k24 w A0 l0.length l0) (hc0 : l0.length ≤ c0) (h : impl_GoodAggs.f k l0 a1 = some r) :
  Calls Try.prog 15 #[.slice A0 l0.length c0, .int .i64 a1] w fun e w' => e = .returned (.bool r) ∧ Below w.heap.size w w' := by
 have hu24 := Try.underlying24
 have HR0 := Aside0.mk hr0
 have HC0 := Aside0.mk hc0
 clear hr0 hc0
 have HB := Aside0.mk (Below.refl w.heap.size w)
 have H : ((impl_goodRes.f a1).bind fun t157 => (if t157 = true then (impl_GoodAggs.j0 k l0 a1 (decide ((l0.length : Int) > 2000))) else (impl_GoodAggs.j0 k l0 a1 true))) = some r := h
 clear h
 have HC3 := Aside0.mk H
 clear H
 go_enter Try.func15, Try.ntmps15
 go_upto_region 1 with (fail)
 repeat (go_quiet (fail); go_upto_region 1 with (fail))
 go_cut [14] (fun v14 wc => ∃ (kq : Nat) (x14_2 : Bool), v14 = .bool x14_2 ∧ Aside0 (impl_GoodAggs.j0 kq l0 a1 x14_2 = some r) ∧ Aside0 (kq ≤ k) ∧ Aside0 (Below w.heap.size w wc))
 case first =>
  have H := HC3.out
  clear HC3
  replace H := Option.bind_eq_some_iff.mp H
  obtain ⟨t157, A40, H⟩ := H
  replace H : (if t157 = true then (impl_GoodAggs.j0 k l0 a1 (decide ((l0.length : Int) > 2000))) else (impl_GoodAggs.j0 k l0 a1 true)) = some r := H
  have A4 := Aside0.mk A40
  clear A40
  by_cases c5 : t157 = true
  ·subst c5
   have H1 : (impl_GoodAggs.j0 k l0 a1 (decide ((l0.length : Int) > 2000))) = some r := by rw [if_pos rfl] at H; exact H
   clear H
   have H := H1
   clear H1
   have H' := Aside0.mk H
   clear H
   go_wp2_with (first | (go_at_call 43; (with_reducible refine (impl_goodRes.calls a1 true _ A4.out).mono ?_); rintro e w' ⟨rfl, ⟨nd, rfl⟩⟩; (try first | exact ⟨rfl, _, World.drewN_drewN _ _ _⟩ | exact ⟨rfl, _, Eq.trans (World.drewN_drewN _ _ _) (congrArg (World.drewN _) (Nat.add_assoc _ _ _))⟩)))
   repeat (go_quiet (first | (go_at_call 43; (with_reducible refine (impl_goodRes.calls a1 true _ A4.out).mono ?_); rintro e w' ⟨rfl, ⟨nd, rfl⟩⟩; (try first | exact ⟨rfl, _, World.drewN_drewN _ _ _⟩ | exact ⟨rfl, _, Eq.trans (World.drewN_drewN _ _ _) (congrArg (World.drewN _) (Nat.add_assoc _ _ _))⟩))); try go_wp2_with (first | (go_at_call 43; (with_reducible refine (impl_goodRes.calls a1 true _ A4.out).mono ?_); rintro e w' ⟨rfl, ⟨nd, rfl⟩⟩; (try first | exact ⟨rfl, _, World.drewN_drewN _ _ _⟩ | exact ⟨rfl, _, Eq.trans (World.drewN_drewN _ _ _) (congrArg (World.drewN _) (Nat.add_assoc _ _ _))⟩))))
   go_meet
   case rel => exact ⟨_, (decide ((l0.length : Int) > 2000)), (by first | rfl | (simp; done) | (simp [*]; done)), H', ⟨by first | omega | exact Nat.le_refl _⟩, ⟨by repeat (first | (with_reducible first | exact HB.out | apply zA | apply zB | apply zC) | exact HB.out)⟩⟩
  ·replace c5 := Bool.eq_false_iff.mpr c5
   subst c5
   have H1 : (impl_GoodAggs.j0 k l0 a1 true) = some r := by rw [if_neg (show ¬ (false = true) by decide)] at H; exact H
   clear H
   have H := H1
   clear H1
   have H' := Aside0.mk H
   clear H
   go_wp2_with (first | (go_at_call 43; (with_reducible refine (impl_goodRes.calls a1 false _ A4.out).mono ?_); rintro e w' ⟨rfl, ⟨nd, rfl⟩⟩; (try first | exact ⟨rfl, _, World.drewN_drewN _ _ _⟩ | exact ⟨rfl, _, Eq.trans (World.drewN_drewN _ _ _) (congrArg (World.drewN _) (Nat.add_assoc _ _ _))⟩)))
   repeat (go_quiet (first | (go_at_call 43; (with_reducible refine (impl_goodRes.calls a1 false _ A4.out).mono ?_); rintro e w' ⟨rfl, ⟨nd, rfl⟩⟩; (try first | exact ⟨rfl, _, World.drewN_drewN _ _ _⟩ | exact ⟨rfl, _, Eq.trans (World.drewN_drewN _ _ _) (congrArg (World.drewN _) (Nat.add_assoc _ _ _))⟩))); try go_wp2_with (first | (go_at_call 43; (with_reducible refine (impl_goodRes.calls a1 false _ A4.out).mono ?_); rintro e w' ⟨rfl, ⟨nd, rfl⟩⟩; (try first | exact ⟨rfl, _, World.drewN_drewN _ _ _⟩ | exact ⟨rfl, _, Eq.trans (World.drewN_drewN _ _ _) (congrArg (World.drewN _) (Nat.add_assoc _ _ _))⟩))))
   go_meet
   case rel => exact ⟨_, (true), (by first | rfl | (simp; done) | (simp [*]; done)), H', ⟨by first | omega | exact Nat.le_refl _⟩, ⟨by repeat (first | (with_reducible first | exact HB.out | apply zA | apply zB | apply zC) | exact HB.out)⟩⟩
 case rest =>
  clear HC3
  try clear c1
  try clear p2
  try clear c5
  obtain ⟨kq, x14_2, rfl, HA, HJ2, HB⟩ := hcut
  cases kq with
  | zero => exact absurd HA.out (by simp [impl_GoodAggs.j0])
  | succ kj2 =>
   have H := HA.out
   clear HA
   simp only [impl_GoodAggs.j0] at H
   by_cases c6 : x14_2 = true
   ·subst c6
    have H1 : (some false) = some r := by rw [if_pos rfl] at H; exact H
    clear H
    have H := H1
    clear H1
    obtain rfl := Option.some.inj H
    go_wp2
    repeat (go_quiet (fail); try go_wp2)
    go_ret
    exact ⟨by first | rfl | (simp [errW_none, errW_some] <;> rfl) | (simp [*, errW_none, errW_some] <;> rfl), by repeat (first | (with_reducible first | exact HB.out | apply zA | apply zB | apply zC) | exact HB.out)⟩
   ·replace c6 := Bool.eq_false_iff.mpr c6
    subst c6
    have H1 : (impl_GoodAggs.l0 kj2 l0 a1 l0 (l0.length : Int) 0) = some r := by rw [if_neg (show ¬ (false = true) by decide)] at H; exact H
    clear H
    have H := H1
    clear H1
    have H' := Aside0.mk H
    clear H
    go_wp2
    repeat (go_quiet (fail); try go_wp2)
    go_loopg [17] kj2 (fun kq v17 w' => ∃ (x17_2 : Int), v17 = .int .i64 x17_2 ∧ Aside0 (impl_GoodAggs.l0 kq l0 a1 l0 (l0.length : Int) x17_2 = some r) ∧ Aside0 (kq ≤ kj2) ∧ Aside0 (Below w.heap.size w w'))
    case atStart => exact ⟨(0), (by first | rfl | (simp; done) | (simp [*]; done)), H', ⟨Nat.le_refl _⟩, ⟨by repeat (first | (with_reducible first | exact HB.out | apply zA | apply zB | apply zC) | exact HB.out)⟩⟩
    case round =>
     clear H'
     try clear c1
     try clear p2
     try clear c5
     try clear c6
     try clear p2
     obtain ⟨x17_2, rfl, HA, HK2, HB⟩ := hrel
     cases gk with
     | zero => exact absurd HA.out (by simp [impl_GoodAggs.l0])
     | succ k2 =>
      have H := HA.out
      clear HA
      simp only [impl_GoodAggs.l0] at H
      by_cases c7 : x17_2 < (l0.length : Int)
      ·rw [if_pos c7] at H
       have c7b0 : decide (x17_2 < (l0.length : Int)) = true := decide_eq_true c7
       clear c7
       by_cases c8 : 0 ≤ x17_2
       ·rw [if_pos c8] at H
        have c8b0 : decide (0 ≤ x17_2) = true := decide_eq_true c8
        clear c8
        by_cases c9 : x17_2 < (l0.length : Int)
        ·rw [if_pos c9] at H
         have c9b0 : decide (x17_2 < (l0.length : Int)) = true := decide_eq_true c9
         clear c9
         have HC10 := Aside0.mk H
         clear H
         have p158 : 0 ≤ (x17_2 : Int) := zX (by first | (with_reducible assumption) | assumption)
         have q158 : x17_2 < (l0.length : Int) := zX (by first | (with_reducible assumption) | assumption)
         obtain ⟨ad158, e158, hx158_0, hx158_1, hx158_2, hx158_3, hx158_4, hx158_5, hx158_6, hx158_7⟩ := at_T24 HR0.out x17_2 p158 q158
         cases e158
         replace hx158_0 := (HB.out.cell (zR w _ hx158_0)).trans hx158_0
         replace hx158_1 := (HB.out.cell (zR w _ hx158_1)).trans hx158_1
         replace hx158_2 := (HB.out.cell (zR w _ hx158_2)).trans hx158_2
         replace hx158_3 := (HB.out.cell (zR w _ hx158_3)).trans hx158_3
         replace hx158_4 := (HB.out.cell (zR w _ hx158_4)).trans hx158_4
         replace hx158_5 := (HB.out.cell (zR w _ hx158_5)).trans hx158_5
         replace hx158_6 := (HB.out.cell (zR w _ hx158_6)).trans hx158_6
         replace hx158_7 := (HB.out.cell (zR w _ hx158_7)).trans hx158_7
         replace p158 := eq_true p158
         replace q158 := eq_true q158
         go_upto_region 6 with (first | ((with_reducible refine gate_dst (N := 6) rfl ?_); (try (refine gate_guard (by rfl) ?_; dsimp only)); refine box_event ?hg (N := 6) ?hd (cs := #[.int .i64 0, .int .i64 0, .int .i64 0, .int .i64 0, .int .i64 0, .int .i64 0, .int .i64 0, .int .i64 0]) (t := 24) ?hr ?_; (case hd => rfl); (case hg => rfl); (case hr => first | (go_simp; done) | (go_simp; rfl)); intro gb159 hg w11 hbox hb; have n0_ := Aside0.mk (below_step (by repeat (first | (with_reducible first | exact HB.out | apply zA | apply zB | apply zC) | exact HB.out)) hb); have n1_ := Aside0.mk (hbox); have n2_ := Aside0.mk ((by rw [hg]; exact (zW (by repeat (first | (with_reducible first | exact HB.out | apply zA | apply zB | apply zC) | exact HB.out))) : w.heap.size ≤ gb159)); have n3_ := Aside0.mk ((by rw [hg]; exact (zW (by repeat (first | (with_reducible first | exact HB.out | apply zA | apply zB | apply zC) | exact HB.out))) : w.heap.size ≤ gb159)); clear HB; have HB := n0_; have BK159 := n1_; have GW159 := n2_; have GE159 := n3_; clear n0_ n1_ n2_ n3_; clear hb hbox hg; have hcz12_0 : w11.cell? ⟨gb159, 0, none⟩ = some (.int .i64 0) := (zQ BK159.out 0).trans rfl; have hcz12_1 : w11.cell? ⟨gb159, 1, none⟩ = some (.int .i64 0) := (zQ BK159.out 1).trans rfl; have hcz12_2 : w11.cell? ⟨gb159, 2, none⟩ = some (.int .i64 0) := (zQ BK159.out 2).trans rfl; have hcz12_3 : w11.cell? ⟨gb159, 3, none⟩ = some (.int .i64 0) := (zQ BK159.out 3).trans rfl; have hcz12_4 : w11.cell? ⟨gb159, 4, none⟩ = some (.int .i64 0) := (zQ BK159.out 4).trans rfl; have hcz12_5 : w11.cell? ⟨gb159, 5, none⟩ = some (.int .i64 0) := (zQ BK159.out 5).trans rfl; have hcz12_6 : w11.cell? ⟨gb159, 6, none⟩ = some (.int .i64 0) := (zQ BK159.out 6).trans rfl; have hcz12_7 : w11.cell? ⟨gb159, 7, none⟩ = some (.int .i64 0) := (zQ BK159.out 7).trans rfl; have hfz12_0 := blk_frozen BK159.out 0; have hfz12_1 := blk_frozen BK159.out 1; have hfz12_2 := blk_frozen BK159.out 2; have hfz12_3 := blk_frozen BK159.out 3; have hfz12_4 := blk_frozen BK159.out 4; have hfz12_5 := blk_frozen BK159.out 5; have hfz12_6 := blk_frozen BK159.out 6; have hfz12_7 := blk_frozen BK159.out 7))
         repeat (go_quiet (first | ((with_reducible refine gate_dst (N := 6) rfl ?_); (try (refine gate_guard (by rfl) ?_; dsimp only)); refine box_event ?hg (N := 6) ?hd (cs := #[.int .i64 0, .int .i64 0, .int .i64 0, .int .i64 0, .int .i64 0, .int .i64 0, .int .i64 0, .int .i64 0]) (t := 24) ?hr ?_; (case hd => rfl); (case hg => rfl); (case hr => first | (go_simp; done) | (go_simp; rfl)); intro gb159 hg w11 hbox hb; have n0_ := Aside0.mk (below_step (by repeat (first | (with_reducible first | exact HB.out | apply zA | apply zB | apply zC) | exact HB.out)) hb); have n1_ := Aside0.mk (hbox); have n2_ := Aside0.mk ((by rw [hg]; exact (zW (by repeat (first | (with_reducible first | exact HB.out | apply zA | apply zB | apply zC) | exact HB.out))) : w.heap.size ≤ gb159)); have n3_ := Aside0.mk ((by rw [hg]; exact (zW (by repeat (first | (with_reducible first | exact HB.out | apply zA | apply zB | apply zC) | exact HB.out))) : w.heap.size ≤ gb159)); clear HB; have HB := n0_; have BK159 := n1_; have GW159 := n2_; have GE159 := n3_; clear n0_ n1_ n2_ n3_; clear hb hbox hg; have hcz12_0 : w11.cell? ⟨gb159, 0, none⟩ = some (.int .i64 0) := (zQ BK159.out 0).trans rfl; have hcz12_1 : w11.cell? ⟨gb159, 1, none⟩ = some (.int .i64 0) := (zQ BK159.out 1).trans rfl; have hcz12_2 : w11.cell? ⟨gb159, 2, none⟩ = some (.int .i64 0) := (zQ BK159.out 2).trans rfl; have hcz12_3 : w11.cell? ⟨gb159, 3, none⟩ = some (.int .i64 0) := (zQ BK159.out 3).trans rfl; have hcz12_4 : w11.cell? ⟨gb159, 4, none⟩ = some (.int .i64 0) := (zQ BK159.out 4).trans rfl; have hcz12_5 : w11.cell? ⟨gb159, 5, none⟩ = some (.int .i64 0) := (zQ BK159.out 5).trans rfl; have hcz12_6 : w11.cell? ⟨gb159, 6, none⟩ = some (.int .i64 0) := (zQ BK159.out 6).trans rfl; have hcz12_7 : w11.cell? ⟨gb159, 7, none⟩ = some (.int .i64 0) := (zQ BK159.out 7).trans rfl; have hfz12_0 := blk_frozen BK159.out 0; have hfz12_1 := blk_frozen BK159.out 1; have hfz12_2 := blk_frozen BK159.out 2; have hfz12_3 := blk_frozen BK159.out 3; have hfz12_4 := blk_frozen BK159.out 4; have hfz12_5 := blk_frozen BK159.out 5; have hfz12_6 := blk_frozen BK159.out 6; have hfz12_7 := blk_frozen BK159.out 7)); go_upto_region 6 with (first | ((with_reducible refine gate_dst (N := 6) rfl ?_); (try (refine gate_guard (by rfl) ?_; dsimp only)); refine box_event ?hg (N := 6) ?hd (cs := #[.int .i64 0, .int .i64 0, .int .i64 0, .int .i64 0, .int .i64 0, .int .i64 0, .int .i64 0, .int .i64 0]) (t := 24) ?hr ?_; (case hd => rfl); (case hg => rfl); (case hr => first | (go_simp; done) | (go_simp; rfl)); intro gb159 hg w11 hbox hb; have n0_ := Aside0.mk (below_step (by repeat (first | (with_reducible first | exact HB.out | apply zA | apply zB | apply zC) | exact HB.out)) hb); have n1_ := Aside0.mk (hbox); have n2_ := Aside0.mk ((by rw [hg]; exact (zW (by repeat (first | (with_reducible first | exact HB.out | apply zA | apply zB | apply zC) | exact HB.out))) : w.heap.size ≤ gb159)); have n3_ := Aside0.mk ((by rw [hg]; exact (zW (by repeat (first | (with_reducible first | exact HB.out | apply zA | apply zB | apply zC) | exact HB.out))) : w.heap.size ≤ gb159)); clear HB; have HB := n0_; have BK159 := n1_; have GW159 := n2_; have GE159 := n3_; clear n0_ n1_ n2_ n3_; clear hb hbox hg; have hcz12_0 : w11.cell? ⟨gb159, 0, none⟩ = some (.int .i64 0) := (zQ BK159.out 0).trans rfl; have hcz12_1 : w11.cell? ⟨gb159, 1, none⟩ = some (.int .i64 0) := (zQ BK159.out 1).trans rfl; have hcz12_2 : w11.cell? ⟨gb159, 2, none⟩ = some (.int .i64 0) := (zQ BK159.out 2).trans rfl; have hcz12_3 : w11.cell? ⟨gb159, 3, none⟩ = some (.int .i64 0) := (zQ BK159.out 3).trans rfl; have hcz12_4 : w11.cell? ⟨gb159, 4, none⟩ = some (.int .i64 0) := (zQ BK159.out 4).trans rfl; have hcz12_5 : w11.cell? ⟨gb159, 5, none⟩ = some (.int .i64 0) := (zQ BK159.out 5).trans rfl; have hcz12_6 : w11.cell? ⟨gb159, 6, none⟩ = some (.int .i64 0) := (zQ BK159.out 6).trans rfl; have hcz12_7 : w11.cell? ⟨gb159, 7, none⟩ = some (.int .i64 0) := (zQ BK159.out 7).trans rfl; have hfz12_0 := blk_frozen BK159.out 0; have hfz12_1 := blk_frozen BK159.out 1; have hfz12_2 := blk_frozen BK159.out 2; have hfz12_3 := blk_frozen BK159.out 3; have hfz12_4 := blk_frozen BK159.out 4; have hfz12_5 := blk_frozen BK159.out 5; have hfz12_6 := blk_frozen BK159.out 6; have hfz12_7 := blk_frozen BK159.out 7)))
         (try simp only [Act.put, zT, zU, zV])
         go_cut [89] (fun v89 wc => ∃ (kq : Nat) (x89_9 : Bool), v89 = .bool x89_9 ∧ Aside0 (impl_GoodAggs.j2 kq l0 a1 l0 (l0.length : Int) x17_2 x89_9 = some r) ∧ Aside0 (kq ≤ k2) ∧ Aside0 (wc.heap[gb159]? = some (.cells #[.int .i64 ((rd_T24 l0 x17_2).f0), .int .i64 ((rd_T24 l0 x17_2).f1), .int .i64 ((rd_T24 l0 x17_2).f2), .int .i64 ((rd_T24 l0 x17_2).f3), .int .i64 ((rd_T24 l0 x17_2).f4), .int .i64 ((rd_T24 l0 x17_2).f5), .int .i64 ((rd_T24 l0 x17_2).f6), .int .i64 ((rd_T24 l0 x17_2).f7)] 24 (0, 0))) ∧ Aside0 (Below w.heap.size w wc))
         case first =>
          have H := HC10.out
          clear HC10
          by_cases c13 : a1 = 0
          ·rw [if_pos c13] at H
           exact absurd H (by simp)
          rw [if_neg c13] at H
          have c13b0 : (a1 == 0) = false := beq_eq_false_iff_ne.mpr c13
          have c13b1 : (a1 != 0) = true := bne_iff_ne.mpr c13
          refine wp_world (fun wc => Aside0 (wc.heap[gb159]? = some (.cells #[.int .i64 ((rd_T24 l0 x17_2).f0), .int .i64 ((rd_T24 l0 x17_2).f1), .int .i64 ((rd_T24 l0 x17_2).f2), .int .i64 ((rd_T24 l0 x17_2).f3), .int .i64 ((rd_T24 l0 x17_2).f4), .int .i64 ((rd_T24 l0 x17_2).f5), .int .i64 ((rd_T24 l0 x17_2).f6), .int .i64 ((rd_T24 l0 x17_2).f7)] 24 (0, 0))) ∧ Aside0 (Below w.heap.size w wc)) ⟨⟨by (with_reducible repeat (first | refine zE ?_ _ | refine zF ?_ | refine zD ?_ _)); refine blk_put (cs := #[.int .i64 ((rd_T24 l0 x17_2).f0), .int .i64 ((rd_T24 l0 x17_2).f1), .int .i64 ((rd_T24 l0 x17_2).f2), .int .i64 ((rd_T24 l0 x17_2).f3), .int .i64 ((rd_T24 l0 x17_2).f4), .int .i64 ((rd_T24 l0 x17_2).f5), .int .i64 ((rd_T24 l0 x17_2).f6), .int .i64 0]) ?_ 7 _ rfl; (with_reducible repeat (first | refine zE ?_ _ | refine zF ?_ | refine zD ?_ _)); refine blk_put (cs := #[.int .i64 ((rd_T24 l0 x17_2).f0), .int .i64 ((rd_T24 l0 x17_2).f1), .int .i64 ((rd_T24 l0 x17_2).f2), .int .i64 ((rd_T24 l0 x17_2).f3), .int .i64 ((rd_T24 l0 x17_2).f4), .int .i64 ((rd_T24 l0 x17_2).f5), .int .i64 0, .int .i64 0]) ?_ 6 _ rfl; (with_reducible repeat (first | refine zE ?_ _ | refine zF ?_ | refine zD ?_ _)); refine blk_put (cs := #[.int .i64 ((rd_T24 l0 x17_2).f0), .int .i64 ((rd_T24 l0 x17_2).f1), .int .i64 ((rd_T24 l0 x17_2).f2), .int .i64 ((rd_T24 l0 x17_2).f3), .int .i64 ((rd_T24 l0 x17_2).f4), .int .i64 0, .int .i64 0, .int .i64 0]) ?_ 5 _ rfl; (with_reducible repeat (first | refine zE ?_ _ | refine zF ?_ | refine zD ?_ _)); refine blk_put (cs := #[.int .i64 ((rd_T24 l0 x17_2).f0), .int .i64 ((rd_T24 l0 x17_2).f1), .int .i64 ((rd_T24 l0 x17_2).f2), .int .i64 ((rd_T24 l0 x17_2).f3), .int .i64 0, .int .i64 0, .int .i64 0, .int .i64 0]) ?_ 4 _ rfl; (with_reducible repeat (first | refine zE ?_ _ | refine zF ?_ | refine zD ?_ _)); refine blk_put (cs := #[.int .i64 ((rd_T24 l0 x17_2).f0), .int .i64 ((rd_T24 l0 x17_2).f1), .int .i64 ((rd_T24 l0 x17_2).f2), .int .i64 0, .int .i64 0, .int .i64 0, .int .i64 0, .int .i64 0]) ?_ 3 _ rfl; (with_reducible repeat (first | refine zE ?_ _ | refine zF ?_ | refine zD ?_ _)); refine blk_put (cs := #[.int .i64 ((rd_T24 l0 x17_2).f0), .int .i64 ((rd_T24 l0 x17_2).f1), .int .i64 0, .int .i64 0, .int .i64 0, .int .i64 0, .int .i64 0, .int .i64 0]) ?_ 2 _ rfl; (with_reducible repeat (first | refine zE ?_ _ | refine zF ?_ | refine zD ?_ _)); refine blk_put (cs := #[.int .i64 ((rd_T24 l0 x17_2).f0), .int .i64 0, .int .i64 0, .int .i64 0, .int .i64 0, .int .i64 0, .int .i64 0, .int .i64 0]) ?_ 1 _ rfl; (with_reducible repeat (first | refine zE ?_ _ | refine zF ?_ | refine zD ?_ _)); refine blk_put (cs := #[.int .i64 0, .int .i64 0, .int .i64 0, .int .i64 0, .int .i64 0, .int .i64 0, .int .i64 0, .int .i64 0]) ?_ 0 _ rfl; (with_reducible repeat (first | refine zE ?_ _ | refine zF ?_ | refine zD ?_ _)); exact BK159.out⟩, ⟨by repeat (first | (with_reducible first | exact HB.out | apply zA | apply zB | apply zC | refine below_set ?_ GE159.out) | exact HB.out)⟩⟩ ?_
          try clear hcz12_0
          try clear hcz12_1
          try clear hcz12_2
          try clear hcz12_3
          try clear hcz12_4
          try clear hcz12_5
          try clear hcz12_6
          try clear hcz12_7
          try clear hfz12_0
          try clear hfz12_1
          try clear hfz12_2
          try clear hfz12_3
          try clear hfz12_4
          try clear hfz12_5
          try clear hfz12_6
          try clear hfz12_7
          try clear hx158_0
          try clear hx158_1
          try clear hx158_2
          try clear hx158_3
          try clear hx158_4
          try clear hx158_5
          try clear hx158_6
          try clear hx158_7
          try clear BK159
          try clear HB
          rintro wc ⟨BKc, HBc⟩
          have hb0 : wc.cell? ⟨gb159, 0, none⟩ = some (.int .i64 ((rd_T24 l0 x17_2).f0)) := (zQ BKc.out 0).trans rfl
          have hb1 : wc.cell? ⟨gb159, 1, none⟩ = some (.int .i64 ((rd_T24 l0 x17_2).f1)) := (zQ BKc.out 1).trans rfl
          have hb2 : wc.cell? ⟨gb159, 2, none⟩ = some (.int .i64 ((rd_T24 l0 x17_2).f2)) := (zQ BKc.out 2).trans rfl
          have hb3 : wc.cell? ⟨gb159, 3, none⟩ = some (.int .i64 ((rd_T24 l0 x17_2).f3)) := (zQ BKc.out 3).trans rfl
          have hb4 : wc.cell? ⟨gb159, 4, none⟩ = some (.int .i64 ((rd_T24 l0 x17_2).f4)) := (zQ BKc.out 4).trans rfl
          have hb5 : wc.cell? ⟨gb159, 5, none⟩ = some (.int .i64 ((rd_T24 l0 x17_2).f5)) := (zQ BKc.out 5).trans rfl
          have hb6 : wc.cell? ⟨gb159, 6, none⟩ = some (.int .i64 ((rd_T24 l0 x17_2).f6)) := (zQ BKc.out 6).trans rfl
          have hb7 : wc.cell? ⟨gb159, 7, none⟩ = some (.int .i64 ((rd_T24 l0 x17_2).f7)) := (zQ BKc.out 7).trans rfl
          have hprev : Aside0 (0 ≤ (wrap64 (x17_2 - 1)) → (wrap64 (x17_2 - 1)) < (l0.length : Int) → wc.cell? (ad158.add ((wrap64 (x17_2 - 1)).toNat * 8)) = some (.int .i64 ((rd_T24 l0 (wrap64 (x17_2 - 1))).f0))) := ⟨fun p q => by
           obtain ⟨ad, e, hx, _⟩ := at_T24 HR0.out (wrap64 (x17_2 - 1)) p q
           cases e
           exact (HBc.out.cell (zR w _ hx)).trans hx⟩
          refine wp_region_quiet_lit (by kernel_rfl) (by kernel_rfl) ?_
          simp only [List.append_eq, List.cons_append, List.nil_append]
          refine wpQuiet_piece 22 90 27 (fun c => Aside0 ((if c = true then (impl_GoodAggs.j2 k2 l0 a1 l0 (l0.length : Int) x17_2 true) else (if ((rd_T24 l0 x17_2).f0) < 0 then (impl_GoodAggs.j2 k2 l0 a1 l0 (l0.length : Int) x17_2 true) else (if ((rd_T24 l0 x17_2).f0) > 1000001000000 then (impl_GoodAggs.j2 k2 l0 a1 l0 (l0.length : Int) x17_2 true) else (if x17_2 > 0 then (if 0 ≤ (wrap64 (x17_2 - 1)) then (if (wrap64 (x17_2 - 1)) < (l0.length : Int) then (if ((rd_T24 l0 (wrap64 (x17_2 - 1))).f0) ≥ ((rd_T24 l0 x17_2).f0) then (impl_GoodAggs.j2 k2 l0 a1 l0 (l0.length : Int) x17_2 true) else (if ((rd_T24 l0 x17_2).f1) < 1 then (impl_GoodAggs.j2 k2 l0 a1 l0 (l0.length : Int) x17_2 true) else (if ((rd_T24 l0 x17_2).f1) > 2000 then (impl_GoodAggs.j2 k2 l0 a1 l0 (l0.length : Int) x17_2 true) else (if ((rd_T24 l0 x17_2).f5) < ((rd_T24 l0 x17_2).f3) then (impl_GoodAggs.j2 k2 l0 a1 l0 (l0.length : Int) x17_2 true) else (if ((rd_T24 l0 x17_2).f5) > ((rd_T24 l0 x17_2).f4) then (impl_GoodAggs.j2 k2 l0 a1 l0 (l0.length : Int) x17_2 true) else (if ((rd_T24 l0 x17_2).f6) < ((rd_T24 l0 x17_2).f3) then (impl_GoodAggs.j2 k2 l0 a1 l0 (l0.length : Int) x17_2 true) else (impl_GoodAggs.j2 k2 l0 a1 l0 (l0.length : Int) x17_2 (decide (((rd_T24 l0 x17_2).f6) > ((rd_T24 l0 x17_2).f4)))))))))) else (none)) else (none)) else (if ((rd_T24 l0 x17_2).f1) < 1 then (impl_GoodAggs.j2 k2 l0 a1 l0 (l0.length : Int) x17_2 true) else (if ((rd_T24 l0 x17_2).f1) > 2000 then (impl_GoodAggs.j2 k2 l0 a1 l0 (l0.length : Int) x17_2 true) else (if ((rd_T24 l0 x17_2).f5) < ((rd_T24 l0 x17_2).f3) then (impl_GoodAggs.j2 k2 l0 a1 l0 (l0.length : Int) x17_2 true) else (if ((rd_T24 l0 x17_2).f5) > ((rd_T24 l0 x17_2).f4) then (impl_GoodAggs.j2 k2 l0 a1 l0 (l0.length : Int) x17_2 true) else (if ((rd_T24 l0 x17_2).f6) < ((rd_T24 l0 x17_2).f3) then (impl_GoodAggs.j2 k2 l0 a1 l0 (l0.length : Int) x17_2 true) else (impl_GoodAggs.j2 k2 l0 a1 l0 (l0.length : Int) x17_2 (decide (((rd_T24 l0 x17_2).f6) > ((rd_T24 l0 x17_2).f4))))))))))))) = some r)) [_, _, _, _, _, _] rfl ?_ ?_
          ·by_cases c14 : (Int.tmod ((rd_T24 l0 x17_2).f0) a1) = 0
           ·rw [if_pos c14] at H
            have c14b0 : ((Int.tmod ((rd_T24 l0 x17_2).f0) a1) == 0) = true := beq_iff_eq.mpr c14
            have c14b1 : ((Int.tmod ((rd_T24 l0 x17_2).f0) a1) != 0) = false := bne_eq_false_iff_eq.mpr c14
            have H' := Aside0.mk H
            clear c14 H
            as_aux_lemma =>
             repeat (first | go_big_quiet_step (fail) | quiet_step (fail))
             refine wpQuiet_nil ?_
             exact ⟨false, ⟨(if_neg Bool.false_ne_true).trans H'.out⟩, rfl⟩
           ·rw [if_neg c14] at H
            have c14b1 : ((Int.tmod ((rd_T24 l0 x17_2).f0) a1) != 0) = true := bne_iff_ne.mpr c14
            have H' := Aside0.mk H
            clear c14 H
            as_aux_lemma =>
             repeat (first | go_big_quiet_step (fail) | quiet_step (fail))
             refine wpQuiet_nil ?_
             exact ⟨true, ⟨(if_pos rfl).trans H'.out⟩, rfl⟩
          clear H
          intro c J H
          simp only [jk, jkL, Nat.reduceAdd, Nat.reduceEqDiff, Nat.reduceLeDiff, Nat.reduceLT, ↓reduceIte]
          refine wpQuiet_piece 22 90 32 (fun c => Aside0 ((if c = true then (impl_GoodAggs.j2 k2 l0 a1 l0 (l0.length : Int) x17_2 true) else (if ((rd_T24 l0 x17_2).f0) > 1000001000000 then (impl_GoodAggs.j2 k2 l0 a1 l0 (l0.length : Int) x17_2 true) else (if x17_2 > 0 then (if 0 ≤ (wrap64 (x17_2 - 1)) then (if (wrap64 (x17_2 - 1)) < (l0.length : Int) then (if ((rd_T24 l0 (wrap64 (x17_2 - 1))).f0) ≥ ((rd_T24 l0 x17_2).f0) then (impl_GoodAggs.j2 k2 l0 a1 l0 (l0.length : Int) x17_2 true) else (if ((rd_T24 l0 x17_2).f1) < 1 then (impl_GoodAggs.j2 k2 l0 a1 l0 (l0.length : Int) x17_2 true) else (if ((rd_T24 l0 x17_2).f1) > 2000 then (impl_GoodAggs.j2 k2 l0 a1 l0 (l0.length : Int) x17_2 true) else (if ((rd_T24 l0 x17_2).f5) < ((rd_T24 l0 x17_2).f3) then (impl_GoodAggs.j2 k2 l0 a1 l0 (l0.length : Int) x17_2 true) else (if ((rd_T24 l0 x17_2).f5) > ((rd_T24 l0 x17_2).f4) then (impl_GoodAggs.j2 k2 l0 a1 l0 (l0.length : Int) x17_2 true) else (if ((rd_T24 l0 x17_2).f6) < ((rd_T24 l0 x17_2).f3) then (impl_GoodAggs.j2 k2 l0 a1 l0 (l0.length : Int) x17_2 true) else (impl_GoodAggs.j2 k2 l0 a1 l0 (l0.length : Int) x17_2 (decide (((rd_T24 l0 x17_2).f6) > ((rd_T24 l0 x17_2).f4)))))))))) else (none)) else (none)) else (if ((rd_T24 l0 x17_2).f1) < 1 then (impl_GoodAggs.j2 k2 l0 a1 l0 (l0.length : Int) x17_2 true) else (if ((rd_T24 l0 x17_2).f1) > 2000 then (impl_GoodAggs.j2 k2 l0 a1 l0 (l0.length : Int) x17_2 true) else (if ((rd_T24 l0 x17_2).f5) < ((rd_T24 l0 x17_2).f3) then (impl_GoodAggs.j2 k2 l0 a1 l0 (l0.length : Int) x17_2 true) else (if ((rd_T24 l0 x17_2).f5) > ((rd_T24 l0 x17_2).f4) then (impl_GoodAggs.j2 k2 l0 a1 l0 (l0.length : Int) x17_2 true) else (if ((rd_T24 l0 x17_2).f6) < ((rd_T24 l0 x17_2).f3) then (impl_GoodAggs.j2 k2 l0 a1 l0 (l0.length : Int) x17_2 true) else (impl_GoodAggs.j2 k2 l0 a1 l0 (l0.length : Int) x17_2 (decide (((rd_T24 l0 x17_2).f6) > ((rd_T24 l0 x17_2).f4)))))))))))) = some r)) [_, _, _, _, _] rfl ?_ ?_
          ·cases c with
           | true =>
            as_aux_lemma =>
             repeat (first | go_big_quiet_step (fail) | quiet_step (fail))
             refine wpQuiet_nil ?_
             exact ⟨true, ⟨(if_pos rfl).trans ((if_pos rfl).symm.trans H.out)⟩, rfl⟩
           | false =>
            have H : (if ((rd_T24 l0 x17_2).f0) < 0 then (impl_GoodAggs.j2 k2 l0 a1 l0 (l0.length : Int) x17_2 true) else (if ((rd_T24 l0 x17_2).f0) > 1000001000000 then (impl_GoodAggs.j2 k2 l0 a1 l0 (l0.length : Int) x17_2 true) else (if x17_2 > 0 then (if 0 ≤ (wrap64 (x17_2 - 1)) then (if (wrap64 (x17_2 - 1)) < (l0.length : Int) then (if ((rd_T24 l0 (wrap64 (x17_2 - 1))).f0) ≥ ((rd_T24 l0 x17_2).f0) then (impl_GoodAggs.j2 k2 l0 a1 l0 (l0.length : Int) x17_2 true) else (if ((rd_T24 l0 x17_2).f1) < 1 then (impl_GoodAggs.j2 k2 l0 a1 l0 (l0.length : Int) x17_2 true) else (if ((rd_T24 l0 x17_2).f1) > 2000 then (impl_GoodAggs.j2 k2 l0 a1 l0 (l0.length : Int) x17_2 true) else (if ((rd_T24 l0 x17_2).f5) < ((rd_T24 l0 x17_2).f3) then (impl_GoodAggs.j2 k2 l0 a1 l0 (l0.length : Int) x17_2 true) else (if ((rd_T24 l0 x17_2).f5) > ((rd_T24 l0 x17_2).f4) then (impl_GoodAggs.j2 k2 l0 a1 l0 (l0.length : Int) x17_2 true) else (if ((rd_T24 l0 x17_2).f6) < ((rd_T24 l0 x17_2).f3) then (impl_GoodAggs.j2 k2 l0 a1 l0 (l0.length : Int) x17_2 true) else (impl_GoodAggs.j2 k2 l0 a1 l0 (l0.length : Int) x17_2 (decide (((rd_T24 l0 x17_2).f6) > ((rd_T24 l0 x17_2).f4)))))))))) else (none)) else (none)) else (if ((rd_T24 l0 x17_2).f1) < 1 then (impl_GoodAggs.j2 k2 l0 a1 l0 (l0.length : Int) x17_2 true) else (if ((rd_T24 l0 x17_2).f1) > 2000 then (impl_GoodAggs.j2 k2 l0 a1 l0 (l0.length : Int) x17_2 true) else (if ((rd_T24 l0 x17_2).f5) < ((rd_T24 l0 x17_2).f3) then (impl_GoodAggs.j2 k2 l0 a1 l0 (l0.length : Int) x17_2 true) else (if ((rd_T24 l0 x17_2).f5) > ((rd_T24 l0 x17_2).f4) then (impl_GoodAggs.j2 k2 l0 a1 l0 (l0.length : Int) x17_2 true) else (if ((rd_T24 l0 x17_2).f6) < ((rd_T24 l0 x17_2).f3) then (impl_GoodAggs.j2 k2 l0 a1 l0 (l0.length : Int) x17_2 true) else (impl_GoodAggs.j2 k2 l0 a1 l0 (l0.length : Int) x17_2 (decide (((rd_T24 l0 x17_2).f6) > ((rd_T24 l0 x17_2).f4)))))))))))) = some r := (if_neg Bool.false_ne_true).symm.trans H.out
            by_cases c15 : ((rd_T24 l0 x17_2).f0) < 0
            ·rw [if_pos c15] at H
             have c15b0 : decide (((rd_T24 l0 x17_2).f0) < 0) = true := decide_eq_true c15
             have H' := Aside0.mk H
             clear c15 H
             as_aux_lemma =>
              repeat (first | go_big_quiet_step (fail) | quiet_step (fail))
              refine wpQuiet_nil ?_
              exact ⟨true, ⟨(if_pos rfl).trans H'.out⟩, rfl⟩
            ·rw [if_neg c15] at H
             have c15b0 : decide (((rd_T24 l0 x17_2).f0) < 0) = false := decide_eq_false c15
             have H' := Aside0.mk H
             clear c15 H
             as_aux_lemma =>
              repeat (first | go_big_quiet_step (fail) | quiet_step (fail))
              refine wpQuiet_nil ?_
              exact ⟨false, ⟨(if_neg Bool.false_ne_true).trans H'.out⟩, rfl⟩
          clear H
          intro c J H
          simp only [jk, jkL, Nat.reduceAdd, Nat.reduceEqDiff, Nat.reduceLeDiff, Nat.reduceLT, ↓reduceIte]
          refine wpQuiet_piece 22 90 37 (fun c => Aside0 ((if c = true then (impl_GoodAggs.j2 k2 l0 a1 l0 (l0.length : Int) x17_2 true) else (if x17_2 > 0 then (if 0 ≤ (wrap64 (x17_2 - 1)) then (if (wrap64 (x17_2 - 1)) < (l0.length : Int) then (if ((rd_T24 l0 (wrap64 (x17_2 - 1))).f0) ≥ ((rd_T24 l0 x17_2).f0) then (impl_GoodAggs.j2 k2 l0 a1 l0 (l0.length : Int) x17_2 true) else (if ((rd_T24 l0 x17_2).f1) < 1 then (impl_GoodAggs.j2 k2 l0 a1 l0 (l0.length : Int) x17_2 true) else (if ((rd_T24 l0 x17_2).f1) > 2000 then (impl_GoodAggs.j2 k2 l0 a1 l0 (l0.length : Int) x17_2 true) else (if ((rd_T24 l0 x17_2).f5) < ((rd_T24 l0 x17_2).f3) then (impl_GoodAggs.j2 k2 l0 a1 l0 (l0.length : Int) x17_2 true) else (if ((rd_T24 l0 x17_2).f5) > ((rd_T24 l0 x17_2).f4) then (impl_GoodAggs.j2 k2 l0 a1 l0 (l0.length : Int) x17_2 true) else (if ((rd_T24 l0 x17_2).f6) < ((rd_T24 l0 x17_2).f3) then (impl_GoodAggs.j2 k2 l0 a1 l0 (l0.length : Int) x17_2 true) else (impl_GoodAggs.j2 k2 l0 a1 l0 (l0.length : Int) x17_2 (decide (((rd_T24 l0 x17_2).f6) > ((rd_T24 l0 x17_2).f4)))))))))) else (none)) else (none)) else (if ((rd_T24 l0 x17_2).f1) < 1 then (impl_GoodAggs.j2 k2 l0 a1 l0 (l0.length : Int) x17_2 true) else (if ((rd_T24 l0 x17_2).f1) > 2000 then (impl_GoodAggs.j2 k2 l0 a1 l0 (l0.length : Int) x17_2 true) else (if ((rd_T24 l0 x17_2).f5) < ((rd_T24 l0 x17_2).f3) then (impl_GoodAggs.j2 k2 l0 a1 l0 (l0.length : Int) x17_2 true) else (if ((rd_T24 l0 x17_2).f5) > ((rd_T24 l0 x17_2).f4) then (impl_GoodAggs.j2 k2 l0 a1 l0 (l0.length : Int) x17_2 true) else (if ((rd_T24 l0 x17_2).f6) < ((rd_T24 l0 x17_2).f3) then (impl_GoodAggs.j2 k2 l0 a1 l0 (l0.length : Int) x17_2 true) else (impl_GoodAggs.j2 k2 l0 a1 l0 (l0.length : Int) x17_2 (decide (((rd_T24 l0 x17_2).f6) > ((rd_T24 l0 x17_2).f4))))))))))) = some r)) [_, _, _, _, _] rfl ?_ ?_
          ·cases c with
           | true =>
            as_aux_lemma =>
             repeat (first | go_big_quiet_step (fail) | quiet_step (fail))
             refine wpQuiet_nil ?_
             exact ⟨true, ⟨(if_pos rfl).trans ((if_pos rfl).symm.trans H.out)⟩, rfl⟩
           | false =>
            have H : (if ((rd_T24 l0 x17_2).f0) > 1000001000000 then (impl_GoodAggs.j2 k2 l0 a1 l0 (l0.length : Int) x17_2 true) else (if x17_2 > 0 then (if 0 ≤ (wrap64 (x17_2 - 1)) then (if (wrap64 (x17_2 - 1)) < (l0.length : Int) then (if ((rd_T24 l0 (wrap64 (x17_2 - 1))).f0) ≥ ((rd_T24 l0 x17_2).f0) then (impl_GoodAggs.j2 k2 l0 a1 l0 (l0.length : Int) x17_2 true) else (if ((rd_T24 l0 x17_2).f1) < 1 then (impl_GoodAggs.j2 k2 l0 a1 l0 (l0.length : Int) x17_2 true) else (if ((rd_T24 l0 x17_2).f1) > 2000 then (impl_GoodAggs.j2 k2 l0 a1 l0 (l0.length : Int) x17_2 true) else (if ((rd_T24 l0 x17_2).f5) < ((rd_T24 l0 x17_2).f3) then (impl_GoodAggs.j2 k2 l0 a1 l0 (l0.length : Int) x17_2 true) else (if ((rd_T24 l0 x17_2).f5) > ((rd_T24 l0 x17_2).f4) then (impl_GoodAggs.j2 k2 l0 a1 l0 (l0.length : Int) x17_2 true) else (if ((rd_T24 l0 x17_2).f6) < ((rd_T24 l0 x17_2).f3) then (impl_GoodAggs.j2 k2 l0 a1 l0 (l0.length : Int) x17_2 true) else (impl_GoodAggs.j2 k2 l0 a1 l0 (l0.length : Int) x17_2 (decide (((rd_T24 l0 x17_2).f6) > ((rd_T24 l0 x17_2).f4)))))))))) else (none)) else (none)) else (if ((rd_T24 l0 x17_2).f1) < 1 then (impl_GoodAggs.j2 k2 l0 a1 l0 (l0.length : Int) x17_2 true) else (if ((rd_T24 l0 x17_2).f1) > 2000 then (impl_GoodAggs.j2 k2 l0 a1 l0 (l0.length : Int) x17_2 true) else (if ((rd_T24 l0 x17_2).f5) < ((rd_T24 l0 x17_2).f3) then (impl_GoodAggs.j2 k2 l0 a1 l0 (l0.length : Int) x17_2 true) else (if ((rd_T24 l0 x17_2).f5) > ((rd_T24 l0 x17_2).f4) then (impl_GoodAggs.j2 k2 l0 a1 l0 (l0.length : Int) x17_2 true) else (if ((rd_T24 l0 x17_2).f6) < ((rd_T24 l0 x17_2).f3) then (impl_GoodAggs.j2 k2 l0 a1 l0 (l0.length : Int) x17_2 true) else (impl_GoodAggs.j2 k2 l0 a1 l0 (l0.length : Int) x17_2 (decide (((rd_T24 l0 x17_2).f6) > ((rd_T24 l0 x17_2).f4))))))))))) = some r := (if_neg Bool.false_ne_true).symm.trans H.out
            by_cases c15 : ((rd_T24 l0 x17_2).f0) > 1000001000000
            ·rw [if_pos c15] at H
             have c15b0 : decide (1000001000000 < ((rd_T24 l0 x17_2).f0)) = true := decide_eq_true c15
             have H' := Aside0.mk H
             clear c15 H
             as_aux_lemma =>
              repeat (first | go_big_quiet_step (fail) | quiet_step (fail))
              refine wpQuiet_nil ?_
              exact ⟨true, ⟨(if_pos rfl).trans H'.out⟩, rfl⟩
            ·rw [if_neg c15] at H
             have c15b0 : decide (1000001000000 < ((rd_T24 l0 x17_2).f0)) = false := decide_eq_false c15
             have H' := Aside0.mk H
             clear c15 H
             as_aux_lemma =>
              repeat (first | go_big_quiet_step (fail) | quiet_step (fail))
              refine wpQuiet_nil ?_
              exact ⟨false, ⟨(if_neg Bool.false_ne_true).trans H'.out⟩, rfl⟩
          clear H
          intro c J H
          simp only [jk, jkL, Nat.reduceAdd, Nat.reduceEqDiff, Nat.reduceLeDiff, Nat.reduceLT, ↓reduceIte]
          refine wpQuiet_piece 22 90 52 (fun c => Aside0 ((if c = true then (impl_GoodAggs.j2 k2 l0 a1 l0 (l0.length : Int) x17_2 true) else (if ((rd_T24 l0 x17_2).f1) < 1 then (impl_GoodAggs.j2 k2 l0 a1 l0 (l0.length : Int) x17_2 true) else (if ((rd_T24 l0 x17_2).f1) > 2000 then (impl_GoodAggs.j2 k2 l0 a1 l0 (l0.length : Int) x17_2 true) else (if ((rd_T24 l0 x17_2).f5) < ((rd_T24 l0 x17_2).f3) then (impl_GoodAggs.j2 k2 l0 a1 l0 (l0.length : Int) x17_2 true) else (if ((rd_T24 l0 x17_2).f5) > ((rd_T24 l0 x17_2).f4) then (impl_GoodAggs.j2 k2 l0 a1 l0 (l0.length : Int) x17_2 true) else (if ((rd_T24 l0 x17_2).f6) < ((rd_T24 l0 x17_2).f3) then (impl_GoodAggs.j2 k2 l0 a1 l0 (l0.length : Int) x17_2 true) else (impl_GoodAggs.j2 k2 l0 a1 l0 (l0.length : Int) x17_2 (decide (((rd_T24 l0 x17_2).f6) > ((rd_T24 l0 x17_2).f4)))))))))) = some r)) [_, _, _, _, _, _, _, _, _, _, _, _, _, _, _] rfl ?_ ?_
          ·cases c with
           | true =>
            clear hprev
            as_aux_lemma =>
             repeat (first | go_big_quiet_step (fail) | quiet_step (fail))
             refine wpQuiet_nil ?_
             exact ⟨true, ⟨(if_pos rfl).trans ((if_pos rfl).symm.trans H.out)⟩, rfl⟩
           | false =>
            have H : (if x17_2 > 0 then (if 0 ≤ (wrap64 (x17_2 - 1)) then (if (wrap64 (x17_2 - 1)) < (l0.length : Int) then (if ((rd_T24 l0 (wrap64 (x17_2 - 1))).f0) ≥ ((rd_T24 l0 x17_2).f0) then (impl_GoodAggs.j2 k2 l0 a1 l0 (l0.length : Int) x17_2 true) else (if ((rd_T24 l0 x17_2).f1) < 1 then (impl_GoodAggs.j2 k2 l0 a1 l0 (l0.length : Int) x17_2 true) else (if ((rd_T24 l0 x17_2).f1) > 2000 then (impl_GoodAggs.j2 k2 l0 a1 l0 (l0.length : Int) x17_2 true) else (if ((rd_T24 l0 x17_2).f5) < ((rd_T24 l0 x17_2).f3) then (impl_GoodAggs.j2 k2 l0 a1 l0 (l0.length : Int) x17_2 true) else (if ((rd_T24 l0 x17_2).f5) > ((rd_T24 l0 x17_2).f4) then (impl_GoodAggs.j2 k2 l0 a1 l0 (l0.length : Int) x17_2 true) else (if ((rd_T24 l0 x17_2).f6) < ((rd_T24 l0 x17_2).f3) then (impl_GoodAggs.j2 k2 l0 a1 l0 (l0.length : Int) x17_2 true) else (impl_GoodAggs.j2 k2 l0 a1 l0 (l0.length : Int) x17_2 (decide (((rd_T24 l0 x17_2).f6) > ((rd_T24 l0 x17_2).f4)))))))))) else (none)) else (none)) else (if ((rd_T24 l0 x17_2).f1) < 1 then (impl_GoodAggs.j2 k2 l0 a1 l0 (l0.length : Int) x17_2 true) else (if ((rd_T24 l0 x17_2).f1) > 2000 then (impl_GoodAggs.j2 k2 l0 a1 l0 (l0.length : Int) x17_2 true) else (if ((rd_T24 l0 x17_2).f5) < ((rd_T24 l0 x17_2).f3) then (impl_GoodAggs.j2 k2 l0 a1 l0 (l0.length : Int) x17_2 true) else (if ((rd_T24 l0 x17_2).f5) > ((rd_T24 l0 x17_2).f4) then (impl_GoodAggs.j2 k2 l0 a1 l0 (l0.length : Int) x17_2 true) else (if ((rd_T24 l0 x17_2).f6) < ((rd_T24 l0 x17_2).f3) then (impl_GoodAggs.j2 k2 l0 a1 l0 (l0.length : Int) x17_2 true) else (impl_GoodAggs.j2 k2 l0 a1 l0 (l0.length : Int) x17_2 (decide (((rd_T24 l0 x17_2).f6) > ((rd_T24 l0 x17_2).f4)))))))))) = some r := (if_neg Bool.false_ne_true).symm.trans H.out
            by_cases c15 : x17_2 > 0
            ·rw [if_pos c15] at H
             have c15b0 : decide (0 < x17_2) = true := decide_eq_true c15
             by_cases c16 : 0 ≤ (wrap64 (x17_2 - 1))
             ·rw [if_pos c16] at H
              by_cases c17 : (wrap64 (x17_2 - 1)) < (l0.length : Int)
              ·rw [if_pos c17] at H
               have hx := hprev.out c16 c17
               have c16b0 : decide (0 ≤ (wrap64 (x17_2 - 1))) = true := decide_eq_true c16
               have c17b0 : decide ((wrap64 (x17_2 - 1)) < (l0.length : Int)) = true := decide_eq_true c17
               by_cases c18 : ((rd_T24 l0 (wrap64 (x17_2 - 1))).f0) ≥ ((rd_T24 l0 x17_2).f0)
               ·rw [if_pos c18] at H
                have c18b0 : decide (((rd_T24 l0 x17_2).f0) ≤ ((rd_T24 l0 (wrap64 (x17_2 - 1))).f0)) = true := decide_eq_true c18
                have H' := Aside0.mk H
                clear c15 c18 H hprev
                as_aux_lemma =>
                 repeat (first | go_big_quiet_step (fail) | quiet_step (fail))
                 refine wpQuiet_nil ?_
                 exact ⟨true, ⟨(if_pos rfl).trans H'.out⟩, rfl⟩
               ·rw [if_neg c18] at H
                have c18b0 : decide (((rd_T24 l0 x17_2).f0) ≤ ((rd_T24 l0 (wrap64 (x17_2 - 1))).f0)) = false := decide_eq_false c18
                have H' := Aside0.mk H
                clear c15 c18 H hprev
                as_aux_lemma =>
                 repeat (first | go_big_quiet_step (fail) | quiet_step (fail))
                 refine wpQuiet_nil ?_
                 exact ⟨false, ⟨(if_neg Bool.false_ne_true).trans H'.out⟩, rfl⟩
              ·rw [if_neg c17] at H
               exact absurd H (by simp)
             ·rw [if_neg c16] at H
              exact absurd H (by simp)
            ·rw [if_neg c15] at H
             have c15b0 : decide (0 < x17_2) = false := decide_eq_false c15
             have H' := Aside0.mk H
             clear c15 H hprev
             as_aux_lemma =>
              repeat (first | go_big_quiet_step (fail) | quiet_step (fail))
              refine wpQuiet_nil ?_
              exact ⟨false, ⟨(if_neg Bool.false_ne_true).trans H'.out⟩, rfl⟩
          clear H hprev
          intro c J H
          simp only [jk, jkL, Nat.reduceAdd, Nat.reduceEqDiff, Nat.reduceLeDiff, Nat.reduceLT, ↓reduceIte]
          refine wpQuiet_piece 22 90 57 (fun c => Aside0 ((if c = true then (impl_GoodAggs.j2 k2 l0 a1 l0 (l0.length : Int) x17_2 true) else (if ((rd_T24 l0 x17_2).f1) > 2000 then (impl_GoodAggs.j2 k2 l0 a1 l0 (l0.length : Int) x17_2 true) else (if ((rd_T24 l0 x17_2).f5) < ((rd_T24 l0 x17_2).f3) then (impl_GoodAggs.j2 k2 l0 a1 l0 (l0.length : Int) x17_2 true) else (if ((rd_T24 l0 x17_2).f5) > ((rd_T24 l0 x17_2).f4) then (impl_GoodAggs.j2 k2 l0 a1 l0 (l0.length : Int) x17_2 true) else (if ((rd_T24 l0 x17_2).f6) < ((rd_T24 l0 x17_2).f3) then (impl_GoodAggs.j2 k2 l0 a1 l0 (l0.length : Int) x17_2 true) else (impl_GoodAggs.j2 k2 l0 a1 l0 (l0.length : Int) x17_2 (decide (((rd_T24 l0 x17_2).f6) > ((rd_T24 l0 x17_2).f4))))))))) = some r)) [_, _, _, _, _] rfl ?_ ?_
          ·cases c with
           | true =>
            as_aux_lemma =>
             repeat (first | go_big_quiet_step (fail) | quiet_step (fail))
             refine wpQuiet_nil ?_
             exact ⟨true, ⟨(if_pos rfl).trans ((if_pos rfl).symm.trans H.out)⟩, rfl⟩
           | false =>
            have H : (if ((rd_T24 l0 x17_2).f1) < 1 then (impl_GoodAggs.j2 k2 l0 a1 l0 (l0.length : Int) x17_2 true) else (if ((rd_T24 l0 x17_2).f1) > 2000 then (impl_GoodAggs.j2 k2 l0 a1 l0 (l0.length : Int) x17_2 true) else (if ((rd_T24 l0 x17_2).f5) < ((rd_T24 l0 x17_2).f3) then (impl_GoodAggs.j2 k2 l0 a1 l0 (l0.length : Int) x17_2 true) else (if ((rd_T24 l0 x17_2).f5) > ((rd_T24 l0 x17_2).f4) then (impl_GoodAggs.j2 k2 l0 a1 l0 (l0.length : Int) x17_2 true) else (if ((rd_T24 l0 x17_2).f6) < ((rd_T24 l0 x17_2).f3) then (impl_GoodAggs.j2 k2 l0 a1 l0 (l0.length : Int) x17_2 true) else (impl_GoodAggs.j2 k2 l0 a1 l0 (l0.length : Int) x17_2 (decide (((rd_T24 l0 x17_2).f6) > ((rd_T24 l0 x17_2).f4))))))))) = some r := (if_neg Bool.false_ne_true).symm.trans H.out
            by_cases c15 : ((rd_T24 l0 x17_2).f1) < 1
            ·rw [if_pos c15] at H
             have c15b0 : decide (((rd_T24 l0 x17_2).f1) < 1) = true := decide_eq_true c15
             have H' := Aside0.mk H
             clear c15 H
             as_aux_lemma =>
              repeat (first | go_big_quiet_step (fail) | quiet_step (fail))
              refine wpQuiet_nil ?_
              exact ⟨true, ⟨(if_pos rfl).trans H'.out⟩, rfl⟩
            ·rw [if_neg c15] at H
             have c15b0 : decide (((rd_T24 l0 x17_2).f1) < 1) = false := decide_eq_false c15
             have H' := Aside0.mk H
             clear c15 H
             as_aux_lemma =>
              repeat (first | go_big_quiet_step (fail) | quiet_step (fail))
              refine wpQuiet_nil ?_
              exact ⟨false, ⟨(if_neg Bool.false_ne_true).trans H'.out⟩, rfl⟩
          clear H
          intro c J H
          simp only [jk, jkL, Nat.reduceAdd, Nat.reduceEqDiff, Nat.reduceLeDiff, Nat.reduceLT, ↓reduceIte]
          refine wpQuiet_piece 22 90 62 (fun c => Aside0 ((if c = true then (impl_GoodAggs.j2 k2 l0 a1 l0 (l0.length : Int) x17_2 true) else (if ((rd_T24 l0 x17_2).f5) < ((rd_T24 l0 x17_2).f3) then (impl_GoodAggs.j2 k2 l0 a1 l0 (l0.length : Int) x17_2 true) else (if ((rd_T24 l0 x17_2).f5) > ((rd_T24 l0 x17_2).f4) then (impl_GoodAggs.j2 k2 l0 a1 l0 (l0.length : Int) x17_2 true) else (if ((rd_T24 l0 x17_2).f6) < ((rd_T24 l0 x17_2).f3) then (impl_GoodAggs.j2 k2 l0 a1 l0 (l0.length : Int) x17_2 true) else (impl_GoodAggs.j2 k2 l0 a1 l0 (l0.length : Int) x17_2 (decide (((rd_T24 l0 x17_2).f6) > ((rd_T24 l0 x17_2).f4)))))))) = some r)) [_, _, _, _, _] rfl ?_ ?_
          ·cases c with
           | true =>
            as_aux_lemma =>
             repeat (first | go_big_quiet_step (fail) | quiet_step (fail))
             refine wpQuiet_nil ?_
             exact ⟨true, ⟨(if_pos rfl).trans ((if_pos rfl).symm.trans H.out)⟩, rfl⟩
           | false =>
            have H : (if ((rd_T24 l0 x17_2).f1) > 2000 then (impl_GoodAggs.j2 k2 l0 a1 l0 (l0.length : Int) x17_2 true) else (if ((rd_T24 l0 x17_2).f5) < ((rd_T24 l0 x17_2).f3) then (impl_GoodAggs.j2 k2 l0 a1 l0 (l0.length : Int) x17_2 true) else (if ((rd_T24 l0 x17_2).f5) > ((rd_T24 l0 x17_2).f4) then (impl_GoodAggs.j2 k2 l0 a1 l0 (l0.length : Int) x17_2 true) else (if ((rd_T24 l0 x17_2).f6) < ((rd_T24 l0 x17_2).f3) then (impl_GoodAggs.j2 k2 l0 a1 l0 (l0.length : Int) x17_2 true) else (impl_GoodAggs.j2 k2 l0 a1 l0 (l0.length : Int) x17_2 (decide (((rd_T24 l0 x17_2).f6) > ((rd_T24 l0 x17_2).f4)))))))) = some r := (if_neg Bool.false_ne_true).symm.trans H.out
            by_cases c15 : ((rd_T24 l0 x17_2).f1) > 2000
            ·rw [if_pos c15] at H
             have c15b0 : decide (2000 < ((rd_T24 l0 x17_2).f1)) = true := decide_eq_true c15
             have H' := Aside0.mk H
             clear c15 H
             as_aux_lemma =>
              repeat (first | go_big_quiet_step (fail) | quiet_step (fail))
              refine wpQuiet_nil ?_
              exact ⟨true, ⟨(if_pos rfl).trans H'.out⟩, rfl⟩
            ·rw [if_neg c15] at H
             have c15b0 : decide (2000 < ((rd_T24 l0 x17_2).f1)) = false := decide_eq_false c15
             have H' := Aside0.mk H
             clear c15 H
             as_aux_lemma =>
              repeat (first | go_big_quiet_step (fail) | quiet_step (fail))
              refine wpQuiet_nil ?_
              exact ⟨false, ⟨(if_neg Bool.false_ne_true).trans H'.out⟩, rfl⟩
          clear H
          intro c J H
          simp only [jk, jkL, Nat.reduceAdd, Nat.reduceEqDiff, Nat.reduceLeDiff, Nat.reduceLT, ↓reduceIte]
          refine wpQuiet_piece 22 90 69 (fun c => Aside0 ((if c = true then (impl_GoodAggs.j2 k2 l0 a1 l0 (l0.length : Int) x17_2 true) else (if ((rd_T24 l0 x17_2).f5) > ((rd_T24 l0 x17_2).f4) then (impl_GoodAggs.j2 k2 l0 a1 l0 (l0.length : Int) x17_2 true) else (if ((rd_T24 l0 x17_2).f6) < ((rd_T24 l0 x17_2).f3) then (impl_GoodAggs.j2 k2 l0 a1 l0 (l0.length : Int) x17_2 true) else (impl_GoodAggs.j2 k2 l0 a1 l0 (l0.length : Int) x17_2 (decide (((rd_T24 l0 x17_2).f6) > ((rd_T24 l0 x17_2).f4))))))) = some r)) [_, _, _, _, _, _, _] rfl ?_ ?_
          ·cases c with
           | true =>
            as_aux_lemma =>
             repeat (first | go_big_quiet_step (fail) | quiet_step (fail))
             refine wpQuiet_nil ?_
             exact ⟨true, ⟨(if_pos rfl).trans ((if_pos rfl).symm.trans H.out)⟩, rfl⟩
           | false =>
            have H : (if ((rd_T24 l0 x17_2).f5) < ((rd_T24 l0 x17_2).f3) then (impl_GoodAggs.j2 k2 l0 a1 l0 (l0.length : Int) x17_2 true) else (if ((rd_T24 l0 x17_2).f5) > ((rd_T24 l0 x17_2).f4) then (impl_GoodAggs.j2 k2 l0 a1 l0 (l0.length : Int) x17_2 true) else (if ((rd_T24 l0 x17_2).f6) < ((rd_T24 l0 x17_2).f3) then (impl_GoodAggs.j2 k2 l0 a1 l0 (l0.length : Int) x17_2 true) else (impl_GoodAggs.j2 k2 l0 a1 l0 (l0.length : Int) x17_2 (decide (((rd_T24 l0 x17_2).f6) > ((rd_T24 l0 x17_2).f4))))))) = some r := (if_neg Bool.false_ne_true).symm.trans H.out
            by_cases c15 : ((rd_T24 l0 x17_2).f5) < ((rd_T24 l0 x17_2).f3)
            ·rw [if_pos c15] at H
             have c15b0 : decide (((rd_T24 l0 x17_2).f5) < ((rd_T24 l0 x17_2).f3)) = true := decide_eq_true c15
             have H' := Aside0.mk H
             clear c15 H
             as_aux_lemma =>
              repeat (first | go_big_quiet_step (fail) | quiet_step (fail))
              refine wpQuiet_nil ?_
              exact ⟨true, ⟨(if_pos rfl).trans H'.out⟩, rfl⟩
            ·rw [if_neg c15] at H
             have c15b0 : decide (((rd_T24 l0 x17_2).f5) < ((rd_T24 l0 x17_2).f3)) = false := decide_eq_false c15
             have H' := Aside0.mk H
             clear c15 H
             as_aux_lemma =>
              repeat (first | go_big_quiet_step (fail) | quiet_step (fail))
              refine wpQuiet_nil ?_
              exact ⟨false, ⟨(if_neg Bool.false_ne_true).trans H'.out⟩, rfl⟩
          clear H
          intro c J H
          simp only [jk, jkL, Nat.reduceAdd, Nat.reduceEqDiff, Nat.reduceLeDiff, Nat.reduceLT, ↓reduceIte]
          refine wpQuiet_piece 22 90 76 (fun c => Aside0 ((if c = true then (impl_GoodAggs.j2 k2 l0 a1 l0 (l0.length : Int) x17_2 true) else (if ((rd_T24 l0 x17_2).f6) < ((rd_T24 l0 x17_2).f3) then (impl_GoodAggs.j2 k2 l0 a1 l0 (l0.length : Int) x17_2 true) else (impl_GoodAggs.j2 k2 l0 a1 l0 (l0.length : Int) x17_2 (decide (((rd_T24 l0 x17_2).f6) > ((rd_T24 l0 x17_2).f4)))))) = some r)) [_, _, _, _, _, _, _] rfl ?_ ?_
          ·cases c with
           | true =>
            as_aux_lemma =>
             repeat (first | go_big_quiet_step (fail) | quiet_step (fail))
             refine wpQuiet_nil ?_
             exact ⟨true, ⟨(if_pos rfl).trans ((if_pos rfl).symm.trans H.out)⟩, rfl⟩
           | false =>
            have H : (if ((rd_T24 l0 x17_2).f5) > ((rd_T24 l0 x17_2).f4) then (impl_GoodAggs.j2 k2 l0 a1 l0 (l0.length : Int) x17_2 true) else (if ((rd_T24 l0 x17_2).f6) < ((rd_T24 l0 x17_2).f3) then (impl_GoodAggs.j2 k2 l0 a1 l0 (l0.length : Int) x17_2 true) else (impl_GoodAggs.j2 k2 l0 a1 l0 (l0.length : Int) x17_2 (decide (((rd_T24 l0 x17_2).f6) > ((rd_T24 l0 x17_2).f4)))))) = some r := (if_neg Bool.false_ne_true).symm.trans H.out
            by_cases c15 : ((rd_T24 l0 x17_2).f5) > ((rd_T24 l0 x17_2).f4)
            ·rw [if_pos c15] at H
             have c15b0 : decide (((rd_T24 l0 x17_2).f4) < ((rd_T24 l0 x17_2).f5)) = true := decide_eq_true c15
             have H' := Aside0.mk H
             clear c15 H
             as_aux_lemma =>
              repeat (first | go_big_quiet_step (fail) | quiet_step (fail))
              refine wpQuiet_nil ?_
              exact ⟨true, ⟨(if_pos rfl).trans H'.out⟩, rfl⟩
            ·rw [if_neg c15] at H
             have c15b0 : decide (((rd_T24 l0 x17_2).f4) < ((rd_T24 l0 x17_2).f5)) = false := decide_eq_false c15
             have H' := Aside0.mk H
             clear c15 H
             as_aux_lemma =>
              repeat (first | go_big_quiet_step (fail) | quiet_step (fail))
              refine wpQuiet_nil ?_
              exact ⟨false, ⟨(if_neg Bool.false_ne_true).trans H'.out⟩, rfl⟩
          clear H
          intro c J H
          simp only [jk, jkL, Nat.reduceAdd, Nat.reduceEqDiff, Nat.reduceLeDiff, Nat.reduceLT, ↓reduceIte]
          refine wpQuiet_piece 22 90 83 (fun c => Aside0 ((if c = true then (impl_GoodAggs.j2 k2 l0 a1 l0 (l0.length : Int) x17_2 true) else (impl_GoodAggs.j2 k2 l0 a1 l0 (l0.length : Int) x17_2 (decide (((rd_T24 l0 x17_2).f6) > ((rd_T24 l0 x17_2).f4))))) = some r)) [_, _, _, _, _, _, _] rfl ?_ ?_
          ·cases c with
           | true =>
            as_aux_lemma =>
             repeat (first | go_big_quiet_step (fail) | quiet_step (fail))
             refine wpQuiet_nil ?_
             exact ⟨true, ⟨(if_pos rfl).trans ((if_pos rfl).symm.trans H.out)⟩, rfl⟩
           | false =>
            have H : (if ((rd_T24 l0 x17_2).f6) < ((rd_T24 l0 x17_2).f3) then (impl_GoodAggs.j2 k2 l0 a1 l0 (l0.length : Int) x17_2 true) else (impl_GoodAggs.j2 k2 l0 a1 l0 (l0.length : Int) x17_2 (decide (((rd_T24 l0 x17_2).f6) > ((rd_T24 l0 x17_2).f4))))) = some r := (if_neg Bool.false_ne_true).symm.trans H.out
            by_cases c15 : ((rd_T24 l0 x17_2).f6) < ((rd_T24 l0 x17_2).f3)
            ·rw [if_pos c15] at H
             have c15b0 : decide (((rd_T24 l0 x17_2).f6) < ((rd_T24 l0 x17_2).f3)) = true := decide_eq_true c15
             have H' := Aside0.mk H
             clear c15 H
             as_aux_lemma =>
              repeat (first | go_big_quiet_step (fail) | quiet_step (fail))
              refine wpQuiet_nil ?_
              exact ⟨true, ⟨(if_pos rfl).trans H'.out⟩, rfl⟩
            ·rw [if_neg c15] at H
             have c15b0 : decide (((rd_T24 l0 x17_2).f6) < ((rd_T24 l0 x17_2).f3)) = false := decide_eq_false c15
             have H' := Aside0.mk H
             clear c15 H
             as_aux_lemma =>
              repeat (first | go_big_quiet_step (fail) | quiet_step (fail))
              refine wpQuiet_nil ?_
              exact ⟨false, ⟨(if_neg Bool.false_ne_true).trans H'.out⟩, rfl⟩
          clear H
          intro c J H
          simp only [jk, jkL, Nat.reduceAdd, Nat.reduceEqDiff, Nat.reduceLeDiff, Nat.reduceLT, ↓reduceIte]
          cases c with
          | true =>
           have H' := Aside0.mk ((if_pos (rfl : true = true)).symm.trans H.out)
           clear H
           repeat (first | go_big_quiet_step (fail) | quiet_step (fail))
           refine wpQuiet_nil ?_
           intro _ hw'
           obtain ⟨nq, hw''⟩ := hw'
           subst hw''
           try go_wp2
           go_meet
           case rel => exact ⟨_, true, (by first | rfl | (simp; done) | (simp [*]; done)), ⟨H'.out⟩, ⟨by have := HJ2.out; have := HK2.out; first | omega | exact Nat.le_refl _⟩, ⟨by (with_reducible repeat (first | refine zE ?_ _ | refine zF ?_ | refine zD ?_ _)); exact BKc.out⟩, ⟨by repeat (first | (with_reducible first | exact HBc.out | apply zA | apply zB | apply zC) | exact HBc.out)⟩⟩
          | false =>
           have H' := Aside0.mk ((if_neg Bool.false_ne_true).symm.trans H.out)
           clear H
           repeat (first | go_big_quiet_step (fail) | quiet_step (fail))
           refine wpQuiet_nil ?_
           intro _ hw'
           obtain ⟨nq, hw''⟩ := hw'
           subst hw''
           try go_wp2
           go_meet
           case rel => exact ⟨_, (decide (((rd_T24 l0 x17_2).f6) > ((rd_T24 l0 x17_2).f4))), (by first | rfl | (simp; done) | (simp [*]; done)), ⟨H'.out⟩, ⟨by have := HJ2.out; have := HK2.out; first | omega | exact Nat.le_refl _⟩, ⟨by (with_reducible repeat (first | refine zE ?_ _ | refine zF ?_ | refine zD ?_ _)); exact BKc.out⟩, ⟨by repeat (first | (with_reducible first | exact HBc.out | apply zA | apply zB | apply zC) | exact HBc.out)⟩⟩
         case rest =>
          clear HC10
          obtain ⟨kq, x89_9, rfl, HA, HJ9, BK159, HB⟩ := hcut
          cases kq with
          | zero => exact absurd HA.out (by simp [impl_GoodAggs.j2])
          | succ kj9 =>
           have H := HA.out
           clear HA
           simp only [impl_GoodAggs.j2] at H
           by_cases c48 : x89_9 = true
           ·subst c48
            have H1 : (some false) = some r := by rw [if_pos rfl] at H; exact H
            clear H
            have H := H1
            clear H1
            obtain rfl := Option.some.inj H
            go_wp2
            repeat (go_quiet (fail); try go_wp2)
            go_ret
            exact ⟨by first | rfl | (simp [errW_none, errW_some] <;> rfl) | (simp [*, errW_none, errW_some] <;> rfl), by repeat (first | (with_reducible first | exact HB.out | apply zA | apply zB | apply zC | refine below_set ?_ GE159.out) | exact HB.out)⟩
           ·replace c48 := Bool.eq_false_iff.mpr c48
            subst c48
            have H1 : (impl_GoodAggs.l0 kj9 l0 a1 l0 (l0.length : Int) (wrap64 (x17_2 + 1))) = some r := by rw [if_neg (show ¬ (false = true) by decide)] at H; exact H
            clear H
            have H := H1
            clear H1
            have H' := Aside0.mk H
            clear H
            go_wp2
            repeat (go_quiet (fail); try go_wp2)
            go_roundg kj9
            case measure => have := HJ2.out; have := HK2.out; have := HJ9.out; omega
            case rel => exact ⟨(wrap64 (x17_2 + 1)), (by first | rfl | (simp; done) | (simp [*]; done)), H', ⟨by have := HJ2.out; have := HK2.out; have := HJ9.out; omega⟩, ⟨by repeat (first | (with_reducible first | exact HB.out | apply zA | apply zB | apply zC | refine below_set ?_ GE159.out) | exact HB.out)⟩⟩
        ·rw [if_neg c9] at H
         exact absurd H (by simp)
       ·rw [if_neg c8] at H
        exact absurd H (by simp)
      ·rw [if_neg c7] at H
       have c7b0 : decide (x17_2 < (l0.length : Int)) = false := decide_eq_false c7
       clear c7
       obtain rfl := Option.some.inj H
       go_wp2
       repeat (go_quiet (fail); try go_wp2)
       go_ret
       exact ⟨by first | rfl | (simp [errW_none, errW_some] <;> rfl) | (simp [*, errW_none, errW_some] <;> rfl), by repeat (first | (with_reducible first | exact HB.out | apply zA | apply zB | apply zC) | exact HB.out)⟩

end Go.Proofs.Ytppifefhpjhmaaa.PFnExactDownAggs
