-- Written by a program of this session (xprint.py, over the kit's print).
import Derived.Test.YtppifefhpjhmaaaPFnBitsx0
import Derived.Test.YtppifefhpjhmaaaPFnBitsx5
namespace Go.Proofs.Ytppifefhpjhmaaa.PFnBits
open Go.RowKit Go.Proofs.YtppifefhpjhmaaaW.PrintWords Go.Proofs.YtppifefhpjhmaaaW.PrintLast Go.Proofs.YtppifefhpjhmaaaW.PrintMore Go.Proofs.Ytppifefhpjhmaaa.XWords
attribute [local go_sem] max2_int min2_int max_two min_two max_three min_three max_four min_four   -- for this text's walks alone
set_option linter.unusedVariables false
set_option linter.unusedSimpArgs false

/-! ### impl_AddBits: function 18 -/
mutual
def impl_AddBits.j0 : Nat → Int → Int → Bool → List Int → Int → Option (List Int × Int)
 | 0, _, _, _, _, _ => none
 | k + 1, x1, x2, x26, x229000, x229001 => if x26 = true then (some (([] : List Int), 0)) else (if 0 ≤ (wrap64 ((x229000.length : Int) + 9)) then (if (wrap64 ((x229000.length : Int) + 9) : Int).toNat ≤ 281474976710656 then ((some (List.replicate 0 0 : List Int)).bind fun y231 => (if y231.length + x229000.length < 140737488355328 then (impl_AddBits.l0 k x1 (wrap64 (x2 - 1)) (y231 ++ x229000) x229001) else (none))) else (none)) else (none))
def impl_AddBits.l0 : Nat → Int → Int → List Int → Int → Option (List Int × Int)
 | 0, _, _, _, _ => none
 | k + 1, x1, x8, x238000, x238001 => if x8 ≥ 0 then (if (Int.tmod x238001 8) = 0 then (if x238000.length < 140737488355328 then (impl_AddBits.j2 k x1 x8 (x238000 ++ [0]) x238001) else (none)) else (impl_AddBits.j2 k x1 x8 x238000 x238001)) else (some (x238000, x238001))
def impl_AddBits.j2 : Nat → Int → Int → List Int → Int → Option (List Int × Int)
 | 0, _, _, _, _ => none
 | k + 1, x1, x8, x238000, x238001 => if 0 ≤ x8 then (if (Go.bits .and .u64 (shr .u64 (IntKind.u64.wrap (x1)) x8) 1) = 1 then (if 0 ≤ (wrap64 (Int.tdiv x238001 8)) then (if (wrap64 (Int.tdiv x238001 8)) < (x238000.length : Int) then (if 0 ≤ (Int.tmod x238001 8) then (impl_AddBits.l0 k x1 (wrap64 (x8 - 1)) (x238000.set ((wrap64 (Int.tdiv x238001 8)) : Int).toNat (Go.bits .or .u8 (rd x238000 (wrap64 (Int.tdiv x238001 8))) (shr .u8 128 (Int.tmod x238001 8)))) (wrap64 (x238001 + 1))) else (none)) else (none)) else (none)) else (impl_AddBits.l0 k x1 (wrap64 (x8 - 1)) x238000 (wrap64 (x238001 + 1)))) else (none)
end
def impl_AddBits.f (k : Nat) (l0_0 : List Int) (a0_1 : Int) (a1 : Int) (a2 : Int) : Option (List Int × Int) := (impl_GoodBits.f k l0_0 a0_1).bind fun t230 => (if t230 = true then (if a2 < 0 then (impl_AddBits.j0 k a1 a2 true l0_0 a0_1) else (if a2 > 64 then (impl_AddBits.j0 k a1 a2 true l0_0 a0_1) else (impl_AddBits.j0 k a1 a2 (decide ((wrap64 (a0_1 + a2)) > 80000)) l0_0 a0_1))) else (impl_AddBits.j0 k a1 a2 true l0_0 a0_1))
theorem impl_AddBits.mono_l : ∀ k, (∀ y0 y1 y2 y3 y4, LeO (impl_AddBits.j0 k y0 y1 y2 y3 y4) (impl_AddBits.j0 (k + 1) y0 y1 y2 y3 y4)) ∧ (∀ y0 y1 y2 y3, LeO (impl_AddBits.l0 k y0 y1 y2 y3) (impl_AddBits.l0 (k + 1) y0 y1 y2 y3)) ∧ (∀ y0 y1 y2 y3, LeO (impl_AddBits.j2 k y0 y1 y2 y3) (impl_AddBits.j2 (k + 1) y0 y1 y2 y3))
 | 0 => ⟨fun _ _ _ _ _ r h => by simp [impl_AddBits.j0] at h, fun _ _ _ _ r h => by simp [impl_AddBits.l0] at h, fun _ _ _ _ r h => by simp [impl_AddBits.j2] at h⟩
 | k + 1 => by
  obtain ⟨ih0, ih1, ih2⟩ := impl_AddBits.mono_l k
  refine ⟨?_, ?_, ?_⟩
  ·intro y0 y1 y2 y3 y4
   unfold impl_AddBits.j0
   repeat' first
   | (with_reducible exact ih0 _ _ _ _ _)
   | (with_reducible exact ih1 _ _ _ _)
   | (with_reducible exact ih2 _ _ _ _)
   | (with_reducible exact impl_GoodBits.mono _ _ _)
   | (with_reducible exact LeO.refl _)
   | (with_reducible exact LeO.none _)
   | (with_reducible refine LeO.ite ?_ ?_)
   | (with_reducible refine LeO.bind ?_ (fun _ => ?_))
   | exact ih0 _ _ _ _ _
   | exact ih1 _ _ _ _
   | exact ih2 _ _ _ _
   | exact impl_GoodBits.mono _ _ _
   | exact LeO.none _
   | refine LeO.ite ?_ ?_
   | refine LeO.bind ?_ (fun _ => ?_)
  ·intro y0 y1 y2 y3
   unfold impl_AddBits.l0
   repeat' first
   | (with_reducible exact ih0 _ _ _ _ _)
   | (with_reducible exact ih1 _ _ _ _)
   | (with_reducible exact ih2 _ _ _ _)
   | (with_reducible exact impl_GoodBits.mono _ _ _)
   | (with_reducible exact LeO.refl _)
   | (with_reducible exact LeO.none _)
   | (with_reducible refine LeO.ite ?_ ?_)
   | (with_reducible refine LeO.bind ?_ (fun _ => ?_))
   | exact ih0 _ _ _ _ _
   | exact ih1 _ _ _ _
   | exact ih2 _ _ _ _
   | exact impl_GoodBits.mono _ _ _
   | exact LeO.none _
   | refine LeO.ite ?_ ?_
   | refine LeO.bind ?_ (fun _ => ?_)
  ·intro y0 y1 y2 y3
   unfold impl_AddBits.j2
   repeat' first
   | (with_reducible exact ih0 _ _ _ _ _)
   | (with_reducible exact ih1 _ _ _ _)
   | (with_reducible exact ih2 _ _ _ _)
   | (with_reducible exact impl_GoodBits.mono _ _ _)
   | (with_reducible exact LeO.refl _)
   | (with_reducible exact LeO.none _)
   | (with_reducible refine LeO.ite ?_ ?_)
   | (with_reducible refine LeO.bind ?_ (fun _ => ?_))
   | exact ih0 _ _ _ _ _
   | exact ih1 _ _ _ _
   | exact ih2 _ _ _ _
   | exact impl_GoodBits.mono _ _ _
   | exact LeO.none _
   | refine LeO.ite ?_ ?_
   | refine LeO.bind ?_ (fun _ => ?_)
theorem impl_AddBits.mono : ∀ a0 a1 a2 a3 k, LeO (impl_AddBits.f k a0 a1 a2 a3) (impl_AddBits.f (k + 1) a0 a1 a2 a3) := by
 intro a0 a1 a2 a3 k
 obtain ⟨ih0, ih1, ih2⟩ := impl_AddBits.mono_l k
 unfold impl_AddBits.f
 repeat' first
   | (with_reducible exact ih0 _ _ _ _ _)
   | (with_reducible exact ih1 _ _ _ _)
   | (with_reducible exact ih2 _ _ _ _)
   | (with_reducible exact impl_GoodBits.mono _ _ _)
   | (with_reducible exact LeO.refl _)
   | (with_reducible exact LeO.none _)
   | (with_reducible refine LeO.ite ?_ ?_)
   | (with_reducible refine LeO.bind ?_ (fun _ => ?_))
   | exact ih0 _ _ _ _ _
   | exact ih1 _ _ _ _
   | exact ih2 _ _ _ _
   | exact impl_GoodBits.mono _ _ _
   | exact LeO.none _
   | refine LeO.ite ?_ ?_
   | refine LeO.bind ?_ (fun _ => ?_)
def impl_AddBits.T3 : Bool × List (List Nat × List Nat) := (true, [([], []), ([0], [0]), ([1], [1]), ([2], [2]), ([3], [3]), ([], []), ([5], [5]), ([4, 6], [4, 6]), ([], []), ([8], [8]), ([7, 9], [7, 9]), ([], []), ([11, 10, 7, 0, 1, 2, 3, 4, 5, 6, 7, 8, 9, 10, 11], [10, 11])])
def impl_AddBits.B3 : List Nat := [0, 1, 3, 7, 15, 0, 32, 127, 0, 256, 1023, 0, 4095]
theorem impl_AddBits.tab3 : rtab .any (opsOf Try.f18 3) = impl_AddBits.T3 := by kernel_rfl
theorem impl_AddBits.bits3 : waitsOk impl_AddBits.T3.2 impl_AddBits.B3 = true := by kernel_rfl
def impl_AddBits.T10 : Bool × List (List Nat × List Nat) := (true, [([], []), ([0], [0]), ([], []), ([2], [2]), ([3], [3]), ([1, 4], [1, 4]), ([5], [5]), ([], []), ([7], [7]), ([8], [8]), ([9], [9]), ([6, 10], [6, 10]), ([1, 4, 0, 1, 2, 3, 4, 5, 6, 7, 8, 9, 10, 11], [1, 4]), ([12, 11, 0, 1, 2, 3, 4, 5, 6, 7, 8, 9, 10, 11], [11, 12])])
def impl_AddBits.B10 : List Nat := [0, 1, 0, 4, 12, 31, 63, 0, 128, 384, 896, 2047, 4095, 8191]
theorem impl_AddBits.tab10 : rtab .any (opsOf Try.f18 10) = impl_AddBits.T10 := by kernel_rfl
theorem impl_AddBits.bits10 : waitsOk impl_AddBits.T10.2 impl_AddBits.B10 = true := by kernel_rfl
set_option maxHeartbeats 8000000 in
set_option maxRecDepth 100000 in
theorem impl_AddBits.calls (k : Nat) (A0_0 : Option Addr) (c0_0 : Nat) (l0_0 : List Int) (a0_1 : Int) (a1 : Int) (a2 : Int) (r1 : List Int) (r2 : Int) (w : World) (hr0_0 : Kd.C (Kd.int .u8) w A0_0 l0_0.length l0_0) (hc0_0 : l0_0.length ≤ c0_0) (h : impl_AddBits.f k l0_0 a0_1 a1 a2 = some (r1, r2)) :
  Calls Try.prog 18 #[.agg #[.slice A0_0 l0_0.length c0_0, .int .i64 a0_1], .int .i64 a1, .int .i64 a2] w fun e w' => ∃ v0_ : Value, e = .returned (.agg #[v0_, .int .i64 r2]) ∧ Kd.R (Kd.int .u8) 5 w' w.heap.size (fun _ => True) v0_ r1 ∧ Below w.heap.size w w' := by
 have hu37 := Try.underlying37
 have HR0_0 := Aside0.mk hr0_0
 have HC0_0 := Aside0.mk hc0_0
 clear hr0_0 hc0_0
 have HB := Aside0.mk (Below.refl w.heap.size w)
 have H : ((impl_GoodBits.f k l0_0 a0_1).bind fun t230 => (if t230 = true then (if a2 < 0 then (impl_AddBits.j0 k a1 a2 true l0_0 a0_1) else (if a2 > 64 then (impl_AddBits.j0 k a1 a2 true l0_0 a0_1) else (impl_AddBits.j0 k a1 a2 (decide ((wrap64 (a0_1 + a2)) > 80000)) l0_0 a0_1))) else (impl_AddBits.j0 k a1 a2 true l0_0 a0_1))) = some (r1, r2) := h
 clear h
 have HC4 := Aside0.mk H
 clear H
 go_enter Try.func18, Try.ntmps18
 go_upto_region 1 with (first | ((with_reducible refine gate_dst (N := 3) rfl ?_); refine box_event ?hg (N := 3) ?hd (cs := #[.slice A0_0 l0_0.length c0_0, .int .i64 a0_1]) (t := 37) ?hr ?_; (case hd => rfl); (case hg => rfl); (case hr => first | (go_simp; done) | (go_simp; rfl)); intro gb228 hg w5 hbox hb; have n0_ := Aside0.mk (below_step (by repeat (first | (with_reducible first | exact HB.out | apply zA | apply zB | apply zC) | exact HB.out)) hb); have n1_ := Aside0.mk (hbox); have n2_ := Aside0.mk ((by rw [hg]; exact (zW (by repeat (first | (with_reducible first | exact HB.out | apply zA | apply zB | apply zC) | exact HB.out))) : w.heap.size ≤ gb228)); have n3_ := Aside0.mk ((by rw [hg]; exact (zW (by repeat (first | (with_reducible first | exact HB.out | apply zA | apply zB | apply zC) | exact HB.out))) : w.heap.size ≤ gb228)); clear HB; have HB := n0_; have BK228 := n1_; have GW228 := n2_; have GE228 := n3_; clear n0_ n1_ n2_ n3_; clear hb hbox hg) | ((with_reducible refine gate_dst (N := 6) rfl ?_); refine box_event ?hg (N := 6) ?hd (cs := #[.slice none 0 0, .int .i64 0]) (t := 37) ?hr ?_; (case hd => rfl); (case hg => rfl); (case hr => first | (go_simp; done) | (go_simp; rfl)); intro gb229 hg w6 hbox hb; have n0_ := Aside0.mk (blk_below (g := gb228) (o := .cells #[.slice A0_0 l0_0.length c0_0, .int .i64 a0_1] 37 (0, 0)) (by (with_reducible repeat (first | refine zE ?_ _ | refine zF ?_ | refine zD ?_ _)); exact BK228.out) hb); have n1_ := Aside0.mk (below_step (by repeat (first | (with_reducible first | exact HB.out | apply zA | apply zB | apply zC | refine below_set ?_ GE228.out) | exact HB.out)) hb); have n2_ := Aside0.mk (hbox); have n3_ := Aside0.mk ((by rw [hg]; exact (zW (by repeat (first | (with_reducible first | exact HB.out | apply zA | apply zB | apply zC | refine below_set ?_ GE228.out) | exact HB.out))) : w.heap.size ≤ gb229)); have n4_ := Aside0.mk ((by rw [hg]; exact (zW (by repeat (first | (with_reducible first | exact HB.out | apply zA | apply zB | apply zC | refine below_set ?_ GE228.out) | exact HB.out))) : w.heap.size ≤ gb229)); have n5_ := Aside0.mk ((by rw [hg]; exact Nat.ne_of_lt (blk_lt (g := gb228) (o := .cells #[.slice A0_0 l0_0.length c0_0, .int .i64 a0_1] 37 (0, 0)) (by (with_reducible repeat (first | refine zE ?_ _ | refine zF ?_ | refine zD ?_ _)); exact BK228.out)) : gb228 ≠ gb229)); have n6_ := Aside0.mk ((by rw [hg]; exact Nat.ne_of_gt (blk_lt (g := gb228) (o := .cells #[.slice A0_0 l0_0.length c0_0, .int .i64 a0_1] 37 (0, 0)) (by (with_reducible repeat (first | refine zE ?_ _ | refine zF ?_ | refine zD ?_ _)); exact BK228.out)) : gb229 ≠ gb228)); clear BK228; clear HB; have BK228 := n0_; have HB := n1_; have BK229 := n2_; have GW229 := n3_; have GE229 := n4_; have NB228_229 := n5_; have NB229_228 := n6_; clear n0_ n1_ n2_ n3_ n4_ n5_ n6_; clear hb hbox hg))
 (try simp only [Act.put, zT, zU, zV])
 go_cut [26] (fun v26 wc => ∃ (kq : Nat) (x26_3 : Bool), v26 = .bool x26_3 ∧ Aside0 (impl_AddBits.j0 kq a1 a2 x26_3 l0_0 a0_1 = some (r1, r2)) ∧ Aside0 (kq ≤ k) ∧ Aside0 (wc.heap[gb228]? = some (.cells #[(.slice A0_0 l0_0.length c0_0), .int .i64 a0_1] 37 (0, 0))) ∧ Aside0 (wc.heap[gb229]? = some (.cells #[(.slice none 0 0), .int .i64 0] 37 (0, 0))) ∧ Aside0 (Below w.heap.size w wc))
 case first =>
  have H := HC4.out
  clear HC4
  replace H := Option.bind_eq_some_iff.mp H
  obtain ⟨t230, A70, H⟩ := H
  replace H : (if t230 = true then (if a2 < 0 then (impl_AddBits.j0 k a1 a2 true l0_0 a0_1) else (if a2 > 64 then (impl_AddBits.j0 k a1 a2 true l0_0 a0_1) else (impl_AddBits.j0 k a1 a2 (decide ((wrap64 (a0_1 + a2)) > 80000)) l0_0 a0_1))) else (impl_AddBits.j0 k a1 a2 true l0_0 a0_1)) = some (r1, r2) := H
  have A7 := Aside0.mk A70
  clear A70
  by_cases c8 : t230 = true
  ·subst c8
   have H1 : (if a2 < 0 then (impl_AddBits.j0 k a1 a2 true l0_0 a0_1) else (if a2 > 64 then (impl_AddBits.j0 k a1 a2 true l0_0 a0_1) else (impl_AddBits.j0 k a1 a2 (decide ((wrap64 (a0_1 + a2)) > 80000)) l0_0 a0_1))) = some (r1, r2) := by rw [if_pos rfl] at H; exact H
   clear H
   have H := H1
   clear H1
   by_cases c9 : a2 < 0
   ·rw [if_pos c9] at H
    have c9b0 : decide (a2 < 0) = true := decide_eq_true c9
    clear c9
    (first | rw [c9b0] | (simp only [i64_w, i32_w]; rw [c9b0]) | skip)
    have H' := Aside0.mk H
    clear H
    have hnb10 := NB228_229.out
    have hnc10 := NB229_228.out
    have hcz11_0 : w6.cell? ⟨gb228, 0, none⟩ = some (.slice A0_0 l0_0.length c0_0) := (zQ BK228.out 0).trans rfl
    have hcz11_1 : w6.cell? ⟨gb228, 1, none⟩ = some (.int .i64 a0_1) := (zQ BK228.out 1).trans rfl
    have hfz11_0 := blk_frozen BK228.out 0
    have hfz11_1 := blk_frozen BK228.out 1
    go_wp2_with (first | ((with_reducible refine gate_callee (f := 21) rfl ?_); refine goesL_ (some 10) rfl rfl Try.func21 (by kernel_rfl) rfl #[.agg #[.slice A0_0 l0_0.length c0_0, .int .i64 a0_1]] rfl (by (try simp only [List.map_toArray, List.map_cons, List.map_nil]); first | done | rfl | (simp only [List.length_drop, List.length_take]; rfl)) ?_; (with_reducible refine (impl_GoodBits.calls k _ _ l0_0 a0_1 true _ ?side1 ?side2 A7.out).mono ?_); (case side1 => repeat (first | exact (Kd.C_below HR0_0.out HB.out) | (with_reducible refine zJ ?_ _) | (with_reducible refine zK ?_ _) | (with_reducible refine zL ?_))); (case side2 => exact HC0_0.out); rintro e w12 ⟨rfl, hb⟩; refine ⟨_, rfl, ?_⟩; have n0_ := Aside0.mk (blk_below (g := gb228) (o := .cells #[.slice A0_0 l0_0.length c0_0, .int .i64 a0_1] 37 (0, 0)) (by (with_reducible repeat (first | refine zE ?_ _ | refine zF ?_ | refine zD ?_ _)); exact BK228.out) hb); have n1_ := Aside0.mk (blk_below (g := gb229) (o := .cells #[.slice none 0 0, .int .i64 0] 37 (0, 0)) (by (with_reducible repeat (first | refine zE ?_ _ | refine zF ?_ | refine zD ?_ _)); exact BK229.out) hb); have n2_ := Aside0.mk (below_step (by repeat (first | (with_reducible first | exact HB.out | apply zA | apply zB | apply zC | refine below_set ?_ GE228.out | refine below_set ?_ GE229.out) | exact HB.out)) hb); clear BK228; clear BK229; clear HB; have BK228 := n0_; have BK229 := n1_; have HB := n2_; clear n0_ n1_ n2_; (try clear hb); (try clear hb2); (try clear hk); (try clear hi)))
    go_meet
    case rel => exact ⟨_, (true), (by first | rfl | (simp; done) | (simp [*]; done)), H', ⟨by first | omega | exact Nat.le_refl _⟩, ⟨by (with_reducible repeat (first | refine zE ?_ _ | refine zF ?_ | refine zD ?_ _)); exact BK228.out⟩, ⟨by (with_reducible repeat (first | refine zE ?_ _ | refine zF ?_ | refine zD ?_ _)); exact BK229.out⟩, ⟨by repeat (first | (with_reducible first | exact HB.out | apply zA | apply zB | apply zC | refine below_set ?_ GE228.out | refine below_set ?_ GE229.out) | exact HB.out)⟩⟩
   ·rw [if_neg c9] at H
    have c9b0 : decide (a2 < 0) = false := decide_eq_false c9
    clear c9
    (first | rw [c9b0] | (simp only [i64_w, i32_w]; rw [c9b0]) | skip)
    by_cases c13 : a2 > 64
    ·rw [if_pos c13] at H
     have c13b0 : decide (64 < a2) = true := decide_eq_true c13
     clear c13
     have H' := Aside0.mk H
     clear H
     have hnb14 := NB228_229.out
     have hnc14 := NB229_228.out
     have hcz15_0 : w6.cell? ⟨gb228, 0, none⟩ = some (.slice A0_0 l0_0.length c0_0) := (zQ BK228.out 0).trans rfl
     have hcz15_1 : w6.cell? ⟨gb228, 1, none⟩ = some (.int .i64 a0_1) := (zQ BK228.out 1).trans rfl
     have hfz15_0 := blk_frozen BK228.out 0
     have hfz15_1 := blk_frozen BK228.out 1
     go_wp2_with (first | ((with_reducible refine gate_callee (f := 21) rfl ?_); refine goesL_ (some 10) rfl rfl Try.func21 (by kernel_rfl) rfl #[.agg #[.slice A0_0 l0_0.length c0_0, .int .i64 a0_1]] rfl (by (try simp only [List.map_toArray, List.map_cons, List.map_nil]); first | done | rfl | (simp only [List.length_drop, List.length_take]; rfl)) ?_; (with_reducible refine (impl_GoodBits.calls k _ _ l0_0 a0_1 true _ ?side1 ?side2 A7.out).mono ?_); (case side1 => repeat (first | exact (Kd.C_below HR0_0.out HB.out) | (with_reducible refine zJ ?_ _) | (with_reducible refine zK ?_ _) | (with_reducible refine zL ?_))); (case side2 => exact HC0_0.out); rintro e w16 ⟨rfl, hb⟩; refine ⟨_, rfl, ?_⟩; have n0_ := Aside0.mk (blk_below (g := gb228) (o := .cells #[.slice A0_0 l0_0.length c0_0, .int .i64 a0_1] 37 (0, 0)) (by (with_reducible repeat (first | refine zE ?_ _ | refine zF ?_ | refine zD ?_ _)); exact BK228.out) hb); have n1_ := Aside0.mk (blk_below (g := gb229) (o := .cells #[.slice none 0 0, .int .i64 0] 37 (0, 0)) (by (with_reducible repeat (first | refine zE ?_ _ | refine zF ?_ | refine zD ?_ _)); exact BK229.out) hb); have n2_ := Aside0.mk (below_step (by repeat (first | (with_reducible first | exact HB.out | apply zA | apply zB | apply zC | refine below_set ?_ GE228.out | refine below_set ?_ GE229.out) | exact HB.out)) hb); clear BK228; clear BK229; clear HB; have BK228 := n0_; have BK229 := n1_; have HB := n2_; clear n0_ n1_ n2_; (try clear hb); (try clear hb2); (try clear hk); (try clear hi)))
     go_meet
     case rel => exact ⟨_, (true), (by first | rfl | (simp; done) | (simp [*]; done)), H', ⟨by first | omega | exact Nat.le_refl _⟩, ⟨by (with_reducible repeat (first | refine zE ?_ _ | refine zF ?_ | refine zD ?_ _)); exact BK228.out⟩, ⟨by (with_reducible repeat (first | refine zE ?_ _ | refine zF ?_ | refine zD ?_ _)); exact BK229.out⟩, ⟨by repeat (first | (with_reducible first | exact HB.out | apply zA | apply zB | apply zC | refine below_set ?_ GE228.out | refine below_set ?_ GE229.out) | exact HB.out)⟩⟩
    ·rw [if_neg c13] at H
     have c13b0 : decide (64 < a2) = false := decide_eq_false c13
     clear c13
     have H' := Aside0.mk H
     clear H
     have hnb17 := NB228_229.out
     have hnc17 := NB229_228.out
     have hcz18_0 : w6.cell? ⟨gb228, 0, none⟩ = some (.slice A0_0 l0_0.length c0_0) := (zQ BK228.out 0).trans rfl
     have hcz18_1 : w6.cell? ⟨gb228, 1, none⟩ = some (.int .i64 a0_1) := (zQ BK228.out 1).trans rfl
     have hfz18_0 := blk_frozen BK228.out 0
     have hfz18_1 := blk_frozen BK228.out 1
     go_wp2_with (first | ((with_reducible refine gate_callee (f := 21) rfl ?_); refine goesL_ (some 10) rfl rfl Try.func21 (by kernel_rfl) rfl #[.agg #[.slice A0_0 l0_0.length c0_0, .int .i64 a0_1]] rfl (by (try simp only [List.map_toArray, List.map_cons, List.map_nil]); first | done | rfl | (simp only [List.length_drop, List.length_take]; rfl)) ?_; (with_reducible refine (impl_GoodBits.calls k _ _ l0_0 a0_1 true _ ?side1 ?side2 A7.out).mono ?_); (case side1 => repeat (first | exact (Kd.C_below HR0_0.out HB.out) | (with_reducible refine zJ ?_ _) | (with_reducible refine zK ?_ _) | (with_reducible refine zL ?_))); (case side2 => exact HC0_0.out); rintro e w19 ⟨rfl, hb⟩; refine ⟨_, rfl, ?_⟩; have n0_ := Aside0.mk (blk_below (g := gb228) (o := .cells #[.slice A0_0 l0_0.length c0_0, .int .i64 a0_1] 37 (0, 0)) (by (with_reducible repeat (first | refine zE ?_ _ | refine zF ?_ | refine zD ?_ _)); exact BK228.out) hb); have n1_ := Aside0.mk (blk_below (g := gb229) (o := .cells #[.slice none 0 0, .int .i64 0] 37 (0, 0)) (by (with_reducible repeat (first | refine zE ?_ _ | refine zF ?_ | refine zD ?_ _)); exact BK229.out) hb); have n2_ := Aside0.mk (below_step (by repeat (first | (with_reducible first | exact HB.out | apply zA | apply zB | apply zC | refine below_set ?_ GE228.out | refine below_set ?_ GE229.out) | exact HB.out)) hb); clear BK228; clear BK229; clear HB; have BK228 := n0_; have BK229 := n1_; have HB := n2_; clear n0_ n1_ n2_; (try clear hb); (try clear hb2); (try clear hk); (try clear hi); have hcz20_0 : w19.cell? ⟨gb228, 0, none⟩ = some (.slice A0_0 l0_0.length c0_0) := (zQ BK228.out 0).trans rfl; have hcz20_1 : w19.cell? ⟨gb228, 1, none⟩ = some (.int .i64 a0_1) := (zQ BK228.out 1).trans rfl; have hfz20_0 := blk_frozen BK228.out 0; have hfz20_1 := blk_frozen BK228.out 1))
     go_meet
     case rel => exact ⟨_, (decide ((wrap64 (a0_1 + a2)) > 80000)), (by first | rfl | (simp; done) | (simp [*]; done)), H', ⟨by first | omega | exact Nat.le_refl _⟩, ⟨by (with_reducible repeat (first | refine zE ?_ _ | refine zF ?_ | refine zD ?_ _)); exact BK228.out⟩, ⟨by (with_reducible repeat (first | refine zE ?_ _ | refine zF ?_ | refine zD ?_ _)); exact BK229.out⟩, ⟨by repeat (first | (with_reducible first | exact HB.out | apply zA | apply zB | apply zC | refine below_set ?_ GE228.out | refine below_set ?_ GE229.out) | exact HB.out)⟩⟩
  ·replace c8 := Bool.eq_false_iff.mpr c8
   subst c8
   have H1 : (impl_AddBits.j0 k a1 a2 true l0_0 a0_1) = some (r1, r2) := by rw [if_neg (show ¬ (false = true) by decide)] at H; exact H
   clear H
   have H := H1
   clear H1
   have H' := Aside0.mk H
   clear H
   have hnb21 := NB228_229.out
   have hnc21 := NB229_228.out
   have hcz22_0 : w6.cell? ⟨gb228, 0, none⟩ = some (.slice A0_0 l0_0.length c0_0) := (zQ BK228.out 0).trans rfl
   have hcz22_1 : w6.cell? ⟨gb228, 1, none⟩ = some (.int .i64 a0_1) := (zQ BK228.out 1).trans rfl
   have hfz22_0 := blk_frozen BK228.out 0
   have hfz22_1 := blk_frozen BK228.out 1
   go_wp2_with (first | ((with_reducible refine gate_callee (f := 21) rfl ?_); refine goesL_ (some 10) rfl rfl Try.func21 (by kernel_rfl) rfl #[.agg #[.slice A0_0 l0_0.length c0_0, .int .i64 a0_1]] rfl (by (try simp only [List.map_toArray, List.map_cons, List.map_nil]); first | done | rfl | (simp only [List.length_drop, List.length_take]; rfl)) ?_; (with_reducible refine (impl_GoodBits.calls k _ _ l0_0 a0_1 false _ ?side1 ?side2 A7.out).mono ?_); (case side1 => repeat (first | exact (Kd.C_below HR0_0.out HB.out) | (with_reducible refine zJ ?_ _) | (with_reducible refine zK ?_ _) | (with_reducible refine zL ?_))); (case side2 => exact HC0_0.out); rintro e w23 ⟨rfl, hb⟩; refine ⟨_, rfl, ?_⟩; have n0_ := Aside0.mk (blk_below (g := gb228) (o := .cells #[.slice A0_0 l0_0.length c0_0, .int .i64 a0_1] 37 (0, 0)) (by (with_reducible repeat (first | refine zE ?_ _ | refine zF ?_ | refine zD ?_ _)); exact BK228.out) hb); have n1_ := Aside0.mk (blk_below (g := gb229) (o := .cells #[.slice none 0 0, .int .i64 0] 37 (0, 0)) (by (with_reducible repeat (first | refine zE ?_ _ | refine zF ?_ | refine zD ?_ _)); exact BK229.out) hb); have n2_ := Aside0.mk (below_step (by repeat (first | (with_reducible first | exact HB.out | apply zA | apply zB | apply zC | refine below_set ?_ GE228.out | refine below_set ?_ GE229.out) | exact HB.out)) hb); clear BK228; clear BK229; clear HB; have BK228 := n0_; have BK229 := n1_; have HB := n2_; clear n0_ n1_ n2_; (try clear hb); (try clear hb2); (try clear hk); (try clear hi)))
   go_meet
   case rel => exact ⟨_, (true), (by first | rfl | (simp; done) | (simp [*]; done)), H', ⟨by first | omega | exact Nat.le_refl _⟩, ⟨by (with_reducible repeat (first | refine zE ?_ _ | refine zF ?_ | refine zD ?_ _)); exact BK228.out⟩, ⟨by (with_reducible repeat (first | refine zE ?_ _ | refine zF ?_ | refine zD ?_ _)); exact BK229.out⟩, ⟨by repeat (first | (with_reducible first | exact HB.out | apply zA | apply zB | apply zC | refine below_set ?_ GE228.out | refine below_set ?_ GE229.out) | exact HB.out)⟩⟩
 case rest =>
  clear HC4
  try clear c1
  try clear c2
  try clear p2
  try clear p6
  try clear c8
  try clear c9
  try clear c9b0
  try clear c10
  try clear c13
  try clear c13b0
  try clear c14
  try clear c17
  try clear c18
  try clear c21
  try clear hcz11_0
  try clear hcz11_1
  try clear hcz15_0
  try clear hcz15_1
  try clear hcz18_0
  try clear hcz18_1
  try clear hcz20_0
  try clear hcz20_1
  try clear hcz22_0
  try clear hcz22_1
  try clear hfz11_0
  try clear hfz11_1
  try clear hfz15_0
  try clear hfz15_1
  try clear hfz18_0
  try clear hfz18_1
  try clear hfz20_0
  try clear hfz20_1
  try clear hfz22_0
  try clear hfz22_1
  obtain ⟨kq, x26_3, rfl, HA, HJ3, BK228, BK229, HB⟩ := hcut
  cases kq with
  | zero => exact absurd HA.out (by simp [impl_AddBits.j0])
  | succ kj3 =>
   have H := HA.out
   clear HA
   simp only [impl_AddBits.j0] at H
   by_cases c24 : x26_3 = true
   ·subst c24
    have H1 : (some (([] : List Int), 0)) = some (r1, r2) := by rw [if_pos rfl] at H; exact H
    clear H
    have H := H1
    clear H1
    simp only [Option.some.injEq, Prod.mk.injEq] at H
    obtain ⟨rfl, rfl⟩ := H
    have hnb25 := NB229_228.out
    have hnc25 := NB228_229.out
    have hcz26_0 : wc.cell? ⟨gb229, 0, none⟩ = some (.slice none 0 0) := (zQ BK229.out 0).trans rfl
    have hcz26_1 : wc.cell? ⟨gb229, 1, none⟩ = some (.int .i64 0) := (zQ BK229.out 1).trans rfl
    have hfz26_0 := blk_frozen BK229.out 0
    have hfz26_1 := blk_frozen BK229.out 1
    go_wp2
    refine bodyPost_ret (results_cell_row rfl _ _ gb229 37 #[.slice none 0 0, .int .i64 0] (0, 0) _ rfl (by (with_reducible repeat (first | refine zE ?_ _ | refine zF ?_ | refine zD ?_ _)); refine blk_put (cs := #[.slice none 0 0, .int .i64 0]) ?_ 1 _ rfl; (with_reducible repeat (first | refine zE ?_ _ | refine zF ?_ | refine zD ?_ _)); refine blk_put (cs := #[.slice none 0 0, .int .i64 0]) ?_ 0 _ rfl; (with_reducible repeat (first | refine zE ?_ _ | refine zF ?_ | refine zD ?_ _)); exact BK229.out) Try.underlying37 rfl (by kernel_rfl)) rfl ?_
    exact ⟨_, by first | rfl | (simp [errW_none, errW_some] <;> rfl) | (simp [*, errW_none, errW_some] <;> rfl), by first | exact Kd.R_nil _ _ _ _ _ | exact Kd.N_nil _ _ _ _ _ | exact Kd.V_nil _ _ _ _ _ | exact Kd.Q_nil _ _ _ _ _ | exact Kd.S_nil _ _ _ _ _, by repeat (first | (with_reducible first | exact HB.out | apply zA | apply zB | apply zC | refine below_set ?_ GE228.out | refine below_set ?_ GE229.out) | exact HB.out)⟩
   ·replace c24 := Bool.eq_false_iff.mpr c24
    subst c24
    have H1 : (if 0 ≤ (wrap64 ((l0_0.length : Int) + 9)) then (if (wrap64 ((l0_0.length : Int) + 9) : Int).toNat ≤ 281474976710656 then ((some (List.replicate 0 0 : List Int)).bind fun y231 => (if y231.length + l0_0.length < 140737488355328 then (impl_AddBits.l0 kj3 a1 (wrap64 (a2 - 1)) (y231 ++ l0_0) a0_1) else (none))) else (none)) else (none)) = some (r1, r2) := by rw [if_neg (show ¬ (false = true) by decide)] at H; exact H
    clear H
    have H := H1
    clear H1
    obtain ⟨ji27, hji27⟩ : ∃ j_ : Int, (wrap64 ((l0_0.length : Int) + 9)) = j_ := ⟨_, rfl⟩
    replace H : (if 0 ≤ (ji27) then (if (ji27 : Int).toNat ≤ 281474976710656 then ((some (List.replicate 0 0 : List Int)).bind fun y231 => (if y231.length + l0_0.length < 140737488355328 then (impl_AddBits.l0 kj3 a1 (wrap64 (a2 - 1)) (y231 ++ l0_0) a0_1) else (none))) else (none)) else (none)) = some (r1, r2) := by first | (rw [hji27] at H; exact H) | (simp only [hji27] at H ⊢; exact H)
    have hji27w : (IntKind.i64.wrap ((l0_0.length : Int) + 9)) = ji27 := (i64_w _).trans hji27
    by_cases c28 : 0 ≤ (ji27)
    ·rw [if_pos c28] at H
     have c28b0 := eq_true c28
     have c28b1 : decide (0 ≤ (ji27)) = true := decide_eq_true c28
     clear c28
     by_cases c29 : (ji27 : Int).toNat ≤ 281474976710656
     ·rw [if_pos c29] at H
      have c29b0 := eq_true c29
      have c29b1 : decide ((ji27 : Int).toNat ≤ 281474976710656) = true := decide_eq_true c29
      clear c29
      obtain ⟨y231, hy231⟩ : ∃ y_ : List Int, y_ = (List.replicate 0 0) := ⟨_, rfl⟩
      replace H : (if y231.length + l0_0.length < 140737488355328 then (impl_AddBits.l0 kj3 a1 (wrap64 (a2 - 1)) (y231 ++ l0_0) a0_1) else (none)) = some (r1, r2) := by first | (rw [hy231]; with_reducible exact H) | (have H2_ := (Option.bind_some _ _).symm.trans H; rw [hy231]; with_reducible exact H2_) | (have H2_ := (Option.bind_some _ _).symm.trans H; with_reducible exact H2_) | with_reducible exact H | (rw [hy231]; exact H) | exact H
      have Ny231 := Aside0.mk hy231
      clear hy231
      by_cases c30 : y231.length + l0_0.length < 140737488355328
      ·rw [if_pos c30] at H
       have LMc30 := Aside0.mk c30
       clear c30
       obtain ⟨y234, hy234⟩ : ∃ y_ : List Int, y_ = (y231 ++ l0_0) := ⟨_, rfl⟩
       replace H : (impl_AddBits.l0 kj3 a1 (wrap64 (a2 - 1)) y234 a0_1) = some (r1, r2) := by first | (rw [hy234]; with_reducible exact H) | (have H2_ := (Option.bind_some _ _).symm.trans H; rw [hy234]; with_reducible exact H2_) | (have H2_ := (Option.bind_some _ _).symm.trans H; with_reducible exact H2_) | with_reducible exact H | (rw [hy234]; exact H) | exact H
       have Ny234 := Aside0.mk hy234
       clear hy234
       have H' := Aside0.mk H
       clear H
       try go_wp2
       have n0_ := Aside0.mk (zF BK228.out)
       have n1_ := Aside0.mk (zF BK229.out)
       have n2_ := Aside0.mk (zC HB.out)
       clear BK228
       clear BK229
       clear HB
       have BK228 := n0_
       have BK229 := n1_
       have HB := n2_
       clear n0_ n1_ n2_
       refine start_ (n := 13) (S := fun w' => w'.cell? ⟨gb228, 0, none⟩ = some (.slice A0_0 l0_0.length c0_0) ∧ w'.cell? ⟨gb228, 1, none⟩ = some (.int .i64 a0_1)) (ds := []) #[false, false, false, false, false, false, false, false, false, false, false, false, false] (by kernel_rfl) rfl rfl ⟨(zQ BK228.out 0).trans rfl, (zQ BK228.out 1).trans rfl⟩ (fun hHeld => ?_); refine with_tabW impl_AddBits.tab3 impl_AddBits.bits3 (fun HT_ HW_ => ?_)
       generalize wc.drew = w31 at BK228 BK229 HB hHeld ⊢
       refine pure_ (i := 0) (N := some 28) (v := ?_) (a' := ?_) #[true, false, false, false, false, false, false, false, false, false, false, false, false] rfl rfl (any_of HT_.out (by kernel_rfl)) (fun _ _ _ h => h) (Or.inl ⟨by rfl, ?_⟩) ?_ ?_
       rotate_left
       ·intro w'
        go_simp
        with_reducible rfl
       rotate_left
       ·simp only [Act.put, zT, zU, zV, i64_w, i32_w]
        rfl
       refine pure_ (i := 5) (N := some 33) (v := ?_) (a' := ?_) #[true, false, false, false, false, true, false, false, false, false, false, false, false] rfl rfl (any_of HT_.out (by kernel_rfl)) (fun _ _ _ h => h) (Or.inl ⟨by rfl, ?_⟩) ?_ ?_
       rotate_left
       ·intro w'
        go_simp
        with_reducible rfl
       rotate_left
       ·simp only [Act.put, zT, zU, zV, i64_w, i32_w]
        rfl
       refine pure_ (i := 8) (N := some 36) (v := ?_) (a' := ?_) #[true, false, false, false, false, true, false, false, true, false, false, false, false] rfl rfl (any_of HT_.out (by kernel_rfl)) (fun _ _ _ h => h) (Or.inl ⟨by rfl, ?_⟩) ?_ ?_
       rotate_left
       ·intro w'
        go_simp
        with_reducible rfl
       rotate_left
       ·simp only [Act.put, zT, zU, zV, i64_w, i32_w]
        rfl
       refine take_ (i := 1) (N := some 29) (v := ?_) (a' := ?_) #[true, true, false, false, false, true, false, false, true, false, false, false, false] rfl rfl (take_ofW HT_.out HW_.out (by kernel_rfl)) (fun _ _ _ h => h) (Or.inl ⟨by rfl, ?_⟩) hHeld ?_ ?_
       rotate_left
       ·rintro w' ⟨s0, s1⟩
        go_simp
        with_reducible rfl
       rotate_left
       ·simp only [Act.put, zT, zU, zV, i64_w, i32_w]
        rfl
       refine pure_ (i := 2) (N := some 30) (v := ?_) (a' := ?_) #[true, true, true, false, false, true, false, false, true, false, false, false, false] rfl rfl (any_of HT_.out (by kernel_rfl)) (fun _ _ _ h => h) (Or.inl ⟨by rfl, ?_⟩) ?_ ?_
       rotate_left
       ·intro w'
        go_simp
        with_reducible rfl
       rotate_left
       ·simp only [Act.put, zT, zU, zV, i64_w, i32_w]
        rfl
       refine pure_ (i := 3) (N := some 31) (v := ?_) (a' := ?_) #[true, true, true, true, false, true, false, false, true, false, false, false, false] rfl rfl (any_of HT_.out (by kernel_rfl)) (fun _ _ _ h => h) (Or.inl ⟨by rfl, ?_⟩) ?_ ?_
       rotate_left
       ·intro w'
        go_simp
        with_reducible rfl
       rotate_left
       ·simp only [Act.put, zT, zU, zV, i64_w, i32_w]
        rfl
       refine take_ (i := 6) (N := some 34) (v := ?_) (a' := ?_) #[true, true, true, true, false, true, true, false, true, false, false, false, false] rfl rfl (take_ofW HT_.out HW_.out (by kernel_rfl)) (fun _ _ _ h => h) (Or.inl ⟨by rfl, ?_⟩) hHeld ?_ ?_
       rotate_left
       ·rintro w' ⟨s0, s1⟩
        go_simp
        with_reducible rfl
       rotate_left
       ·simp only [Act.put, zT, zU, zV, i64_w, i32_w]
        rfl
       refine take_ (i := 9) (N := some 37) (v := ?_) (a' := ?_) #[true, true, true, true, false, true, true, false, true, true, false, false, false] rfl rfl (take_ofW HT_.out HW_.out (by kernel_rfl)) (fun _ _ _ h => h) (Or.inl ⟨by rfl, ?_⟩) hHeld ?_ ?_
       rotate_left
       ·rintro w' ⟨s0, s1⟩
        go_simp
        with_reducible rfl
       rotate_left
       ·simp only [Act.put, zT, zU, zV, i64_w, i32_w]
        rfl
       refine join_ (σ := Value × Value × Nat) 1 #[true, true, true, true, true, true, true, true, true, true, true, true, false] (fun s_ => [(32, s_.1), (35, s_.2.1), (7, .pointer (some ⟨s_.2.2, 0, none⟩)), (38, .agg #[s_.2.1, .int .i64 a0_1])]) (fun s_ w' => (w'.cell? ⟨gb228, 0, none⟩ = some (.slice A0_0 l0_0.length c0_0) ∧ w'.cell? ⟨gb228, 1, none⟩ = some (.int .i64 a0_1)) ∧ (Kd.R (Kd.int .u8) 5 w' w.heap.size (fun _ => True) s_.2.1 y234) ∧ (w'.heap[gb228]? = some (.cells #[.slice A0_0 l0_0.length c0_0, .int .i64 a0_1] 37 (0, 0))) ∧ (w'.heap[gb229]? = some (.cells #[.slice none 0 0, .int .i64 0] 37 (0, 0))) ∧ (w'.heap[s_.2.2]? = some (.cells #[.slice none 0 0, .int .i64 0] 37 (0, 0))) ∧ (w.heap.size ≤ s_.2.2) ∧ (w.heap.size ≤ s_.2.2) ∧ (gb228 ≠ s_.2.2) ∧ (s_.2.2 ≠ gb228) ∧ (gb229 ≠ s_.2.2) ∧ (s_.2.2 ≠ gb229) ∧ (Below w.heap.size w w')) ?_ ?_
       rotate_left
       ·intro hCont
        refine two_ (i := 4) (j := 11) (Ni := some 32) (Nj := some 7) #[true, true, true, true, true, true, true, false, true, true, false, false, false] #[true, true, true, true, false, true, true, false, true, true, false, true, false] rfl rfl rfl rfl (two_of HT_.out (by kernel_rfl)) (by decide) (by decide) (fun K hK => ?_) (fun K hK => ?_)
        ·skip
         refine R_make0_step (Kd.int .u8) _ 5 (by rfl) (N := 32) rfl 22 _ _ rfl ji27 rfl rfl Try.underlying22 (.int .u8 0) 1 info5 rfl (by decide) (by omega) 0 (ok := fun _ => True) (okp := fun _ => True) rfl (fun _ hk => hk) trivial (zX (by first | (with_reducible assumption) | assumption)) (Nat.le_trans (Nat.mul_le_mul_right _ (zX (by first | (with_reducible assumption) | assumption) : ji27.toNat ≤ 281474976710656)) (by omega)) (Below.refl _ _) (Nat.le_refl _) ?_
         intro v232 w32 ho33 hb hg_ hnew_
         clear hg_ hnew_
         (first | rw [← Ny231.out] at ho33 | (simp only [Int.reduceToNat] at ho33; rw [← Ny231.out] at ho33))
         have n0_ := Aside0.mk (Kd.R_lower ho33 (zW (by repeat (first | (with_reducible first | exact HB.out | apply zA | apply zB | apply zC | refine below_set ?_ GE228.out | refine below_set ?_ GE229.out) | exact HB.out))))
         have n1_ := Aside0.mk (blk_below (g := gb228) (o := .cells #[.slice A0_0 l0_0.length c0_0, .int .i64 a0_1] 37 (0, 0)) (by (with_reducible repeat (first | refine zE ?_ _ | refine zF ?_ | refine zD ?_ _)); exact BK228.out) hb)
         have n2_ := Aside0.mk (blk_below (g := gb229) (o := .cells #[.slice none 0 0, .int .i64 0] 37 (0, 0)) (by (with_reducible repeat (first | refine zE ?_ _ | refine zF ?_ | refine zD ?_ _)); exact BK229.out) hb)
         have n3_ := Aside0.mk (below_step (by repeat (first | (with_reducible first | exact HB.out | apply zA | apply zB | apply zC | refine below_set ?_ GE228.out | refine below_set ?_ GE229.out) | exact HB.out)) hb)
         clear BK228
         clear BK229
         clear HB
         have HO233 := n0_
         have BK228 := n1_
         have BK229 := n2_
         have HB := n3_
         clear n0_ n1_ n2_ n3_
         clear hb ho33
         refine hK.out _ _ ⟨(zQ BK228.out 0).trans rfl, (zQ BK228.out 1).trans rfl⟩ (fun hHeld => ?_)
         clear hK K
         refine norm_ (a' := ?_) ?_ ?_
         rotate_left
         ·show Act.put _ (some 32) _ = _
          simp only [Act.put, zT, zU, zV, i64_w, i32_w]
          rfl
         refine two_ (i := 7) (j := 11) (Ni := some 35) (Nj := some 7) #[true, true, true, true, true, true, true, true, true, true, false, false, false] #[true, true, true, true, true, true, true, false, true, true, false, true, false] rfl rfl rfl rfl (two_of HT_.out (by kernel_rfl)) (by decide) (by decide) (fun K hK => ?_) (fun K hK => ?_)
         ·skip
          refine Kd.R_append_rows_step (Kd.int .u8) (w0 := w) w.heap.size (by rfl) (.tmp 32) (.tmp 34) 22 5 (.int .u8 0) 1 rfl Try.underlying22 info5 rfl (by decide) (by omega) v232 y231 l0_0 _ _ _ (fun _ => True) (fun _ => False) rfl rfl ?aO ?aR (fun _ _ h => h) (fun _ h => h.elim) ?aF ?aB ?aS ?aL ?_
          (case aR => repeat (first | exact (Kd.C_below HR0_0.out HB.out) | (with_reducible refine zJ ?_ _) | (with_reducible refine zK ?_ _) | (with_reducible refine zL ?_)))
          (case aB => exact (by repeat (first | (with_reducible first | exact HB.out | apply zA | apply zB | apply zC | refine below_set ?_ GE228.out | refine below_set ?_ GE229.out) | exact HB.out)))
          (case aF => exact (fun _ _ => trivial))
          (case aO => exact (by (with_reducible repeat (first | apply zG | apply zH | apply zI)); exact HO233.out))
          (case aS => exact (zW (by repeat (first | (with_reducible first | exact HB.out | apply zA | apply zB | apply zC | refine below_set ?_ GE228.out | refine below_set ?_ GE229.out) | exact HB.out))))
          (case aL => have := LMc30.out; omega)
          intro v235 w34 ho hb hg hat
          rw [← Ny234.out] at ho
          have n0_ := Aside0.mk (blk_grown (g := gb228) (o := .cells #[.slice A0_0 l0_0.length c0_0, .int .i64 a0_1] 37 (0, 0)) (by (with_reducible repeat (first | refine zE ?_ _ | refine zF ?_ | refine zD ?_ _)); exact BK228.out) hg (Kd.R_ne HO233.out BK228.out (by decide)))
          have n1_ := Aside0.mk (blk_grown (g := gb229) (o := .cells #[.slice none 0 0, .int .i64 0] 37 (0, 0)) (by (with_reducible repeat (first | refine zE ?_ _ | refine zF ?_ | refine zD ?_ _)); exact BK229.out) hg (Kd.R_ne HO233.out BK229.out (by decide)))
          have n2_ := Aside0.mk (hb)
          have n3_ := Aside0.mk (ho)
          clear BK228
          clear BK229
          clear HB
          try clear HO233
          have BK228 := n0_
          have BK229 := n1_
          have HB := n2_
          have HO236 := n3_
          clear n0_ n1_ n2_ n3_
          clear ho hb hg hat
          obtain ⟨Ao35, co35, eo35⟩ := Kd.R_slice HO236.out
          (first | subst eo35 | (injection eo35 with f1_ f2_ f3_; have f4_ := f1_.symm; have f5_ := f3_.symm; clear f1_ f2_ f3_; subst f4_; subst f5_))
          refine hK.out _ _ ⟨(zQ BK228.out 0).trans rfl, (zQ BK228.out 1).trans rfl⟩ (fun hHeld => ?_)
          clear hK K
          refine norm_ (a' := ?_) ?_ ?_
          rotate_left
          ·show Act.put _ (some 35) _ = _
           simp only [Act.put, zT, zU, zV, i64_w, i32_w]
           rfl
          refine pure_ (i := 10) (N := some 38) (v := ?_) (a' := ?_) #[true, true, true, true, true, true, true, true, true, true, true, false, false] rfl rfl (any_of HT_.out (by kernel_rfl)) (fun _ _ _ h => h) (Or.inl ⟨by rfl, ?_⟩) ?_ ?_
          rotate_left
          ·intro w'
           go_simp
           with_reducible rfl
          rotate_left
          ·simp only [Act.put, zT, zU, zV, i64_w, i32_w]
           rfl
          refine one_ (i := 11) (N := some 7) #[true, true, true, true, true, true, true, true, true, true, true, true, false] rfl rfl (one_of HT_.out (by kernel_rfl)) (by decide) (fun K hK => ?_)
          refine box_step ?hg (N := 7) ?hd (cs := #[.slice none 0 0, .int .i64 0]) (t := 37) ?hr ?_; (case hd => rfl); (case hg => rfl); (case hr => first | (go_simp; done) | (go_simp; rfl))
          intro gb237 hg w36 hbox hb
          have n0_ := Aside0.mk (Kd.R_below (by (with_reducible repeat (first | apply zG | apply zH | apply zI)); exact HO236.out) hb)
          have n1_ := Aside0.mk (blk_below (g := gb228) (o := .cells #[.slice A0_0 l0_0.length c0_0, .int .i64 a0_1] 37 (0, 0)) (by (with_reducible repeat (first | refine zE ?_ _ | refine zF ?_ | refine zD ?_ _)); exact BK228.out) hb)
          have n2_ := Aside0.mk (blk_below (g := gb229) (o := .cells #[.slice none 0 0, .int .i64 0] 37 (0, 0)) (by (with_reducible repeat (first | refine zE ?_ _ | refine zF ?_ | refine zD ?_ _)); exact BK229.out) hb)
          have n3_ := Aside0.mk (below_step (by repeat (first | (with_reducible first | exact HB.out | apply zA | apply zB | apply zC | refine below_set ?_ GE228.out | refine below_set ?_ GE229.out) | exact HB.out)) hb)
          have n4_ := Aside0.mk (hbox)
          have n5_ := Aside0.mk ((by rw [hg]; exact (zW (by repeat (first | (with_reducible first | exact HB.out | apply zA | apply zB | apply zC | refine below_set ?_ GE228.out | refine below_set ?_ GE229.out) | exact HB.out))) : w.heap.size ≤ gb237))
          have n6_ := Aside0.mk ((by rw [hg]; exact (zW (by repeat (first | (with_reducible first | exact HB.out | apply zA | apply zB | apply zC | refine below_set ?_ GE228.out | refine below_set ?_ GE229.out) | exact HB.out))) : w.heap.size ≤ gb237))
          have n7_ := Aside0.mk ((by rw [hg]; exact Nat.ne_of_lt (blk_lt (g := gb228) (o := .cells #[.slice A0_0 l0_0.length c0_0, .int .i64 a0_1] 37 (0, 0)) (by (with_reducible repeat (first | refine zE ?_ _ | refine zF ?_ | refine zD ?_ _)); exact BK228.out)) : gb228 ≠ gb237))
          have n8_ := Aside0.mk ((by rw [hg]; exact Nat.ne_of_gt (blk_lt (g := gb228) (o := .cells #[.slice A0_0 l0_0.length c0_0, .int .i64 a0_1] 37 (0, 0)) (by (with_reducible repeat (first | refine zE ?_ _ | refine zF ?_ | refine zD ?_ _)); exact BK228.out)) : gb237 ≠ gb228))
          have n9_ := Aside0.mk ((by rw [hg]; exact Nat.ne_of_lt (blk_lt (g := gb229) (o := .cells #[.slice none 0 0, .int .i64 0] 37 (0, 0)) (by (with_reducible repeat (first | refine zE ?_ _ | refine zF ?_ | refine zD ?_ _)); exact BK229.out)) : gb229 ≠ gb237))
          have n10_ := Aside0.mk ((by rw [hg]; exact Nat.ne_of_gt (blk_lt (g := gb229) (o := .cells #[.slice none 0 0, .int .i64 0] 37 (0, 0)) (by (with_reducible repeat (first | refine zE ?_ _ | refine zF ?_ | refine zD ?_ _)); exact BK229.out)) : gb237 ≠ gb229))
          try clear HO236
          clear BK228
          clear BK229
          clear HB
          have HO236 := n0_
          have BK228 := n1_
          have BK229 := n2_
          have HB := n3_
          have BK237 := n4_
          have GW237 := n5_
          have GE237 := n6_
          have NB228_237 := n7_
          have NB237_228 := n8_
          have NB229_237 := n9_
          have NB237_229 := n10_
          clear n0_ n1_ n2_ n3_ n4_ n5_ n6_ n7_ n8_ n9_ n10_
          clear hb hbox hg
          refine hK.out _ _ ⟨(zQ BK228.out 0).trans rfl, (zQ BK228.out 1).trans rfl⟩ (fun hHeld => ?_)
          clear hK K
          refine norm_ (a' := ?_) ?_ ?_
          rotate_left
          ·show Act.put _ (some 7) _ = _
           simp only [Act.put, zT, zU, zV, i64_w, i32_w]
           rfl
          exact norm_ (by simp only [putAll, Act.put, zT, zU, zV]) (hCont (v232, .slice Ao35 y234.length co35, gb237) _ ⟨hHeld, (by (with_reducible repeat (first | apply zG | apply zH | apply zI)); exact HO236.out), (by (with_reducible repeat (first | refine zE ?_ _ | refine zF ?_ | refine zD ?_ _)); exact BK228.out), (by (with_reducible repeat (first | refine zE ?_ _ | refine zF ?_ | refine zD ?_ _)); exact BK229.out), (by (with_reducible repeat (first | refine zE ?_ _ | refine zF ?_ | refine zD ?_ _)); exact BK237.out), GW237.out, GE237.out, NB228_237.out, NB237_228.out, NB229_237.out, NB237_229.out, (by repeat (first | (with_reducible first | exact HB.out | apply zA | apply zB | apply zC | refine below_set ?_ GE228.out | refine below_set ?_ GE229.out | refine below_set ?_ GE237.out) | exact HB.out))⟩)
         ·skip
          refine box_step ?hg (N := 7) ?hd (cs := #[.slice none 0 0, .int .i64 0]) (t := 37) ?hr ?_; (case hd => rfl); (case hg => rfl); (case hr => first | (go_simp; done) | (go_simp; rfl))
          intro gb237 hg w34 hbox hb
          have n0_ := Aside0.mk (Kd.R_below (by (with_reducible repeat (first | apply zG | apply zH | apply zI)); exact HO233.out) hb)
          have n1_ := Aside0.mk (blk_below (g := gb228) (o := .cells #[.slice A0_0 l0_0.length c0_0, .int .i64 a0_1] 37 (0, 0)) (by (with_reducible repeat (first | refine zE ?_ _ | refine zF ?_ | refine zD ?_ _)); exact BK228.out) hb)
          have n2_ := Aside0.mk (blk_below (g := gb229) (o := .cells #[.slice none 0 0, .int .i64 0] 37 (0, 0)) (by (with_reducible repeat (first | refine zE ?_ _ | refine zF ?_ | refine zD ?_ _)); exact BK229.out) hb)
          have n3_ := Aside0.mk (below_step (by repeat (first | (with_reducible first | exact HB.out | apply zA | apply zB | apply zC | refine below_set ?_ GE228.out | refine below_set ?_ GE229.out) | exact HB.out)) hb)
          have n4_ := Aside0.mk (hbox)
          have n5_ := Aside0.mk ((by rw [hg]; exact (zW (by repeat (first | (with_reducible first | exact HB.out | apply zA | apply zB | apply zC | refine below_set ?_ GE228.out | refine below_set ?_ GE229.out) | exact HB.out))) : w.heap.size ≤ gb237))
          have n6_ := Aside0.mk ((by rw [hg]; exact (zW (by repeat (first | (with_reducible first | exact HB.out | apply zA | apply zB | apply zC | refine below_set ?_ GE228.out | refine below_set ?_ GE229.out) | exact HB.out))) : w.heap.size ≤ gb237))
          have n7_ := Aside0.mk ((by rw [hg]; exact Nat.ne_of_lt (blk_lt (g := gb228) (o := .cells #[.slice A0_0 l0_0.length c0_0, .int .i64 a0_1] 37 (0, 0)) (by (with_reducible repeat (first | refine zE ?_ _ | refine zF ?_ | refine zD ?_ _)); exact BK228.out)) : gb228 ≠ gb237))
          have n8_ := Aside0.mk ((by rw [hg]; exact Nat.ne_of_gt (blk_lt (g := gb228) (o := .cells #[.slice A0_0 l0_0.length c0_0, .int .i64 a0_1] 37 (0, 0)) (by (with_reducible repeat (first | refine zE ?_ _ | refine zF ?_ | refine zD ?_ _)); exact BK228.out)) : gb237 ≠ gb228))
          have n9_ := Aside0.mk ((by rw [hg]; exact Nat.ne_of_lt (blk_lt (g := gb229) (o := .cells #[.slice none 0 0, .int .i64 0] 37 (0, 0)) (by (with_reducible repeat (first | refine zE ?_ _ | refine zF ?_ | refine zD ?_ _)); exact BK229.out)) : gb229 ≠ gb237))
          have n10_ := Aside0.mk ((by rw [hg]; exact Nat.ne_of_gt (blk_lt (g := gb229) (o := .cells #[.slice none 0 0, .int .i64 0] 37 (0, 0)) (by (with_reducible repeat (first | refine zE ?_ _ | refine zF ?_ | refine zD ?_ _)); exact BK229.out)) : gb237 ≠ gb229))
          try clear HO233
          clear BK228
          clear BK229
          clear HB
          have HO233 := n0_
          have BK228 := n1_
          have BK229 := n2_
          have HB := n3_
          have BK237 := n4_
          have GW237 := n5_
          have GE237 := n6_
          have NB228_237 := n7_
          have NB237_228 := n8_
          have NB229_237 := n9_
          have NB237_229 := n10_
          clear n0_ n1_ n2_ n3_ n4_ n5_ n6_ n7_ n8_ n9_ n10_
          clear hb hbox hg
          refine hK.out _ _ ⟨(zQ BK228.out 0).trans rfl, (zQ BK228.out 1).trans rfl⟩ (fun hHeld => ?_)
          clear hK K
          refine norm_ (a' := ?_) ?_ ?_
          rotate_left
          ·show Act.put _ (some 7) _ = _
           simp only [Act.put, zT, zU, zV, i64_w, i32_w]
           rfl
          refine one_ (i := 7) (N := some 35) #[true, true, true, true, true, true, true, true, true, true, false, true, false] rfl rfl (one_of HT_.out (by kernel_rfl)) (by decide) (fun K hK => ?_)
          refine Kd.R_append_rows_step (Kd.int .u8) (w0 := w) w.heap.size (by rfl) (.tmp 32) (.tmp 34) 22 5 (.int .u8 0) 1 rfl Try.underlying22 info5 rfl (by decide) (by omega) v232 y231 l0_0 _ _ _ (fun _ => True) (fun _ => False) rfl rfl ?aO ?aR (fun _ _ h => h) (fun _ h => h.elim) ?aF ?aB ?aS ?aL ?_
          (case aR => repeat (first | exact (Kd.C_below HR0_0.out HB.out) | (with_reducible refine zJ ?_ _) | (with_reducible refine zK ?_ _) | (with_reducible refine zL ?_)))
          (case aB => exact (by repeat (first | (with_reducible first | exact HB.out | apply zA | apply zB | apply zC | refine below_set ?_ GE228.out | refine below_set ?_ GE229.out | refine below_set ?_ GE237.out) | exact HB.out)))
          (case aF => exact (fun _ _ => trivial))
          (case aO => exact (by (with_reducible repeat (first | apply zG | apply zH | apply zI)); exact HO233.out))
          (case aS => exact (zW (by repeat (first | (with_reducible first | exact HB.out | apply zA | apply zB | apply zC | refine below_set ?_ GE228.out | refine below_set ?_ GE229.out | refine below_set ?_ GE237.out) | exact HB.out))))
          (case aL => have := LMc30.out; omega)
          intro v235 w35 ho hb hg hat
          rw [← Ny234.out] at ho
          have n0_ := Aside0.mk (blk_grown (g := gb228) (o := .cells #[.slice A0_0 l0_0.length c0_0, .int .i64 a0_1] 37 (0, 0)) (by (with_reducible repeat (first | refine zE ?_ _ | refine zF ?_ | refine zD ?_ _)); exact BK228.out) hg (Kd.R_ne HO233.out BK228.out (by decide)))
          have n1_ := Aside0.mk (blk_grown (g := gb229) (o := .cells #[.slice none 0 0, .int .i64 0] 37 (0, 0)) (by (with_reducible repeat (first | refine zE ?_ _ | refine zF ?_ | refine zD ?_ _)); exact BK229.out) hg (Kd.R_ne HO233.out BK229.out (by decide)))
          have n2_ := Aside0.mk (blk_grown (g := gb237) (o := .cells #[.slice none 0 0, .int .i64 0] 37 (0, 0)) (by (with_reducible repeat (first | refine zE ?_ _ | refine zF ?_ | refine zD ?_ _)); exact BK237.out) hg (Kd.R_ne HO233.out BK237.out (by decide)))
          have n3_ := Aside0.mk (hb)
          have n4_ := Aside0.mk (ho)
          clear BK228
          clear BK229
          clear BK237
          clear HB
          try clear HO233
          have BK228 := n0_
          have BK229 := n1_
          have BK237 := n2_
          have HB := n3_
          have HO236 := n4_
          clear n0_ n1_ n2_ n3_ n4_
          clear ho hb hg hat
          obtain ⟨Ao36, co36, eo36⟩ := Kd.R_slice HO236.out
          (first | subst eo36 | (injection eo36 with f1_ f2_ f3_; have f4_ := f1_.symm; have f5_ := f3_.symm; clear f1_ f2_ f3_; subst f4_; subst f5_))
          refine hK.out _ _ ⟨(zQ BK228.out 0).trans rfl, (zQ BK228.out 1).trans rfl⟩ (fun hHeld => ?_)
          clear hK K
          refine norm_ (a' := ?_) ?_ ?_
          rotate_left
          ·show Act.put _ (some 35) _ = _
           simp only [Act.put, zT, zU, zV, i64_w, i32_w]
           rfl
          refine pure_ (i := 10) (N := some 38) (v := ?_) (a' := ?_) #[true, true, true, true, true, true, true, true, true, true, true, true, false] rfl rfl (any_of HT_.out (by kernel_rfl)) (fun _ _ _ h => h) (Or.inl ⟨by rfl, ?_⟩) ?_ ?_
          rotate_left
          ·intro w'
           go_simp
           with_reducible rfl
          rotate_left
          ·simp only [Act.put, zT, zU, zV, i64_w, i32_w]
           rfl
          exact norm_ (by simp only [putAll, Act.put, zT, zU, zV]) (hCont (v232, .slice Ao36 y234.length co36, gb237) _ ⟨hHeld, (by (with_reducible repeat (first | apply zG | apply zH | apply zI)); exact HO236.out), (by (with_reducible repeat (first | refine zE ?_ _ | refine zF ?_ | refine zD ?_ _)); exact BK228.out), (by (with_reducible repeat (first | refine zE ?_ _ | refine zF ?_ | refine zD ?_ _)); exact BK229.out), (by (with_reducible repeat (first | refine zE ?_ _ | refine zF ?_ | refine zD ?_ _)); exact BK237.out), GW237.out, GE237.out, NB228_237.out, NB237_228.out, NB229_237.out, NB237_229.out, (by repeat (first | (with_reducible first | exact HB.out | apply zA | apply zB | apply zC | refine below_set ?_ GE228.out | refine below_set ?_ GE229.out | refine below_set ?_ GE237.out) | exact HB.out))⟩)
        ·skip
         refine box_step ?hg (N := 7) ?hd (cs := #[.slice none 0 0, .int .i64 0]) (t := 37) ?hr ?_; (case hd => rfl); (case hg => rfl); (case hr => first | (go_simp; done) | (go_simp; rfl))
         intro gb237 hg w32 hbox hb
         have n0_ := Aside0.mk (blk_below (g := gb228) (o := .cells #[.slice A0_0 l0_0.length c0_0, .int .i64 a0_1] 37 (0, 0)) (by (with_reducible repeat (first | refine zE ?_ _ | refine zF ?_ | refine zD ?_ _)); exact BK228.out) hb)
         have n1_ := Aside0.mk (blk_below (g := gb229) (o := .cells #[.slice none 0 0, .int .i64 0] 37 (0, 0)) (by (with_reducible repeat (first | refine zE ?_ _ | refine zF ?_ | refine zD ?_ _)); exact BK229.out) hb)
         have n2_ := Aside0.mk (below_step (by repeat (first | (with_reducible first | exact HB.out | apply zA | apply zB | apply zC | refine below_set ?_ GE228.out | refine below_set ?_ GE229.out) | exact HB.out)) hb)
         have n3_ := Aside0.mk (hbox)
         have n4_ := Aside0.mk ((by rw [hg]; exact (zW (by repeat (first | (with_reducible first | exact HB.out | apply zA | apply zB | apply zC | refine below_set ?_ GE228.out | refine below_set ?_ GE229.out) | exact HB.out))) : w.heap.size ≤ gb237))
         have n5_ := Aside0.mk ((by rw [hg]; exact (zW (by repeat (first | (with_reducible first | exact HB.out | apply zA | apply zB | apply zC | refine below_set ?_ GE228.out | refine below_set ?_ GE229.out) | exact HB.out))) : w.heap.size ≤ gb237))
         have n6_ := Aside0.mk ((by rw [hg]; exact Nat.ne_of_lt (blk_lt (g := gb228) (o := .cells #[.slice A0_0 l0_0.length c0_0, .int .i64 a0_1] 37 (0, 0)) (by (with_reducible repeat (first | refine zE ?_ _ | refine zF ?_ | refine zD ?_ _)); exact BK228.out)) : gb228 ≠ gb237))
         have n7_ := Aside0.mk ((by rw [hg]; exact Nat.ne_of_gt (blk_lt (g := gb228) (o := .cells #[.slice A0_0 l0_0.length c0_0, .int .i64 a0_1] 37 (0, 0)) (by (with_reducible repeat (first | refine zE ?_ _ | refine zF ?_ | refine zD ?_ _)); exact BK228.out)) : gb237 ≠ gb228))
         have n8_ := Aside0.mk ((by rw [hg]; exact Nat.ne_of_lt (blk_lt (g := gb229) (o := .cells #[.slice none 0 0, .int .i64 0] 37 (0, 0)) (by (with_reducible repeat (first | refine zE ?_ _ | refine zF ?_ | refine zD ?_ _)); exact BK229.out)) : gb229 ≠ gb237))
         have n9_ := Aside0.mk ((by rw [hg]; exact Nat.ne_of_gt (blk_lt (g := gb229) (o := .cells #[.slice none 0 0, .int .i64 0] 37 (0, 0)) (by (with_reducible repeat (first | refine zE ?_ _ | refine zF ?_ | refine zD ?_ _)); exact BK229.out)) : gb237 ≠ gb229))
         clear BK228
         clear BK229
         clear HB
         have BK228 := n0_
         have BK229 := n1_
         have HB := n2_
         have BK237 := n3_
         have GW237 := n4_
         have GE237 := n5_
         have NB228_237 := n6_
         have NB237_228 := n7_
         have NB229_237 := n8_
         have NB237_229 := n9_
         clear n0_ n1_ n2_ n3_ n4_ n5_ n6_ n7_ n8_ n9_
         clear hb hbox hg
         refine hK.out _ _ ⟨(zQ BK228.out 0).trans rfl, (zQ BK228.out 1).trans rfl⟩ (fun hHeld => ?_)
         clear hK K
         refine norm_ (a' := ?_) ?_ ?_
         rotate_left
         ·show Act.put _ (some 7) _ = _
          simp only [Act.put, zT, zU, zV, i64_w, i32_w]
          rfl
         refine one_ (i := 4) (N := some 32) #[true, true, true, true, true, true, true, false, true, true, false, true, false] rfl rfl (one_of HT_.out (by kernel_rfl)) (by decide) (fun K hK => ?_)
         refine R_make0_step (Kd.int .u8) _ 5 (by rfl) (N := 32) rfl 22 _ _ rfl ji27 rfl rfl Try.underlying22 (.int .u8 0) 1 info5 rfl (by decide) (by omega) 0 (ok := fun _ => True) (okp := fun _ => True) rfl (fun _ hk => hk) trivial (zX (by first | (with_reducible assumption) | assumption)) (Nat.le_trans (Nat.mul_le_mul_right _ (zX (by first | (with_reducible assumption) | assumption) : ji27.toNat ≤ 281474976710656)) (by omega)) (Below.refl _ _) (Nat.le_refl _) ?_
         intro v232 w33 ho34 hb hg_ hnew_
         clear hg_ hnew_
         (first | rw [← Ny231.out] at ho34 | (simp only [Int.reduceToNat] at ho34; rw [← Ny231.out] at ho34))
         have n0_ := Aside0.mk (Kd.R_lower ho34 (zW (by repeat (first | (with_reducible first | exact HB.out | apply zA | apply zB | apply zC | refine below_set ?_ GE228.out | refine below_set ?_ GE229.out | refine below_set ?_ GE237.out) | exact HB.out))))
         have n1_ := Aside0.mk (blk_below (g := gb228) (o := .cells #[.slice A0_0 l0_0.length c0_0, .int .i64 a0_1] 37 (0, 0)) (by (with_reducible repeat (first | refine zE ?_ _ | refine zF ?_ | refine zD ?_ _)); exact BK228.out) hb)
         have n2_ := Aside0.mk (blk_below (g := gb229) (o := .cells #[.slice none 0 0, .int .i64 0] 37 (0, 0)) (by (with_reducible repeat (first | refine zE ?_ _ | refine zF ?_ | refine zD ?_ _)); exact BK229.out) hb)
         have n3_ := Aside0.mk (blk_below (g := gb237) (o := .cells #[.slice none 0 0, .int .i64 0] 37 (0, 0)) (by (with_reducible repeat (first | refine zE ?_ _ | refine zF ?_ | refine zD ?_ _)); exact BK237.out) hb)
         have n4_ := Aside0.mk (below_step (by repeat (first | (with_reducible first | exact HB.out | apply zA | apply zB | apply zC | refine below_set ?_ GE228.out | refine below_set ?_ GE229.out | refine below_set ?_ GE237.out) | exact HB.out)) hb)
         clear BK228
         clear BK229
         clear BK237
         clear HB
         have HO233 := n0_
         have BK228 := n1_
         have BK229 := n2_
         have BK237 := n3_
         have HB := n4_
         clear n0_ n1_ n2_ n3_ n4_
         clear hb ho34
         refine hK.out _ _ ⟨(zQ BK228.out 0).trans rfl, (zQ BK228.out 1).trans rfl⟩ (fun hHeld => ?_)
         clear hK K
         refine norm_ (a' := ?_) ?_ ?_
         rotate_left
         ·show Act.put _ (some 32) _ = _
          simp only [Act.put, zT, zU, zV, i64_w, i32_w]
          rfl
         refine one_ (i := 7) (N := some 35) #[true, true, true, true, true, true, true, true, true, true, false, true, false] rfl rfl (one_of HT_.out (by kernel_rfl)) (by decide) (fun K hK => ?_)
         refine Kd.R_append_rows_step (Kd.int .u8) (w0 := w) w.heap.size (by rfl) (.tmp 32) (.tmp 34) 22 5 (.int .u8 0) 1 rfl Try.underlying22 info5 rfl (by decide) (by omega) v232 y231 l0_0 _ _ _ (fun _ => True) (fun _ => False) rfl rfl ?aO ?aR (fun _ _ h => h) (fun _ h => h.elim) ?aF ?aB ?aS ?aL ?_
         (case aR => repeat (first | exact (Kd.C_below HR0_0.out HB.out) | (with_reducible refine zJ ?_ _) | (with_reducible refine zK ?_ _) | (with_reducible refine zL ?_)))
         (case aB => exact (by repeat (first | (with_reducible first | exact HB.out | apply zA | apply zB | apply zC | refine below_set ?_ GE228.out | refine below_set ?_ GE229.out | refine below_set ?_ GE237.out) | exact HB.out)))
         (case aF => exact (fun _ _ => trivial))
         (case aO => exact (by (with_reducible repeat (first | apply zG | apply zH | apply zI)); exact HO233.out))
         (case aS => exact (zW (by repeat (first | (with_reducible first | exact HB.out | apply zA | apply zB | apply zC | refine below_set ?_ GE228.out | refine below_set ?_ GE229.out | refine below_set ?_ GE237.out) | exact HB.out))))
         (case aL => have := LMc30.out; omega)
         intro v235 w35 ho hb hg hat
         rw [← Ny234.out] at ho
         have n0_ := Aside0.mk (blk_grown (g := gb228) (o := .cells #[.slice A0_0 l0_0.length c0_0, .int .i64 a0_1] 37 (0, 0)) (by (with_reducible repeat (first | refine zE ?_ _ | refine zF ?_ | refine zD ?_ _)); exact BK228.out) hg (Kd.R_ne HO233.out BK228.out (by decide)))
         have n1_ := Aside0.mk (blk_grown (g := gb229) (o := .cells #[.slice none 0 0, .int .i64 0] 37 (0, 0)) (by (with_reducible repeat (first | refine zE ?_ _ | refine zF ?_ | refine zD ?_ _)); exact BK229.out) hg (Kd.R_ne HO233.out BK229.out (by decide)))
         have n2_ := Aside0.mk (blk_grown (g := gb237) (o := .cells #[.slice none 0 0, .int .i64 0] 37 (0, 0)) (by (with_reducible repeat (first | refine zE ?_ _ | refine zF ?_ | refine zD ?_ _)); exact BK237.out) hg (Kd.R_ne HO233.out BK237.out (by decide)))
         have n3_ := Aside0.mk (hb)
         have n4_ := Aside0.mk (ho)
         clear BK228
         clear BK229
         clear BK237
         clear HB
         try clear HO233
         have BK228 := n0_
         have BK229 := n1_
         have BK237 := n2_
         have HB := n3_
         have HO236 := n4_
         clear n0_ n1_ n2_ n3_ n4_
         clear ho hb hg hat
         obtain ⟨Ao36, co36, eo36⟩ := Kd.R_slice HO236.out
         (first | subst eo36 | (injection eo36 with f1_ f2_ f3_; have f4_ := f1_.symm; have f5_ := f3_.symm; clear f1_ f2_ f3_; subst f4_; subst f5_))
         refine hK.out _ _ ⟨(zQ BK228.out 0).trans rfl, (zQ BK228.out 1).trans rfl⟩ (fun hHeld => ?_)
         clear hK K
         refine norm_ (a' := ?_) ?_ ?_
         rotate_left
         ·show Act.put _ (some 35) _ = _
          simp only [Act.put, zT, zU, zV, i64_w, i32_w]
          rfl
         refine pure_ (i := 10) (N := some 38) (v := ?_) (a' := ?_) #[true, true, true, true, true, true, true, true, true, true, true, true, false] rfl rfl (any_of HT_.out (by kernel_rfl)) (fun _ _ _ h => h) (Or.inl ⟨by rfl, ?_⟩) ?_ ?_
         rotate_left
         ·intro w'
          go_simp
          with_reducible rfl
         rotate_left
         ·simp only [Act.put, zT, zU, zV, i64_w, i32_w]
          rfl
         exact norm_ (by simp only [putAll, Act.put, zT, zU, zV]) (hCont (v232, .slice Ao36 y234.length co36, gb237) _ ⟨hHeld, (by (with_reducible repeat (first | apply zG | apply zH | apply zI)); exact HO236.out), (by (with_reducible repeat (first | refine zE ?_ _ | refine zF ?_ | refine zD ?_ _)); exact BK228.out), (by (with_reducible repeat (first | refine zE ?_ _ | refine zF ?_ | refine zD ?_ _)); exact BK229.out), (by (with_reducible repeat (first | refine zE ?_ _ | refine zF ?_ | refine zD ?_ _)); exact BK237.out), GW237.out, GE237.out, NB228_237.out, NB237_228.out, NB229_237.out, NB237_229.out, (by repeat (first | (with_reducible first | exact HB.out | apply zA | apply zB | apply zC | refine below_set ?_ GE228.out | refine below_set ?_ GE229.out | refine below_set ?_ GE237.out) | exact HB.out))⟩)
       rintro ⟨v232, v235, gb237⟩ w37 ⟨hS_, h0_, h1_, h2_, h3_, h4_, h5_, h6_, h7_, h8_, h9_, h10_⟩
       have n0_ : Aside0 (Kd.R (Kd.int .u8) 5 w37 w.heap.size (fun _ => True) v235 y234) := ⟨h0_⟩
       have n1_ : Aside0 (w37.heap[gb228]? = some (.cells #[.slice A0_0 l0_0.length c0_0, .int .i64 a0_1] 37 (0, 0))) := ⟨h1_⟩
       have n2_ : Aside0 (w37.heap[gb229]? = some (.cells #[.slice none 0 0, .int .i64 0] 37 (0, 0))) := ⟨h2_⟩
       have n3_ : Aside0 (w37.heap[gb237]? = some (.cells #[.slice none 0 0, .int .i64 0] 37 (0, 0))) := ⟨h3_⟩
       have n4_ : Aside0 (w.heap.size ≤ gb237) := ⟨h4_⟩
       have n5_ : Aside0 (w.heap.size ≤ gb237) := ⟨h5_⟩
       have n6_ : Aside0 (gb228 ≠ gb237) := ⟨h6_⟩
       have n7_ : Aside0 (gb237 ≠ gb228) := ⟨h7_⟩
       have n8_ : Aside0 (gb229 ≠ gb237) := ⟨h8_⟩
       have n9_ : Aside0 (gb237 ≠ gb229) := ⟨h9_⟩
       have n10_ : Aside0 (Below w.heap.size w w37) := ⟨h10_⟩
       clear BK228
       clear BK229
       clear HB
       clear h0_ h1_ h2_ h3_ h4_ h5_ h6_ h7_ h8_ h9_ h10_
       have HO236 := n0_
       have BK228 := n1_
       have BK229 := n2_
       have BK237 := n3_
       have GW237 := n4_
       have GE237 := n5_
       have NB228_237 := n6_
       have NB237_228 := n7_
       have NB229_237 := n8_
       have NB237_229 := n9_
       have HB := n10_
       clear n0_ n1_ n2_ n3_ n4_ n5_ n6_ n7_ n8_ n9_ n10_
       have hHeld : w37.cell? ⟨gb228, 0, none⟩ = some (.slice A0_0 l0_0.length c0_0) ∧ w37.cell? ⟨gb228, 1, none⟩ = some (.int .i64 a0_1) := hS_
       obtain ⟨Ao38, co38, eo38⟩ := Kd.R_slice HO236.out
       (first | subst eo38 | (injection eo38 with f1_ f2_ f3_; have f4_ := f1_.symm; have f5_ := f3_.symm; clear f1_ f2_ f3_; subst f4_; subst f5_))
       refine norm_ (a' := ?_) ?_ ?_
       rotate_left
       ·simp only [putAll, Act.put, zT, zU, zV]
        rfl
       refine one_ (i := 12) (N := none) #[true, true, true, true, true, true, true, true, true, true, true, true, true] rfl rfl (one_of HT_.out (by kernel_rfl)) (by decide) (fun K hK => ?_)
       have hs39 : w37.cell? ⟨gb237, 0, none⟩ = some (.slice none 0 0) := (zQ BK237.out 0).trans rfl
       have hfs39 := blk_frozen BK237.out 0
       have hns39_0 := NB228_237.out
       have hns39_1 := NB229_237.out
       have hms39_0 := NB237_228.out
       have hms39_1 := NB237_229.out
       have hs40 : w37.cell? ⟨gb237, 1, none⟩ = some (.int .i64 0) := (zQ BK237.out 1).trans rfl
       have hfs40 := blk_frozen BK237.out 1
       have hns40_0 := NB228_237.out
       have hns40_1 := NB229_237.out
       have hms40_0 := NB237_228.out
       have hms40_1 := NB237_229.out
       refine skip_ (w1 := ?_) (by rfl) rfl ?_ ?_
       rotate_left
       ·go_simp
        rfl
       refine hK.out _ _ ⟨((far2 (g := gb237) NB228_237.out).trans (hHeld.1)), ((far2 (g := gb237) NB228_237.out).trans (hHeld.2))⟩ (fun hHeld => ?_)
       clear hK K
       refine done_ (done_of HT_.out (by kernel_rfl)) ?_
       try go_wp2
       go_loopg [8] kj3 (fun kq v8 w' => ∃ (x8_2 : Int) (x238000_2 : List Int) (x238001_2 : Int) (u238000 : Value), v8 = .int .i64 x8_2 ∧ Aside0 (impl_AddBits.l0 kq a1 x8_2 x238000_2 x238001_2 = some (r1, r2)) ∧ Aside0 (kq ≤ kj3) ∧ Aside0 (Kd.R (Kd.int .u8) 5 w' w.heap.size (fun _ => True) u238000 x238000_2) ∧ Aside0 (w'.heap[gb228]? = some (.cells #[(.slice A0_0 l0_0.length c0_0), .int .i64 a0_1] 37 (0, 0))) ∧ Aside0 (w'.heap[gb229]? = some (.cells #[(.slice none 0 0), .int .i64 0] 37 (0, 0))) ∧ Aside0 (w'.heap[gb237]? = some (.cells #[u238000, .int .i64 x238001_2] 37 (0, 0))) ∧ Aside0 (Below w.heap.size w w'))
       case atStart => exact ⟨(wrap64 (a2 - 1)), (y234), (a0_1), (.slice Ao38 y234.length co38), (by first | rfl | (simp; done) | (simp [*]; done)), H', ⟨Nat.le_refl _⟩, ⟨by (with_reducible repeat (first | apply zG | apply zH | apply zI)); exact Kd.R_mono (Kd.R_far (p := ⟨gb237, 1, none⟩) (Kd.R_far (p := ⟨gb237, 0, none⟩) (Kd.R_types HO236.out BK237.out (by decide)) (fun _ hk => hk.2) (.slice Ao38 y234.length co38)) (fun _ hk => hk.2) (.int .i64 a0_1)) (fun _ hk => trivial)⟩, ⟨by (with_reducible repeat (first | refine zE ?_ _ | refine zF ?_ | refine zD ?_ _)); refine blk_far ?_ NB228_237.out _; (with_reducible repeat (first | refine zE ?_ _ | refine zF ?_ | refine zD ?_ _)); refine blk_far ?_ NB228_237.out _; (with_reducible repeat (first | refine zE ?_ _ | refine zF ?_ | refine zD ?_ _)); exact BK228.out⟩, ⟨by (with_reducible repeat (first | refine zE ?_ _ | refine zF ?_ | refine zD ?_ _)); refine blk_far ?_ NB229_237.out _; (with_reducible repeat (first | refine zE ?_ _ | refine zF ?_ | refine zD ?_ _)); refine blk_far ?_ NB229_237.out _; (with_reducible repeat (first | refine zE ?_ _ | refine zF ?_ | refine zD ?_ _)); exact BK229.out⟩, ⟨by (with_reducible repeat (first | refine zE ?_ _ | refine zF ?_ | refine zD ?_ _)); refine blk_put (cs := #[.slice Ao38 y234.length co38, .int .i64 0]) ?_ 1 _ rfl; (with_reducible repeat (first | refine zE ?_ _ | refine zF ?_ | refine zD ?_ _)); refine blk_put (cs := #[.slice none 0 0, .int .i64 0]) ?_ 0 _ rfl; (with_reducible repeat (first | refine zE ?_ _ | refine zF ?_ | refine zD ?_ _)); exact BK237.out⟩, ⟨by repeat (first | (with_reducible first | exact HB.out | apply zA | apply zB | apply zC | refine below_set ?_ GE228.out | refine below_set ?_ GE229.out | refine below_set ?_ GE237.out) | exact HB.out)⟩⟩
       case round =>
        clear H'
        try clear c1
        try clear c2
        try clear p2
        try clear c3
        try clear p6
        try clear c8
        try clear c9
        try clear c9b0
        try clear c10
        try clear c13
        try clear c13b0
        try clear c14
        try clear c17
        try clear c18
        try clear c21
        try clear c24
        try clear c25
        try clear c28
        try clear c28b0
        try clear c28b1
        try clear c29
        try clear c29b0
        try clear c29b1
        try clear c30
        try clear hcz11_0
        try clear hcz11_1
        try clear hcz15_0
        try clear hcz15_1
        try clear hcz18_0
        try clear hcz18_1
        try clear hcz20_0
        try clear hcz20_1
        try clear hcz22_0
        try clear hcz22_1
        try clear hcz26_0
        try clear hcz26_1
        try clear hfz11_0
        try clear hfz11_1
        try clear hfz15_0
        try clear hfz15_1
        try clear hfz18_0
        try clear hfz18_1
        try clear hfz20_0
        try clear hfz20_1
        try clear hfz22_0
        try clear hfz22_1
        try clear hfz26_0
        try clear hfz26_1
        try clear p2
        try clear p6
        obtain ⟨x8_2, x238000_2, x238001_2, u238000, rfl, HA, HK2, HO_238000, BK228, BK229, BK237, HB⟩ := hrel
        cases gk with
        | zero => exact absurd HA.out (by simp [impl_AddBits.l0])
        | succ k2 =>
         have H := HA.out
         clear HA
         simp only [impl_AddBits.l0] at H
         by_cases c41 : x8_2 ≥ 0
         ·rw [if_pos c41] at H
          have c41b0 : decide (0 ≤ x8_2) = true := decide_eq_true c41
          clear c41
          have HC42 := Aside0.mk H
          clear H
          have hnb43 := NB237_228.out
          have hnc43 := NB228_237.out
          have hnb44 := NB237_229.out
          have hnc44 := NB229_237.out
          have hcz45_0 : wr.cell? ⟨gb237, 0, none⟩ = some (u238000) := (zQ BK237.out 0).trans rfl
          have hcz45_1 : wr.cell? ⟨gb237, 1, none⟩ = some (.int .i64 x238001_2) := (zQ BK237.out 1).trans rfl
          have hfz45_0 := blk_frozen BK237.out 0
          have hfz45_1 := blk_frozen BK237.out 1
          go_upto_if 48 with (fail)
          go_cut [] (fun wc => ∃ (kq : Nat) (x238000_41 : List Int) (u238000 : Value), Aside0 (impl_AddBits.j2 kq a1 x8_2 x238000_41 x238001_2 = some (r1, r2)) ∧ Aside0 (kq ≤ k2) ∧ Aside0 (Kd.R (Kd.int .u8) 5 wc w.heap.size (fun _ => True) u238000 x238000_41) ∧ Aside0 (wc.heap[gb228]? = some (.cells #[(.slice A0_0 l0_0.length c0_0), .int .i64 a0_1] 37 (0, 0))) ∧ Aside0 (wc.heap[gb229]? = some (.cells #[(.slice none 0 0), .int .i64 0] 37 (0, 0))) ∧ Aside0 (wc.heap[gb237]? = some (.cells #[u238000, .int .i64 x238001_2] 37 (0, 0))) ∧ Aside0 (Below w.heap.size w wc))
          case first =>
           have H := HC42.out
           clear HC42
           by_cases c46 : (Int.tmod x238001_2 8) = 0
           ·rw [if_pos c46] at H
            have c46b0 : ((Int.tmod x238001_2 8) == 0) = true := beq_iff_eq.mpr c46
            have c46b1 : ((Int.tmod x238001_2 8) != 0) = false := bne_eq_false_iff_eq.mpr c46
            clear c46
            (first | rw [c46b0] | (simp only [i64_w, i32_w]; rw [c46b0]) | skip)
            by_cases c47 : x238000_2.length < 140737488355328
            ·rw [if_pos c47] at H
             have LMc47 := Aside0.mk c47
             clear c47
             obtain ⟨y238, hy238⟩ : ∃ y_ : List Int, y_ = (x238000_2 ++ [0]) := ⟨_, rfl⟩
             replace H : (impl_AddBits.j2 k2 a1 x8_2 y238 x238001_2) = some (r1, r2) := by first | (rw [hy238]; with_reducible exact H) | (have H2_ := (Option.bind_some _ _).symm.trans H; rw [hy238]; with_reducible exact H2_) | (have H2_ := (Option.bind_some _ _).symm.trans H; with_reducible exact H2_) | with_reducible exact H | (rw [hy238]; exact H) | exact H
             have Ny238 := Aside0.mk hy238
             clear hy238
             have H' := Aside0.mk H
             clear H
             have hnb48 := NB237_228.out
             have hnc48 := NB228_237.out
             have hnb49 := NB237_229.out
             have hnc49 := NB229_237.out
             have hcz50_0 : wr.cell? ⟨gb237, 0, none⟩ = some (u238000) := (zQ BK237.out 0).trans rfl
             have hcz50_1 : wr.cell? ⟨gb237, 1, none⟩ = some (.int .i64 x238001_2) := (zQ BK237.out 1).trans rfl
             have hfz50_0 := blk_frozen BK237.out 0
             have hfz50_1 := blk_frozen BK237.out 1
             go_wp2_with (first | ((with_reducible refine gate_builtin (b := .append) (xs := #[.tmp 50, .tmp 51]) rfl ?_); at_builtin; refine Kd.R_append (Kd.int .u8) (w0 := w) w.heap.size rfl (.tmp 50) (.tmp 51) 22 5 (.int .u8 0) 1 rfl Try.underlying22 info5 rfl (by decide) (by omega) u238000 x238000_2 0 [.int .u8 0] (fun _ => True) (fun _ => False) rfl rfl ?aP (fun _ hk => hk.elim) ?aF ?aO ?aB ?aS ?aL ?_; (case aP => exact rfl); (case aB => exact (by repeat (first | (with_reducible first | exact HB.out | apply zA | apply zB | apply zC | refine below_set ?_ GE228.out | refine below_set ?_ GE229.out | refine below_set ?_ GE237.out) | exact HB.out))); (case aF => exact (fun _ _ => trivial)); (case aO => exact (by (with_reducible repeat (first | apply zG | apply zH | apply zI)); exact HO_238000.out)); (case aS => exact (zW (by repeat (first | (with_reducible first | exact HB.out | apply zA | apply zB | apply zC | refine below_set ?_ GE228.out | refine below_set ?_ GE229.out | refine below_set ?_ GE237.out) | exact HB.out)))); (case aL => have := LMc47.out; omega); intro v239 w51 ho hb hg hat; rw [← Ny238.out] at ho; have n0_ := Aside0.mk (blk_grown (g := gb228) (o := .cells #[.slice A0_0 l0_0.length c0_0, .int .i64 a0_1] 37 (0, 0)) (by (with_reducible repeat (first | refine zE ?_ _ | refine zF ?_ | refine zD ?_ _)); exact BK228.out) hg (Kd.R_ne HO_238000.out BK228.out (by decide))); have n1_ := Aside0.mk (blk_grown (g := gb229) (o := .cells #[.slice none 0 0, .int .i64 0] 37 (0, 0)) (by (with_reducible repeat (first | refine zE ?_ _ | refine zF ?_ | refine zD ?_ _)); exact BK229.out) hg (Kd.R_ne HO_238000.out BK229.out (by decide))); have n2_ := Aside0.mk (blk_grown (g := gb237) (o := .cells #[u238000, .int .i64 x238001_2] 37 (0, 0)) (by (with_reducible repeat (first | refine zE ?_ _ | refine zF ?_ | refine zD ?_ _)); exact BK237.out) hg (Kd.R_ne HO_238000.out BK237.out (by decide))); have n3_ := Aside0.mk (hb); have n4_ := Aside0.mk (ho); clear BK228; clear BK229; clear BK237; clear HB; clear HO_238000; have BK228 := n0_; have BK229 := n1_; have BK237 := n2_; have HB := n3_; have HO240 := n4_; clear n0_ n1_ n2_ n3_ n4_; clear ho hb hg hat; obtain ⟨Ao52, co52, eo52⟩ := Kd.R_slice HO240.out; subst eo52; have hcz53_0 : w51.cell? ⟨gb237, 0, none⟩ = some (u238000) := (zQ BK237.out 0).trans rfl; have hcz53_1 : w51.cell? ⟨gb237, 1, none⟩ = some (.int .i64 x238001_2) := (zQ BK237.out 1).trans rfl; have hfz53_0 := blk_frozen BK237.out 0; have hfz53_1 := blk_frozen BK237.out 1))
             go_meet
             case rel => exact ⟨_, (y238), (.slice Ao52 y238.length co52), H', ⟨by have := HJ3.out; have := HK2.out; first | omega | exact Nat.le_refl _⟩, ⟨by (with_reducible repeat (first | apply zG | apply zH | apply zI)); exact Kd.R_mono (Kd.R_far (p := ⟨gb237, 0, none⟩) (Kd.R_types HO240.out BK237.out (by decide)) (fun _ hk => hk.2) (.slice Ao52 y238.length co52)) (fun _ hk => trivial)⟩, ⟨by (with_reducible repeat (first | refine zE ?_ _ | refine zF ?_ | refine zD ?_ _)); refine blk_far ?_ NB228_237.out _; (with_reducible repeat (first | refine zE ?_ _ | refine zF ?_ | refine zD ?_ _)); exact BK228.out⟩, ⟨by (with_reducible repeat (first | refine zE ?_ _ | refine zF ?_ | refine zD ?_ _)); refine blk_far ?_ NB229_237.out _; (with_reducible repeat (first | refine zE ?_ _ | refine zF ?_ | refine zD ?_ _)); exact BK229.out⟩, ⟨by (with_reducible repeat (first | refine zE ?_ _ | refine zF ?_ | refine zD ?_ _)); refine blk_put (cs := #[u238000, .int .i64 x238001_2]) ?_ 0 _ rfl; (with_reducible repeat (first | refine zE ?_ _ | refine zF ?_ | refine zD ?_ _)); exact BK237.out⟩, ⟨by repeat (first | (with_reducible first | exact HB.out | apply zA | apply zB | apply zC | refine below_set ?_ GE228.out | refine below_set ?_ GE229.out | refine below_set ?_ GE237.out) | exact HB.out)⟩⟩
            ·rw [if_neg c47] at H
             exact absurd H (by simp)
           ·rw [if_neg c46] at H
            have c46b0 : ((Int.tmod x238001_2 8) == 0) = false := beq_eq_false_iff_ne.mpr c46
            have c46b1 : ((Int.tmod x238001_2 8) != 0) = true := bne_iff_ne.mpr c46
            (first | rw [c46b0] | (simp only [i64_w, i32_w]; rw [c46b0]) | skip)
            have H' := Aside0.mk H
            clear H
            go_wp2
            go_meet
            case rel => exact ⟨_, (x238000_2), (u238000), H', ⟨by have := HJ3.out; have := HK2.out; first | omega | exact Nat.le_refl _⟩, ⟨by (with_reducible repeat (first | apply zG | apply zH | apply zI)); exact HO_238000.out⟩, ⟨by (with_reducible repeat (first | refine zE ?_ _ | refine zF ?_ | refine zD ?_ _)); exact BK228.out⟩, ⟨by (with_reducible repeat (first | refine zE ?_ _ | refine zF ?_ | refine zD ?_ _)); exact BK229.out⟩, ⟨by (with_reducible repeat (first | refine zE ?_ _ | refine zF ?_ | refine zD ?_ _)); exact BK237.out⟩, ⟨by repeat (first | (with_reducible first | exact HB.out | apply zA | apply zB | apply zC | refine below_set ?_ GE228.out | refine below_set ?_ GE229.out | refine below_set ?_ GE237.out) | exact HB.out)⟩⟩
          case rest =>
           clear HC42
           try clear c1
           try clear c2
           try clear p2
           try clear c3
           try clear c4
           try clear p6
           try clear c8
           try clear c9
           try clear c9b0
           try clear c10
           try clear c13
           try clear c13b0
           try clear c14
           try clear c17
           try clear c18
           try clear c21
           try clear c24
           try clear c25
           try clear c28
           try clear c28b0
           try clear c28b1
           try clear c29
           try clear c29b0
           try clear c29b1
           try clear c30
           try clear c41
           try clear c41b0
           try clear c43
           try clear c44
           try clear c46
           try clear c46b0
           try clear c46b1
           try clear c47
           try clear c48
           try clear c49
           try clear hcz11_0
           try clear hcz11_1
           try clear hcz15_0
           try clear hcz15_1
           try clear hcz18_0
           try clear hcz18_1
           try clear hcz20_0
           try clear hcz20_1
           try clear hcz22_0
           try clear hcz22_1
           try clear hcz26_0
           try clear hcz26_1
           try clear hcz45_0
           try clear hcz45_1
           try clear hcz50_0
           try clear hcz50_1
           try clear hcz53_0
           try clear hcz53_1
           try clear hfz11_0
           try clear hfz11_1
           try clear hfz15_0
           try clear hfz15_1
           try clear hfz18_0
           try clear hfz18_1
           try clear hfz20_0
           try clear hfz20_1
           try clear hfz22_0
           try clear hfz22_1
           try clear hfz26_0
           try clear hfz26_1
           try clear hfz45_0
           try clear hfz45_1
           try clear hfz50_0
           try clear hfz50_1
           try clear hfz53_0
           try clear hfz53_1
           try clear p2
           try clear p6
           obtain ⟨kq, x238000_41, u238000, HA, HJ41, HO_238000, BK228, BK229, BK237, HB⟩ := hcut
           cases kq with
           | zero => exact absurd HA.out (by simp [impl_AddBits.j2])
           | succ kj41 =>
            have H := HA.out
            clear HA
            simp only [impl_AddBits.j2] at H
            by_cases c54 : 0 ≤ x8_2
            ·rw [if_pos c54] at H
             have c54b0 := eq_true c54
             have c54b1 : decide (0 ≤ x8_2) = true := decide_eq_true c54
             clear c54
             obtain ⟨ji55, hji55⟩ : ∃ j_ : Int, (shr .u64 (IntKind.u64.wrap (a1)) x8_2) = j_ := ⟨_, rfl⟩
             replace H : (if (Go.bits .and .u64 (ji55) 1) = 1 then (if 0 ≤ (wrap64 (Int.tdiv x238001_2 8)) then (if (wrap64 (Int.tdiv x238001_2 8)) < (x238000_41.length : Int) then (if 0 ≤ (Int.tmod x238001_2 8) then (impl_AddBits.l0 kj41 a1 (wrap64 (x8_2 - 1)) (x238000_41.set ((wrap64 (Int.tdiv x238001_2 8)) : Int).toNat (Go.bits .or .u8 (rd x238000_41 (wrap64 (Int.tdiv x238001_2 8))) (shr .u8 128 (Int.tmod x238001_2 8)))) (wrap64 (x238001_2 + 1))) else (none)) else (none)) else (none)) else (impl_AddBits.l0 kj41 a1 (wrap64 (x8_2 - 1)) x238000_41 (wrap64 (x238001_2 + 1)))) = some (r1, r2) := by first | (rw [hji55] at H; exact H) | (simp only [hji55] at H ⊢; exact H)
             have hji55_ : ((IntKind.u64.wrap (a1)) / 2 ^ min x8_2.toNat 64) = ji55 := hji55
             have hji55z : x8_2 ≤ 64 → ((IntKind.u64.wrap (a1)) / 2 ^ x8_2.toNat) = ji55 := shr_small hji55
             by_cases c56 : (Go.bits .and .u64 (ji55) 1) = 1
             ·rw [if_pos c56] at H
              have c56b0 : ((Go.bits .and .u64 (ji55) 1) == 1) = true := beq_iff_eq.mpr c56
              have c56b1 : ((Go.bits .and .u64 (ji55) 1) != 1) = false := bne_eq_false_iff_eq.mpr c56
              clear c56
              obtain ⟨ji57, hji57⟩ : ∃ j_ : Int, (wrap64 (Int.tdiv x238001_2 8)) = j_ := ⟨_, rfl⟩
              replace H : (if 0 ≤ (ji57) then (if (ji57) < (x238000_41.length : Int) then (if 0 ≤ (Int.tmod x238001_2 8) then (impl_AddBits.l0 kj41 a1 (wrap64 (x8_2 - 1)) (x238000_41.set ((ji57) : Int).toNat (Go.bits .or .u8 (rd x238000_41 (ji57)) (shr .u8 128 (Int.tmod x238001_2 8)))) (wrap64 (x238001_2 + 1))) else (none)) else (none)) else (none)) = some (r1, r2) := by first | (rw [hji57] at H; exact H) | (simp only [hji57] at H ⊢; exact H)
              have hji57w : (IntKind.i64.wrap (Int.tdiv x238001_2 8)) = ji57 := (i64_w _).trans hji57
              by_cases c58 : 0 ≤ (ji57)
              ·rw [if_pos c58] at H
               have c58b0 : decide (0 ≤ (ji57)) = true := decide_eq_true c58
               clear c58
               by_cases c59 : (ji57) < (x238000_41.length : Int)
               ·rw [if_pos c59] at H
                have c59b0 : decide ((ji57) < (x238000_41.length : Int)) = true := decide_eq_true c59
                clear c59
                obtain ⟨ji60, hji60⟩ : ∃ j_ : Int, (Int.tmod x238001_2 8) = j_ := ⟨_, rfl⟩
                replace H : (if 0 ≤ (ji60) then (impl_AddBits.l0 kj41 a1 (wrap64 (x8_2 - 1)) (x238000_41.set ((ji57) : Int).toNat (Go.bits .or .u8 (rd x238000_41 (ji57)) (shr .u8 128 (ji60)))) (wrap64 (x238001_2 + 1))) else (none)) = some (r1, r2) := by first | (rw [hji60] at H; exact H) | (simp only [hji60] at H ⊢; exact H)
                by_cases c61 : 0 ≤ (ji60)
                ·rw [if_pos c61] at H
                 have c61b0 := eq_true c61
                 have c61b1 : decide (0 ≤ (ji60)) = true := decide_eq_true c61
                 clear c61
                 obtain ⟨ji62, hji62⟩ : ∃ j_ : Int, (shr .u8 128 (ji60)) = j_ := ⟨_, rfl⟩
                 replace H : (impl_AddBits.l0 kj41 a1 (wrap64 (x8_2 - 1)) (x238000_41.set ((ji57) : Int).toNat (Go.bits .or .u8 (rd x238000_41 (ji57)) (ji62))) (wrap64 (x238001_2 + 1))) = some (r1, r2) := by first | (rw [hji62] at H; exact H) | (simp only [hji62] at H ⊢; exact H)
                 have hji62_ : (128 / 2 ^ min (ji60).toNat 8) = ji62 := hji62
                 have hji62z : (ji60) ≤ 8 → (128 / 2 ^ (ji60).toNat) = ji62 := shr_small hji62
                 obtain ⟨y242, hy242⟩ : ∃ y_ : List Int, y_ = (x238000_41.set ((ji57) : Int).toNat (Go.bits .or .u8 (rd x238000_41 (ji57)) (ji62))) := ⟨_, rfl⟩
                 replace H : (impl_AddBits.l0 kj41 a1 (wrap64 (x8_2 - 1)) y242 (wrap64 (x238001_2 + 1))) = some (r1, r2) := by first | (rw [hy242]; with_reducible exact H) | (have H2_ := (Option.bind_some _ _).symm.trans H; rw [hy242]; with_reducible exact H2_) | (have H2_ := (Option.bind_some _ _).symm.trans H; with_reducible exact H2_) | with_reducible exact H | (rw [hy242]; exact H) | exact H
                 have Ny242 := Aside0.mk hy242
                 clear hy242
                 have H' := Aside0.mk H
                 clear H
                 try go_wp2
                 have n0_ := Aside0.mk (zI HO_238000.out)
                 have n1_ := Aside0.mk (zF BK228.out)
                 have n2_ := Aside0.mk (zF BK229.out)
                 have n3_ := Aside0.mk (zF BK237.out)
                 have n4_ := Aside0.mk (zC HB.out)
                 try clear HO_238000
                 clear BK228
                 clear BK229
                 clear BK237
                 clear HB
                 have HO_238000 := n0_
                 have BK228 := n1_
                 have BK229 := n2_
                 have BK237 := n3_
                 have HB := n4_
                 clear n0_ n1_ n2_ n3_ n4_
                 obtain ⟨Ao65, co65, eo65⟩ := Kd.R_slice HO_238000.out
                 (first | subst eo65 | (injection eo65 with f1_ f2_ f3_; have f4_ := f1_.symm; have f5_ := f3_.symm; clear f1_ f2_ f3_; subst f4_; subst f5_))
                 have p241 : 0 ≤ ((ji57) : Int) := zX (by first | (with_reducible assumption) | assumption)
                 have q241 : (ji57) < (x238000_41.length : Int) := zX (by first | (with_reducible assumption) | assumption)
                 obtain ⟨ad241, e241, hx241_0⟩ := Kd.at_int (Kd.R_reads' HO_238000.out).2.2 (ji57) p241 q241
                 cases e241
                 replace p241 := eq_true p241
                 replace q241 := eq_true q241
                 have p63 : 0 ≤ ((ji57) : Int) := zX (by first | (with_reducible assumption) | assumption)
                 have q63 : ((ji57) : Int) < ((x238000_41.length : Int) : Int) := zX (by first | (with_reducible assumption) | assumption)
                 obtain ⟨go63, co63, eo63, gb63, gl63, cl63, HG63⟩ := Kd.R_form HO_238000.out (by omega)
                 (first | cases eo63 | (injection eo63 with ea_ en_ ec_; (first | subst ea_ | (injection ea_ with ea_; subst ea_)); subst ec_; clear en_))
                 have GB63 := Aside0.mk gb63
                 have GG63 := Aside0.mk HG63
                 clear gb63 gl63 HG63
                 (first | simp only [add_plain] at hx241_0 | skip)
                 obtain ⟨hx63_0, hf63_0⟩ := Kd.R_celln 0 HO_238000.out ((ji57) : Int) p63 q63
                 replace p63 := eq_true p63
                 replace q63 := eq_true q63
                 have HP66 := Kd.R_putn HO_238000.out ((ji57) : Int) (Go.bits .or .u8 (rd x238000_41 (ji57)) (ji62))
                 rw [← Ny242.out] at HP66
                 have HQ66 := Aside0.mk HP66
                 clear HP66
                 refine start_ (n := 14) (S := fun w' => w'.cell? ⟨gb237, 0, none⟩ = some (.slice (some ⟨go63, 0, none⟩) x238000_41.length co65) ∧ w'.cell? ⟨gb237, 1, none⟩ = some (.int .i64 x238001_2) ∧ w'.cell? ⟨go63, ((ji57)).toNat, none⟩ = some (.int .u8 (rd x238000_41 (ji57)))) (ds := [13]) #[false, false, false, false, false, false, false, false, false, false, false, false, false, false] (by kernel_rfl) rfl rfl ⟨(zQ BK237.out 0).trans rfl, (zQ BK237.out 1).trans rfl, hx241_0⟩ (fun hHeld => ?_); refine with_tabW impl_AddBits.tab10 impl_AddBits.bits10 (fun HT_ HW_ => ?_)
                 generalize wc.drew = w64 at HO_238000 BK228 BK229 BK237 HB GG63 HQ66 hf63_0 hx241_0 hx63_0 hHeld ⊢
                 refine pure_ (i := 0) (N := some 60) (v := ?_) (a' := ?_) #[true, false, false, false, false, false, false, false, false, false, false, false, false, false] rfl rfl (any_of HT_.out (by kernel_rfl)) (fun _ _ _ h => h) (Or.inl ⟨by rfl, ?_⟩) ?_ ?_
                 rotate_left
                 ·intro w'
                  go_simp
                  with_reducible rfl
                 rotate_left
                 ·simp only [Act.put, zT, zU, zV, i64_w, i32_w]
                  rfl
                 refine pure_ (i := 2) (N := some 62) (v := ?_) (a' := ?_) #[true, false, true, false, false, false, false, false, false, false, false, false, false, false] rfl rfl (any_of HT_.out (by kernel_rfl)) (fun _ _ _ h => h) (Or.inl ⟨by rfl, ?_⟩) ?_ ?_
                 rotate_left
                 ·intro w'
                  go_simp
                  with_reducible rfl
                 rotate_left
                 ·simp only [Act.put, zT, zU, zV, i64_w, i32_w]
                  rfl
                 refine pure_ (i := 7) (N := some 67) (v := ?_) (a' := ?_) #[true, false, true, false, false, false, false, true, false, false, false, false, false, false] rfl rfl (any_of HT_.out (by kernel_rfl)) (fun _ _ _ h => h) (Or.inl ⟨by rfl, ?_⟩) ?_ ?_
                 rotate_left
                 ·intro w'
                  go_simp
                  with_reducible rfl
                 rotate_left
                 ·simp only [Act.put, zT, zU, zV, i64_w, i32_w]
                  rfl
                 refine take_ (i := 1) (N := some 61) (v := ?_) (a' := ?_) #[true, true, true, false, false, false, false, true, false, false, false, false, false, false] rfl rfl (take_ofW HT_.out HW_.out (by kernel_rfl)) (fun _ _ _ h => h) (Or.inl ⟨by rfl, ?_⟩) hHeld ?_ ?_
                 rotate_left
                 ·rintro w' ⟨s0, s1, s2⟩
                  go_simp
                  with_reducible rfl
                 rotate_left
                 ·simp only [Act.put, zT, zU, zV, i64_w, i32_w]
                  rfl
                 refine take_ (i := 3) (N := some 63) (v := ?_) (a' := ?_) #[true, true, true, true, false, false, false, true, false, false, false, false, false, false] rfl rfl (take_ofW HT_.out HW_.out (by kernel_rfl)) (fun _ _ _ h => h) (Or.inl ⟨by rfl, ?_⟩) hHeld ?_ ?_
                 rotate_left
                 ·rintro w' ⟨s0, s1, s2⟩
                  go_simp
                  with_reducible rfl
                 rotate_left
                 ·simp only [Act.put, zT, zU, zV, i64_w, i32_w]
                  rfl
                 refine pure_ (i := 4) (N := some 64) (v := ?_) (a' := ?_) #[true, true, true, true, true, false, false, true, false, false, false, false, false, false] rfl rfl (any_of HT_.out (by kernel_rfl)) (fun _ _ _ h => h) (Or.inl ⟨by rfl, ?_⟩) ?_ ?_
                 rotate_left
                 ·intro w'
                  go_simp
                  with_reducible rfl
                 rotate_left
                 ·simp only [Act.put, zT, zU, zV, i64_w, i32_w]
                  rfl
                 refine pure_ (i := 5) (N := some 65) (v := ?_) (a' := ?_) #[true, true, true, true, true, true, false, true, false, false, false, false, false, false] rfl rfl (any_of HT_.out (by kernel_rfl)) (fun _ _ _ h => h) (Or.inl ⟨by rfl, ?_⟩) ?_ ?_
                 rotate_left
                 ·intro w'
                  go_simp
                  with_reducible rfl
                 rotate_left
                 ·simp only [Act.put, zT, zU, zV, i64_w, i32_w]
                  rfl
                 refine take_ (i := 6) (N := some 66) (v := ?_) (a' := ?_) #[true, true, true, true, true, true, true, true, false, false, false, false, false, false] rfl rfl (take_ofW HT_.out HW_.out (by kernel_rfl)) (fun _ _ _ h => h) (Or.inl ⟨by rfl, ?_⟩) hHeld ?_ ?_
                 rotate_left
                 ·rintro w' ⟨s0, s1, s2⟩
                  go_simp
                  with_reducible rfl
                 rotate_left
                 ·simp only [Act.put, zT, zU, zV, i64_w, i32_w]
                  rfl
                 refine take_ (i := 8) (N := some 68) (v := ?_) (a' := ?_) #[true, true, true, true, true, true, true, true, true, false, false, false, false, false] rfl rfl (take_ofW HT_.out HW_.out (by kernel_rfl)) (fun _ _ _ h => h) (Or.inl ⟨by rfl, ?_⟩) hHeld ?_ ?_
                 rotate_left
                 ·rintro w' ⟨s0, s1, s2⟩
                  go_simp
                  with_reducible rfl
                 rotate_left
                 ·simp only [Act.put, zT, zU, zV, i64_w, i32_w]
                  rfl
                 refine pure_ (i := 9) (N := some 69) (v := ?_) (a' := ?_) #[true, true, true, true, true, true, true, true, true, true, false, false, false, false] rfl rfl (any_of HT_.out (by kernel_rfl)) (fun _ _ _ h => h) (Or.inl ⟨by rfl, ?_⟩) ?_ ?_
                 rotate_left
                 ·intro w'
                  go_simp
                  with_reducible rfl
                 rotate_left
                 ·simp only [Act.put, zT, zU, zV, i64_w, i32_w]
                  rfl
                 refine pure_ (i := 10) (N := some 70) (v := ?_) (a' := ?_) #[true, true, true, true, true, true, true, true, true, true, true, false, false, false] rfl rfl (any_of HT_.out (by kernel_rfl)) (fun _ _ _ h => h) (Or.inl ⟨by rfl, ?_⟩) ?_ ?_
                 rotate_left
                 ·intro w'
                  go_simp
                  with_reducible rfl
                 rotate_left
                 ·simp only [Act.put, zT, zU, zV, i64_w, i32_w]
                  rfl
                 refine pure_ (i := 11) (N := some 71) (v := ?_) (a' := ?_) #[true, true, true, true, true, true, true, true, true, true, true, true, false, false] rfl rfl (any_of HT_.out (by kernel_rfl)) (fun _ _ _ h => h) (Or.inl ⟨by rfl, ?_⟩) ?_ ?_
                 rotate_left
                 ·intro w'
                  go_simp
                  with_reducible rfl
                 rotate_left
                 ·simp only [Act.put, zT, zU, zV, i64_w, i32_w]
                  rfl
                 refine pure_ (i := 12) (N := some 72) (v := ?_) (a' := ?_) #[true, true, true, true, true, true, true, true, true, true, true, true, true, false] rfl rfl (any_of HT_.out (by kernel_rfl)) (fun _ _ _ h => h) (Or.inl ⟨by rfl, ?_⟩) ?_ ?_
                 rotate_left
                 ·intro w'
                  go_simp
                  with_reducible rfl
                 rotate_left
                 ·simp only [Act.put, zT, zU, zV, i64_w, i32_w]
                  rfl
                 refine last_ (i := 13) (N := none) #[true, true, true, true, true, true, true, true, true, true, true, true, true, true] rfl rfl (one_of HT_.out (by kernel_rfl)) (by decide) (fun K hK => ?_)
                 refine skip_ (w1 := ?_) (by rfl) rfl ?_ ?_
                 rotate_left
                 ·go_simp
                  rfl
                 refine hK.out _ _ ?_
                 clear hK K
                 refine done_ (done_of HT_.out (by kernel_rfl)) ?_
                 have n0_ : Aside0 (Kd.R (Kd.int .u8) 5 (w64.setCell ⟨go63, ((ji57) : Int).toNat, none⟩ (.int .u8 (Go.bits .or .u8 (rd x238000_41 (ji57)) (ji62)))) w.heap.size (fun _ => True) (.slice (some ⟨go63, 0, none⟩) x238000_41.length co65) y242) := ⟨by (with_reducible repeat (first | apply zG | apply zH | apply zI)); exact HQ66.out⟩
                 have n1_ : Aside0 ((w64.setCell ⟨go63, ((ji57) : Int).toNat, none⟩ (.int .u8 (Go.bits .or .u8 (rd x238000_41 (ji57)) (ji62)))).heap[gb228]? = some (.cells #[.slice A0_0 l0_0.length c0_0, .int .i64 a0_1] 37 (0, 0))) := ⟨by (with_reducible repeat (first | refine zE ?_ _ | refine zF ?_ | refine zD ?_ _)); refine blk_far ?_ (by have h_ := Kd.R_ne HO_238000.out BK228.out (by decide); intro e_; exact h_ (by rw [e_]; rfl)) _; (with_reducible repeat (first | refine zE ?_ _ | refine zF ?_ | refine zD ?_ _)); exact BK228.out⟩
                 have n2_ : Aside0 ((w64.setCell ⟨go63, ((ji57) : Int).toNat, none⟩ (.int .u8 (Go.bits .or .u8 (rd x238000_41 (ji57)) (ji62)))).heap[gb229]? = some (.cells #[.slice none 0 0, .int .i64 0] 37 (0, 0))) := ⟨by (with_reducible repeat (first | refine zE ?_ _ | refine zF ?_ | refine zD ?_ _)); refine blk_far ?_ (by have h_ := Kd.R_ne HO_238000.out BK229.out (by decide); intro e_; exact h_ (by rw [e_]; rfl)) _; (with_reducible repeat (first | refine zE ?_ _ | refine zF ?_ | refine zD ?_ _)); exact BK229.out⟩
                 have n3_ : Aside0 ((w64.setCell ⟨go63, ((ji57) : Int).toNat, none⟩ (.int .u8 (Go.bits .or .u8 (rd x238000_41 (ji57)) (ji62)))).heap[gb237]? = some (.cells #[.slice (some ⟨go63, 0, none⟩) x238000_41.length co65, .int .i64 x238001_2] 37 (0, 0))) := ⟨by (with_reducible repeat (first | refine zE ?_ _ | refine zF ?_ | refine zD ?_ _)); refine blk_far ?_ (by have h_ := Kd.R_ne HO_238000.out BK237.out (by decide); intro e_; exact h_ (by rw [e_]; rfl)) _; (with_reducible repeat (first | refine zE ?_ _ | refine zF ?_ | refine zD ?_ _)); exact BK237.out⟩
                 have n4_ : Aside0 (Below w.heap.size w (w64.setCell ⟨go63, ((ji57) : Int).toNat, none⟩ (.int .u8 (Go.bits .or .u8 (rd x238000_41 (ji57)) (ji62))))) := ⟨by repeat (first | (with_reducible first | exact HB.out | apply zA | apply zB | apply zC | refine below_set ?_ GB63.out | refine below_set ?_ GE228.out | refine below_set ?_ GE229.out | refine below_set ?_ GE237.out) | exact HB.out)⟩
                 (try clear HO_238000)
                 (try clear BK228)
                 (try clear BK229)
                 (try clear BK237)
                 (try clear HB)
                 generalize (w64.setCell ⟨go63, ((ji57) : Int).toNat, none⟩ (.int .u8 (Go.bits .or .u8 (rd x238000_41 (ji57)) (ji62)))) = w67 at n0_ n1_ n2_ n3_ n4_ ⊢
                 have HO_238000 := n0_
                 have BK228 := n1_
                 have BK229 := n2_
                 have BK237 := n3_
                 have HB := n4_
                 clear n0_ n1_ n2_ n3_ n4_
                 have hnb68 := NB237_228.out
                 have hnc68 := NB228_237.out
                 have hnb69 := NB237_229.out
                 have hnc69 := NB229_237.out
                 have hcz70_0 : w67.cell? ⟨gb237, 0, none⟩ = some (.slice (some ⟨go63, 0, none⟩) x238000_41.length co65) := (zQ BK237.out 0).trans rfl
                 have hcz70_1 : w67.cell? ⟨gb237, 1, none⟩ = some (.int .i64 x238001_2) := (zQ BK237.out 1).trans rfl
                 have hfz70_0 := blk_frozen BK237.out 0
                 have hfz70_1 := blk_frozen BK237.out 1
                 try go_wp2
                 go_roundg kj41
                 case measure => have := HJ3.out; have := HK2.out; have := HJ41.out; omega
                 case rel => exact ⟨(wrap64 (x8_2 - 1)), (y242), (wrap64 (x238001_2 + 1)), (.slice (some ⟨go63, 0, none⟩) x238000_41.length co65), (by first | rfl | (simp; done) | (simp [*]; done)), H', ⟨by have := HJ3.out; have := HK2.out; have := HJ41.out; omega⟩, ⟨by (with_reducible repeat (first | apply zG | apply zH | apply zI)); exact Kd.R_mono (Kd.R_far (p := ⟨gb237, 1, none⟩) (Kd.R_types HO_238000.out BK237.out (by decide)) (fun _ hk => hk.2) (.int .i64 (wrap64 (x238001_2 + 1)))) (fun _ hk => trivial)⟩, ⟨by (with_reducible repeat (first | refine zE ?_ _ | refine zF ?_ | refine zD ?_ _)); refine blk_far ?_ NB228_237.out _; (with_reducible repeat (first | refine zE ?_ _ | refine zF ?_ | refine zD ?_ _)); exact BK228.out⟩, ⟨by (with_reducible repeat (first | refine zE ?_ _ | refine zF ?_ | refine zD ?_ _)); refine blk_far ?_ NB229_237.out _; (with_reducible repeat (first | refine zE ?_ _ | refine zF ?_ | refine zD ?_ _)); exact BK229.out⟩, ⟨by (with_reducible repeat (first | refine zE ?_ _ | refine zF ?_ | refine zD ?_ _)); refine blk_put (cs := #[.slice (some ⟨go63, 0, none⟩) x238000_41.length co65, .int .i64 x238001_2]) ?_ 1 _ rfl; (with_reducible repeat (first | refine zE ?_ _ | refine zF ?_ | refine zD ?_ _)); exact BK237.out⟩, ⟨by repeat (first | (with_reducible first | exact HB.out | apply zA | apply zB | apply zC | refine below_set ?_ GE228.out | refine below_set ?_ GE229.out | refine below_set ?_ GE237.out) | exact HB.out)⟩⟩
                ·rw [if_neg c61] at H
                 exact absurd H (by simp)
               ·rw [if_neg c59] at H
                exact absurd H (by simp)
              ·rw [if_neg c58] at H
               exact absurd H (by simp)
             ·rw [if_neg c56] at H
              have c56b0 : ((Go.bits .and .u64 (ji55) 1) == 1) = false := beq_eq_false_iff_ne.mpr c56
              have c56b1 : ((Go.bits .and .u64 (ji55) 1) != 1) = true := bne_iff_ne.mpr c56
              have H' := Aside0.mk H
              clear H
              have hnb71 := NB237_228.out
              have hnc71 := NB228_237.out
              have hnb72 := NB237_229.out
              have hnc72 := NB229_237.out
              have hcz73_0 : wc.cell? ⟨gb237, 0, none⟩ = some (u238000) := (zQ BK237.out 0).trans rfl
              have hcz73_1 : wc.cell? ⟨gb237, 1, none⟩ = some (.int .i64 x238001_2) := (zQ BK237.out 1).trans rfl
              have hfz73_0 := blk_frozen BK237.out 0
              have hfz73_1 := blk_frozen BK237.out 1
              go_wp2
              go_roundg kj41
              case measure => have := HJ3.out; have := HK2.out; have := HJ41.out; omega
              case rel => exact ⟨(wrap64 (x8_2 - 1)), (x238000_41), (wrap64 (x238001_2 + 1)), (u238000), (by first | rfl | (simp; done) | (simp [*]; done)), H', ⟨by have := HJ3.out; have := HK2.out; have := HJ41.out; omega⟩, ⟨by (with_reducible repeat (first | apply zG | apply zH | apply zI)); exact Kd.R_mono (Kd.R_far (p := ⟨gb237, 1, none⟩) (Kd.R_types HO_238000.out BK237.out (by decide)) (fun _ hk => hk.2) (.int .i64 (wrap64 (x238001_2 + 1)))) (fun _ hk => trivial)⟩, ⟨by (with_reducible repeat (first | refine zE ?_ _ | refine zF ?_ | refine zD ?_ _)); refine blk_far ?_ NB228_237.out _; (with_reducible repeat (first | refine zE ?_ _ | refine zF ?_ | refine zD ?_ _)); exact BK228.out⟩, ⟨by (with_reducible repeat (first | refine zE ?_ _ | refine zF ?_ | refine zD ?_ _)); refine blk_far ?_ NB229_237.out _; (with_reducible repeat (first | refine zE ?_ _ | refine zF ?_ | refine zD ?_ _)); exact BK229.out⟩, ⟨by (with_reducible repeat (first | refine zE ?_ _ | refine zF ?_ | refine zD ?_ _)); refine blk_put (cs := #[u238000, .int .i64 x238001_2]) ?_ 1 _ rfl; (with_reducible repeat (first | refine zE ?_ _ | refine zF ?_ | refine zD ?_ _)); exact BK237.out⟩, ⟨by repeat (first | (with_reducible first | exact HB.out | apply zA | apply zB | apply zC | refine below_set ?_ GE228.out | refine below_set ?_ GE229.out | refine below_set ?_ GE237.out) | exact HB.out)⟩⟩
            ·rw [if_neg c54] at H
             exact absurd H (by simp)
         ·rw [if_neg c41] at H
          have c41b0 : decide (0 ≤ x8_2) = false := decide_eq_false c41
          clear c41
          simp only [Option.some.injEq, Prod.mk.injEq] at H
          obtain ⟨rfl, rfl⟩ := H
          have hnb74 := NB237_228.out
          have hnc74 := NB228_237.out
          have hnb75 := NB237_229.out
          have hnc75 := NB229_237.out
          have hcz76_0 : wr.cell? ⟨gb237, 0, none⟩ = some (u238000) := (zQ BK237.out 0).trans rfl
          have hcz76_1 : wr.cell? ⟨gb237, 1, none⟩ = some (.int .i64 x238001_2) := (zQ BK237.out 1).trans rfl
          have hfz76_0 := blk_frozen BK237.out 0
          have hfz76_1 := blk_frozen BK237.out 1
          obtain ⟨Ao77, co77, eo77⟩ := Kd.R_slice HO_238000.out
          subst eo77
          have hnb78 := NB229_228.out
          have hnc78 := NB228_229.out
          have hcz79_0 : wr.cell? ⟨gb229, 0, none⟩ = some (.slice none 0 0) := (zQ BK229.out 0).trans rfl
          have hcz79_1 : wr.cell? ⟨gb229, 1, none⟩ = some (.int .i64 0) := (zQ BK229.out 1).trans rfl
          have hfz79_0 := blk_frozen BK229.out 0
          have hfz79_1 := blk_frozen BK229.out 1
          go_wp2
          refine bodyPost_ret (results_cell_row rfl _ _ gb229 37 #[.slice Ao77 x238000_2.length co77, .int .i64 x238001_2] (0, 0) _ rfl (by (with_reducible repeat (first | refine zE ?_ _ | refine zF ?_ | refine zD ?_ _)); refine blk_put (cs := #[.slice Ao77 x238000_2.length co77, .int .i64 0]) ?_ 1 _ rfl; (with_reducible repeat (first | refine zE ?_ _ | refine zF ?_ | refine zD ?_ _)); refine blk_put (cs := #[.slice none 0 0, .int .i64 0]) ?_ 0 _ rfl; (with_reducible repeat (first | refine zE ?_ _ | refine zF ?_ | refine zD ?_ _)); exact BK229.out) Try.underlying37 rfl (by kernel_rfl)) rfl ?_
          exact ⟨_, by first | rfl | (simp [errW_none, errW_some] <;> rfl) | (simp only [← hji27]; first | rfl | (simp [errW_none, errW_some] <;> rfl)) | (simp [*, errW_none, errW_some] <;> rfl), by (with_reducible repeat (first | apply zG | apply zH | apply zI)); exact Kd.R_mono (Kd.R_far (p := ⟨gb229, 1, none⟩) (Kd.R_far (p := ⟨gb229, 0, none⟩) (Kd.R_types HO_238000.out BK229.out (by decide)) (fun _ hk => hk.2) (.slice Ao77 x238000_2.length co77)) (fun _ hk => hk.2) (.int .i64 x238001_2)) (fun _ hk => trivial), by repeat (first | (with_reducible first | exact HB.out | apply zA | apply zB | apply zC | refine below_set ?_ GE228.out | refine below_set ?_ GE229.out | refine below_set ?_ GE237.out) | exact HB.out)⟩
      ·rw [if_neg c30] at H
       exact absurd H (by simp)
     ·rw [if_neg c29] at H
      exact absurd H (by simp)
    ·rw [if_neg c28] at H
     exact absurd H (by simp)

end Go.Proofs.Ytppifefhpjhmaaa.PFnBits
