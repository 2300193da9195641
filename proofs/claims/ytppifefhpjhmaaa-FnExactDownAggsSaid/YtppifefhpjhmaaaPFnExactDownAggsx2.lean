-- Written by a program of this session (xprint.py, over the kit's print).
import Derived.Test.YtppifefhpjhmaaaPFnExactDownAggsx0
import Derived.Test.YtppifefhpjhmaaaPFnExactDownAggsx1
namespace Go.Proofs.Ytppifefhpjhmaaa.PFnExactDownAggs
open Go.RowKit Go.Proofs.YtppifefhpjhmaaaW.PrintWords Go.Proofs.YtppifefhpjhmaaaW.PrintLast Go.Proofs.YtppifefhpjhmaaaW.PrintMore Go.Proofs.Ytppifefhpjhmaaa.XWords
attribute [local go_sem] max2_int min2_int max_two min_two max_three min_three max_four min_four   -- for this text's walks alone
set_option linter.unusedVariables false
set_option linter.unusedSimpArgs false

/-! ### spec_MergeAgg: function 11 -/
def spec_MergeAgg.j0 : Nat → Int → Int → Int → Int → Int → Int → Int → Int → Int → Int → Int → Int → Int → Int → Int → Int → Int → Int → Int → Int → Int → Int → Int → Int → Option (Int × Int × Int × Int × Int × Int × Int × Int)
 | 0, _, _, _, _, _, _, _, _, _, _, _, _, _, _, _, _, _, _, _, _, _, _, _, _ => none
 | k + 1, x123000, x123001, x123002, x123003, x123004, x123005, x123006, x123007, x124000, x124001, x124002, x124003, x124004, x124005, x124006, x124007, x126000, x126001, x126002, x126003, x126004, x126005, x126006, x126007 => if x124004 > x123004 then ((spec_l11Rise.f x123006 x124005).bind fun t126 => (some (x126000, x126001, x126002, x126003, x124004, x126005, x126006, wrap64 ((wrap64 (x123007 + t126)) + x124007)))) else ((spec_l11Rise.f x123006 x124005).bind fun t127 => (some (x126000, x126001, x126002, x126003, x126004, x126005, x126006, wrap64 ((wrap64 (x123007 + t127)) + x124007))))
def spec_MergeAgg.f (k : Nat) (a0_0 : Int) (a0_1 : Int) (a0_2 : Int) (a0_3 : Int) (a0_4 : Int) (a0_5 : Int) (a0_6 : Int) (a0_7 : Int) (a1_0 : Int) (a1_1 : Int) (a1_2 : Int) (a1_3 : Int) (a1_4 : Int) (a1_5 : Int) (a1_6 : Int) (a1_7 : Int) : Option (Int × Int × Int × Int × Int × Int × Int × Int) := if a1_3 < a0_3 then (spec_MergeAgg.j0 k a0_0 a0_1 a0_2 a0_3 a0_4 a0_5 a0_6 a0_7 a1_0 a1_1 a1_2 a1_3 a1_4 a1_5 a1_6 a1_7 a1_0 (wrap64 (a0_1 + a1_1)) (wrap64 (a0_2 + a1_2)) a1_3 a0_4 a0_5 a1_6 0) else (spec_MergeAgg.j0 k a0_0 a0_1 a0_2 a0_3 a0_4 a0_5 a0_6 a0_7 a1_0 a1_1 a1_2 a1_3 a1_4 a1_5 a1_6 a1_7 a1_0 (wrap64 (a0_1 + a1_1)) (wrap64 (a0_2 + a1_2)) a0_3 a0_4 a0_5 a1_6 0)
theorem spec_MergeAgg.mono_l : ∀ k, (∀ y0 y1 y2 y3 y4 y5 y6 y7 y8 y9 y10 y11 y12 y13 y14 y15 y16 y17 y18 y19 y20 y21 y22 y23, LeO (spec_MergeAgg.j0 k y0 y1 y2 y3 y4 y5 y6 y7 y8 y9 y10 y11 y12 y13 y14 y15 y16 y17 y18 y19 y20 y21 y22 y23) (spec_MergeAgg.j0 (k + 1) y0 y1 y2 y3 y4 y5 y6 y7 y8 y9 y10 y11 y12 y13 y14 y15 y16 y17 y18 y19 y20 y21 y22 y23))
 | 0 => fun _ _ _ _ _ _ _ _ _ _ _ _ _ _ _ _ _ _ _ _ _ _ _ _ r h => by simp [spec_MergeAgg.j0] at h
 | k + 1 => by
  have ih0 := spec_MergeAgg.mono_l k
  ·intro y0 y1 y2 y3 y4 y5 y6 y7 y8 y9 y10 y11 y12 y13 y14 y15 y16 y17 y18 y19 y20 y21 y22 y23
   unfold spec_MergeAgg.j0
   repeat' first
   | (with_reducible exact ih0 _ _ _ _ _ _ _ _ _ _ _ _ _ _ _ _ _ _ _ _ _ _ _ _)
   | (with_reducible exact LeO.refl _)
   | (with_reducible exact LeO.none _)
   | (with_reducible refine LeO.ite ?_ ?_)
   | (with_reducible refine LeO.bind ?_ (fun _ => ?_))
   | exact ih0 _ _ _ _ _ _ _ _ _ _ _ _ _ _ _ _ _ _ _ _ _ _ _ _
   | exact LeO.none _
   | refine LeO.ite ?_ ?_
   | refine LeO.bind ?_ (fun _ => ?_)
theorem spec_MergeAgg.mono : ∀ a0 a1 a2 a3 a4 a5 a6 a7 a8 a9 a10 a11 a12 a13 a14 a15 k, LeO (spec_MergeAgg.f k a0 a1 a2 a3 a4 a5 a6 a7 a8 a9 a10 a11 a12 a13 a14 a15) (spec_MergeAgg.f (k + 1) a0 a1 a2 a3 a4 a5 a6 a7 a8 a9 a10 a11 a12 a13 a14 a15) := by
 intro a0 a1 a2 a3 a4 a5 a6 a7 a8 a9 a10 a11 a12 a13 a14 a15 k
 have ih0 := spec_MergeAgg.mono_l k
 unfold spec_MergeAgg.f
 repeat' first
   | (with_reducible exact ih0 _ _ _ _ _ _ _ _ _ _ _ _ _ _ _ _ _ _ _ _ _ _ _ _)
   | (with_reducible exact LeO.refl _)
   | (with_reducible exact LeO.none _)
   | (with_reducible refine LeO.ite ?_ ?_)
   | (with_reducible refine LeO.bind ?_ (fun _ => ?_))
   | exact ih0 _ _ _ _ _ _ _ _ _ _ _ _ _ _ _ _ _ _ _ _ _ _ _ _
   | exact LeO.none _
   | refine LeO.ite ?_ ?_
   | refine LeO.bind ?_ (fun _ => ?_)
def spec_MergeAgg.T6 : Bool × List (List Nat × List Nat) := (true, [([], []), ([0], [0]), ([], []), ([2], [2]), ([], []), ([4], [4]), ([3, 5], [3, 5]), ([1, 6], [1, 6]), ([], []), ([8], [8]), ([7, 9], [7, 9]), ([0, 1, 2, 3, 4, 5, 6, 7, 8, 9, 10], []), ([11, 10, 6, 0, 1, 2, 3, 4, 5, 6, 7, 8, 9, 10], [10, 11])])
def spec_MergeAgg.B6 : List Nat := [0, 1, 0, 4, 0, 16, 60, 127, 0, 256, 1023, 2047, 4095]
theorem spec_MergeAgg.tab6 : rtab .any (opsOf Try.f11 6) = spec_MergeAgg.T6 := by kernel_rfl
theorem spec_MergeAgg.bits6 : waitsOk spec_MergeAgg.T6.2 spec_MergeAgg.B6 = true := by kernel_rfl
set_option maxHeartbeats 8000000 in
set_option maxRecDepth 100000 in
theorem spec_MergeAgg.calls (k : Nat) (a0_0 : Int) (a0_1 : Int) (a0_2 : Int) (a0_3 : Int) (a0_4 : Int) (a0_5 : Int) (a0_6 : Int) (a0_7 : Int) (a1_0 : Int) (a1_1 : Int) (a1_2 : Int) (a1_3 : Int) (a1_4 : Int) (a1_5 : Int) (a1_6 : Int) (a1_7 : Int) (r1 : Int) (r2 : Int) (r3 : Int) (r4 : Int) (r5 : Int) (r6 : Int) (r7 : Int) (r8 : Int) (w : World) (h : spec_MergeAgg.f k a0_0 a0_1 a0_2 a0_3 a0_4 a0_5 a0_6 a0_7 a1_0 a1_1 a1_2 a1_3 a1_4 a1_5 a1_6 a1_7 = some (r1, r2, r3, r4, r5, r6, r7, r8)) :
  Calls Try.prog 11 #[.agg #[.int .i64 a0_0, .int .i64 a0_1, .int .i64 a0_2, .int .i64 a0_3, .int .i64 a0_4, .int .i64 a0_5, .int .i64 a0_6, .int .i64 a0_7], .agg #[.int .i64 a1_0, .int .i64 a1_1, .int .i64 a1_2, .int .i64 a1_3, .int .i64 a1_4, .int .i64 a1_5, .int .i64 a1_6, .int .i64 a1_7]] w fun e w' => e = .returned (.agg #[.int .i64 r1, .int .i64 r2, .int .i64 r3, .int .i64 r4, .int .i64 r5, .int .i64 r6, .int .i64 r7, .int .i64 r8]) ∧ Below w.heap.size w w' := by
 have hu24 := Try.underlying24
 have HB := Aside0.mk (Below.refl w.heap.size w)
 have H : (if a1_3 < a0_3 then (spec_MergeAgg.j0 k a0_0 a0_1 a0_2 a0_3 a0_4 a0_5 a0_6 a0_7 a1_0 a1_1 a1_2 a1_3 a1_4 a1_5 a1_6 a1_7 a1_0 (wrap64 (a0_1 + a1_1)) (wrap64 (a0_2 + a1_2)) a1_3 a0_4 a0_5 a1_6 0) else (spec_MergeAgg.j0 k a0_0 a0_1 a0_2 a0_3 a0_4 a0_5 a0_6 a0_7 a1_0 a1_1 a1_2 a1_3 a1_4 a1_5 a1_6 a1_7 a1_0 (wrap64 (a0_1 + a1_1)) (wrap64 (a0_2 + a1_2)) a0_3 a0_4 a0_5 a1_6 0)) = some (r1, r2, r3, r4, r5, r6, r7, r8) := h
 clear h
 have HC3 := Aside0.mk H
 clear H
 go_enter Try.func11, Try.ntmps11
 go_upto_if 31 with (first | ((with_reducible refine gate_dst (N := 2) rfl ?_); refine box_event ?hg (N := 2) ?hd (cs := #[.int .i64 a0_0, .int .i64 a0_1, .int .i64 a0_2, .int .i64 a0_3, .int .i64 a0_4, .int .i64 a0_5, .int .i64 a0_6, .int .i64 a0_7]) (t := 24) ?hr ?_; (case hd => rfl); (case hg => rfl); (case hr => first | (go_simp; done) | (go_simp; rfl)); intro gb122 hg w4 hbox hb; have n0_ := Aside0.mk (below_step (by repeat (first | (with_reducible first | exact HB.out | apply zA | apply zB | apply zC) | exact HB.out)) hb); have n1_ := Aside0.mk (hbox); have n2_ := Aside0.mk ((by rw [hg]; exact (zW (by repeat (first | (with_reducible first | exact HB.out | apply zA | apply zB | apply zC) | exact HB.out))) : w.heap.size ≤ gb122)); have n3_ := Aside0.mk ((by rw [hg]; exact (zW (by repeat (first | (with_reducible first | exact HB.out | apply zA | apply zB | apply zC) | exact HB.out))) : w.heap.size ≤ gb122)); clear HB; have HB := n0_; have BK122 := n1_; have GW122 := n2_; have GE122 := n3_; clear n0_ n1_ n2_ n3_; clear hb hbox hg) | ((with_reducible refine gate_dst (N := 3) rfl ?_); refine box_event ?hg (N := 3) ?hd (cs := #[.int .i64 a1_0, .int .i64 a1_1, .int .i64 a1_2, .int .i64 a1_3, .int .i64 a1_4, .int .i64 a1_5, .int .i64 a1_6, .int .i64 a1_7]) (t := 24) ?hr ?_; (case hd => rfl); (case hg => rfl); (case hr => first | (go_simp; done) | (go_simp; rfl)); intro gb123 hg w5 hbox hb; have n0_ := Aside0.mk (blk_below (g := gb122) (o := cs8 24 a0_0 a0_1 a0_2 a0_3 a0_4 a0_5 a0_6 a0_7) (by (with_reducible repeat (first | refine zE ?_ _ | refine zF ?_ | refine zD ?_ _)); exact BK122.out) hb); have n1_ := Aside0.mk (below_step (by repeat (first | (with_reducible first | exact HB.out | apply zA | apply zB | apply zC | refine below_set ?_ GE122.out) | exact HB.out)) hb); have n2_ := Aside0.mk (hbox); have n3_ := Aside0.mk ((by rw [hg]; exact (zW (by repeat (first | (with_reducible first | exact HB.out | apply zA | apply zB | apply zC | refine below_set ?_ GE122.out) | exact HB.out))) : w.heap.size ≤ gb123)); have n4_ := Aside0.mk ((by rw [hg]; exact (zW (by repeat (first | (with_reducible first | exact HB.out | apply zA | apply zB | apply zC | refine below_set ?_ GE122.out) | exact HB.out))) : w.heap.size ≤ gb123)); have n5_ := Aside0.mk ((by rw [hg]; exact Nat.ne_of_lt (blk_lt (g := gb122) (o := cs8 24 a0_0 a0_1 a0_2 a0_3 a0_4 a0_5 a0_6 a0_7) (by (with_reducible repeat (first | refine zE ?_ _ | refine zF ?_ | refine zD ?_ _)); exact BK122.out)) : gb122 ≠ gb123)); have n6_ := Aside0.mk ((by rw [hg]; exact Nat.ne_of_gt (blk_lt (g := gb122) (o := cs8 24 a0_0 a0_1 a0_2 a0_3 a0_4 a0_5 a0_6 a0_7) (by (with_reducible repeat (first | refine zE ?_ _ | refine zF ?_ | refine zD ?_ _)); exact BK122.out)) : gb123 ≠ gb122)); clear BK122; clear HB; have BK122 := n0_; have HB := n1_; have BK123 := n2_; have GW123 := n3_; have GE123 := n4_; have NB122_123 := n5_; have NB123_122 := n6_; clear n0_ n1_ n2_ n3_ n4_ n5_ n6_; clear hb hbox hg) | ((with_reducible refine gate_dst (N := 4) rfl ?_); refine box_event ?hg (N := 4) ?hd (cs := #[.int .i64 0, .int .i64 0, .int .i64 0, .int .i64 0, .int .i64 0, .int .i64 0, .int .i64 0, .int .i64 0]) (t := 24) ?hr ?_; (case hd => rfl); (case hg => rfl); (case hr => first | (go_simp; done) | (go_simp; rfl)); intro gb124 hg w6 hbox hb; have n0_ := Aside0.mk (blk_below (g := gb122) (o := cs8 24 a0_0 a0_1 a0_2 a0_3 a0_4 a0_5 a0_6 a0_7) (by (with_reducible repeat (first | refine zE ?_ _ | refine zF ?_ | refine zD ?_ _)); exact BK122.out) hb); have n1_ := Aside0.mk (blk_below (g := gb123) (o := cs8 24 a1_0 a1_1 a1_2 a1_3 a1_4 a1_5 a1_6 a1_7) (by (with_reducible repeat (first | refine zE ?_ _ | refine zF ?_ | refine zD ?_ _)); exact BK123.out) hb); have n2_ := Aside0.mk (below_step (by repeat (first | (with_reducible first | exact HB.out | apply zA | apply zB | apply zC | refine below_set ?_ GE122.out | refine below_set ?_ GE123.out) | exact HB.out)) hb); have n3_ := Aside0.mk (hbox); have n4_ := Aside0.mk ((by rw [hg]; exact (zW (by repeat (first | (with_reducible first | exact HB.out | apply zA | apply zB | apply zC | refine below_set ?_ GE122.out | refine below_set ?_ GE123.out) | exact HB.out))) : w.heap.size ≤ gb124)); have n5_ := Aside0.mk ((by rw [hg]; exact (zW (by repeat (first | (with_reducible first | exact HB.out | apply zA | apply zB | apply zC | refine below_set ?_ GE122.out | refine below_set ?_ GE123.out) | exact HB.out))) : w.heap.size ≤ gb124)); have n6_ := Aside0.mk ((by rw [hg]; exact Nat.ne_of_lt (blk_lt (g := gb122) (o := cs8 24 a0_0 a0_1 a0_2 a0_3 a0_4 a0_5 a0_6 a0_7) (by (with_reducible repeat (first | refine zE ?_ _ | refine zF ?_ | refine zD ?_ _)); exact BK122.out)) : gb122 ≠ gb124)); have n7_ := Aside0.mk ((by rw [hg]; exact Nat.ne_of_gt (blk_lt (g := gb122) (o := cs8 24 a0_0 a0_1 a0_2 a0_3 a0_4 a0_5 a0_6 a0_7) (by (with_reducible repeat (first | refine zE ?_ _ | refine zF ?_ | refine zD ?_ _)); exact BK122.out)) : gb124 ≠ gb122)); have n8_ := Aside0.mk ((by rw [hg]; exact Nat.ne_of_lt (blk_lt (g := gb123) (o := cs8 24 a1_0 a1_1 a1_2 a1_3 a1_4 a1_5 a1_6 a1_7) (by (with_reducible repeat (first | refine zE ?_ _ | refine zF ?_ | refine zD ?_ _)); exact BK123.out)) : gb123 ≠ gb124)); have n9_ := Aside0.mk ((by rw [hg]; exact Nat.ne_of_gt (blk_lt (g := gb123) (o := cs8 24 a1_0 a1_1 a1_2 a1_3 a1_4 a1_5 a1_6 a1_7) (by (with_reducible repeat (first | refine zE ?_ _ | refine zF ?_ | refine zD ?_ _)); exact BK123.out)) : gb124 ≠ gb123)); clear BK122; clear BK123; clear HB; have BK122 := n0_; have BK123 := n1_; have HB := n2_; have BK124 := n3_; have GW124 := n4_; have GE124 := n5_; have NB122_124 := n6_; have NB124_122 := n7_; have NB123_124 := n8_; have NB124_123 := n9_; clear n0_ n1_ n2_ n3_ n4_ n5_ n6_ n7_ n8_ n9_; clear hb hbox hg; have hnb7 := NB123_122.out; have hnc7 := NB122_123.out; have hnb8 := NB123_124.out; have hnc8 := NB124_123.out; have hcz9_0 : w6.cell? ⟨gb123, 0, none⟩ = some (.int .i64 a1_0) := (zQ BK123.out 0).trans rfl; have hcz9_1 : w6.cell? ⟨gb123, 1, none⟩ = some (.int .i64 a1_1) := (zQ BK123.out 1).trans rfl; have hcz9_2 : w6.cell? ⟨gb123, 2, none⟩ = some (.int .i64 a1_2) := (zQ BK123.out 2).trans rfl; have hcz9_3 : w6.cell? ⟨gb123, 3, none⟩ = some (.int .i64 a1_3) := (zQ BK123.out 3).trans rfl; have hcz9_4 : w6.cell? ⟨gb123, 4, none⟩ = some (.int .i64 a1_4) := (zQ BK123.out 4).trans rfl; have hcz9_5 : w6.cell? ⟨gb123, 5, none⟩ = some (.int .i64 a1_5) := (zQ BK123.out 5).trans rfl; have hcz9_6 : w6.cell? ⟨gb123, 6, none⟩ = some (.int .i64 a1_6) := (zQ BK123.out 6).trans rfl; have hcz9_7 : w6.cell? ⟨gb123, 7, none⟩ = some (.int .i64 a1_7) := (zQ BK123.out 7).trans rfl; have hfz9_0 := blk_frozen BK123.out 0; have hfz9_1 := blk_frozen BK123.out 1; have hfz9_2 := blk_frozen BK123.out 2; have hfz9_3 := blk_frozen BK123.out 3; have hfz9_4 := blk_frozen BK123.out 4; have hfz9_5 := blk_frozen BK123.out 5; have hfz9_6 := blk_frozen BK123.out 6; have hfz9_7 := blk_frozen BK123.out 7; have hnb10 := NB122_124.out; have hnc10 := NB124_122.out; have hcz11_0 : w6.cell? ⟨gb122, 0, none⟩ = some (.int .i64 a0_0) := (zQ BK122.out 0).trans rfl; have hcz11_1 : w6.cell? ⟨gb122, 1, none⟩ = some (.int .i64 a0_1) := (zQ BK122.out 1).trans rfl; have hcz11_2 : w6.cell? ⟨gb122, 2, none⟩ = some (.int .i64 a0_2) := (zQ BK122.out 2).trans rfl; have hcz11_3 : w6.cell? ⟨gb122, 3, none⟩ = some (.int .i64 a0_3) := (zQ BK122.out 3).trans rfl; have hcz11_4 : w6.cell? ⟨gb122, 4, none⟩ = some (.int .i64 a0_4) := (zQ BK122.out 4).trans rfl; have hcz11_5 : w6.cell? ⟨gb122, 5, none⟩ = some (.int .i64 a0_5) := (zQ BK122.out 5).trans rfl; have hcz11_6 : w6.cell? ⟨gb122, 6, none⟩ = some (.int .i64 a0_6) := (zQ BK122.out 6).trans rfl; have hcz11_7 : w6.cell? ⟨gb122, 7, none⟩ = some (.int .i64 a0_7) := (zQ BK122.out 7).trans rfl; have hfz11_0 := blk_frozen BK122.out 0; have hfz11_1 := blk_frozen BK122.out 1; have hfz11_2 := blk_frozen BK122.out 2; have hfz11_3 := blk_frozen BK122.out 3; have hfz11_4 := blk_frozen BK122.out 4; have hfz11_5 := blk_frozen BK122.out 5; have hfz11_6 := blk_frozen BK122.out 6; have hfz11_7 := blk_frozen BK122.out 7) | ((with_reducible refine gate_dst (N := 5) rfl ?_); refine box_event ?hg (N := 5) ?hd (cs := #[.int .i64 0, .int .i64 0, .int .i64 0, .int .i64 0, .int .i64 0, .int .i64 0, .int .i64 0, .int .i64 0]) (t := 24) ?hr ?_; (case hd => rfl); (case hg => rfl); (case hr => first | (go_simp; done) | (go_simp; rfl)); intro gb125 hg w12 hbox hb; have n0_ := Aside0.mk (blk_below (g := gb122) (o := cs8 24 a0_0 a0_1 a0_2 a0_3 a0_4 a0_5 a0_6 a0_7) (by (with_reducible repeat (first | refine zE ?_ _ | refine zF ?_ | refine zD ?_ _)); exact BK122.out) hb); have n1_ := Aside0.mk (blk_below (g := gb123) (o := cs8 24 a1_0 a1_1 a1_2 a1_3 a1_4 a1_5 a1_6 a1_7) (by (with_reducible repeat (first | refine zE ?_ _ | refine zF ?_ | refine zD ?_ _)); exact BK123.out) hb); have n2_ := Aside0.mk (blk_below (g := gb124) (o := cs8 24 0 0 0 0 0 0 0 0) (by (with_reducible repeat (first | refine zE ?_ _ | refine zF ?_ | refine zD ?_ _)); exact BK124.out) hb); have n3_ := Aside0.mk (below_step (by repeat (first | (with_reducible first | exact HB.out | apply zA | apply zB | apply zC | refine below_set ?_ GE122.out | refine below_set ?_ GE123.out | refine below_set ?_ GE124.out) | exact HB.out)) hb); have n4_ := Aside0.mk (hbox); have n5_ := Aside0.mk ((by rw [hg]; exact (zW (by repeat (first | (with_reducible first | exact HB.out | apply zA | apply zB | apply zC | refine below_set ?_ GE122.out | refine below_set ?_ GE123.out | refine below_set ?_ GE124.out) | exact HB.out))) : w.heap.size ≤ gb125)); have n6_ := Aside0.mk ((by rw [hg]; exact (zW (by repeat (first | (with_reducible first | exact HB.out | apply zA | apply zB | apply zC | refine below_set ?_ GE122.out | refine below_set ?_ GE123.out | refine below_set ?_ GE124.out) | exact HB.out))) : w.heap.size ≤ gb125)); have n7_ := Aside0.mk ((by rw [hg]; exact Nat.ne_of_lt (blk_lt (g := gb122) (o := cs8 24 a0_0 a0_1 a0_2 a0_3 a0_4 a0_5 a0_6 a0_7) (by (with_reducible repeat (first | refine zE ?_ _ | refine zF ?_ | refine zD ?_ _)); exact BK122.out)) : gb122 ≠ gb125)); have n8_ := Aside0.mk ((by rw [hg]; exact Nat.ne_of_gt (blk_lt (g := gb122) (o := cs8 24 a0_0 a0_1 a0_2 a0_3 a0_4 a0_5 a0_6 a0_7) (by (with_reducible repeat (first | refine zE ?_ _ | refine zF ?_ | refine zD ?_ _)); exact BK122.out)) : gb125 ≠ gb122)); have n9_ := Aside0.mk ((by rw [hg]; exact Nat.ne_of_lt (blk_lt (g := gb123) (o := cs8 24 a1_0 a1_1 a1_2 a1_3 a1_4 a1_5 a1_6 a1_7) (by (with_reducible repeat (first | refine zE ?_ _ | refine zF ?_ | refine zD ?_ _)); exact BK123.out)) : gb123 ≠ gb125)); have n10_ := Aside0.mk ((by rw [hg]; exact Nat.ne_of_gt (blk_lt (g := gb123) (o := cs8 24 a1_0 a1_1 a1_2 a1_3 a1_4 a1_5 a1_6 a1_7) (by (with_reducible repeat (first | refine zE ?_ _ | refine zF ?_ | refine zD ?_ _)); exact BK123.out)) : gb125 ≠ gb123)); have n11_ := Aside0.mk ((by rw [hg]; exact Nat.ne_of_lt (blk_lt (g := gb124) (o := cs8 24 0 0 0 0 0 0 0 0) (by (with_reducible repeat (first | refine zE ?_ _ | refine zF ?_ | refine zD ?_ _)); exact BK124.out)) : gb124 ≠ gb125)); have n12_ := Aside0.mk ((by rw [hg]; exact Nat.ne_of_gt (blk_lt (g := gb124) (o := cs8 24 0 0 0 0 0 0 0 0) (by (with_reducible repeat (first | refine zE ?_ _ | refine zF ?_ | refine zD ?_ _)); exact BK124.out)) : gb125 ≠ gb124)); clear BK122; clear BK123; clear BK124; clear HB; have BK122 := n0_; have BK123 := n1_; have BK124 := n2_; have HB := n3_; have BK125 := n4_; have GW125 := n5_; have GE125 := n6_; have NB122_125 := n7_; have NB125_122 := n8_; have NB123_125 := n9_; have NB125_123 := n10_; have NB124_125 := n11_; have NB125_124 := n12_; clear n0_ n1_ n2_ n3_ n4_ n5_ n6_ n7_ n8_ n9_ n10_ n11_ n12_; clear hb hbox hg; have hnb13 := NB125_122.out; have hnc13 := NB122_125.out; have hnb14 := NB125_123.out; have hnc14 := NB123_125.out; have hnb15 := NB125_124.out; have hnc15 := NB124_125.out; have hcz16_0 : w12.cell? ⟨gb125, 0, none⟩ = some (.int .i64 0) := (zQ BK125.out 0).trans rfl; have hcz16_1 : w12.cell? ⟨gb125, 1, none⟩ = some (.int .i64 0) := (zQ BK125.out 1).trans rfl; have hcz16_2 : w12.cell? ⟨gb125, 2, none⟩ = some (.int .i64 0) := (zQ BK125.out 2).trans rfl; have hcz16_3 : w12.cell? ⟨gb125, 3, none⟩ = some (.int .i64 0) := (zQ BK125.out 3).trans rfl; have hcz16_4 : w12.cell? ⟨gb125, 4, none⟩ = some (.int .i64 0) := (zQ BK125.out 4).trans rfl; have hcz16_5 : w12.cell? ⟨gb125, 5, none⟩ = some (.int .i64 0) := (zQ BK125.out 5).trans rfl; have hcz16_6 : w12.cell? ⟨gb125, 6, none⟩ = some (.int .i64 0) := (zQ BK125.out 6).trans rfl; have hcz16_7 : w12.cell? ⟨gb125, 7, none⟩ = some (.int .i64 0) := (zQ BK125.out 7).trans rfl; have hfz16_0 := blk_frozen BK125.out 0; have hfz16_1 := blk_frozen BK125.out 1; have hfz16_2 := blk_frozen BK125.out 2; have hfz16_3 := blk_frozen BK125.out 3; have hfz16_4 := blk_frozen BK125.out 4; have hfz16_5 := blk_frozen BK125.out 5; have hfz16_6 := blk_frozen BK125.out 6; have hfz16_7 := blk_frozen BK125.out 7; have hcz17_0 : w12.cell? ⟨gb123, 0, none⟩ = some (.int .i64 a1_0) := (zQ BK123.out 0).trans rfl; have hcz17_1 : w12.cell? ⟨gb123, 1, none⟩ = some (.int .i64 a1_1) := (zQ BK123.out 1).trans rfl; have hcz17_2 : w12.cell? ⟨gb123, 2, none⟩ = some (.int .i64 a1_2) := (zQ BK123.out 2).trans rfl; have hcz17_3 : w12.cell? ⟨gb123, 3, none⟩ = some (.int .i64 a1_3) := (zQ BK123.out 3).trans rfl; have hcz17_4 : w12.cell? ⟨gb123, 4, none⟩ = some (.int .i64 a1_4) := (zQ BK123.out 4).trans rfl; have hcz17_5 : w12.cell? ⟨gb123, 5, none⟩ = some (.int .i64 a1_5) := (zQ BK123.out 5).trans rfl; have hcz17_6 : w12.cell? ⟨gb123, 6, none⟩ = some (.int .i64 a1_6) := (zQ BK123.out 6).trans rfl; have hcz17_7 : w12.cell? ⟨gb123, 7, none⟩ = some (.int .i64 a1_7) := (zQ BK123.out 7).trans rfl; have hfz17_0 := blk_frozen BK123.out 0; have hfz17_1 := blk_frozen BK123.out 1; have hfz17_2 := blk_frozen BK123.out 2; have hfz17_3 := blk_frozen BK123.out 3; have hfz17_4 := blk_frozen BK123.out 4; have hfz17_5 := blk_frozen BK123.out 5; have hfz17_6 := blk_frozen BK123.out 6; have hfz17_7 := blk_frozen BK123.out 7; have hcz18_0 : w12.cell? ⟨gb122, 0, none⟩ = some (.int .i64 a0_0) := (zQ BK122.out 0).trans rfl; have hcz18_1 : w12.cell? ⟨gb122, 1, none⟩ = some (.int .i64 a0_1) := (zQ BK122.out 1).trans rfl; have hcz18_2 : w12.cell? ⟨gb122, 2, none⟩ = some (.int .i64 a0_2) := (zQ BK122.out 2).trans rfl; have hcz18_3 : w12.cell? ⟨gb122, 3, none⟩ = some (.int .i64 a0_3) := (zQ BK122.out 3).trans rfl; have hcz18_4 : w12.cell? ⟨gb122, 4, none⟩ = some (.int .i64 a0_4) := (zQ BK122.out 4).trans rfl; have hcz18_5 : w12.cell? ⟨gb122, 5, none⟩ = some (.int .i64 a0_5) := (zQ BK122.out 5).trans rfl; have hcz18_6 : w12.cell? ⟨gb122, 6, none⟩ = some (.int .i64 a0_6) := (zQ BK122.out 6).trans rfl; have hcz18_7 : w12.cell? ⟨gb122, 7, none⟩ = some (.int .i64 a0_7) := (zQ BK122.out 7).trans rfl; have hfz18_0 := blk_frozen BK122.out 0; have hfz18_1 := blk_frozen BK122.out 1; have hfz18_2 := blk_frozen BK122.out 2; have hfz18_3 := blk_frozen BK122.out 3; have hfz18_4 := blk_frozen BK122.out 4; have hfz18_5 := blk_frozen BK122.out 5; have hfz18_6 := blk_frozen BK122.out 6; have hfz18_7 := blk_frozen BK122.out 7))
 (try simp only [Act.put, zT, zU, zV])
 go_cut [] (fun wc => ∃ (kq : Nat) (x126003_2 : Int), Aside0 (spec_MergeAgg.j0 kq a0_0 a0_1 a0_2 a0_3 a0_4 a0_5 a0_6 a0_7 a1_0 a1_1 a1_2 a1_3 a1_4 a1_5 a1_6 a1_7 a1_0 (wrap64 (a0_1 + a1_1)) (wrap64 (a0_2 + a1_2)) x126003_2 a0_4 a0_5 a1_6 0 = some (r1, r2, r3, r4, r5, r6, r7, r8)) ∧ Aside0 (kq ≤ k) ∧ Aside0 (wc.heap[gb122]? = some (.cells #[.int .i64 a0_0, .int .i64 a0_1, .int .i64 a0_2, .int .i64 a0_3, .int .i64 a0_4, .int .i64 a0_5, .int .i64 a0_6, .int .i64 a0_7] 24 (0, 0))) ∧ Aside0 (wc.heap[gb123]? = some (.cells #[.int .i64 a1_0, .int .i64 a1_1, .int .i64 a1_2, .int .i64 a1_3, .int .i64 a1_4, .int .i64 a1_5, .int .i64 a1_6, .int .i64 a1_7] 24 (0, 0))) ∧ Aside0 (wc.heap[gb124]? = some (.cells #[.int .i64 0, .int .i64 0, .int .i64 0, .int .i64 0, .int .i64 0, .int .i64 0, .int .i64 0, .int .i64 0] 24 (0, 0))) ∧ Aside0 (wc.heap[gb125]? = some (.cells #[.int .i64 a1_0, .int .i64 (wrap64 (a0_1 + a1_1)), .int .i64 (wrap64 (a0_2 + a1_2)), .int .i64 x126003_2, .int .i64 a0_4, .int .i64 a0_5, .int .i64 a1_6, .int .i64 0] 24 (0, 0))) ∧ Aside0 (Below w.heap.size w wc))
 case first =>
  have H := HC3.out
  clear HC3
  by_cases c19 : a1_3 < a0_3
  ·rw [if_pos c19] at H
   have c19b0 : decide (a1_3 < a0_3) = true := decide_eq_true c19
   clear c19
   (first | rw [c19b0] | (simp only [i64_w, i32_w]; rw [c19b0]) | skip)
   have H' := Aside0.mk H
   clear H
   have hnb20 := NB123_122.out
   have hnc20 := NB122_123.out
   have hnb21 := NB123_124.out
   have hnc21 := NB124_123.out
   have hnb22 := NB123_125.out
   have hnc22 := NB125_123.out
   have hcz23_0 : w12.cell? ⟨gb123, 0, none⟩ = some (.int .i64 a1_0) := (zQ BK123.out 0).trans rfl
   have hcz23_1 : w12.cell? ⟨gb123, 1, none⟩ = some (.int .i64 a1_1) := (zQ BK123.out 1).trans rfl
   have hcz23_2 : w12.cell? ⟨gb123, 2, none⟩ = some (.int .i64 a1_2) := (zQ BK123.out 2).trans rfl
   have hcz23_3 : w12.cell? ⟨gb123, 3, none⟩ = some (.int .i64 a1_3) := (zQ BK123.out 3).trans rfl
   have hcz23_4 : w12.cell? ⟨gb123, 4, none⟩ = some (.int .i64 a1_4) := (zQ BK123.out 4).trans rfl
   have hcz23_5 : w12.cell? ⟨gb123, 5, none⟩ = some (.int .i64 a1_5) := (zQ BK123.out 5).trans rfl
   have hcz23_6 : w12.cell? ⟨gb123, 6, none⟩ = some (.int .i64 a1_6) := (zQ BK123.out 6).trans rfl
   have hcz23_7 : w12.cell? ⟨gb123, 7, none⟩ = some (.int .i64 a1_7) := (zQ BK123.out 7).trans rfl
   have hfz23_0 := blk_frozen BK123.out 0
   have hfz23_1 := blk_frozen BK123.out 1
   have hfz23_2 := blk_frozen BK123.out 2
   have hfz23_3 := blk_frozen BK123.out 3
   have hfz23_4 := blk_frozen BK123.out 4
   have hfz23_5 := blk_frozen BK123.out 5
   have hfz23_6 := blk_frozen BK123.out 6
   have hfz23_7 := blk_frozen BK123.out 7
   have hnb24 := NB125_122.out
   have hnc24 := NB122_125.out
   have hnb25 := NB125_124.out
   have hnc25 := NB124_125.out
   have hcz26_0 : w12.cell? ⟨gb125, 0, none⟩ = some (.int .i64 0) := (zQ BK125.out 0).trans rfl
   have hcz26_1 : w12.cell? ⟨gb125, 1, none⟩ = some (.int .i64 0) := (zQ BK125.out 1).trans rfl
   have hcz26_2 : w12.cell? ⟨gb125, 2, none⟩ = some (.int .i64 0) := (zQ BK125.out 2).trans rfl
   have hcz26_3 : w12.cell? ⟨gb125, 3, none⟩ = some (.int .i64 0) := (zQ BK125.out 3).trans rfl
   have hcz26_4 : w12.cell? ⟨gb125, 4, none⟩ = some (.int .i64 0) := (zQ BK125.out 4).trans rfl
   have hcz26_5 : w12.cell? ⟨gb125, 5, none⟩ = some (.int .i64 0) := (zQ BK125.out 5).trans rfl
   have hcz26_6 : w12.cell? ⟨gb125, 6, none⟩ = some (.int .i64 0) := (zQ BK125.out 6).trans rfl
   have hcz26_7 : w12.cell? ⟨gb125, 7, none⟩ = some (.int .i64 0) := (zQ BK125.out 7).trans rfl
   have hfz26_0 := blk_frozen BK125.out 0
   have hfz26_1 := blk_frozen BK125.out 1
   have hfz26_2 := blk_frozen BK125.out 2
   have hfz26_3 := blk_frozen BK125.out 3
   have hfz26_4 := blk_frozen BK125.out 4
   have hfz26_5 := blk_frozen BK125.out 5
   have hfz26_6 := blk_frozen BK125.out 6
   have hfz26_7 := blk_frozen BK125.out 7
   go_wp2
   go_meet
   case rel => exact ⟨_, (a1_3), H', ⟨by first | omega | exact Nat.le_refl _⟩, ⟨by (with_reducible repeat (first | refine zE ?_ _ | refine zF ?_ | refine zD ?_ _)); refine blk_far ?_ NB122_125.out _; (with_reducible repeat (first | refine zE ?_ _ | refine zF ?_ | refine zD ?_ _)); refine blk_far ?_ NB122_125.out _; (with_reducible repeat (first | refine zE ?_ _ | refine zF ?_ | refine zD ?_ _)); refine blk_far ?_ NB122_125.out _; (with_reducible repeat (first | refine zE ?_ _ | refine zF ?_ | refine zD ?_ _)); refine blk_far ?_ NB122_125.out _; (with_reducible repeat (first | refine zE ?_ _ | refine zF ?_ | refine zD ?_ _)); refine blk_far ?_ NB122_125.out _; (with_reducible repeat (first | refine zE ?_ _ | refine zF ?_ | refine zD ?_ _)); refine blk_far ?_ NB122_125.out _; (with_reducible repeat (first | refine zE ?_ _ | refine zF ?_ | refine zD ?_ _)); refine blk_far ?_ NB122_125.out _; (with_reducible repeat (first | refine zE ?_ _ | refine zF ?_ | refine zD ?_ _)); refine blk_far ?_ NB122_125.out _; (with_reducible repeat (first | refine zE ?_ _ | refine zF ?_ | refine zD ?_ _)); refine blk_far ?_ NB122_125.out _; (with_reducible repeat (first | refine zE ?_ _ | refine zF ?_ | refine zD ?_ _)); exact BK122.out⟩, ⟨by (with_reducible repeat (first | refine zE ?_ _ | refine zF ?_ | refine zD ?_ _)); refine blk_far ?_ NB123_125.out _; (with_reducible repeat (first | refine zE ?_ _ | refine zF ?_ | refine zD ?_ _)); refine blk_far ?_ NB123_125.out _; (with_reducible repeat (first | refine zE ?_ _ | refine zF ?_ | refine zD ?_ _)); refine blk_far ?_ NB123_125.out _; (with_reducible repeat (first | refine zE ?_ _ | refine zF ?_ | refine zD ?_ _)); refine blk_far ?_ NB123_125.out _; (with_reducible repeat (first | refine zE ?_ _ | refine zF ?_ | refine zD ?_ _)); refine blk_far ?_ NB123_125.out _; (with_reducible repeat (first | refine zE ?_ _ | refine zF ?_ | refine zD ?_ _)); refine blk_far ?_ NB123_125.out _; (with_reducible repeat (first | refine zE ?_ _ | refine zF ?_ | refine zD ?_ _)); refine blk_far ?_ NB123_125.out _; (with_reducible repeat (first | refine zE ?_ _ | refine zF ?_ | refine zD ?_ _)); refine blk_far ?_ NB123_125.out _; (with_reducible repeat (first | refine zE ?_ _ | refine zF ?_ | refine zD ?_ _)); refine blk_far ?_ NB123_125.out _; (with_reducible repeat (first | refine zE ?_ _ | refine zF ?_ | refine zD ?_ _)); exact BK123.out⟩, ⟨by (with_reducible repeat (first | refine zE ?_ _ | refine zF ?_ | refine zD ?_ _)); refine blk_far ?_ NB124_125.out _; (with_reducible repeat (first | refine zE ?_ _ | refine zF ?_ | refine zD ?_ _)); refine blk_far ?_ NB124_125.out _; (with_reducible repeat (first | refine zE ?_ _ | refine zF ?_ | refine zD ?_ _)); refine blk_far ?_ NB124_125.out _; (with_reducible repeat (first | refine zE ?_ _ | refine zF ?_ | refine zD ?_ _)); refine blk_far ?_ NB124_125.out _; (with_reducible repeat (first | refine zE ?_ _ | refine zF ?_ | refine zD ?_ _)); refine blk_far ?_ NB124_125.out _; (with_reducible repeat (first | refine zE ?_ _ | refine zF ?_ | refine zD ?_ _)); refine blk_far ?_ NB124_125.out _; (with_reducible repeat (first | refine zE ?_ _ | refine zF ?_ | refine zD ?_ _)); refine blk_far ?_ NB124_125.out _; (with_reducible repeat (first | refine zE ?_ _ | refine zF ?_ | refine zD ?_ _)); refine blk_far ?_ NB124_125.out _; (with_reducible repeat (first | refine zE ?_ _ | refine zF ?_ | refine zD ?_ _)); refine blk_far ?_ NB124_125.out _; (with_reducible repeat (first | refine zE ?_ _ | refine zF ?_ | refine zD ?_ _)); exact BK124.out⟩, ⟨by (with_reducible repeat (first | refine zE ?_ _ | refine zF ?_ | refine zD ?_ _)); refine blk_put (cs := #[.int .i64 a1_0, .int .i64 (wrap64 (a0_1 + a1_1)), .int .i64 (wrap64 (a0_2 + a1_2)), .int .i64 a0_3, .int .i64 a0_4, .int .i64 a0_5, .int .i64 a1_6, .int .i64 0]) ?_ 3 _ rfl; (with_reducible repeat (first | refine zE ?_ _ | refine zF ?_ | refine zD ?_ _)); refine blk_put (cs := #[.int .i64 a1_0, .int .i64 (wrap64 (a0_1 + a1_1)), .int .i64 (wrap64 (a0_2 + a1_2)), .int .i64 a0_3, .int .i64 a0_4, .int .i64 a0_5, .int .i64 a1_6, .int .i64 0]) ?_ 7 _ rfl; (with_reducible repeat (first | refine zE ?_ _ | refine zF ?_ | refine zD ?_ _)); refine blk_put (cs := #[.int .i64 a1_0, .int .i64 (wrap64 (a0_1 + a1_1)), .int .i64 (wrap64 (a0_2 + a1_2)), .int .i64 a0_3, .int .i64 a0_4, .int .i64 a0_5, .int .i64 0, .int .i64 0]) ?_ 6 _ rfl; (with_reducible repeat (first | refine zE ?_ _ | refine zF ?_ | refine zD ?_ _)); refine blk_put (cs := #[.int .i64 a1_0, .int .i64 (wrap64 (a0_1 + a1_1)), .int .i64 (wrap64 (a0_2 + a1_2)), .int .i64 a0_3, .int .i64 a0_4, .int .i64 0, .int .i64 0, .int .i64 0]) ?_ 5 _ rfl; (with_reducible repeat (first | refine zE ?_ _ | refine zF ?_ | refine zD ?_ _)); refine blk_put (cs := #[.int .i64 a1_0, .int .i64 (wrap64 (a0_1 + a1_1)), .int .i64 (wrap64 (a0_2 + a1_2)), .int .i64 a0_3, .int .i64 0, .int .i64 0, .int .i64 0, .int .i64 0]) ?_ 4 _ rfl; (with_reducible repeat (first | refine zE ?_ _ | refine zF ?_ | refine zD ?_ _)); refine blk_put (cs := #[.int .i64 a1_0, .int .i64 (wrap64 (a0_1 + a1_1)), .int .i64 (wrap64 (a0_2 + a1_2)), .int .i64 0, .int .i64 0, .int .i64 0, .int .i64 0, .int .i64 0]) ?_ 3 _ rfl; (with_reducible repeat (first | refine zE ?_ _ | refine zF ?_ | refine zD ?_ _)); refine blk_put (cs := #[.int .i64 a1_0, .int .i64 (wrap64 (a0_1 + a1_1)), .int .i64 0, .int .i64 0, .int .i64 0, .int .i64 0, .int .i64 0, .int .i64 0]) ?_ 2 _ rfl; (with_reducible repeat (first | refine zE ?_ _ | refine zF ?_ | refine zD ?_ _)); refine blk_put (cs := #[.int .i64 a1_0, .int .i64 0, .int .i64 0, .int .i64 0, .int .i64 0, .int .i64 0, .int .i64 0, .int .i64 0]) ?_ 1 _ rfl; (with_reducible repeat (first | refine zE ?_ _ | refine zF ?_ | refine zD ?_ _)); refine blk_put (cs := #[.int .i64 0, .int .i64 0, .int .i64 0, .int .i64 0, .int .i64 0, .int .i64 0, .int .i64 0, .int .i64 0]) ?_ 0 _ rfl; (with_reducible repeat (first | refine zE ?_ _ | refine zF ?_ | refine zD ?_ _)); exact BK125.out⟩, ⟨by repeat (first | (with_reducible first | exact HB.out | apply zA | apply zB | apply zC | refine below_set ?_ GE122.out | refine below_set ?_ GE123.out | refine below_set ?_ GE124.out | refine below_set ?_ GE125.out) | exact HB.out)⟩⟩
  ·rw [if_neg c19] at H
   have c19b0 : decide (a1_3 < a0_3) = false := decide_eq_false c19
   clear c19
   (first | rw [c19b0] | (simp only [i64_w, i32_w]; rw [c19b0]) | skip)
   have H' := Aside0.mk H
   clear H
   go_wp2
   go_meet
   case rel => exact ⟨_, (a0_3), H', ⟨by first | omega | exact Nat.le_refl _⟩, ⟨by (with_reducible repeat (first | refine zE ?_ _ | refine zF ?_ | refine zD ?_ _)); refine blk_far ?_ NB122_125.out _; (with_reducible repeat (first | refine zE ?_ _ | refine zF ?_ | refine zD ?_ _)); refine blk_far ?_ NB122_125.out _; (with_reducible repeat (first | refine zE ?_ _ | refine zF ?_ | refine zD ?_ _)); refine blk_far ?_ NB122_125.out _; (with_reducible repeat (first | refine zE ?_ _ | refine zF ?_ | refine zD ?_ _)); refine blk_far ?_ NB122_125.out _; (with_reducible repeat (first | refine zE ?_ _ | refine zF ?_ | refine zD ?_ _)); refine blk_far ?_ NB122_125.out _; (with_reducible repeat (first | refine zE ?_ _ | refine zF ?_ | refine zD ?_ _)); refine blk_far ?_ NB122_125.out _; (with_reducible repeat (first | refine zE ?_ _ | refine zF ?_ | refine zD ?_ _)); refine blk_far ?_ NB122_125.out _; (with_reducible repeat (first | refine zE ?_ _ | refine zF ?_ | refine zD ?_ _)); refine blk_far ?_ NB122_125.out _; (with_reducible repeat (first | refine zE ?_ _ | refine zF ?_ | refine zD ?_ _)); exact BK122.out⟩, ⟨by (with_reducible repeat (first | refine zE ?_ _ | refine zF ?_ | refine zD ?_ _)); refine blk_far ?_ NB123_125.out _; (with_reducible repeat (first | refine zE ?_ _ | refine zF ?_ | refine zD ?_ _)); refine blk_far ?_ NB123_125.out _; (with_reducible repeat (first | refine zE ?_ _ | refine zF ?_ | refine zD ?_ _)); refine blk_far ?_ NB123_125.out _; (with_reducible repeat (first | refine zE ?_ _ | refine zF ?_ | refine zD ?_ _)); refine blk_far ?_ NB123_125.out _; (with_reducible repeat (first | refine zE ?_ _ | refine zF ?_ | refine zD ?_ _)); refine blk_far ?_ NB123_125.out _; (with_reducible repeat (first | refine zE ?_ _ | refine zF ?_ | refine zD ?_ _)); refine blk_far ?_ NB123_125.out _; (with_reducible repeat (first | refine zE ?_ _ | refine zF ?_ | refine zD ?_ _)); refine blk_far ?_ NB123_125.out _; (with_reducible repeat (first | refine zE ?_ _ | refine zF ?_ | refine zD ?_ _)); refine blk_far ?_ NB123_125.out _; (with_reducible repeat (first | refine zE ?_ _ | refine zF ?_ | refine zD ?_ _)); exact BK123.out⟩, ⟨by (with_reducible repeat (first | refine zE ?_ _ | refine zF ?_ | refine zD ?_ _)); refine blk_far ?_ NB124_125.out _; (with_reducible repeat (first | refine zE ?_ _ | refine zF ?_ | refine zD ?_ _)); refine blk_far ?_ NB124_125.out _; (with_reducible repeat (first | refine zE ?_ _ | refine zF ?_ | refine zD ?_ _)); refine blk_far ?_ NB124_125.out _; (with_reducible repeat (first | refine zE ?_ _ | refine zF ?_ | refine zD ?_ _)); refine blk_far ?_ NB124_125.out _; (with_reducible repeat (first | refine zE ?_ _ | refine zF ?_ | refine zD ?_ _)); refine blk_far ?_ NB124_125.out _; (with_reducible repeat (first | refine zE ?_ _ | refine zF ?_ | refine zD ?_ _)); refine blk_far ?_ NB124_125.out _; (with_reducible repeat (first | refine zE ?_ _ | refine zF ?_ | refine zD ?_ _)); refine blk_far ?_ NB124_125.out _; (with_reducible repeat (first | refine zE ?_ _ | refine zF ?_ | refine zD ?_ _)); refine blk_far ?_ NB124_125.out _; (with_reducible repeat (first | refine zE ?_ _ | refine zF ?_ | refine zD ?_ _)); exact BK124.out⟩, ⟨by (with_reducible repeat (first | refine zE ?_ _ | refine zF ?_ | refine zD ?_ _)); refine blk_put (cs := #[.int .i64 a1_0, .int .i64 (wrap64 (a0_1 + a1_1)), .int .i64 (wrap64 (a0_2 + a1_2)), .int .i64 a0_3, .int .i64 a0_4, .int .i64 a0_5, .int .i64 a1_6, .int .i64 0]) ?_ 7 _ rfl; (with_reducible repeat (first | refine zE ?_ _ | refine zF ?_ | refine zD ?_ _)); refine blk_put (cs := #[.int .i64 a1_0, .int .i64 (wrap64 (a0_1 + a1_1)), .int .i64 (wrap64 (a0_2 + a1_2)), .int .i64 a0_3, .int .i64 a0_4, .int .i64 a0_5, .int .i64 0, .int .i64 0]) ?_ 6 _ rfl; (with_reducible repeat (first | refine zE ?_ _ | refine zF ?_ | refine zD ?_ _)); refine blk_put (cs := #[.int .i64 a1_0, .int .i64 (wrap64 (a0_1 + a1_1)), .int .i64 (wrap64 (a0_2 + a1_2)), .int .i64 a0_3, .int .i64 a0_4, .int .i64 0, .int .i64 0, .int .i64 0]) ?_ 5 _ rfl; (with_reducible repeat (first | refine zE ?_ _ | refine zF ?_ | refine zD ?_ _)); refine blk_put (cs := #[.int .i64 a1_0, .int .i64 (wrap64 (a0_1 + a1_1)), .int .i64 (wrap64 (a0_2 + a1_2)), .int .i64 a0_3, .int .i64 0, .int .i64 0, .int .i64 0, .int .i64 0]) ?_ 4 _ rfl; (with_reducible repeat (first | refine zE ?_ _ | refine zF ?_ | refine zD ?_ _)); refine blk_put (cs := #[.int .i64 a1_0, .int .i64 (wrap64 (a0_1 + a1_1)), .int .i64 (wrap64 (a0_2 + a1_2)), .int .i64 0, .int .i64 0, .int .i64 0, .int .i64 0, .int .i64 0]) ?_ 3 _ rfl; (with_reducible repeat (first | refine zE ?_ _ | refine zF ?_ | refine zD ?_ _)); refine blk_put (cs := #[.int .i64 a1_0, .int .i64 (wrap64 (a0_1 + a1_1)), .int .i64 0, .int .i64 0, .int .i64 0, .int .i64 0, .int .i64 0, .int .i64 0]) ?_ 2 _ rfl; (with_reducible repeat (first | refine zE ?_ _ | refine zF ?_ | refine zD ?_ _)); refine blk_put (cs := #[.int .i64 a1_0, .int .i64 0, .int .i64 0, .int .i64 0, .int .i64 0, .int .i64 0, .int .i64 0, .int .i64 0]) ?_ 1 _ rfl; (with_reducible repeat (first | refine zE ?_ _ | refine zF ?_ | refine zD ?_ _)); refine blk_put (cs := #[.int .i64 0, .int .i64 0, .int .i64 0, .int .i64 0, .int .i64 0, .int .i64 0, .int .i64 0, .int .i64 0]) ?_ 0 _ rfl; (with_reducible repeat (first | refine zE ?_ _ | refine zF ?_ | refine zD ?_ _)); exact BK125.out⟩, ⟨by repeat (first | (with_reducible first | exact HB.out | apply zA | apply zB | apply zC | refine below_set ?_ GE122.out | refine below_set ?_ GE123.out | refine below_set ?_ GE124.out | refine below_set ?_ GE125.out) | exact HB.out)⟩⟩
 case rest =>
  clear HC3
  try clear c1
  try clear c2
  try clear p2
  try clear p6
  try clear c7
  try clear c8
  try clear c10
  try clear c11
  try clear c13
  try clear c14
  try clear c15
  try clear c19
  try clear c19b0
  try clear c20
  try clear c21
  try clear c22
  try clear c24
  try clear c25
  try clear hcz11_0
  try clear hcz11_1
  try clear hcz11_2
  try clear hcz11_3
  try clear hcz11_4
  try clear hcz11_5
  try clear hcz11_6
  try clear hcz11_7
  try clear hcz16_0
  try clear hcz16_1
  try clear hcz16_2
  try clear hcz16_3
  try clear hcz16_4
  try clear hcz16_5
  try clear hcz16_6
  try clear hcz16_7
  try clear hcz17_0
  try clear hcz17_1
  try clear hcz17_2
  try clear hcz17_3
  try clear hcz17_4
  try clear hcz17_5
  try clear hcz17_6
  try clear hcz17_7
  try clear hcz18_0
  try clear hcz18_1
  try clear hcz18_2
  try clear hcz18_3
  try clear hcz18_4
  try clear hcz18_5
  try clear hcz18_6
  try clear hcz18_7
  try clear hcz23_0
  try clear hcz23_1
  try clear hcz23_2
  try clear hcz23_3
  try clear hcz23_4
  try clear hcz23_5
  try clear hcz23_6
  try clear hcz23_7
  try clear hcz26_0
  try clear hcz26_1
  try clear hcz26_2
  try clear hcz26_3
  try clear hcz26_4
  try clear hcz26_5
  try clear hcz26_6
  try clear hcz26_7
  try clear hcz9_0
  try clear hcz9_1
  try clear hcz9_2
  try clear hcz9_3
  try clear hcz9_4
  try clear hcz9_5
  try clear hcz9_6
  try clear hcz9_7
  try clear hfz11_0
  try clear hfz11_1
  try clear hfz11_2
  try clear hfz11_3
  try clear hfz11_4
  try clear hfz11_5
  try clear hfz11_6
  try clear hfz11_7
  try clear hfz16_0
  try clear hfz16_1
  try clear hfz16_2
  try clear hfz16_3
  try clear hfz16_4
  try clear hfz16_5
  try clear hfz16_6
  try clear hfz16_7
  try clear hfz17_0
  try clear hfz17_1
  try clear hfz17_2
  try clear hfz17_3
  try clear hfz17_4
  try clear hfz17_5
  try clear hfz17_6
  try clear hfz17_7
  try clear hfz18_0
  try clear hfz18_1
  try clear hfz18_2
  try clear hfz18_3
  try clear hfz18_4
  try clear hfz18_5
  try clear hfz18_6
  try clear hfz18_7
  try clear hfz23_0
  try clear hfz23_1
  try clear hfz23_2
  try clear hfz23_3
  try clear hfz23_4
  try clear hfz23_5
  try clear hfz23_6
  try clear hfz23_7
  try clear hfz26_0
  try clear hfz26_1
  try clear hfz26_2
  try clear hfz26_3
  try clear hfz26_4
  try clear hfz26_5
  try clear hfz26_6
  try clear hfz26_7
  try clear hfz9_0
  try clear hfz9_1
  try clear hfz9_2
  try clear hfz9_3
  try clear hfz9_4
  try clear hfz9_5
  try clear hfz9_6
  try clear hfz9_7
  obtain ⟨kq, x126003_2, HA, HJ2, BK122, BK123, BK124, BK125, HB⟩ := hcut
  cases kq with
  | zero => exact absurd HA.out (by simp [spec_MergeAgg.j0])
  | succ kj2 =>
   have H := HA.out
   clear HA
   simp only [spec_MergeAgg.j0] at H
   by_cases c27 : a1_4 > a0_4
   ·rw [if_pos c27] at H
    have c27b0 : decide (a0_4 < a1_4) = true := decide_eq_true c27
    clear c27
    replace H := Option.bind_eq_some_iff.mp H
    obtain ⟨t126, A280, H⟩ := H
    replace H : (some (a1_0, (wrap64 (a0_1 + a1_1)), (wrap64 (a0_2 + a1_2)), x126003_2, a1_4, a0_5, a1_6, wrap64 ((wrap64 (a0_7 + t126)) + a1_7))) = some (r1, r2, r3, r4, r5, r6, r7, r8) := H
    have A28 := Aside0.mk A280
    clear A280
    simp only [Option.some.injEq, Prod.mk.injEq] at H
    obtain ⟨rfl, rfl, rfl, rfl, rfl, rfl, rfl, rfl⟩ := H
    have hnb29 := NB123_122.out
    have hnc29 := NB122_123.out
    have hnb30 := NB123_124.out
    have hnc30 := NB124_123.out
    have hnb31 := NB123_125.out
    have hnc31 := NB125_123.out
    have hcz32_0 : wc.cell? ⟨gb123, 0, none⟩ = some (.int .i64 a1_0) := (zQ BK123.out 0).trans rfl
    have hcz32_1 : wc.cell? ⟨gb123, 1, none⟩ = some (.int .i64 a1_1) := (zQ BK123.out 1).trans rfl
    have hcz32_2 : wc.cell? ⟨gb123, 2, none⟩ = some (.int .i64 a1_2) := (zQ BK123.out 2).trans rfl
    have hcz32_3 : wc.cell? ⟨gb123, 3, none⟩ = some (.int .i64 a1_3) := (zQ BK123.out 3).trans rfl
    have hcz32_4 : wc.cell? ⟨gb123, 4, none⟩ = some (.int .i64 a1_4) := (zQ BK123.out 4).trans rfl
    have hcz32_5 : wc.cell? ⟨gb123, 5, none⟩ = some (.int .i64 a1_5) := (zQ BK123.out 5).trans rfl
    have hcz32_6 : wc.cell? ⟨gb123, 6, none⟩ = some (.int .i64 a1_6) := (zQ BK123.out 6).trans rfl
    have hcz32_7 : wc.cell? ⟨gb123, 7, none⟩ = some (.int .i64 a1_7) := (zQ BK123.out 7).trans rfl
    have hfz32_0 := blk_frozen BK123.out 0
    have hfz32_1 := blk_frozen BK123.out 1
    have hfz32_2 := blk_frozen BK123.out 2
    have hfz32_3 := blk_frozen BK123.out 3
    have hfz32_4 := blk_frozen BK123.out 4
    have hfz32_5 := blk_frozen BK123.out 5
    have hfz32_6 := blk_frozen BK123.out 6
    have hfz32_7 := blk_frozen BK123.out 7
    have hnb33 := NB122_124.out
    have hnc33 := NB124_122.out
    have hnb34 := NB122_125.out
    have hnc34 := NB125_122.out
    have hcz35_0 : wc.cell? ⟨gb122, 0, none⟩ = some (.int .i64 a0_0) := (zQ BK122.out 0).trans rfl
    have hcz35_1 : wc.cell? ⟨gb122, 1, none⟩ = some (.int .i64 a0_1) := (zQ BK122.out 1).trans rfl
    have hcz35_2 : wc.cell? ⟨gb122, 2, none⟩ = some (.int .i64 a0_2) := (zQ BK122.out 2).trans rfl
    have hcz35_3 : wc.cell? ⟨gb122, 3, none⟩ = some (.int .i64 a0_3) := (zQ BK122.out 3).trans rfl
    have hcz35_4 : wc.cell? ⟨gb122, 4, none⟩ = some (.int .i64 a0_4) := (zQ BK122.out 4).trans rfl
    have hcz35_5 : wc.cell? ⟨gb122, 5, none⟩ = some (.int .i64 a0_5) := (zQ BK122.out 5).trans rfl
    have hcz35_6 : wc.cell? ⟨gb122, 6, none⟩ = some (.int .i64 a0_6) := (zQ BK122.out 6).trans rfl
    have hcz35_7 : wc.cell? ⟨gb122, 7, none⟩ = some (.int .i64 a0_7) := (zQ BK122.out 7).trans rfl
    have hfz35_0 := blk_frozen BK122.out 0
    have hfz35_1 := blk_frozen BK122.out 1
    have hfz35_2 := blk_frozen BK122.out 2
    have hfz35_3 := blk_frozen BK122.out 3
    have hfz35_4 := blk_frozen BK122.out 4
    have hfz35_5 := blk_frozen BK122.out 5
    have hfz35_6 := blk_frozen BK122.out 6
    have hfz35_7 := blk_frozen BK122.out 7
    have hnb36 := NB125_124.out
    have hnc36 := NB124_125.out
    have hcz37_0 : wc.cell? ⟨gb125, 0, none⟩ = some (.int .i64 a1_0) := (zQ BK125.out 0).trans rfl
    have hcz37_1 : wc.cell? ⟨gb125, 1, none⟩ = some (.int .i64 (wrap64 (a0_1 + a1_1))) := (zQ BK125.out 1).trans rfl
    have hcz37_2 : wc.cell? ⟨gb125, 2, none⟩ = some (.int .i64 (wrap64 (a0_2 + a1_2))) := (zQ BK125.out 2).trans rfl
    have hcz37_3 : wc.cell? ⟨gb125, 3, none⟩ = some (.int .i64 x126003_2) := (zQ BK125.out 3).trans rfl
    have hcz37_4 : wc.cell? ⟨gb125, 4, none⟩ = some (.int .i64 a0_4) := (zQ BK125.out 4).trans rfl
    have hcz37_5 : wc.cell? ⟨gb125, 5, none⟩ = some (.int .i64 a0_5) := (zQ BK125.out 5).trans rfl
    have hcz37_6 : wc.cell? ⟨gb125, 6, none⟩ = some (.int .i64 a1_6) := (zQ BK125.out 6).trans rfl
    have hcz37_7 : wc.cell? ⟨gb125, 7, none⟩ = some (.int .i64 0) := (zQ BK125.out 7).trans rfl
    have hfz37_0 := blk_frozen BK125.out 0
    have hfz37_1 := blk_frozen BK125.out 1
    have hfz37_2 := blk_frozen BK125.out 2
    have hfz37_3 := blk_frozen BK125.out 3
    have hfz37_4 := blk_frozen BK125.out 4
    have hfz37_5 := blk_frozen BK125.out 5
    have hfz37_6 := blk_frozen BK125.out 6
    have hfz37_7 := blk_frozen BK125.out 7
    try go_wp2
    have n0_ : Aside0 ((wc.setCell ⟨gb125, 4, none⟩ (.int .i64 a1_4)).heap[gb122]? = some (.cells #[.int .i64 a0_0, .int .i64 a0_1, .int .i64 a0_2, .int .i64 a0_3, .int .i64 a0_4, .int .i64 a0_5, .int .i64 a0_6, .int .i64 a0_7] 24 (0, 0))) := ⟨by (with_reducible repeat (first | refine zE ?_ _ | refine zF ?_ | refine zD ?_ _)); refine blk_far ?_ NB122_125.out _; (with_reducible repeat (first | refine zE ?_ _ | refine zF ?_ | refine zD ?_ _)); exact BK122.out⟩
    have n1_ : Aside0 ((wc.setCell ⟨gb125, 4, none⟩ (.int .i64 a1_4)).heap[gb123]? = some (.cells #[.int .i64 a1_0, .int .i64 a1_1, .int .i64 a1_2, .int .i64 a1_3, .int .i64 a1_4, .int .i64 a1_5, .int .i64 a1_6, .int .i64 a1_7] 24 (0, 0))) := ⟨by (with_reducible repeat (first | refine zE ?_ _ | refine zF ?_ | refine zD ?_ _)); refine blk_far ?_ NB123_125.out _; (with_reducible repeat (first | refine zE ?_ _ | refine zF ?_ | refine zD ?_ _)); exact BK123.out⟩
    have n2_ : Aside0 ((wc.setCell ⟨gb125, 4, none⟩ (.int .i64 a1_4)).heap[gb124]? = some (.cells #[.int .i64 0, .int .i64 0, .int .i64 0, .int .i64 0, .int .i64 0, .int .i64 0, .int .i64 0, .int .i64 0] 24 (0, 0))) := ⟨by (with_reducible repeat (first | refine zE ?_ _ | refine zF ?_ | refine zD ?_ _)); refine blk_far ?_ NB124_125.out _; (with_reducible repeat (first | refine zE ?_ _ | refine zF ?_ | refine zD ?_ _)); exact BK124.out⟩
    have n3_ : Aside0 ((wc.setCell ⟨gb125, 4, none⟩ (.int .i64 a1_4)).heap[gb125]? = some (.cells #[.int .i64 a1_0, .int .i64 (wrap64 (a0_1 + a1_1)), .int .i64 (wrap64 (a0_2 + a1_2)), .int .i64 x126003_2, .int .i64 a1_4, .int .i64 a0_5, .int .i64 a1_6, .int .i64 0] 24 (0, 0))) := ⟨by (with_reducible repeat (first | refine zE ?_ _ | refine zF ?_ | refine zD ?_ _)); refine blk_put (cs := #[.int .i64 a1_0, .int .i64 (wrap64 (a0_1 + a1_1)), .int .i64 (wrap64 (a0_2 + a1_2)), .int .i64 x126003_2, .int .i64 a0_4, .int .i64 a0_5, .int .i64 a1_6, .int .i64 0]) ?_ 4 _ rfl; (with_reducible repeat (first | refine zE ?_ _ | refine zF ?_ | refine zD ?_ _)); exact BK125.out⟩
    have n4_ : Aside0 (Below w.heap.size w (wc.setCell ⟨gb125, 4, none⟩ (.int .i64 a1_4))) := ⟨by repeat (first | (with_reducible first | exact HB.out | apply zA | apply zB | apply zC | refine below_set ?_ GE122.out | refine below_set ?_ GE123.out | refine below_set ?_ GE124.out | refine below_set ?_ GE125.out) | exact HB.out)⟩
    (try clear BK122)
    (try clear BK123)
    (try clear BK124)
    (try clear BK125)
    (try clear HB)
    generalize (wc.setCell ⟨gb125, 4, none⟩ (.int .i64 a1_4)) = w38 at n0_ n1_ n2_ n3_ n4_ ⊢
    have BK122 := n0_
    have BK123 := n1_
    have BK124 := n2_
    have BK125 := n3_
    have HB := n4_
    clear n0_ n1_ n2_ n3_ n4_
    have n0_ := Aside0.mk (zF BK122.out)
    have n1_ := Aside0.mk (zF BK123.out)
    have n2_ := Aside0.mk (zF BK124.out)
    have n3_ := Aside0.mk (zF BK125.out)
    have n4_ := Aside0.mk (zC HB.out)
    clear BK122
    clear BK123
    clear BK124
    clear BK125
    clear HB
    have BK122 := n0_
    have BK123 := n1_
    have BK124 := n2_
    have BK125 := n3_
    have HB := n4_
    clear n0_ n1_ n2_ n3_ n4_
    refine start_ (n := 13) (S := fun w' => w'.cell? ⟨gb122, 0, none⟩ = some (.int .i64 a0_0) ∧ w'.cell? ⟨gb122, 1, none⟩ = some (.int .i64 a0_1) ∧ w'.cell? ⟨gb122, 2, none⟩ = some (.int .i64 a0_2) ∧ w'.cell? ⟨gb122, 3, none⟩ = some (.int .i64 a0_3) ∧ w'.cell? ⟨gb122, 4, none⟩ = some (.int .i64 a0_4) ∧ w'.cell? ⟨gb122, 5, none⟩ = some (.int .i64 a0_5) ∧ w'.cell? ⟨gb122, 6, none⟩ = some (.int .i64 a0_6) ∧ w'.cell? ⟨gb122, 7, none⟩ = some (.int .i64 a0_7) ∧ w'.cell? ⟨gb123, 0, none⟩ = some (.int .i64 a1_0) ∧ w'.cell? ⟨gb123, 1, none⟩ = some (.int .i64 a1_1) ∧ w'.cell? ⟨gb123, 2, none⟩ = some (.int .i64 a1_2) ∧ w'.cell? ⟨gb123, 3, none⟩ = some (.int .i64 a1_3) ∧ w'.cell? ⟨gb123, 4, none⟩ = some (.int .i64 a1_4) ∧ w'.cell? ⟨gb123, 5, none⟩ = some (.int .i64 a1_5) ∧ w'.cell? ⟨gb123, 6, none⟩ = some (.int .i64 a1_6) ∧ w'.cell? ⟨gb123, 7, none⟩ = some (.int .i64 a1_7)) (ds := []) #[false, false, false, false, false, false, false, false, false, false, false, false, false] (by kernel_rfl) rfl rfl ⟨(zQ BK122.out 0).trans rfl, (zQ BK122.out 1).trans rfl, (zQ BK122.out 2).trans rfl, (zQ BK122.out 3).trans rfl, (zQ BK122.out 4).trans rfl, (zQ BK122.out 5).trans rfl, (zQ BK122.out 6).trans rfl, (zQ BK122.out 7).trans rfl, (zQ BK123.out 0).trans rfl, (zQ BK123.out 1).trans rfl, (zQ BK123.out 2).trans rfl, (zQ BK123.out 3).trans rfl, (zQ BK123.out 4).trans rfl, (zQ BK123.out 5).trans rfl, (zQ BK123.out 6).trans rfl, (zQ BK123.out 7).trans rfl⟩ (fun hHeld => ?_); refine with_tabW spec_MergeAgg.tab6 spec_MergeAgg.bits6 (fun HT_ HW_ => ?_)
    generalize w38.drew = w39 at BK122 BK123 BK124 BK125 HB hHeld ⊢
    refine pure_ (i := 0) (N := some 43) (v := ?_) (a' := ?_) #[true, false, false, false, false, false, false, false, false, false, false, false, false] rfl rfl (any_of HT_.out (by kernel_rfl)) (fun _ _ _ h => h) (Or.inl ⟨by rfl, ?_⟩) ?_ ?_
    rotate_left
    ·intro w'
     go_simp
     with_reducible rfl
    rotate_left
    ·simp only [Act.put, zT, zU, zV, i64_w, i32_w]
     rfl
    refine pure_ (i := 2) (N := some 45) (v := ?_) (a' := ?_) #[true, false, true, false, false, false, false, false, false, false, false, false, false] rfl rfl (any_of HT_.out (by kernel_rfl)) (fun _ _ _ h => h) (Or.inl ⟨by rfl, ?_⟩) ?_ ?_
    rotate_left
    ·intro w'
     go_simp
     with_reducible rfl
    rotate_left
    ·simp only [Act.put, zT, zU, zV, i64_w, i32_w]
     rfl
    refine pure_ (i := 4) (N := some 47) (v := ?_) (a' := ?_) #[true, false, true, false, true, false, false, false, false, false, false, false, false] rfl rfl (any_of HT_.out (by kernel_rfl)) (fun _ _ _ h => h) (Or.inl ⟨by rfl, ?_⟩) ?_ ?_
    rotate_left
    ·intro w'
     go_simp
     with_reducible rfl
    rotate_left
    ·simp only [Act.put, zT, zU, zV, i64_w, i32_w]
     rfl
    refine pure_ (i := 8) (N := some 51) (v := ?_) (a' := ?_) #[true, false, true, false, true, false, false, false, true, false, false, false, false] rfl rfl (any_of HT_.out (by kernel_rfl)) (fun _ _ _ h => h) (Or.inl ⟨by rfl, ?_⟩) ?_ ?_
    rotate_left
    ·intro w'
     go_simp
     with_reducible rfl
    rotate_left
    ·simp only [Act.put, zT, zU, zV, i64_w, i32_w]
     rfl
    refine take_ (i := 1) (N := some 44) (v := ?_) (a' := ?_) #[true, true, true, false, true, false, false, false, true, false, false, false, false] rfl rfl (take_ofW HT_.out HW_.out (by kernel_rfl)) (fun _ _ _ h => h) (Or.inl ⟨by rfl, ?_⟩) hHeld ?_ ?_
    rotate_left
    ·rintro w' ⟨s0, s1, s2, s3, s4, s5, s6, s7, s8, s9, s10, s11, s12, s13, s14, s15⟩
     go_simp
     with_reducible rfl
    rotate_left
    ·simp only [Act.put, zT, zU, zV, i64_w, i32_w]
     rfl
    refine take_ (i := 3) (N := some 46) (v := ?_) (a' := ?_) #[true, true, true, true, true, false, false, false, true, false, false, false, false] rfl rfl (take_ofW HT_.out HW_.out (by kernel_rfl)) (fun _ _ _ h => h) (Or.inl ⟨by rfl, ?_⟩) hHeld ?_ ?_
    rotate_left
    ·rintro w' ⟨s0, s1, s2, s3, s4, s5, s6, s7, s8, s9, s10, s11, s12, s13, s14, s15⟩
     go_simp
     with_reducible rfl
    rotate_left
    ·simp only [Act.put, zT, zU, zV, i64_w, i32_w]
     rfl
    refine take_ (i := 5) (N := some 48) (v := ?_) (a' := ?_) #[true, true, true, true, true, true, false, false, true, false, false, false, false] rfl rfl (take_ofW HT_.out HW_.out (by kernel_rfl)) (fun _ _ _ h => h) (Or.inl ⟨by rfl, ?_⟩) hHeld ?_ ?_
    rotate_left
    ·rintro w' ⟨s0, s1, s2, s3, s4, s5, s6, s7, s8, s9, s10, s11, s12, s13, s14, s15⟩
     go_simp
     with_reducible rfl
    rotate_left
    ·simp only [Act.put, zT, zU, zV, i64_w, i32_w]
     rfl
    refine take_ (i := 9) (N := some 52) (v := ?_) (a' := ?_) #[true, true, true, true, true, true, false, false, true, true, false, false, false] rfl rfl (take_ofW HT_.out HW_.out (by kernel_rfl)) (fun _ _ _ h => h) (Or.inl ⟨by rfl, ?_⟩) hHeld ?_ ?_
    rotate_left
    ·rintro w' ⟨s0, s1, s2, s3, s4, s5, s6, s7, s8, s9, s10, s11, s12, s13, s14, s15⟩
     go_simp
     with_reducible rfl
    rotate_left
    ·simp only [Act.put, zT, zU, zV, i64_w, i32_w]
     rfl
    refine one_ (i := 6) (N := some 49) #[true, true, true, true, true, true, true, false, true, true, false, false, false] rfl rfl (one_of HT_.out (by kernel_rfl)) (by decide) (fun K hK => ?_)
    refine goes_ Try.func40 (by kernel_rfl) rfl #[.int .i64 a0_6, .int .i64 a1_5] (by rfl) rfl rfl (by (try simp only [List.map_toArray, List.map_cons, List.map_nil]); first | done | rfl | (simp only [List.length_drop, List.length_take]; rfl)) ?_
    with_reducible refine (spec_l11Rise.calls a0_6 a1_5 t126 _ A28.out).mono ?_
    rintro e w' ⟨rfl, ⟨nd, rfl⟩⟩
    refine ⟨_, rfl, ?_⟩
    refine hK.out _ _ ⟨(zQ BK122.out 0).trans rfl, (zQ BK122.out 1).trans rfl, (zQ BK122.out 2).trans rfl, (zQ BK122.out 3).trans rfl, (zQ BK122.out 4).trans rfl, (zQ BK122.out 5).trans rfl, (zQ BK122.out 6).trans rfl, (zQ BK122.out 7).trans rfl, (zQ BK123.out 0).trans rfl, (zQ BK123.out 1).trans rfl, (zQ BK123.out 2).trans rfl, (zQ BK123.out 3).trans rfl, (zQ BK123.out 4).trans rfl, (zQ BK123.out 5).trans rfl, (zQ BK123.out 6).trans rfl, (zQ BK123.out 7).trans rfl⟩ (fun hHeld => ?_)
    clear hK K
    refine norm_ (a' := ?_) ?_ ?_
    rotate_left
    ·show Act.put _ (some 49) _ = _
     simp only [Act.put, zT, zU, zV, i64_w, i32_w]
     rfl
    refine pure_ (i := 7) (N := some 50) (v := ?_) (a' := ?_) #[true, true, true, true, true, true, true, true, true, true, false, false, false] rfl rfl (any_of HT_.out (by kernel_rfl)) (fun _ _ _ h => h) (Or.inl ⟨by rfl, ?_⟩) ?_ ?_
    rotate_left
    ·intro w'
     go_simp
     with_reducible rfl
    rotate_left
    ·simp only [Act.put, zT, zU, zV, i64_w, i32_w]
     rfl
    refine pure_ (i := 10) (N := some 53) (v := ?_) (a' := ?_) #[true, true, true, true, true, true, true, true, true, true, true, false, false] rfl rfl (any_of HT_.out (by kernel_rfl)) (fun _ _ _ h => h) (Or.inl ⟨by rfl, ?_⟩) ?_ ?_
    rotate_left
    ·intro w'
     go_simp
     with_reducible rfl
    rotate_left
    ·simp only [Act.put, zT, zU, zV, i64_w, i32_w]
     rfl
    refine pure_ (i := 11) (N := some 54) (v := ?_) (a' := ?_) #[true, true, true, true, true, true, true, true, true, true, true, true, false] rfl rfl (any_of HT_.out (by kernel_rfl)) (fun _ _ _ h => h) (Or.inl ⟨by rfl, ?_⟩) ?_ ?_
    rotate_left
    ·intro w'
     go_simp
     with_reducible rfl
    rotate_left
    ·simp only [Act.put, zT, zU, zV, i64_w, i32_w]
     rfl
    refine one_ (i := 12) (N := none) #[true, true, true, true, true, true, true, true, true, true, true, true, true] rfl rfl (one_of HT_.out (by kernel_rfl)) (by decide) (fun K hK => ?_)
    have hs40 : w39.cell? ⟨gb125, 7, none⟩ = some (.int .i64 0) := (zQ BK125.out 7).trans rfl
    have hfs40 := blk_frozen BK125.out 7
    have hns40_0 := NB122_125.out
    have hns40_1 := NB123_125.out
    have hns40_2 := NB124_125.out
    have hms40_0 := NB125_122.out
    have hms40_1 := NB125_123.out
    have hms40_2 := NB125_124.out
    refine skip_ (w1 := ?_) (by rfl) rfl ?_ ?_
    rotate_left
    ·go_simp
     rfl
    refine hK.out _ _ ⟨((zP (p := ⟨gb125, _, none⟩) NB122_125.out _).trans (hHeld.1)), ((zP (p := ⟨gb125, _, none⟩) NB122_125.out _).trans (hHeld.2.1)), ((zP (p := ⟨gb125, _, none⟩) NB122_125.out _).trans (hHeld.2.2.1)), ((zP (p := ⟨gb125, _, none⟩) NB122_125.out _).trans (hHeld.2.2.2.1)), ((zP (p := ⟨gb125, _, none⟩) NB122_125.out _).trans (hHeld.2.2.2.2.1)), ((zP (p := ⟨gb125, _, none⟩) NB122_125.out _).trans (hHeld.2.2.2.2.2.1)), ((zP (p := ⟨gb125, _, none⟩) NB122_125.out _).trans (hHeld.2.2.2.2.2.2.1)), ((zP (p := ⟨gb125, _, none⟩) NB122_125.out _).trans (hHeld.2.2.2.2.2.2.2.1)), ((zP (p := ⟨gb125, _, none⟩) NB123_125.out _).trans (hHeld.2.2.2.2.2.2.2.2.1)), ((zP (p := ⟨gb125, _, none⟩) NB123_125.out _).trans (hHeld.2.2.2.2.2.2.2.2.2.1)), ((zP (p := ⟨gb125, _, none⟩) NB123_125.out _).trans (hHeld.2.2.2.2.2.2.2.2.2.2.1)), ((zP (p := ⟨gb125, _, none⟩) NB123_125.out _).trans (hHeld.2.2.2.2.2.2.2.2.2.2.2.1)), ((zP (p := ⟨gb125, _, none⟩) NB123_125.out _).trans (hHeld.2.2.2.2.2.2.2.2.2.2.2.2.1)), ((zP (p := ⟨gb125, _, none⟩) NB123_125.out _).trans (hHeld.2.2.2.2.2.2.2.2.2.2.2.2.2.1)), ((zP (p := ⟨gb125, _, none⟩) NB123_125.out _).trans (hHeld.2.2.2.2.2.2.2.2.2.2.2.2.2.2.1)), ((zP (p := ⟨gb125, _, none⟩) NB123_125.out _).trans (hHeld.2.2.2.2.2.2.2.2.2.2.2.2.2.2.2))⟩ (fun hHeld => ?_)
    clear hK K
    refine done_ (done_of HT_.out (by kernel_rfl)) ?_
    have hcz41_0 : w39.cell? ⟨gb125, 0, none⟩ = some (.int .i64 a1_0) := (zQ BK125.out 0).trans rfl
    have hcz41_1 : w39.cell? ⟨gb125, 1, none⟩ = some (.int .i64 (wrap64 (a0_1 + a1_1))) := (zQ BK125.out 1).trans rfl
    have hcz41_2 : w39.cell? ⟨gb125, 2, none⟩ = some (.int .i64 (wrap64 (a0_2 + a1_2))) := (zQ BK125.out 2).trans rfl
    have hcz41_3 : w39.cell? ⟨gb125, 3, none⟩ = some (.int .i64 x126003_2) := (zQ BK125.out 3).trans rfl
    have hcz41_4 : w39.cell? ⟨gb125, 4, none⟩ = some (.int .i64 a1_4) := (zQ BK125.out 4).trans rfl
    have hcz41_5 : w39.cell? ⟨gb125, 5, none⟩ = some (.int .i64 a0_5) := (zQ BK125.out 5).trans rfl
    have hcz41_6 : w39.cell? ⟨gb125, 6, none⟩ = some (.int .i64 a1_6) := (zQ BK125.out 6).trans rfl
    have hcz41_7 : w39.cell? ⟨gb125, 7, none⟩ = some (.int .i64 0) := (zQ BK125.out 7).trans rfl
    have hfz41_0 := blk_frozen BK125.out 0
    have hfz41_1 := blk_frozen BK125.out 1
    have hfz41_2 := blk_frozen BK125.out 2
    have hfz41_3 := blk_frozen BK125.out 3
    have hfz41_4 := blk_frozen BK125.out 4
    have hfz41_5 := blk_frozen BK125.out 5
    have hfz41_6 := blk_frozen BK125.out 6
    have hfz41_7 := blk_frozen BK125.out 7
    have hcz42_0 : w39.cell? ⟨gb124, 0, none⟩ = some (.int .i64 0) := (zQ BK124.out 0).trans rfl
    have hcz42_1 : w39.cell? ⟨gb124, 1, none⟩ = some (.int .i64 0) := (zQ BK124.out 1).trans rfl
    have hcz42_2 : w39.cell? ⟨gb124, 2, none⟩ = some (.int .i64 0) := (zQ BK124.out 2).trans rfl
    have hcz42_3 : w39.cell? ⟨gb124, 3, none⟩ = some (.int .i64 0) := (zQ BK124.out 3).trans rfl
    have hcz42_4 : w39.cell? ⟨gb124, 4, none⟩ = some (.int .i64 0) := (zQ BK124.out 4).trans rfl
    have hcz42_5 : w39.cell? ⟨gb124, 5, none⟩ = some (.int .i64 0) := (zQ BK124.out 5).trans rfl
    have hcz42_6 : w39.cell? ⟨gb124, 6, none⟩ = some (.int .i64 0) := (zQ BK124.out 6).trans rfl
    have hcz42_7 : w39.cell? ⟨gb124, 7, none⟩ = some (.int .i64 0) := (zQ BK124.out 7).trans rfl
    have hfz42_0 := blk_frozen BK124.out 0
    have hfz42_1 := blk_frozen BK124.out 1
    have hfz42_2 := blk_frozen BK124.out 2
    have hfz42_3 := blk_frozen BK124.out 3
    have hfz42_4 := blk_frozen BK124.out 4
    have hfz42_5 := blk_frozen BK124.out 5
    have hfz42_6 := blk_frozen BK124.out 6
    have hfz42_7 := blk_frozen BK124.out 7
    try go_wp2
    refine bodyPost_ret (results_cell_row rfl _ _ gb124 24 #[.int .i64 a1_0, .int .i64 (wrap64 (a0_1 + a1_1)), .int .i64 (wrap64 (a0_2 + a1_2)), .int .i64 x126003_2, .int .i64 a1_4, .int .i64 a0_5, .int .i64 a1_6, .int .i64 (wrap64 ((wrap64 (a0_7 + t126)) + a1_7))] (0, 0) _ rfl (by (with_reducible repeat (first | refine zE ?_ _ | refine zF ?_ | refine zD ?_ _)); refine blk_put (cs := #[.int .i64 a1_0, .int .i64 (wrap64 (a0_1 + a1_1)), .int .i64 (wrap64 (a0_2 + a1_2)), .int .i64 x126003_2, .int .i64 a1_4, .int .i64 a0_5, .int .i64 a1_6, .int .i64 0]) ?_ 7 _ rfl; (with_reducible repeat (first | refine zE ?_ _ | refine zF ?_ | refine zD ?_ _)); refine blk_put (cs := #[.int .i64 a1_0, .int .i64 (wrap64 (a0_1 + a1_1)), .int .i64 (wrap64 (a0_2 + a1_2)), .int .i64 x126003_2, .int .i64 a1_4, .int .i64 a0_5, .int .i64 0, .int .i64 0]) ?_ 6 _ rfl; (with_reducible repeat (first | refine zE ?_ _ | refine zF ?_ | refine zD ?_ _)); refine blk_put (cs := #[.int .i64 a1_0, .int .i64 (wrap64 (a0_1 + a1_1)), .int .i64 (wrap64 (a0_2 + a1_2)), .int .i64 x126003_2, .int .i64 a1_4, .int .i64 0, .int .i64 0, .int .i64 0]) ?_ 5 _ rfl; (with_reducible repeat (first | refine zE ?_ _ | refine zF ?_ | refine zD ?_ _)); refine blk_put (cs := #[.int .i64 a1_0, .int .i64 (wrap64 (a0_1 + a1_1)), .int .i64 (wrap64 (a0_2 + a1_2)), .int .i64 x126003_2, .int .i64 0, .int .i64 0, .int .i64 0, .int .i64 0]) ?_ 4 _ rfl; (with_reducible repeat (first | refine zE ?_ _ | refine zF ?_ | refine zD ?_ _)); refine blk_put (cs := #[.int .i64 a1_0, .int .i64 (wrap64 (a0_1 + a1_1)), .int .i64 (wrap64 (a0_2 + a1_2)), .int .i64 0, .int .i64 0, .int .i64 0, .int .i64 0, .int .i64 0]) ?_ 3 _ rfl; (with_reducible repeat (first | refine zE ?_ _ | refine zF ?_ | refine zD ?_ _)); refine blk_put (cs := #[.int .i64 a1_0, .int .i64 (wrap64 (a0_1 + a1_1)), .int .i64 0, .int .i64 0, .int .i64 0, .int .i64 0, .int .i64 0, .int .i64 0]) ?_ 2 _ rfl; (with_reducible repeat (first | refine zE ?_ _ | refine zF ?_ | refine zD ?_ _)); refine blk_put (cs := #[.int .i64 a1_0, .int .i64 0, .int .i64 0, .int .i64 0, .int .i64 0, .int .i64 0, .int .i64 0, .int .i64 0]) ?_ 1 _ rfl; (with_reducible repeat (first | refine zE ?_ _ | refine zF ?_ | refine zD ?_ _)); refine blk_put (cs := #[.int .i64 0, .int .i64 0, .int .i64 0, .int .i64 0, .int .i64 0, .int .i64 0, .int .i64 0, .int .i64 0]) ?_ 0 _ rfl; (with_reducible repeat (first | refine zE ?_ _ | refine zF ?_ | refine zD ?_ _)); refine blk_far ?_ NB124_125.out _; (with_reducible repeat (first | refine zE ?_ _ | refine zF ?_ | refine zD ?_ _)); exact BK124.out) Try.underlying24 rfl (by kernel_rfl)) rfl ?_
    exact ⟨by first | rfl | (simp [errW_none, errW_some] <;> rfl) | (simp [*, errW_none, errW_some] <;> rfl), by repeat (first | (with_reducible first | exact HB.out | apply zA | apply zB | apply zC | refine below_set ?_ GE122.out | refine below_set ?_ GE123.out | refine below_set ?_ GE124.out | refine below_set ?_ GE125.out) | exact HB.out)⟩
   ·rw [if_neg c27] at H
    have c27b0 : decide (a0_4 < a1_4) = false := decide_eq_false c27
    clear c27
    replace H := Option.bind_eq_some_iff.mp H
    obtain ⟨t127, A430, H⟩ := H
    replace H : (some (a1_0, (wrap64 (a0_1 + a1_1)), (wrap64 (a0_2 + a1_2)), x126003_2, a0_4, a0_5, a1_6, wrap64 ((wrap64 (a0_7 + t127)) + a1_7))) = some (r1, r2, r3, r4, r5, r6, r7, r8) := H
    have A43 := Aside0.mk A430
    clear A430
    simp only [Option.some.injEq, Prod.mk.injEq] at H
    obtain ⟨rfl, rfl, rfl, rfl, rfl, rfl, rfl, rfl⟩ := H
    have hnb44 := NB123_122.out
    have hnc44 := NB122_123.out
    have hnb45 := NB123_124.out
    have hnc45 := NB124_123.out
    have hnb46 := NB123_125.out
    have hnc46 := NB125_123.out
    have hcz47_0 : wc.cell? ⟨gb123, 0, none⟩ = some (.int .i64 a1_0) := (zQ BK123.out 0).trans rfl
    have hcz47_1 : wc.cell? ⟨gb123, 1, none⟩ = some (.int .i64 a1_1) := (zQ BK123.out 1).trans rfl
    have hcz47_2 : wc.cell? ⟨gb123, 2, none⟩ = some (.int .i64 a1_2) := (zQ BK123.out 2).trans rfl
    have hcz47_3 : wc.cell? ⟨gb123, 3, none⟩ = some (.int .i64 a1_3) := (zQ BK123.out 3).trans rfl
    have hcz47_4 : wc.cell? ⟨gb123, 4, none⟩ = some (.int .i64 a1_4) := (zQ BK123.out 4).trans rfl
    have hcz47_5 : wc.cell? ⟨gb123, 5, none⟩ = some (.int .i64 a1_5) := (zQ BK123.out 5).trans rfl
    have hcz47_6 : wc.cell? ⟨gb123, 6, none⟩ = some (.int .i64 a1_6) := (zQ BK123.out 6).trans rfl
    have hcz47_7 : wc.cell? ⟨gb123, 7, none⟩ = some (.int .i64 a1_7) := (zQ BK123.out 7).trans rfl
    have hfz47_0 := blk_frozen BK123.out 0
    have hfz47_1 := blk_frozen BK123.out 1
    have hfz47_2 := blk_frozen BK123.out 2
    have hfz47_3 := blk_frozen BK123.out 3
    have hfz47_4 := blk_frozen BK123.out 4
    have hfz47_5 := blk_frozen BK123.out 5
    have hfz47_6 := blk_frozen BK123.out 6
    have hfz47_7 := blk_frozen BK123.out 7
    have hnb48 := NB122_124.out
    have hnc48 := NB124_122.out
    have hnb49 := NB122_125.out
    have hnc49 := NB125_122.out
    have hcz50_0 : wc.cell? ⟨gb122, 0, none⟩ = some (.int .i64 a0_0) := (zQ BK122.out 0).trans rfl
    have hcz50_1 : wc.cell? ⟨gb122, 1, none⟩ = some (.int .i64 a0_1) := (zQ BK122.out 1).trans rfl
    have hcz50_2 : wc.cell? ⟨gb122, 2, none⟩ = some (.int .i64 a0_2) := (zQ BK122.out 2).trans rfl
    have hcz50_3 : wc.cell? ⟨gb122, 3, none⟩ = some (.int .i64 a0_3) := (zQ BK122.out 3).trans rfl
    have hcz50_4 : wc.cell? ⟨gb122, 4, none⟩ = some (.int .i64 a0_4) := (zQ BK122.out 4).trans rfl
    have hcz50_5 : wc.cell? ⟨gb122, 5, none⟩ = some (.int .i64 a0_5) := (zQ BK122.out 5).trans rfl
    have hcz50_6 : wc.cell? ⟨gb122, 6, none⟩ = some (.int .i64 a0_6) := (zQ BK122.out 6).trans rfl
    have hcz50_7 : wc.cell? ⟨gb122, 7, none⟩ = some (.int .i64 a0_7) := (zQ BK122.out 7).trans rfl
    have hfz50_0 := blk_frozen BK122.out 0
    have hfz50_1 := blk_frozen BK122.out 1
    have hfz50_2 := blk_frozen BK122.out 2
    have hfz50_3 := blk_frozen BK122.out 3
    have hfz50_4 := blk_frozen BK122.out 4
    have hfz50_5 := blk_frozen BK122.out 5
    have hfz50_6 := blk_frozen BK122.out 6
    have hfz50_7 := blk_frozen BK122.out 7
    try go_wp2
    have n0_ := Aside0.mk (zF BK122.out)
    have n1_ := Aside0.mk (zF BK123.out)
    have n2_ := Aside0.mk (zF BK124.out)
    have n3_ := Aside0.mk (zF BK125.out)
    have n4_ := Aside0.mk (zC HB.out)
    clear BK122
    clear BK123
    clear BK124
    clear BK125
    clear HB
    have BK122 := n0_
    have BK123 := n1_
    have BK124 := n2_
    have BK125 := n3_
    have HB := n4_
    clear n0_ n1_ n2_ n3_ n4_
    refine start_ (n := 13) (S := fun w' => w'.cell? ⟨gb122, 0, none⟩ = some (.int .i64 a0_0) ∧ w'.cell? ⟨gb122, 1, none⟩ = some (.int .i64 a0_1) ∧ w'.cell? ⟨gb122, 2, none⟩ = some (.int .i64 a0_2) ∧ w'.cell? ⟨gb122, 3, none⟩ = some (.int .i64 a0_3) ∧ w'.cell? ⟨gb122, 4, none⟩ = some (.int .i64 a0_4) ∧ w'.cell? ⟨gb122, 5, none⟩ = some (.int .i64 a0_5) ∧ w'.cell? ⟨gb122, 6, none⟩ = some (.int .i64 a0_6) ∧ w'.cell? ⟨gb122, 7, none⟩ = some (.int .i64 a0_7) ∧ w'.cell? ⟨gb123, 0, none⟩ = some (.int .i64 a1_0) ∧ w'.cell? ⟨gb123, 1, none⟩ = some (.int .i64 a1_1) ∧ w'.cell? ⟨gb123, 2, none⟩ = some (.int .i64 a1_2) ∧ w'.cell? ⟨gb123, 3, none⟩ = some (.int .i64 a1_3) ∧ w'.cell? ⟨gb123, 4, none⟩ = some (.int .i64 a1_4) ∧ w'.cell? ⟨gb123, 5, none⟩ = some (.int .i64 a1_5) ∧ w'.cell? ⟨gb123, 6, none⟩ = some (.int .i64 a1_6) ∧ w'.cell? ⟨gb123, 7, none⟩ = some (.int .i64 a1_7)) (ds := []) #[false, false, false, false, false, false, false, false, false, false, false, false, false] (by kernel_rfl) rfl rfl ⟨(zQ BK122.out 0).trans rfl, (zQ BK122.out 1).trans rfl, (zQ BK122.out 2).trans rfl, (zQ BK122.out 3).trans rfl, (zQ BK122.out 4).trans rfl, (zQ BK122.out 5).trans rfl, (zQ BK122.out 6).trans rfl, (zQ BK122.out 7).trans rfl, (zQ BK123.out 0).trans rfl, (zQ BK123.out 1).trans rfl, (zQ BK123.out 2).trans rfl, (zQ BK123.out 3).trans rfl, (zQ BK123.out 4).trans rfl, (zQ BK123.out 5).trans rfl, (zQ BK123.out 6).trans rfl, (zQ BK123.out 7).trans rfl⟩ (fun hHeld => ?_); refine with_tabW spec_MergeAgg.tab6 spec_MergeAgg.bits6 (fun HT_ HW_ => ?_)
    generalize wc.drew = w51 at BK122 BK123 BK124 BK125 HB hHeld ⊢
    refine pure_ (i := 0) (N := some 43) (v := ?_) (a' := ?_) #[true, false, false, false, false, false, false, false, false, false, false, false, false] rfl rfl (any_of HT_.out (by kernel_rfl)) (fun _ _ _ h => h) (Or.inl ⟨by rfl, ?_⟩) ?_ ?_
    rotate_left
    ·intro w'
     go_simp
     with_reducible rfl
    rotate_left
    ·simp only [Act.put, zT, zU, zV, i64_w, i32_w]
     rfl
    refine pure_ (i := 2) (N := some 45) (v := ?_) (a' := ?_) #[true, false, true, false, false, false, false, false, false, false, false, false, false] rfl rfl (any_of HT_.out (by kernel_rfl)) (fun _ _ _ h => h) (Or.inl ⟨by rfl, ?_⟩) ?_ ?_
    rotate_left
    ·intro w'
     go_simp
     with_reducible rfl
    rotate_left
    ·simp only [Act.put, zT, zU, zV, i64_w, i32_w]
     rfl
    refine pure_ (i := 4) (N := some 47) (v := ?_) (a' := ?_) #[true, false, true, false, true, false, false, false, false, false, false, false, false] rfl rfl (any_of HT_.out (by kernel_rfl)) (fun _ _ _ h => h) (Or.inl ⟨by rfl, ?_⟩) ?_ ?_
    rotate_left
    ·intro w'
     go_simp
     with_reducible rfl
    rotate_left
    ·simp only [Act.put, zT, zU, zV, i64_w, i32_w]
     rfl
    refine pure_ (i := 8) (N := some 51) (v := ?_) (a' := ?_) #[true, false, true, false, true, false, false, false, true, false, false, false, false] rfl rfl (any_of HT_.out (by kernel_rfl)) (fun _ _ _ h => h) (Or.inl ⟨by rfl, ?_⟩) ?_ ?_
    rotate_left
    ·intro w'
     go_simp
     with_reducible rfl
    rotate_left
    ·simp only [Act.put, zT, zU, zV, i64_w, i32_w]
     rfl
    refine take_ (i := 1) (N := some 44) (v := ?_) (a' := ?_) #[true, true, true, false, true, false, false, false, true, false, false, false, false] rfl rfl (take_ofW HT_.out HW_.out (by kernel_rfl)) (fun _ _ _ h => h) (Or.inl ⟨by rfl, ?_⟩) hHeld ?_ ?_
    rotate_left
    ·rintro w' ⟨s0, s1, s2, s3, s4, s5, s6, s7, s8, s9, s10, s11, s12, s13, s14, s15⟩
     go_simp
     with_reducible rfl
    rotate_left
    ·simp only [Act.put, zT, zU, zV, i64_w, i32_w]
     rfl
    refine take_ (i := 3) (N := some 46) (v := ?_) (a' := ?_) #[true, true, true, true, true, false, false, false, true, false, false, false, false] rfl rfl (take_ofW HT_.out HW_.out (by kernel_rfl)) (fun _ _ _ h => h) (Or.inl ⟨by rfl, ?_⟩) hHeld ?_ ?_
    rotate_left
    ·rintro w' ⟨s0, s1, s2, s3, s4, s5, s6, s7, s8, s9, s10, s11, s12, s13, s14, s15⟩
     go_simp
     with_reducible rfl
    rotate_left
    ·simp only [Act.put, zT, zU, zV, i64_w, i32_w]
     rfl
    refine take_ (i := 5) (N := some 48) (v := ?_) (a' := ?_) #[true, true, true, true, true, true, false, false, true, false, false, false, false] rfl rfl (take_ofW HT_.out HW_.out (by kernel_rfl)) (fun _ _ _ h => h) (Or.inl ⟨by rfl, ?_⟩) hHeld ?_ ?_
    rotate_left
    ·rintro w' ⟨s0, s1, s2, s3, s4, s5, s6, s7, s8, s9, s10, s11, s12, s13, s14, s15⟩
     go_simp
     with_reducible rfl
    rotate_left
    ·simp only [Act.put, zT, zU, zV, i64_w, i32_w]
     rfl
    refine take_ (i := 9) (N := some 52) (v := ?_) (a' := ?_) #[true, true, true, true, true, true, false, false, true, true, false, false, false] rfl rfl (take_ofW HT_.out HW_.out (by kernel_rfl)) (fun _ _ _ h => h) (Or.inl ⟨by rfl, ?_⟩) hHeld ?_ ?_
    rotate_left
    ·rintro w' ⟨s0, s1, s2, s3, s4, s5, s6, s7, s8, s9, s10, s11, s12, s13, s14, s15⟩
     go_simp
     with_reducible rfl
    rotate_left
    ·simp only [Act.put, zT, zU, zV, i64_w, i32_w]
     rfl
    refine one_ (i := 6) (N := some 49) #[true, true, true, true, true, true, true, false, true, true, false, false, false] rfl rfl (one_of HT_.out (by kernel_rfl)) (by decide) (fun K hK => ?_)
    refine goes_ Try.func40 (by kernel_rfl) rfl #[.int .i64 a0_6, .int .i64 a1_5] (by rfl) rfl rfl (by (try simp only [List.map_toArray, List.map_cons, List.map_nil]); first | done | rfl | (simp only [List.length_drop, List.length_take]; rfl)) ?_
    with_reducible refine (spec_l11Rise.calls a0_6 a1_5 t127 _ A43.out).mono ?_
    rintro e w' ⟨rfl, ⟨nd, rfl⟩⟩
    refine ⟨_, rfl, ?_⟩
    refine hK.out _ _ ⟨(zQ BK122.out 0).trans rfl, (zQ BK122.out 1).trans rfl, (zQ BK122.out 2).trans rfl, (zQ BK122.out 3).trans rfl, (zQ BK122.out 4).trans rfl, (zQ BK122.out 5).trans rfl, (zQ BK122.out 6).trans rfl, (zQ BK122.out 7).trans rfl, (zQ BK123.out 0).trans rfl, (zQ BK123.out 1).trans rfl, (zQ BK123.out 2).trans rfl, (zQ BK123.out 3).trans rfl, (zQ BK123.out 4).trans rfl, (zQ BK123.out 5).trans rfl, (zQ BK123.out 6).trans rfl, (zQ BK123.out 7).trans rfl⟩ (fun hHeld => ?_)
    clear hK K
    refine norm_ (a' := ?_) ?_ ?_
    rotate_left
    ·show Act.put _ (some 49) _ = _
     simp only [Act.put, zT, zU, zV, i64_w, i32_w]
     rfl
    refine pure_ (i := 7) (N := some 50) (v := ?_) (a' := ?_) #[true, true, true, true, true, true, true, true, true, true, false, false, false] rfl rfl (any_of HT_.out (by kernel_rfl)) (fun _ _ _ h => h) (Or.inl ⟨by rfl, ?_⟩) ?_ ?_
    rotate_left
    ·intro w'
     go_simp
     with_reducible rfl
    rotate_left
    ·simp only [Act.put, zT, zU, zV, i64_w, i32_w]
     rfl
    refine pure_ (i := 10) (N := some 53) (v := ?_) (a' := ?_) #[true, true, true, true, true, true, true, true, true, true, true, false, false] rfl rfl (any_of HT_.out (by kernel_rfl)) (fun _ _ _ h => h) (Or.inl ⟨by rfl, ?_⟩) ?_ ?_
    rotate_left
    ·intro w'
     go_simp
     with_reducible rfl
    rotate_left
    ·simp only [Act.put, zT, zU, zV, i64_w, i32_w]
     rfl
    refine pure_ (i := 11) (N := some 54) (v := ?_) (a' := ?_) #[true, true, true, true, true, true, true, true, true, true, true, true, false] rfl rfl (any_of HT_.out (by kernel_rfl)) (fun _ _ _ h => h) (Or.inl ⟨by rfl, ?_⟩) ?_ ?_
    rotate_left
    ·intro w'
     go_simp
     with_reducible rfl
    rotate_left
    ·simp only [Act.put, zT, zU, zV, i64_w, i32_w]
     rfl
    refine one_ (i := 12) (N := none) #[true, true, true, true, true, true, true, true, true, true, true, true, true] rfl rfl (one_of HT_.out (by kernel_rfl)) (by decide) (fun K hK => ?_)
    have hs52 : w51.cell? ⟨gb125, 7, none⟩ = some (.int .i64 0) := (zQ BK125.out 7).trans rfl
    have hfs52 := blk_frozen BK125.out 7
    have hns52_0 := NB122_125.out
    have hns52_1 := NB123_125.out
    have hns52_2 := NB124_125.out
    have hms52_0 := NB125_122.out
    have hms52_1 := NB125_123.out
    have hms52_2 := NB125_124.out
    refine skip_ (w1 := ?_) (by rfl) rfl ?_ ?_
    rotate_left
    ·go_simp
     rfl
    refine hK.out _ _ ⟨((zP (p := ⟨gb125, _, none⟩) NB122_125.out _).trans (hHeld.1)), ((zP (p := ⟨gb125, _, none⟩) NB122_125.out _).trans (hHeld.2.1)), ((zP (p := ⟨gb125, _, none⟩) NB122_125.out _).trans (hHeld.2.2.1)), ((zP (p := ⟨gb125, _, none⟩) NB122_125.out _).trans (hHeld.2.2.2.1)), ((zP (p := ⟨gb125, _, none⟩) NB122_125.out _).trans (hHeld.2.2.2.2.1)), ((zP (p := ⟨gb125, _, none⟩) NB122_125.out _).trans (hHeld.2.2.2.2.2.1)), ((zP (p := ⟨gb125, _, none⟩) NB122_125.out _).trans (hHeld.2.2.2.2.2.2.1)), ((zP (p := ⟨gb125, _, none⟩) NB122_125.out _).trans (hHeld.2.2.2.2.2.2.2.1)), ((zP (p := ⟨gb125, _, none⟩) NB123_125.out _).trans (hHeld.2.2.2.2.2.2.2.2.1)), ((zP (p := ⟨gb125, _, none⟩) NB123_125.out _).trans (hHeld.2.2.2.2.2.2.2.2.2.1)), ((zP (p := ⟨gb125, _, none⟩) NB123_125.out _).trans (hHeld.2.2.2.2.2.2.2.2.2.2.1)), ((zP (p := ⟨gb125, _, none⟩) NB123_125.out _).trans (hHeld.2.2.2.2.2.2.2.2.2.2.2.1)), ((zP (p := ⟨gb125, _, none⟩) NB123_125.out _).trans (hHeld.2.2.2.2.2.2.2.2.2.2.2.2.1)), ((zP (p := ⟨gb125, _, none⟩) NB123_125.out _).trans (hHeld.2.2.2.2.2.2.2.2.2.2.2.2.2.1)), ((zP (p := ⟨gb125, _, none⟩) NB123_125.out _).trans (hHeld.2.2.2.2.2.2.2.2.2.2.2.2.2.2.1)), ((zP (p := ⟨gb125, _, none⟩) NB123_125.out _).trans (hHeld.2.2.2.2.2.2.2.2.2.2.2.2.2.2.2))⟩ (fun hHeld => ?_)
    clear hK K
    refine done_ (done_of HT_.out (by kernel_rfl)) ?_
    have hnb53 := NB125_124.out
    have hnc53 := NB124_125.out
    have hcz54_0 : w51.cell? ⟨gb125, 0, none⟩ = some (.int .i64 a1_0) := (zQ BK125.out 0).trans rfl
    have hcz54_1 : w51.cell? ⟨gb125, 1, none⟩ = some (.int .i64 (wrap64 (a0_1 + a1_1))) := (zQ BK125.out 1).trans rfl
    have hcz54_2 : w51.cell? ⟨gb125, 2, none⟩ = some (.int .i64 (wrap64 (a0_2 + a1_2))) := (zQ BK125.out 2).trans rfl
    have hcz54_3 : w51.cell? ⟨gb125, 3, none⟩ = some (.int .i64 x126003_2) := (zQ BK125.out 3).trans rfl
    have hcz54_4 : w51.cell? ⟨gb125, 4, none⟩ = some (.int .i64 a0_4) := (zQ BK125.out 4).trans rfl
    have hcz54_5 : w51.cell? ⟨gb125, 5, none⟩ = some (.int .i64 a0_5) := (zQ BK125.out 5).trans rfl
    have hcz54_6 : w51.cell? ⟨gb125, 6, none⟩ = some (.int .i64 a1_6) := (zQ BK125.out 6).trans rfl
    have hcz54_7 : w51.cell? ⟨gb125, 7, none⟩ = some (.int .i64 0) := (zQ BK125.out 7).trans rfl
    have hfz54_0 := blk_frozen BK125.out 0
    have hfz54_1 := blk_frozen BK125.out 1
    have hfz54_2 := blk_frozen BK125.out 2
    have hfz54_3 := blk_frozen BK125.out 3
    have hfz54_4 := blk_frozen BK125.out 4
    have hfz54_5 := blk_frozen BK125.out 5
    have hfz54_6 := blk_frozen BK125.out 6
    have hfz54_7 := blk_frozen BK125.out 7
    have hcz55_0 : w51.cell? ⟨gb124, 0, none⟩ = some (.int .i64 0) := (zQ BK124.out 0).trans rfl
    have hcz55_1 : w51.cell? ⟨gb124, 1, none⟩ = some (.int .i64 0) := (zQ BK124.out 1).trans rfl
    have hcz55_2 : w51.cell? ⟨gb124, 2, none⟩ = some (.int .i64 0) := (zQ BK124.out 2).trans rfl
    have hcz55_3 : w51.cell? ⟨gb124, 3, none⟩ = some (.int .i64 0) := (zQ BK124.out 3).trans rfl
    have hcz55_4 : w51.cell? ⟨gb124, 4, none⟩ = some (.int .i64 0) := (zQ BK124.out 4).trans rfl
    have hcz55_5 : w51.cell? ⟨gb124, 5, none⟩ = some (.int .i64 0) := (zQ BK124.out 5).trans rfl
    have hcz55_6 : w51.cell? ⟨gb124, 6, none⟩ = some (.int .i64 0) := (zQ BK124.out 6).trans rfl
    have hcz55_7 : w51.cell? ⟨gb124, 7, none⟩ = some (.int .i64 0) := (zQ BK124.out 7).trans rfl
    have hfz55_0 := blk_frozen BK124.out 0
    have hfz55_1 := blk_frozen BK124.out 1
    have hfz55_2 := blk_frozen BK124.out 2
    have hfz55_3 := blk_frozen BK124.out 3
    have hfz55_4 := blk_frozen BK124.out 4
    have hfz55_5 := blk_frozen BK124.out 5
    have hfz55_6 := blk_frozen BK124.out 6
    have hfz55_7 := blk_frozen BK124.out 7
    try go_wp2
    refine bodyPost_ret (results_cell_row rfl _ _ gb124 24 #[.int .i64 a1_0, .int .i64 (wrap64 (a0_1 + a1_1)), .int .i64 (wrap64 (a0_2 + a1_2)), .int .i64 x126003_2, .int .i64 a0_4, .int .i64 a0_5, .int .i64 a1_6, .int .i64 (wrap64 ((wrap64 (a0_7 + t127)) + a1_7))] (0, 0) _ rfl (by (with_reducible repeat (first | refine zE ?_ _ | refine zF ?_ | refine zD ?_ _)); refine blk_put (cs := #[.int .i64 a1_0, .int .i64 (wrap64 (a0_1 + a1_1)), .int .i64 (wrap64 (a0_2 + a1_2)), .int .i64 x126003_2, .int .i64 a0_4, .int .i64 a0_5, .int .i64 a1_6, .int .i64 0]) ?_ 7 _ rfl; (with_reducible repeat (first | refine zE ?_ _ | refine zF ?_ | refine zD ?_ _)); refine blk_put (cs := #[.int .i64 a1_0, .int .i64 (wrap64 (a0_1 + a1_1)), .int .i64 (wrap64 (a0_2 + a1_2)), .int .i64 x126003_2, .int .i64 a0_4, .int .i64 a0_5, .int .i64 0, .int .i64 0]) ?_ 6 _ rfl; (with_reducible repeat (first | refine zE ?_ _ | refine zF ?_ | refine zD ?_ _)); refine blk_put (cs := #[.int .i64 a1_0, .int .i64 (wrap64 (a0_1 + a1_1)), .int .i64 (wrap64 (a0_2 + a1_2)), .int .i64 x126003_2, .int .i64 a0_4, .int .i64 0, .int .i64 0, .int .i64 0]) ?_ 5 _ rfl; (with_reducible repeat (first | refine zE ?_ _ | refine zF ?_ | refine zD ?_ _)); refine blk_put (cs := #[.int .i64 a1_0, .int .i64 (wrap64 (a0_1 + a1_1)), .int .i64 (wrap64 (a0_2 + a1_2)), .int .i64 x126003_2, .int .i64 0, .int .i64 0, .int .i64 0, .int .i64 0]) ?_ 4 _ rfl; (with_reducible repeat (first | refine zE ?_ _ | refine zF ?_ | refine zD ?_ _)); refine blk_put (cs := #[.int .i64 a1_0, .int .i64 (wrap64 (a0_1 + a1_1)), .int .i64 (wrap64 (a0_2 + a1_2)), .int .i64 0, .int .i64 0, .int .i64 0, .int .i64 0, .int .i64 0]) ?_ 3 _ rfl; (with_reducible repeat (first | refine zE ?_ _ | refine zF ?_ | refine zD ?_ _)); refine blk_put (cs := #[.int .i64 a1_0, .int .i64 (wrap64 (a0_1 + a1_1)), .int .i64 0, .int .i64 0, .int .i64 0, .int .i64 0, .int .i64 0, .int .i64 0]) ?_ 2 _ rfl; (with_reducible repeat (first | refine zE ?_ _ | refine zF ?_ | refine zD ?_ _)); refine blk_put (cs := #[.int .i64 a1_0, .int .i64 0, .int .i64 0, .int .i64 0, .int .i64 0, .int .i64 0, .int .i64 0, .int .i64 0]) ?_ 1 _ rfl; (with_reducible repeat (first | refine zE ?_ _ | refine zF ?_ | refine zD ?_ _)); refine blk_put (cs := #[.int .i64 0, .int .i64 0, .int .i64 0, .int .i64 0, .int .i64 0, .int .i64 0, .int .i64 0, .int .i64 0]) ?_ 0 _ rfl; (with_reducible repeat (first | refine zE ?_ _ | refine zF ?_ | refine zD ?_ _)); refine blk_far ?_ NB124_125.out _; (with_reducible repeat (first | refine zE ?_ _ | refine zF ?_ | refine zD ?_ _)); exact BK124.out) Try.underlying24 rfl (by kernel_rfl)) rfl ?_
    exact ⟨by first | rfl | (simp [errW_none, errW_some] <;> rfl) | (simp [*, errW_none, errW_some] <;> rfl), by repeat (first | (with_reducible first | exact HB.out | apply zA | apply zB | apply zC | refine below_set ?_ GE122.out | refine below_set ?_ GE123.out | refine below_set ?_ GE124.out | refine below_set ?_ GE125.out) | exact HB.out)⟩

/-! ### spec_l11Res: function 41 -/
def spec_l11Res.f (a0 : Int) : Option (Bool) := if a0 ≥ 1 then (some (decide (a0 ≤ 1000000))) else (some false)
set_option maxHeartbeats 8000000 in
set_option maxRecDepth 100000 in
theorem spec_l11Res.calls (a0 : Int) (r : Bool) (w : World) (h : spec_l11Res.f a0 = some r) :
  Calls Try.prog 41 #[.int .i64 a0] w fun e w' => e = .returned (.bool r) ∧ Drawn0 w w' := by
 have H : (if a0 ≥ 1 then (some (decide (a0 ≤ 1000000))) else (some false)) = some r := h
 clear h
 by_cases c2 : a0 ≥ 1
 ·rw [if_pos c2] at H
  have c2b0 : decide (1 ≤ a0) = true := decide_eq_true c2
  clear c2
  obtain rfl := Option.some.inj H
  go_enter Try.func41, Try.ntmps41
  go_wp2
  go_ret
  exact ⟨by first | rfl | (simp; done) | (simp [*]; done), by repeat (first | exact Drawn0.refl _ | apply Drawn0.step)⟩
 ·rw [if_neg c2] at H
  have c2b0 : decide (1 ≤ a0) = false := decide_eq_false c2
  clear c2
  obtain rfl := Option.some.inj H
  go_enter Try.func41, Try.ntmps41
  go_wp2
  go_ret
  exact ⟨by first | rfl | (simp; done) | (simp [*]; done), by repeat (first | exact Drawn0.refl _ | apply Drawn0.step)⟩

end Go.Proofs.Ytppifefhpjhmaaa.PFnExactDownAggs
