-- Written by a program of this session (xprint.py, over the kit's print).
import Derived.Test.YtppifefhpjhmaabPFnExactAggOverx0
import Derived.Test.YtppifefhpjhmaabPFnExactAggOverx2
import Derived.Test.YtppifefhpjhmaabPFnExactAggOverx3
namespace Go.Proofs.Ytppifefhpjhmaab.PFnExactAggOver
open Go.RowKit Go.Proofs.YtppifefhpjhmaabW.PrintWords Go.Proofs.YtppifefhpjhmaabW.PrintLast Go.Proofs.YtppifefhpjhmaabW.PrintMore Go.Proofs.Ytppifefhpjhmaab.XWords
attribute [local go_sem] max2_int min2_int max_two min_two max_three min_three max_four min_four   -- for this text's walks alone
set_option linter.unusedVariables false
set_option linter.unusedSimpArgs false

/-! ### spec_l11Over: function 39 -/
def spec_l11Over.f (a0_0 : Int) (a0_1 : Int) (a0_2 : Int) (a0_3 : Int) (a0_4 : Int) (a0_5 : Int) (a0_6 : Int) (a0_7 : Int) (a1 : Int) : Option (Int × Bool) := if a1 = 1 then (some (a0_1, true)) else (if a1 = 2 then (some (a0_2, true)) else (if a1 = 3 then (some (a0_3, true)) else (if a1 = 4 then (some (a0_4, true)) else (if a1 = 5 then ((spec_l11Floor.f a0_2 a0_1).bind fun t112 => (some (t112, true))) else (if a1 = 6 then (some (a0_7, true)) else (if a1 = 7 then (some (a0_5, true)) else (if a1 = 8 then (some (a0_6, true)) else (some (0, false)))))))))
set_option maxHeartbeats 8000000 in
set_option maxRecDepth 100000 in
theorem spec_l11Over.calls (a0_0 : Int) (a0_1 : Int) (a0_2 : Int) (a0_3 : Int) (a0_4 : Int) (a0_5 : Int) (a0_6 : Int) (a0_7 : Int) (a1 : Int) (r1 : Int) (r2 : Bool) (w : World) (h : spec_l11Over.f a0_0 a0_1 a0_2 a0_3 a0_4 a0_5 a0_6 a0_7 a1 = some (r1, r2)) :
  Calls Try.prog 39 #[.agg #[.int .i64 a0_0, .int .i64 a0_1, .int .i64 a0_2, .int .i64 a0_3, .int .i64 a0_4, .int .i64 a0_5, .int .i64 a0_6, .int .i64 a0_7], .int .i64 a1] w fun e w' => e = .returned (.tuple #[.int .i64 r1, .bool r2]) ∧ Below w.heap.size w w' := by
 have hu55 := Try.underlying55
 have HB := Aside0.mk (Below.refl w.heap.size w)
 have H : (if a1 = 1 then (some (a0_1, true)) else (if a1 = 2 then (some (a0_2, true)) else (if a1 = 3 then (some (a0_3, true)) else (if a1 = 4 then (some (a0_4, true)) else (if a1 = 5 then ((spec_l11Floor.f a0_2 a0_1).bind fun t112 => (some (t112, true))) else (if a1 = 6 then (some (a0_7, true)) else (if a1 = 7 then (some (a0_5, true)) else (if a1 = 8 then (some (a0_6, true)) else (some (0, false)))))))))) = some (r1, r2) := h
 clear h
 by_cases c3 : a1 = 1
 ·rw [if_pos c3] at H
  have c3b0 : (a1 == 1) = true := beq_iff_eq.mpr c3
  have c3b1 : (a1 != 1) = false := bne_eq_false_iff_eq.mpr c3
  clear c3
  simp only [Option.some.injEq, Prod.mk.injEq] at H
  obtain ⟨rfl, rfl⟩ := H
  go_enter Try.func39, Try.ntmps39
  go_wp2_with (first | ((with_reducible refine gate_dst (N := 2) rfl ?_); refine box_event ?hg (N := 2) ?hd (cs := #[.int .i64 a0_0, .int .i64 a0_1, .int .i64 a0_2, .int .i64 a0_3, .int .i64 a0_4, .int .i64 a0_5, .int .i64 a0_6, .int .i64 a0_7]) (t := 55) ?hr ?_; (case hd => rfl); (case hg => rfl); (case hr => first | (go_simp; done) | (go_simp; rfl)); intro gb111 hg w4 hbox hb; have n0_ := Aside0.mk (below_step (by repeat (first | (with_reducible first | exact HB.out | apply zA | apply zB | apply zC) | exact HB.out)) hb); have n1_ := Aside0.mk (hbox); have n2_ := Aside0.mk ((by rw [hg]; exact (zW (by repeat (first | (with_reducible first | exact HB.out | apply zA | apply zB | apply zC) | exact HB.out))) : w.heap.size ≤ gb111)); have n3_ := Aside0.mk ((by rw [hg]; exact (zW (by repeat (first | (with_reducible first | exact HB.out | apply zA | apply zB | apply zC) | exact HB.out))) : w.heap.size ≤ gb111)); clear HB; have HB := n0_; have BK111 := n1_; have GW111 := n2_; have GE111 := n3_; clear n0_ n1_ n2_ n3_; clear hb hbox hg; have hcz5_0 : w4.cell? ⟨gb111, 0, none⟩ = some (.int .i64 a0_0) := (zQ BK111.out 0).trans rfl; have hcz5_1 : w4.cell? ⟨gb111, 1, none⟩ = some (.int .i64 a0_1) := (zQ BK111.out 1).trans rfl; have hcz5_2 : w4.cell? ⟨gb111, 2, none⟩ = some (.int .i64 a0_2) := (zQ BK111.out 2).trans rfl; have hcz5_3 : w4.cell? ⟨gb111, 3, none⟩ = some (.int .i64 a0_3) := (zQ BK111.out 3).trans rfl; have hcz5_4 : w4.cell? ⟨gb111, 4, none⟩ = some (.int .i64 a0_4) := (zQ BK111.out 4).trans rfl; have hcz5_5 : w4.cell? ⟨gb111, 5, none⟩ = some (.int .i64 a0_5) := (zQ BK111.out 5).trans rfl; have hcz5_6 : w4.cell? ⟨gb111, 6, none⟩ = some (.int .i64 a0_6) := (zQ BK111.out 6).trans rfl; have hcz5_7 : w4.cell? ⟨gb111, 7, none⟩ = some (.int .i64 a0_7) := (zQ BK111.out 7).trans rfl; have hfz5_0 := blk_frozen BK111.out 0; have hfz5_1 := blk_frozen BK111.out 1; have hfz5_2 := blk_frozen BK111.out 2; have hfz5_3 := blk_frozen BK111.out 3; have hfz5_4 := blk_frozen BK111.out 4; have hfz5_5 := blk_frozen BK111.out 5; have hfz5_6 := blk_frozen BK111.out 6; have hfz5_7 := blk_frozen BK111.out 7))
  go_ret2
  exact ⟨by first | rfl | (simp [errW_none, errW_some] <;> rfl) | (simp [*, errW_none, errW_some] <;> rfl), by repeat (first | (with_reducible first | exact HB.out | apply zA | apply zB | apply zC | refine below_set ?_ GE111.out) | exact HB.out)⟩
 ·rw [if_neg c3] at H
  have c3b0 : (a1 == 1) = false := beq_eq_false_iff_ne.mpr c3
  have c3b1 : (a1 != 1) = true := bne_iff_ne.mpr c3
  by_cases c6 : a1 = 2
  ·rw [if_pos c6] at H
   have c6b0 : (a1 == 2) = true := beq_iff_eq.mpr c6
   have c6b1 : (a1 != 2) = false := bne_eq_false_iff_eq.mpr c6
   clear c6
   simp only [Option.some.injEq, Prod.mk.injEq] at H
   obtain ⟨rfl, rfl⟩ := H
   go_enter Try.func39, Try.ntmps39
   go_wp2_with (first | ((with_reducible refine gate_dst (N := 2) rfl ?_); refine box_event ?hg (N := 2) ?hd (cs := #[.int .i64 a0_0, .int .i64 a0_1, .int .i64 a0_2, .int .i64 a0_3, .int .i64 a0_4, .int .i64 a0_5, .int .i64 a0_6, .int .i64 a0_7]) (t := 55) ?hr ?_; (case hd => rfl); (case hg => rfl); (case hr => first | (go_simp; done) | (go_simp; rfl)); intro gb111 hg w7 hbox hb; have n0_ := Aside0.mk (below_step (by repeat (first | (with_reducible first | exact HB.out | apply zA | apply zB | apply zC) | exact HB.out)) hb); have n1_ := Aside0.mk (hbox); have n2_ := Aside0.mk ((by rw [hg]; exact (zW (by repeat (first | (with_reducible first | exact HB.out | apply zA | apply zB | apply zC) | exact HB.out))) : w.heap.size ≤ gb111)); have n3_ := Aside0.mk ((by rw [hg]; exact (zW (by repeat (first | (with_reducible first | exact HB.out | apply zA | apply zB | apply zC) | exact HB.out))) : w.heap.size ≤ gb111)); clear HB; have HB := n0_; have BK111 := n1_; have GW111 := n2_; have GE111 := n3_; clear n0_ n1_ n2_ n3_; clear hb hbox hg; have hcz8_0 : w7.cell? ⟨gb111, 0, none⟩ = some (.int .i64 a0_0) := (zQ BK111.out 0).trans rfl; have hcz8_1 : w7.cell? ⟨gb111, 1, none⟩ = some (.int .i64 a0_1) := (zQ BK111.out 1).trans rfl; have hcz8_2 : w7.cell? ⟨gb111, 2, none⟩ = some (.int .i64 a0_2) := (zQ BK111.out 2).trans rfl; have hcz8_3 : w7.cell? ⟨gb111, 3, none⟩ = some (.int .i64 a0_3) := (zQ BK111.out 3).trans rfl; have hcz8_4 : w7.cell? ⟨gb111, 4, none⟩ = some (.int .i64 a0_4) := (zQ BK111.out 4).trans rfl; have hcz8_5 : w7.cell? ⟨gb111, 5, none⟩ = some (.int .i64 a0_5) := (zQ BK111.out 5).trans rfl; have hcz8_6 : w7.cell? ⟨gb111, 6, none⟩ = some (.int .i64 a0_6) := (zQ BK111.out 6).trans rfl; have hcz8_7 : w7.cell? ⟨gb111, 7, none⟩ = some (.int .i64 a0_7) := (zQ BK111.out 7).trans rfl; have hfz8_0 := blk_frozen BK111.out 0; have hfz8_1 := blk_frozen BK111.out 1; have hfz8_2 := blk_frozen BK111.out 2; have hfz8_3 := blk_frozen BK111.out 3; have hfz8_4 := blk_frozen BK111.out 4; have hfz8_5 := blk_frozen BK111.out 5; have hfz8_6 := blk_frozen BK111.out 6; have hfz8_7 := blk_frozen BK111.out 7))
   go_ret2
   exact ⟨by first | rfl | (simp [errW_none, errW_some] <;> rfl) | (simp [*, errW_none, errW_some] <;> rfl), by repeat (first | (with_reducible first | exact HB.out | apply zA | apply zB | apply zC | refine below_set ?_ GE111.out) | exact HB.out)⟩
  ·rw [if_neg c6] at H
   have c6b0 : (a1 == 2) = false := beq_eq_false_iff_ne.mpr c6
   have c6b1 : (a1 != 2) = true := bne_iff_ne.mpr c6
   by_cases c9 : a1 = 3
   ·rw [if_pos c9] at H
    have c9b0 : (a1 == 3) = true := beq_iff_eq.mpr c9
    have c9b1 : (a1 != 3) = false := bne_eq_false_iff_eq.mpr c9
    clear c9
    simp only [Option.some.injEq, Prod.mk.injEq] at H
    obtain ⟨rfl, rfl⟩ := H
    go_enter Try.func39, Try.ntmps39
    go_wp2_with (first | ((with_reducible refine gate_dst (N := 2) rfl ?_); refine box_event ?hg (N := 2) ?hd (cs := #[.int .i64 a0_0, .int .i64 a0_1, .int .i64 a0_2, .int .i64 a0_3, .int .i64 a0_4, .int .i64 a0_5, .int .i64 a0_6, .int .i64 a0_7]) (t := 55) ?hr ?_; (case hd => rfl); (case hg => rfl); (case hr => first | (go_simp; done) | (go_simp; rfl)); intro gb111 hg w10 hbox hb; have n0_ := Aside0.mk (below_step (by repeat (first | (with_reducible first | exact HB.out | apply zA | apply zB | apply zC) | exact HB.out)) hb); have n1_ := Aside0.mk (hbox); have n2_ := Aside0.mk ((by rw [hg]; exact (zW (by repeat (first | (with_reducible first | exact HB.out | apply zA | apply zB | apply zC) | exact HB.out))) : w.heap.size ≤ gb111)); have n3_ := Aside0.mk ((by rw [hg]; exact (zW (by repeat (first | (with_reducible first | exact HB.out | apply zA | apply zB | apply zC) | exact HB.out))) : w.heap.size ≤ gb111)); clear HB; have HB := n0_; have BK111 := n1_; have GW111 := n2_; have GE111 := n3_; clear n0_ n1_ n2_ n3_; clear hb hbox hg; have hcz11_0 : w10.cell? ⟨gb111, 0, none⟩ = some (.int .i64 a0_0) := (zQ BK111.out 0).trans rfl; have hcz11_1 : w10.cell? ⟨gb111, 1, none⟩ = some (.int .i64 a0_1) := (zQ BK111.out 1).trans rfl; have hcz11_2 : w10.cell? ⟨gb111, 2, none⟩ = some (.int .i64 a0_2) := (zQ BK111.out 2).trans rfl; have hcz11_3 : w10.cell? ⟨gb111, 3, none⟩ = some (.int .i64 a0_3) := (zQ BK111.out 3).trans rfl; have hcz11_4 : w10.cell? ⟨gb111, 4, none⟩ = some (.int .i64 a0_4) := (zQ BK111.out 4).trans rfl; have hcz11_5 : w10.cell? ⟨gb111, 5, none⟩ = some (.int .i64 a0_5) := (zQ BK111.out 5).trans rfl; have hcz11_6 : w10.cell? ⟨gb111, 6, none⟩ = some (.int .i64 a0_6) := (zQ BK111.out 6).trans rfl; have hcz11_7 : w10.cell? ⟨gb111, 7, none⟩ = some (.int .i64 a0_7) := (zQ BK111.out 7).trans rfl; have hfz11_0 := blk_frozen BK111.out 0; have hfz11_1 := blk_frozen BK111.out 1; have hfz11_2 := blk_frozen BK111.out 2; have hfz11_3 := blk_frozen BK111.out 3; have hfz11_4 := blk_frozen BK111.out 4; have hfz11_5 := blk_frozen BK111.out 5; have hfz11_6 := blk_frozen BK111.out 6; have hfz11_7 := blk_frozen BK111.out 7))
    go_ret2
    exact ⟨by first | rfl | (simp [errW_none, errW_some] <;> rfl) | (simp [*, errW_none, errW_some] <;> rfl), by repeat (first | (with_reducible first | exact HB.out | apply zA | apply zB | apply zC | refine below_set ?_ GE111.out) | exact HB.out)⟩
   ·rw [if_neg c9] at H
    have c9b0 : (a1 == 3) = false := beq_eq_false_iff_ne.mpr c9
    have c9b1 : (a1 != 3) = true := bne_iff_ne.mpr c9
    by_cases c12 : a1 = 4
    ·rw [if_pos c12] at H
     have c12b0 : (a1 == 4) = true := beq_iff_eq.mpr c12
     have c12b1 : (a1 != 4) = false := bne_eq_false_iff_eq.mpr c12
     clear c12
     simp only [Option.some.injEq, Prod.mk.injEq] at H
     obtain ⟨rfl, rfl⟩ := H
     go_enter Try.func39, Try.ntmps39
     go_wp2_with (first | ((with_reducible refine gate_dst (N := 2) rfl ?_); refine box_event ?hg (N := 2) ?hd (cs := #[.int .i64 a0_0, .int .i64 a0_1, .int .i64 a0_2, .int .i64 a0_3, .int .i64 a0_4, .int .i64 a0_5, .int .i64 a0_6, .int .i64 a0_7]) (t := 55) ?hr ?_; (case hd => rfl); (case hg => rfl); (case hr => first | (go_simp; done) | (go_simp; rfl)); intro gb111 hg w13 hbox hb; have n0_ := Aside0.mk (below_step (by repeat (first | (with_reducible first | exact HB.out | apply zA | apply zB | apply zC) | exact HB.out)) hb); have n1_ := Aside0.mk (hbox); have n2_ := Aside0.mk ((by rw [hg]; exact (zW (by repeat (first | (with_reducible first | exact HB.out | apply zA | apply zB | apply zC) | exact HB.out))) : w.heap.size ≤ gb111)); have n3_ := Aside0.mk ((by rw [hg]; exact (zW (by repeat (first | (with_reducible first | exact HB.out | apply zA | apply zB | apply zC) | exact HB.out))) : w.heap.size ≤ gb111)); clear HB; have HB := n0_; have BK111 := n1_; have GW111 := n2_; have GE111 := n3_; clear n0_ n1_ n2_ n3_; clear hb hbox hg; have hcz14_0 : w13.cell? ⟨gb111, 0, none⟩ = some (.int .i64 a0_0) := (zQ BK111.out 0).trans rfl; have hcz14_1 : w13.cell? ⟨gb111, 1, none⟩ = some (.int .i64 a0_1) := (zQ BK111.out 1).trans rfl; have hcz14_2 : w13.cell? ⟨gb111, 2, none⟩ = some (.int .i64 a0_2) := (zQ BK111.out 2).trans rfl; have hcz14_3 : w13.cell? ⟨gb111, 3, none⟩ = some (.int .i64 a0_3) := (zQ BK111.out 3).trans rfl; have hcz14_4 : w13.cell? ⟨gb111, 4, none⟩ = some (.int .i64 a0_4) := (zQ BK111.out 4).trans rfl; have hcz14_5 : w13.cell? ⟨gb111, 5, none⟩ = some (.int .i64 a0_5) := (zQ BK111.out 5).trans rfl; have hcz14_6 : w13.cell? ⟨gb111, 6, none⟩ = some (.int .i64 a0_6) := (zQ BK111.out 6).trans rfl; have hcz14_7 : w13.cell? ⟨gb111, 7, none⟩ = some (.int .i64 a0_7) := (zQ BK111.out 7).trans rfl; have hfz14_0 := blk_frozen BK111.out 0; have hfz14_1 := blk_frozen BK111.out 1; have hfz14_2 := blk_frozen BK111.out 2; have hfz14_3 := blk_frozen BK111.out 3; have hfz14_4 := blk_frozen BK111.out 4; have hfz14_5 := blk_frozen BK111.out 5; have hfz14_6 := blk_frozen BK111.out 6; have hfz14_7 := blk_frozen BK111.out 7))
     go_ret2
     exact ⟨by first | rfl | (simp [errW_none, errW_some] <;> rfl) | (simp [*, errW_none, errW_some] <;> rfl), by repeat (first | (with_reducible first | exact HB.out | apply zA | apply zB | apply zC | refine below_set ?_ GE111.out) | exact HB.out)⟩
    ·rw [if_neg c12] at H
     have c12b0 : (a1 == 4) = false := beq_eq_false_iff_ne.mpr c12
     have c12b1 : (a1 != 4) = true := bne_iff_ne.mpr c12
     by_cases c15 : a1 = 5
     ·rw [if_pos c15] at H
      have c15b0 : (a1 == 5) = true := beq_iff_eq.mpr c15
      have c15b1 : (a1 != 5) = false := bne_eq_false_iff_eq.mpr c15
      clear c15
      replace H := Option.bind_eq_some_iff.mp H
      obtain ⟨t112, A160, H⟩ := H
      replace H : (some (t112, true)) = some (r1, r2) := H
      have A16 := Aside0.mk A160
      clear A160
      simp only [Option.some.injEq, Prod.mk.injEq] at H
      obtain ⟨rfl, rfl⟩ := H
      go_enter Try.func39, Try.ntmps39
      go_wp2_with (first | ((with_reducible refine gate_dst (N := 2) rfl ?_); refine box_event ?hg (N := 2) ?hd (cs := #[.int .i64 a0_0, .int .i64 a0_1, .int .i64 a0_2, .int .i64 a0_3, .int .i64 a0_4, .int .i64 a0_5, .int .i64 a0_6, .int .i64 a0_7]) (t := 55) ?hr ?_; (case hd => rfl); (case hg => rfl); (case hr => first | (go_simp; done) | (go_simp; rfl)); intro gb111 hg w17 hbox hb; have n0_ := Aside0.mk (below_step (by repeat (first | (with_reducible first | exact HB.out | apply zA | apply zB | apply zC) | exact HB.out)) hb); have n1_ := Aside0.mk (hbox); have n2_ := Aside0.mk ((by rw [hg]; exact (zW (by repeat (first | (with_reducible first | exact HB.out | apply zA | apply zB | apply zC) | exact HB.out))) : w.heap.size ≤ gb111)); have n3_ := Aside0.mk ((by rw [hg]; exact (zW (by repeat (first | (with_reducible first | exact HB.out | apply zA | apply zB | apply zC) | exact HB.out))) : w.heap.size ≤ gb111)); clear HB; have HB := n0_; have BK111 := n1_; have GW111 := n2_; have GE111 := n3_; clear n0_ n1_ n2_ n3_; clear hb hbox hg; have hcz18_0 : w17.cell? ⟨gb111, 0, none⟩ = some (.int .i64 a0_0) := (zQ BK111.out 0).trans rfl; have hcz18_1 : w17.cell? ⟨gb111, 1, none⟩ = some (.int .i64 a0_1) := (zQ BK111.out 1).trans rfl; have hcz18_2 : w17.cell? ⟨gb111, 2, none⟩ = some (.int .i64 a0_2) := (zQ BK111.out 2).trans rfl; have hcz18_3 : w17.cell? ⟨gb111, 3, none⟩ = some (.int .i64 a0_3) := (zQ BK111.out 3).trans rfl; have hcz18_4 : w17.cell? ⟨gb111, 4, none⟩ = some (.int .i64 a0_4) := (zQ BK111.out 4).trans rfl; have hcz18_5 : w17.cell? ⟨gb111, 5, none⟩ = some (.int .i64 a0_5) := (zQ BK111.out 5).trans rfl; have hcz18_6 : w17.cell? ⟨gb111, 6, none⟩ = some (.int .i64 a0_6) := (zQ BK111.out 6).trans rfl; have hcz18_7 : w17.cell? ⟨gb111, 7, none⟩ = some (.int .i64 a0_7) := (zQ BK111.out 7).trans rfl; have hfz18_0 := blk_frozen BK111.out 0; have hfz18_1 := blk_frozen BK111.out 1; have hfz18_2 := blk_frozen BK111.out 2; have hfz18_3 := blk_frozen BK111.out 3; have hfz18_4 := blk_frozen BK111.out 4; have hfz18_5 := blk_frozen BK111.out 5; have hfz18_6 := blk_frozen BK111.out 6; have hfz18_7 := blk_frozen BK111.out 7) | ((with_reducible refine gate_callee (f := 94) rfl ?_); refine goesL_ (some 29) rfl rfl Try.func94 (by kernel_rfl) rfl #[.int .i64 a0_2, .int .i64 a0_1] rfl (by (try simp only [List.map_toArray, List.map_cons, List.map_nil]); first | done | rfl | (simp only [List.length_drop, List.length_take]; rfl)) ?_; (with_reducible refine (spec_l11Floor.calls a0_2 a0_1 t112 _ A16.out).mono ?_); rintro e w' ⟨rfl, ⟨nd, rfl⟩⟩; refine ⟨_, rfl, ?_⟩))
      go_ret2
      exact ⟨by first | rfl | (simp [errW_none, errW_some] <;> rfl) | (simp [*, errW_none, errW_some] <;> rfl), by repeat (first | (with_reducible first | exact HB.out | apply zA | apply zB | apply zC | refine below_set ?_ GE111.out) | exact HB.out)⟩
     ·rw [if_neg c15] at H
      have c15b0 : (a1 == 5) = false := beq_eq_false_iff_ne.mpr c15
      have c15b1 : (a1 != 5) = true := bne_iff_ne.mpr c15
      by_cases c19 : a1 = 6
      ·rw [if_pos c19] at H
       have c19b0 : (a1 == 6) = true := beq_iff_eq.mpr c19
       have c19b1 : (a1 != 6) = false := bne_eq_false_iff_eq.mpr c19
       clear c19
       simp only [Option.some.injEq, Prod.mk.injEq] at H
       obtain ⟨rfl, rfl⟩ := H
       go_enter Try.func39, Try.ntmps39
       go_wp2_with (first | ((with_reducible refine gate_dst (N := 2) rfl ?_); refine box_event ?hg (N := 2) ?hd (cs := #[.int .i64 a0_0, .int .i64 a0_1, .int .i64 a0_2, .int .i64 a0_3, .int .i64 a0_4, .int .i64 a0_5, .int .i64 a0_6, .int .i64 a0_7]) (t := 55) ?hr ?_; (case hd => rfl); (case hg => rfl); (case hr => first | (go_simp; done) | (go_simp; rfl)); intro gb111 hg w20 hbox hb; have n0_ := Aside0.mk (below_step (by repeat (first | (with_reducible first | exact HB.out | apply zA | apply zB | apply zC) | exact HB.out)) hb); have n1_ := Aside0.mk (hbox); have n2_ := Aside0.mk ((by rw [hg]; exact (zW (by repeat (first | (with_reducible first | exact HB.out | apply zA | apply zB | apply zC) | exact HB.out))) : w.heap.size ≤ gb111)); have n3_ := Aside0.mk ((by rw [hg]; exact (zW (by repeat (first | (with_reducible first | exact HB.out | apply zA | apply zB | apply zC) | exact HB.out))) : w.heap.size ≤ gb111)); clear HB; have HB := n0_; have BK111 := n1_; have GW111 := n2_; have GE111 := n3_; clear n0_ n1_ n2_ n3_; clear hb hbox hg; have hcz21_0 : w20.cell? ⟨gb111, 0, none⟩ = some (.int .i64 a0_0) := (zQ BK111.out 0).trans rfl; have hcz21_1 : w20.cell? ⟨gb111, 1, none⟩ = some (.int .i64 a0_1) := (zQ BK111.out 1).trans rfl; have hcz21_2 : w20.cell? ⟨gb111, 2, none⟩ = some (.int .i64 a0_2) := (zQ BK111.out 2).trans rfl; have hcz21_3 : w20.cell? ⟨gb111, 3, none⟩ = some (.int .i64 a0_3) := (zQ BK111.out 3).trans rfl; have hcz21_4 : w20.cell? ⟨gb111, 4, none⟩ = some (.int .i64 a0_4) := (zQ BK111.out 4).trans rfl; have hcz21_5 : w20.cell? ⟨gb111, 5, none⟩ = some (.int .i64 a0_5) := (zQ BK111.out 5).trans rfl; have hcz21_6 : w20.cell? ⟨gb111, 6, none⟩ = some (.int .i64 a0_6) := (zQ BK111.out 6).trans rfl; have hcz21_7 : w20.cell? ⟨gb111, 7, none⟩ = some (.int .i64 a0_7) := (zQ BK111.out 7).trans rfl; have hfz21_0 := blk_frozen BK111.out 0; have hfz21_1 := blk_frozen BK111.out 1; have hfz21_2 := blk_frozen BK111.out 2; have hfz21_3 := blk_frozen BK111.out 3; have hfz21_4 := blk_frozen BK111.out 4; have hfz21_5 := blk_frozen BK111.out 5; have hfz21_6 := blk_frozen BK111.out 6; have hfz21_7 := blk_frozen BK111.out 7))
       go_ret2
       exact ⟨by first | rfl | (simp [errW_none, errW_some] <;> rfl) | (simp [*, errW_none, errW_some] <;> rfl), by repeat (first | (with_reducible first | exact HB.out | apply zA | apply zB | apply zC | refine below_set ?_ GE111.out) | exact HB.out)⟩
      ·rw [if_neg c19] at H
       have c19b0 : (a1 == 6) = false := beq_eq_false_iff_ne.mpr c19
       have c19b1 : (a1 != 6) = true := bne_iff_ne.mpr c19
       by_cases c22 : a1 = 7
       ·rw [if_pos c22] at H
        have c22b0 : (a1 == 7) = true := beq_iff_eq.mpr c22
        have c22b1 : (a1 != 7) = false := bne_eq_false_iff_eq.mpr c22
        clear c22
        simp only [Option.some.injEq, Prod.mk.injEq] at H
        obtain ⟨rfl, rfl⟩ := H
        go_enter Try.func39, Try.ntmps39
        go_wp2_with (first | ((with_reducible refine gate_dst (N := 2) rfl ?_); refine box_event ?hg (N := 2) ?hd (cs := #[.int .i64 a0_0, .int .i64 a0_1, .int .i64 a0_2, .int .i64 a0_3, .int .i64 a0_4, .int .i64 a0_5, .int .i64 a0_6, .int .i64 a0_7]) (t := 55) ?hr ?_; (case hd => rfl); (case hg => rfl); (case hr => first | (go_simp; done) | (go_simp; rfl)); intro gb111 hg w23 hbox hb; have n0_ := Aside0.mk (below_step (by repeat (first | (with_reducible first | exact HB.out | apply zA | apply zB | apply zC) | exact HB.out)) hb); have n1_ := Aside0.mk (hbox); have n2_ := Aside0.mk ((by rw [hg]; exact (zW (by repeat (first | (with_reducible first | exact HB.out | apply zA | apply zB | apply zC) | exact HB.out))) : w.heap.size ≤ gb111)); have n3_ := Aside0.mk ((by rw [hg]; exact (zW (by repeat (first | (with_reducible first | exact HB.out | apply zA | apply zB | apply zC) | exact HB.out))) : w.heap.size ≤ gb111)); clear HB; have HB := n0_; have BK111 := n1_; have GW111 := n2_; have GE111 := n3_; clear n0_ n1_ n2_ n3_; clear hb hbox hg; have hcz24_0 : w23.cell? ⟨gb111, 0, none⟩ = some (.int .i64 a0_0) := (zQ BK111.out 0).trans rfl; have hcz24_1 : w23.cell? ⟨gb111, 1, none⟩ = some (.int .i64 a0_1) := (zQ BK111.out 1).trans rfl; have hcz24_2 : w23.cell? ⟨gb111, 2, none⟩ = some (.int .i64 a0_2) := (zQ BK111.out 2).trans rfl; have hcz24_3 : w23.cell? ⟨gb111, 3, none⟩ = some (.int .i64 a0_3) := (zQ BK111.out 3).trans rfl; have hcz24_4 : w23.cell? ⟨gb111, 4, none⟩ = some (.int .i64 a0_4) := (zQ BK111.out 4).trans rfl; have hcz24_5 : w23.cell? ⟨gb111, 5, none⟩ = some (.int .i64 a0_5) := (zQ BK111.out 5).trans rfl; have hcz24_6 : w23.cell? ⟨gb111, 6, none⟩ = some (.int .i64 a0_6) := (zQ BK111.out 6).trans rfl; have hcz24_7 : w23.cell? ⟨gb111, 7, none⟩ = some (.int .i64 a0_7) := (zQ BK111.out 7).trans rfl; have hfz24_0 := blk_frozen BK111.out 0; have hfz24_1 := blk_frozen BK111.out 1; have hfz24_2 := blk_frozen BK111.out 2; have hfz24_3 := blk_frozen BK111.out 3; have hfz24_4 := blk_frozen BK111.out 4; have hfz24_5 := blk_frozen BK111.out 5; have hfz24_6 := blk_frozen BK111.out 6; have hfz24_7 := blk_frozen BK111.out 7))
        go_ret2
        exact ⟨by first | rfl | (simp [errW_none, errW_some] <;> rfl) | (simp [*, errW_none, errW_some] <;> rfl), by repeat (first | (with_reducible first | exact HB.out | apply zA | apply zB | apply zC | refine below_set ?_ GE111.out) | exact HB.out)⟩
       ·rw [if_neg c22] at H
        have c22b0 : (a1 == 7) = false := beq_eq_false_iff_ne.mpr c22
        have c22b1 : (a1 != 7) = true := bne_iff_ne.mpr c22
        by_cases c25 : a1 = 8
        ·rw [if_pos c25] at H
         have c25b0 : (a1 == 8) = true := beq_iff_eq.mpr c25
         have c25b1 : (a1 != 8) = false := bne_eq_false_iff_eq.mpr c25
         clear c25
         simp only [Option.some.injEq, Prod.mk.injEq] at H
         obtain ⟨rfl, rfl⟩ := H
         go_enter Try.func39, Try.ntmps39
         go_wp2_with (first | ((with_reducible refine gate_dst (N := 2) rfl ?_); refine box_event ?hg (N := 2) ?hd (cs := #[.int .i64 a0_0, .int .i64 a0_1, .int .i64 a0_2, .int .i64 a0_3, .int .i64 a0_4, .int .i64 a0_5, .int .i64 a0_6, .int .i64 a0_7]) (t := 55) ?hr ?_; (case hd => rfl); (case hg => rfl); (case hr => first | (go_simp; done) | (go_simp; rfl)); intro gb111 hg w26 hbox hb; have n0_ := Aside0.mk (below_step (by repeat (first | (with_reducible first | exact HB.out | apply zA | apply zB | apply zC) | exact HB.out)) hb); have n1_ := Aside0.mk (hbox); have n2_ := Aside0.mk ((by rw [hg]; exact (zW (by repeat (first | (with_reducible first | exact HB.out | apply zA | apply zB | apply zC) | exact HB.out))) : w.heap.size ≤ gb111)); have n3_ := Aside0.mk ((by rw [hg]; exact (zW (by repeat (first | (with_reducible first | exact HB.out | apply zA | apply zB | apply zC) | exact HB.out))) : w.heap.size ≤ gb111)); clear HB; have HB := n0_; have BK111 := n1_; have GW111 := n2_; have GE111 := n3_; clear n0_ n1_ n2_ n3_; clear hb hbox hg; have hcz27_0 : w26.cell? ⟨gb111, 0, none⟩ = some (.int .i64 a0_0) := (zQ BK111.out 0).trans rfl; have hcz27_1 : w26.cell? ⟨gb111, 1, none⟩ = some (.int .i64 a0_1) := (zQ BK111.out 1).trans rfl; have hcz27_2 : w26.cell? ⟨gb111, 2, none⟩ = some (.int .i64 a0_2) := (zQ BK111.out 2).trans rfl; have hcz27_3 : w26.cell? ⟨gb111, 3, none⟩ = some (.int .i64 a0_3) := (zQ BK111.out 3).trans rfl; have hcz27_4 : w26.cell? ⟨gb111, 4, none⟩ = some (.int .i64 a0_4) := (zQ BK111.out 4).trans rfl; have hcz27_5 : w26.cell? ⟨gb111, 5, none⟩ = some (.int .i64 a0_5) := (zQ BK111.out 5).trans rfl; have hcz27_6 : w26.cell? ⟨gb111, 6, none⟩ = some (.int .i64 a0_6) := (zQ BK111.out 6).trans rfl; have hcz27_7 : w26.cell? ⟨gb111, 7, none⟩ = some (.int .i64 a0_7) := (zQ BK111.out 7).trans rfl; have hfz27_0 := blk_frozen BK111.out 0; have hfz27_1 := blk_frozen BK111.out 1; have hfz27_2 := blk_frozen BK111.out 2; have hfz27_3 := blk_frozen BK111.out 3; have hfz27_4 := blk_frozen BK111.out 4; have hfz27_5 := blk_frozen BK111.out 5; have hfz27_6 := blk_frozen BK111.out 6; have hfz27_7 := blk_frozen BK111.out 7))
         go_ret2
         exact ⟨by first | rfl | (simp [errW_none, errW_some] <;> rfl) | (simp [*, errW_none, errW_some] <;> rfl), by repeat (first | (with_reducible first | exact HB.out | apply zA | apply zB | apply zC | refine below_set ?_ GE111.out) | exact HB.out)⟩
        ·rw [if_neg c25] at H
         have c25b0 : (a1 == 8) = false := beq_eq_false_iff_ne.mpr c25
         have c25b1 : (a1 != 8) = true := bne_iff_ne.mpr c25
         simp only [Option.some.injEq, Prod.mk.injEq] at H
         obtain ⟨rfl, rfl⟩ := H
         go_enter Try.func39, Try.ntmps39
         go_wp2_with (first | ((with_reducible refine gate_dst (N := 2) rfl ?_); refine box_event ?hg (N := 2) ?hd (cs := #[.int .i64 a0_0, .int .i64 a0_1, .int .i64 a0_2, .int .i64 a0_3, .int .i64 a0_4, .int .i64 a0_5, .int .i64 a0_6, .int .i64 a0_7]) (t := 55) ?hr ?_; (case hd => rfl); (case hg => rfl); (case hr => first | (go_simp; done) | (go_simp; rfl)); intro gb111 hg w28 hbox hb; have n0_ := Aside0.mk (below_step (by repeat (first | (with_reducible first | exact HB.out | apply zA | apply zB | apply zC) | exact HB.out)) hb); have n1_ := Aside0.mk (hbox); have n2_ := Aside0.mk ((by rw [hg]; exact (zW (by repeat (first | (with_reducible first | exact HB.out | apply zA | apply zB | apply zC) | exact HB.out))) : w.heap.size ≤ gb111)); have n3_ := Aside0.mk ((by rw [hg]; exact (zW (by repeat (first | (with_reducible first | exact HB.out | apply zA | apply zB | apply zC) | exact HB.out))) : w.heap.size ≤ gb111)); clear HB; have HB := n0_; have BK111 := n1_; have GW111 := n2_; have GE111 := n3_; clear n0_ n1_ n2_ n3_; clear hb hbox hg))
         go_ret2
         exact ⟨by first | rfl | (simp [errW_none, errW_some] <;> rfl) | (simp [*, errW_none, errW_some] <;> rfl), by repeat (first | (with_reducible first | exact HB.out | apply zA | apply zB | apply zC | refine below_set ?_ GE111.out) | exact HB.out)⟩

/-! ### spec_AggOver: function 9 -/
mutual
def spec_AggOver.j0 : Nat → List (S55) → Int → Int → Int → Bool → Option (Int × Bool)
 | 0, _, _, _, _, _ => none
 | k + 1, x0, x2, x3, x4, x40 => if x40 = true then (some (0, false)) else (spec_AggOver.l0 k x2 x3 x4 x0 (x0.length : Int) 0 0 0 0 0 0 0 0 0)
def spec_AggOver.l0 : Nat → Int → Int → Int → List (S55) → Int → Int → Int → Int → Int → Int → Int → Int → Int → Int → Option (Int × Bool)
 | 0, _, _, _, _, _, _, _, _, _, _, _, _, _, _ => none
 | k + 1, x2, x3, x4, x42, x43, x44, x116000, x116001, x116002, x116003, x116004, x116005, x116006, x116007 => if x44 < x43 then (if 0 ≤ x44 then (if x44 < (x42.length : Int) then (if ((rd_T55 x42 x44).f0) ≤ x2 then (spec_AggOver.j2 k x2 x3 x4 x42 x43 x44 true x116000 x116001 x116002 x116003 x116004 x116005 x116006 x116007 ((rd_T55 x42 x44).f0) ((rd_T55 x42 x44).f1) ((rd_T55 x42 x44).f2) ((rd_T55 x42 x44).f3) ((rd_T55 x42 x44).f4) ((rd_T55 x42 x44).f5) ((rd_T55 x42 x44).f6) ((rd_T55 x42 x44).f7)) else (spec_AggOver.j2 k x2 x3 x4 x42 x43 x44 (decide (((rd_T55 x42 x44).f0) > x3)) x116000 x116001 x116002 x116003 x116004 x116005 x116006 x116007 ((rd_T55 x42 x44).f0) ((rd_T55 x42 x44).f1) ((rd_T55 x42 x44).f2) ((rd_T55 x42 x44).f3) ((rd_T55 x42 x44).f4) ((rd_T55 x42 x44).f5) ((rd_T55 x42 x44).f6) ((rd_T55 x42 x44).f7))) else (none)) else (none)) else (if x116001 < 1 then (some (0, false)) else ((spec_l11Over.f x116000 x116001 x116002 x116003 x116004 x116005 x116006 x116007 x4).bind fun bt126 => (some (bt126.1, bt126.2))))
def spec_AggOver.j2 : Nat → Int → Int → Int → List (S55) → Int → Int → Bool → Int → Int → Int → Int → Int → Int → Int → Int → Int → Int → Int → Int → Int → Int → Int → Int → Option (Int × Bool)
 | 0, _, _, _, _, _, _, _, _, _, _, _, _, _, _, _, _, _, _, _, _, _, _, _ => none
 | k + 1, x2, x3, x4, x42, x43, x44, x57, x116000, x116001, x116002, x116003, x116004, x116005, x116006, x116007, x118000, x118001, x118002, x118003, x118004, x118005, x118006, x118007 => if x57 = true then (spec_AggOver.l0 k x2 x3 x4 x42 x43 (wrap64 (x44 + 1)) x116000 x116001 x116002 x116003 x116004 x116005 x116006 x116007) else (if x116001 = 0 then (spec_AggOver.l0 k x2 x3 x4 x42 x43 (wrap64 (x44 + 1)) x118000 x118001 x118002 x118003 x118004 x118005 x118006 x118007) else ((spec_MergeAgg.f k x116000 x116001 x116002 x116003 x116004 x116005 x116006 x116007 x118000 x118001 x118002 x118003 x118004 x118005 x118006 x118007).bind fun bt118 => (spec_AggOver.l0 k x2 x3 x4 x42 x43 (wrap64 (x44 + 1)) bt118.1 bt118.2.1 bt118.2.2.1 bt118.2.2.2.1 bt118.2.2.2.2.1 bt118.2.2.2.2.2.1 bt118.2.2.2.2.2.2.1 bt118.2.2.2.2.2.2.2)))
end
def spec_AggOver.f (k : Nat) (l0 : List (S55)) (a1 : Int) (a2 : Int) (a3 : Int) (a4 : Int) : Option (Int × Bool) := (spec_GoodAggs.f k l0 a1).bind fun t113 => (if t113 = true then ((spec_l11Span.f a2 a3).bind fun t114 => (if t114 = true then (if a2 ≥ 0 then (if a1 = 0 then (none) else (if (Int.tmod a2 a1) = 0 then (spec_AggOver.j0 k l0 a2 a3 a4 ((Int.tmod a3 a1) != 0)) else (spec_AggOver.j0 k l0 a2 a3 a4 true))) else (if a1 = 0 then (none) else (spec_AggOver.j0 k l0 a2 a3 a4 ((Int.tmod a3 a1) != 0)))) else (spec_AggOver.j0 k l0 a2 a3 a4 true))) else (spec_AggOver.j0 k l0 a2 a3 a4 true))
theorem spec_AggOver.mono_l : ∀ k, (∀ y0 y1 y2 y3 y4, LeO (spec_AggOver.j0 k y0 y1 y2 y3 y4) (spec_AggOver.j0 (k + 1) y0 y1 y2 y3 y4)) ∧ (∀ y0 y1 y2 y3 y4 y5 y6 y7 y8 y9 y10 y11 y12 y13, LeO (spec_AggOver.l0 k y0 y1 y2 y3 y4 y5 y6 y7 y8 y9 y10 y11 y12 y13) (spec_AggOver.l0 (k + 1) y0 y1 y2 y3 y4 y5 y6 y7 y8 y9 y10 y11 y12 y13)) ∧ (∀ y0 y1 y2 y3 y4 y5 y6 y7 y8 y9 y10 y11 y12 y13 y14 y15 y16 y17 y18 y19 y20 y21 y22, LeO (spec_AggOver.j2 k y0 y1 y2 y3 y4 y5 y6 y7 y8 y9 y10 y11 y12 y13 y14 y15 y16 y17 y18 y19 y20 y21 y22) (spec_AggOver.j2 (k + 1) y0 y1 y2 y3 y4 y5 y6 y7 y8 y9 y10 y11 y12 y13 y14 y15 y16 y17 y18 y19 y20 y21 y22))
 | 0 => ⟨fun _ _ _ _ _ r h => by simp [spec_AggOver.j0] at h, fun _ _ _ _ _ _ _ _ _ _ _ _ _ _ r h => by simp [spec_AggOver.l0] at h, fun _ _ _ _ _ _ _ _ _ _ _ _ _ _ _ _ _ _ _ _ _ _ _ r h => by simp [spec_AggOver.j2] at h⟩
 | k + 1 => by
  obtain ⟨ih0, ih1, ih2⟩ := spec_AggOver.mono_l k
  refine ⟨?_, ?_, ?_⟩
  ·intro y0 y1 y2 y3 y4
   unfold spec_AggOver.j0
   repeat' first
   | (with_reducible exact ih0 _ _ _ _ _)
   | (with_reducible exact ih1 _ _ _ _ _ _ _ _ _ _ _ _ _ _)
   | (with_reducible exact ih2 _ _ _ _ _ _ _ _ _ _ _ _ _ _ _ _ _ _ _ _ _ _ _)
   | (with_reducible exact spec_GoodAggs.mono _ _ _)
   | (with_reducible exact spec_MergeAgg.mono _ _ _ _ _ _ _ _ _ _ _ _ _ _ _ _ _)
   | (with_reducible exact LeO.refl _)
   | (with_reducible exact LeO.none _)
   | (with_reducible refine LeO.ite ?_ ?_)
   | (with_reducible refine LeO.bind ?_ (fun _ => ?_))
   | exact ih0 _ _ _ _ _
   | exact ih1 _ _ _ _ _ _ _ _ _ _ _ _ _ _
   | exact ih2 _ _ _ _ _ _ _ _ _ _ _ _ _ _ _ _ _ _ _ _ _ _ _
   | exact spec_GoodAggs.mono _ _ _
   | exact spec_MergeAgg.mono _ _ _ _ _ _ _ _ _ _ _ _ _ _ _ _ _
   | exact LeO.none _
   | refine LeO.ite ?_ ?_
   | refine LeO.bind ?_ (fun _ => ?_)
  ·intro y0 y1 y2 y3 y4 y5 y6 y7 y8 y9 y10 y11 y12 y13
   unfold spec_AggOver.l0
   repeat' first
   | (with_reducible exact ih0 _ _ _ _ _)
   | (with_reducible exact ih1 _ _ _ _ _ _ _ _ _ _ _ _ _ _)
   | (with_reducible exact ih2 _ _ _ _ _ _ _ _ _ _ _ _ _ _ _ _ _ _ _ _ _ _ _)
   | (with_reducible exact spec_GoodAggs.mono _ _ _)
   | (with_reducible exact spec_MergeAgg.mono _ _ _ _ _ _ _ _ _ _ _ _ _ _ _ _ _)
   | (with_reducible exact LeO.refl _)
   | (with_reducible exact LeO.none _)
   | (with_reducible refine LeO.ite ?_ ?_)
   | (with_reducible refine LeO.bind ?_ (fun _ => ?_))
   | exact ih0 _ _ _ _ _
   | exact ih1 _ _ _ _ _ _ _ _ _ _ _ _ _ _
   | exact ih2 _ _ _ _ _ _ _ _ _ _ _ _ _ _ _ _ _ _ _ _ _ _ _
   | exact spec_GoodAggs.mono _ _ _
   | exact spec_MergeAgg.mono _ _ _ _ _ _ _ _ _ _ _ _ _ _ _ _ _
   | exact LeO.none _
   | refine LeO.ite ?_ ?_
   | refine LeO.bind ?_ (fun _ => ?_)
  ·intro y0 y1 y2 y3 y4 y5 y6 y7 y8 y9 y10 y11 y12 y13 y14 y15 y16 y17 y18 y19 y20 y21 y22
   unfold spec_AggOver.j2
   repeat' first
   | (with_reducible exact ih0 _ _ _ _ _)
   | (with_reducible exact ih1 _ _ _ _ _ _ _ _ _ _ _ _ _ _)
   | (with_reducible exact ih2 _ _ _ _ _ _ _ _ _ _ _ _ _ _ _ _ _ _ _ _ _ _ _)
   | (with_reducible exact spec_GoodAggs.mono _ _ _)
   | (with_reducible exact spec_MergeAgg.mono _ _ _ _ _ _ _ _ _ _ _ _ _ _ _ _ _)
   | (with_reducible exact LeO.refl _)
   | (with_reducible exact LeO.none _)
   | (with_reducible refine LeO.ite ?_ ?_)
   | (with_reducible refine LeO.bind ?_ (fun _ => ?_))
   | exact ih0 _ _ _ _ _
   | exact ih1 _ _ _ _ _ _ _ _ _ _ _ _ _ _
   | exact ih2 _ _ _ _ _ _ _ _ _ _ _ _ _ _ _ _ _ _ _ _ _ _ _
   | exact spec_GoodAggs.mono _ _ _
   | exact spec_MergeAgg.mono _ _ _ _ _ _ _ _ _ _ _ _ _ _ _ _ _
   | exact LeO.none _
   | refine LeO.ite ?_ ?_
   | refine LeO.bind ?_ (fun _ => ?_)
theorem spec_AggOver.mono : ∀ a0 a1 a2 a3 a4 k, LeO (spec_AggOver.f k a0 a1 a2 a3 a4) (spec_AggOver.f (k + 1) a0 a1 a2 a3 a4) := by
 intro a0 a1 a2 a3 a4 k
 obtain ⟨ih0, ih1, ih2⟩ := spec_AggOver.mono_l k
 unfold spec_AggOver.f
 repeat' first
   | (with_reducible exact ih0 _ _ _ _ _)
   | (with_reducible exact ih1 _ _ _ _ _ _ _ _ _ _ _ _ _ _)
   | (with_reducible exact ih2 _ _ _ _ _ _ _ _ _ _ _ _ _ _ _ _ _ _ _ _ _ _ _)
   | (with_reducible exact spec_GoodAggs.mono _ _ _)
   | (with_reducible exact spec_MergeAgg.mono _ _ _ _ _ _ _ _ _ _ _ _ _ _ _ _ _)
   | (with_reducible exact LeO.refl _)
   | (with_reducible exact LeO.none _)
   | (with_reducible refine LeO.ite ?_ ?_)
   | (with_reducible refine LeO.bind ?_ (fun _ => ?_))
   | exact ih0 _ _ _ _ _
   | exact ih1 _ _ _ _ _ _ _ _ _ _ _ _ _ _
   | exact ih2 _ _ _ _ _ _ _ _ _ _ _ _ _ _ _ _ _ _ _ _ _ _ _
   | exact spec_GoodAggs.mono _ _ _
   | exact spec_MergeAgg.mono _ _ _ _ _ _ _ _ _ _ _ _ _ _ _ _ _
   | exact LeO.none _
   | refine LeO.ite ?_ ?_
   | refine LeO.bind ?_ (fun _ => ?_)
set_option maxHeartbeats 8000000 in
set_option maxRecDepth 100000 in
theorem spec_AggOver.calls (k : Nat) (A0 : Option Addr) (c0 : Nat) (l0 : List (S55)) (a1 : Int) (a2 : Int) (a3 : Int) (a4 : Int) (r1 : Int) (r2 : Bool) (w : World) (hr0 : Kd.C k55 w A0 l0.length l0) (hc0 : l0.length ≤ c0) (h : spec_AggOver.f k l0 a1 a2 a3 a4 = some (r1, r2)) :
  Calls Try.prog 9 #[.slice A0 l0.length c0, .int .i64 a1, .int .i64 a2, .int .i64 a3, .int .i64 a4] w fun e w' => e = .returned (.tuple #[.int .i64 r1, .bool r2]) ∧ Below w.heap.size w w' := by
 have hu55 := Try.underlying55
 have HR0 := Aside0.mk hr0
 have HC0 := Aside0.mk hc0
 clear hr0 hc0
 have HB := Aside0.mk (Below.refl w.heap.size w)
 have H : ((spec_GoodAggs.f k l0 a1).bind fun t113 => (if t113 = true then ((spec_l11Span.f a2 a3).bind fun t114 => (if t114 = true then (if a2 ≥ 0 then (if a1 = 0 then (none) else (if (Int.tmod a2 a1) = 0 then (spec_AggOver.j0 k l0 a2 a3 a4 ((Int.tmod a3 a1) != 0)) else (spec_AggOver.j0 k l0 a2 a3 a4 true))) else (if a1 = 0 then (none) else (spec_AggOver.j0 k l0 a2 a3 a4 ((Int.tmod a3 a1) != 0)))) else (spec_AggOver.j0 k l0 a2 a3 a4 true))) else (spec_AggOver.j0 k l0 a2 a3 a4 true))) = some (r1, r2) := h
 clear h
 have HC6 := Aside0.mk H
 clear H
 go_enter Try.func9, Try.ntmps9
 go_upto_region 1 with (fail)
 go_cut [40] (fun v40 wc => ∃ (kq : Nat) (x40_5 : Bool), v40 = .bool x40_5 ∧ Aside0 (spec_AggOver.j0 kq l0 a2 a3 a4 x40_5 = some (r1, r2)) ∧ Aside0 (kq ≤ k) ∧ Aside0 (Below w.heap.size w wc))
 case first =>
  have H := HC6.out
  clear HC6
  replace H := Option.bind_eq_some_iff.mp H
  obtain ⟨t113, A70, H⟩ := H
  replace H : (if t113 = true then ((spec_l11Span.f a2 a3).bind fun t114 => (if t114 = true then (if a2 ≥ 0 then (if a1 = 0 then (none) else (if (Int.tmod a2 a1) = 0 then (spec_AggOver.j0 k l0 a2 a3 a4 ((Int.tmod a3 a1) != 0)) else (spec_AggOver.j0 k l0 a2 a3 a4 true))) else (if a1 = 0 then (none) else (spec_AggOver.j0 k l0 a2 a3 a4 ((Int.tmod a3 a1) != 0)))) else (spec_AggOver.j0 k l0 a2 a3 a4 true))) else (spec_AggOver.j0 k l0 a2 a3 a4 true)) = some (r1, r2) := H
  have A7 := Aside0.mk A70
  clear A70
  by_cases c8 : t113 = true
  ·subst c8
   have H1 : ((spec_l11Span.f a2 a3).bind fun t114 => (if t114 = true then (if a2 ≥ 0 then (if a1 = 0 then (none) else (if (Int.tmod a2 a1) = 0 then (spec_AggOver.j0 k l0 a2 a3 a4 ((Int.tmod a3 a1) != 0)) else (spec_AggOver.j0 k l0 a2 a3 a4 true))) else (if a1 = 0 then (none) else (spec_AggOver.j0 k l0 a2 a3 a4 ((Int.tmod a3 a1) != 0)))) else (spec_AggOver.j0 k l0 a2 a3 a4 true))) = some (r1, r2) := by rw [if_pos rfl] at H; exact H
   clear H
   have H := H1
   clear H1
   replace H := Option.bind_eq_some_iff.mp H
   obtain ⟨t114, A90, H⟩ := H
   replace H : (if t114 = true then (if a2 ≥ 0 then (if a1 = 0 then (none) else (if (Int.tmod a2 a1) = 0 then (spec_AggOver.j0 k l0 a2 a3 a4 ((Int.tmod a3 a1) != 0)) else (spec_AggOver.j0 k l0 a2 a3 a4 true))) else (if a1 = 0 then (none) else (spec_AggOver.j0 k l0 a2 a3 a4 ((Int.tmod a3 a1) != 0)))) else (spec_AggOver.j0 k l0 a2 a3 a4 true)) = some (r1, r2) := H
   have A9 := Aside0.mk A90
   clear A90
   by_cases c10 : t114 = true
   ·subst c10
    have H1 : (if a2 ≥ 0 then (if a1 = 0 then (none) else (if (Int.tmod a2 a1) = 0 then (spec_AggOver.j0 k l0 a2 a3 a4 ((Int.tmod a3 a1) != 0)) else (spec_AggOver.j0 k l0 a2 a3 a4 true))) else (if a1 = 0 then (none) else (spec_AggOver.j0 k l0 a2 a3 a4 ((Int.tmod a3 a1) != 0)))) = some (r1, r2) := by rw [if_pos rfl] at H; exact H
    clear H
    have H := H1
    clear H1
    by_cases c11 : a2 ≥ 0
    ·rw [if_pos c11] at H
     have c11b0 : decide (0 ≤ a2) = true := decide_eq_true c11
     clear c11
     (first | rw [c11b0] | (simp only [i64_w, i32_w]; rw [c11b0]) | skip)
     by_cases c12 : a1 = 0
     ·rw [if_pos c12] at H
      exact absurd H (by simp)
     ·rw [if_neg c12] at H
      have c12b0 : (a1 == 0) = false := beq_eq_false_iff_ne.mpr c12
      have c12b1 : (a1 != 0) = true := bne_iff_ne.mpr c12
      by_cases c13 : (Int.tmod a2 a1) = 0
      ·rw [if_pos c13] at H
       have c13b0 : ((Int.tmod a2 a1) == 0) = true := beq_iff_eq.mpr c13
       have c13b1 : ((Int.tmod a2 a1) != 0) = false := bne_eq_false_iff_eq.mpr c13
       clear c13
       have H' := Aside0.mk H
       clear H
       go_wp2_with (first | ((with_reducible refine gate_callee (f := 27) rfl ?_); refine goesL_ (some 17) rfl rfl Try.func27 (by kernel_rfl) rfl #[.slice A0 l0.length c0, .int .i64 a1] rfl (by (try simp only [List.map_toArray, List.map_cons, List.map_nil]); first | done | rfl | (simp only [List.length_drop, List.length_take]; rfl)) ?_; (with_reducible refine (spec_GoodAggs.calls k _ _ l0 a1 true _ ?side1 ?side2 A7.out).mono ?_); (case side1 => repeat (first | exact (Kd.C_below HR0.out HB.out) | (with_reducible refine zJ ?_ _) | (with_reducible refine zK ?_ _) | (with_reducible refine zL ?_))); (case side2 => exact HC0.out); rintro e w14 ⟨rfl, hb⟩; refine ⟨_, rfl, ?_⟩; have n0_ := Aside0.mk (below_step (by repeat (first | (with_reducible first | exact HB.out | apply zA | apply zB | apply zC) | exact HB.out)) hb); clear HB; have HB := n0_; clear n0_; (try clear hb); (try clear hb2); (try clear hk); (try clear hi)) | (go_at_call 37; (with_reducible refine (spec_l11Span.calls a2 a3 true _ A9.out).mono ?_); rintro e w' ⟨rfl, ⟨nd, rfl⟩⟩))
       go_meet
       case rel => exact ⟨_, (((Int.tmod a3 a1) != 0)), (by first | rfl | (simp; done) | (simp [*]; done)), H', ⟨by first | omega | exact Nat.le_refl _⟩, ⟨by repeat (first | (with_reducible first | exact HB.out | apply zA | apply zB | apply zC) | exact HB.out)⟩⟩
      ·rw [if_neg c13] at H
       have c13b0 : ((Int.tmod a2 a1) == 0) = false := beq_eq_false_iff_ne.mpr c13
       have c13b1 : ((Int.tmod a2 a1) != 0) = true := bne_iff_ne.mpr c13
       have H' := Aside0.mk H
       clear H
       go_wp2_with (first | ((with_reducible refine gate_callee (f := 27) rfl ?_); refine goesL_ (some 17) rfl rfl Try.func27 (by kernel_rfl) rfl #[.slice A0 l0.length c0, .int .i64 a1] rfl (by (try simp only [List.map_toArray, List.map_cons, List.map_nil]); first | done | rfl | (simp only [List.length_drop, List.length_take]; rfl)) ?_; (with_reducible refine (spec_GoodAggs.calls k _ _ l0 a1 true _ ?side1 ?side2 A7.out).mono ?_); (case side1 => repeat (first | exact (Kd.C_below HR0.out HB.out) | (with_reducible refine zJ ?_ _) | (with_reducible refine zK ?_ _) | (with_reducible refine zL ?_))); (case side2 => exact HC0.out); rintro e w15 ⟨rfl, hb⟩; refine ⟨_, rfl, ?_⟩; have n0_ := Aside0.mk (below_step (by repeat (first | (with_reducible first | exact HB.out | apply zA | apply zB | apply zC) | exact HB.out)) hb); clear HB; have HB := n0_; clear n0_; (try clear hb); (try clear hb2); (try clear hk); (try clear hi)) | (go_at_call 37; (with_reducible refine (spec_l11Span.calls a2 a3 true _ A9.out).mono ?_); rintro e w' ⟨rfl, ⟨nd, rfl⟩⟩))
       go_meet
       case rel => exact ⟨_, (true), (by first | rfl | (simp; done) | (simp [*]; done)), H', ⟨by first | omega | exact Nat.le_refl _⟩, ⟨by repeat (first | (with_reducible first | exact HB.out | apply zA | apply zB | apply zC) | exact HB.out)⟩⟩
    ·rw [if_neg c11] at H
     have c11b0 : decide (0 ≤ a2) = false := decide_eq_false c11
     clear c11
     (first | rw [c11b0] | (simp only [i64_w, i32_w]; rw [c11b0]) | skip)
     by_cases c16 : a1 = 0
     ·rw [if_pos c16] at H
      exact absurd H (by simp)
     ·rw [if_neg c16] at H
      have c16b0 : (a1 == 0) = false := beq_eq_false_iff_ne.mpr c16
      have c16b1 : (a1 != 0) = true := bne_iff_ne.mpr c16
      have H' := Aside0.mk H
      clear H
      go_wp2_with (first | ((with_reducible refine gate_callee (f := 27) rfl ?_); refine goesL_ (some 17) rfl rfl Try.func27 (by kernel_rfl) rfl #[.slice A0 l0.length c0, .int .i64 a1] rfl (by (try simp only [List.map_toArray, List.map_cons, List.map_nil]); first | done | rfl | (simp only [List.length_drop, List.length_take]; rfl)) ?_; (with_reducible refine (spec_GoodAggs.calls k _ _ l0 a1 true _ ?side1 ?side2 A7.out).mono ?_); (case side1 => repeat (first | exact (Kd.C_below HR0.out HB.out) | (with_reducible refine zJ ?_ _) | (with_reducible refine zK ?_ _) | (with_reducible refine zL ?_))); (case side2 => exact HC0.out); rintro e w17 ⟨rfl, hb⟩; refine ⟨_, rfl, ?_⟩; have n0_ := Aside0.mk (below_step (by repeat (first | (with_reducible first | exact HB.out | apply zA | apply zB | apply zC) | exact HB.out)) hb); clear HB; have HB := n0_; clear n0_; (try clear hb); (try clear hb2); (try clear hk); (try clear hi)) | (go_at_call 37; (with_reducible refine (spec_l11Span.calls a2 a3 true _ A9.out).mono ?_); rintro e w' ⟨rfl, ⟨nd, rfl⟩⟩))
      go_meet
      case rel => exact ⟨_, (((Int.tmod a3 a1) != 0)), (by first | rfl | (simp; done) | (simp [*]; done)), H', ⟨by first | omega | exact Nat.le_refl _⟩, ⟨by repeat (first | (with_reducible first | exact HB.out | apply zA | apply zB | apply zC) | exact HB.out)⟩⟩
   ·replace c10 := Bool.eq_false_iff.mpr c10
    subst c10
    have H1 : (spec_AggOver.j0 k l0 a2 a3 a4 true) = some (r1, r2) := by rw [if_neg (show ¬ (false = true) by decide)] at H; exact H
    clear H
    have H := H1
    clear H1
    have H' := Aside0.mk H
    clear H
    go_wp2_with (first | ((with_reducible refine gate_callee (f := 27) rfl ?_); refine goesL_ (some 17) rfl rfl Try.func27 (by kernel_rfl) rfl #[.slice A0 l0.length c0, .int .i64 a1] rfl (by (try simp only [List.map_toArray, List.map_cons, List.map_nil]); first | done | rfl | (simp only [List.length_drop, List.length_take]; rfl)) ?_; (with_reducible refine (spec_GoodAggs.calls k _ _ l0 a1 true _ ?side1 ?side2 A7.out).mono ?_); (case side1 => repeat (first | exact (Kd.C_below HR0.out HB.out) | (with_reducible refine zJ ?_ _) | (with_reducible refine zK ?_ _) | (with_reducible refine zL ?_))); (case side2 => exact HC0.out); rintro e w18 ⟨rfl, hb⟩; refine ⟨_, rfl, ?_⟩; have n0_ := Aside0.mk (below_step (by repeat (first | (with_reducible first | exact HB.out | apply zA | apply zB | apply zC) | exact HB.out)) hb); clear HB; have HB := n0_; clear n0_; (try clear hb); (try clear hb2); (try clear hk); (try clear hi)) | (go_at_call 37; (with_reducible refine (spec_l11Span.calls a2 a3 false _ A9.out).mono ?_); rintro e w' ⟨rfl, ⟨nd, rfl⟩⟩))
    go_meet
    case rel => exact ⟨_, (true), (by first | rfl | (simp; done) | (simp [*]; done)), H', ⟨by first | omega | exact Nat.le_refl _⟩, ⟨by repeat (first | (with_reducible first | exact HB.out | apply zA | apply zB | apply zC) | exact HB.out)⟩⟩
  ·replace c8 := Bool.eq_false_iff.mpr c8
   subst c8
   have H1 : (spec_AggOver.j0 k l0 a2 a3 a4 true) = some (r1, r2) := by rw [if_neg (show ¬ (false = true) by decide)] at H; exact H
   clear H
   have H := H1
   clear H1
   have H' := Aside0.mk H
   clear H
   go_wp2_with (first | ((with_reducible refine gate_callee (f := 27) rfl ?_); refine goesL_ (some 17) rfl rfl Try.func27 (by kernel_rfl) rfl #[.slice A0 l0.length c0, .int .i64 a1] rfl (by (try simp only [List.map_toArray, List.map_cons, List.map_nil]); first | done | rfl | (simp only [List.length_drop, List.length_take]; rfl)) ?_; (with_reducible refine (spec_GoodAggs.calls k _ _ l0 a1 false _ ?side1 ?side2 A7.out).mono ?_); (case side1 => repeat (first | exact (Kd.C_below HR0.out HB.out) | (with_reducible refine zJ ?_ _) | (with_reducible refine zK ?_ _) | (with_reducible refine zL ?_))); (case side2 => exact HC0.out); rintro e w19 ⟨rfl, hb⟩; refine ⟨_, rfl, ?_⟩; have n0_ := Aside0.mk (below_step (by repeat (first | (with_reducible first | exact HB.out | apply zA | apply zB | apply zC) | exact HB.out)) hb); clear HB; have HB := n0_; clear n0_; (try clear hb); (try clear hb2); (try clear hk); (try clear hi)))
   go_meet
   case rel => exact ⟨_, (true), (by first | rfl | (simp; done) | (simp [*]; done)), H', ⟨by first | omega | exact Nat.le_refl _⟩, ⟨by repeat (first | (with_reducible first | exact HB.out | apply zA | apply zB | apply zC) | exact HB.out)⟩⟩
 case rest =>
  clear HC6
  try clear c1
  try clear c2
  try clear p2
  try clear c8
  try clear c9
  try clear c10
  try clear c11
  try clear c11b0
  try clear c12
  try clear c12b0
  try clear c12b1
  try clear c13
  try clear c13b0
  try clear c13b1
  try clear c16
  try clear c16b0
  try clear c16b1
  obtain ⟨kq, x40_5, rfl, HA, HJ5, HB⟩ := hcut
  cases kq with
  | zero => exact absurd HA.out (by simp [spec_AggOver.j0])
  | succ kj5 =>
   have H := HA.out
   clear HA
   simp only [spec_AggOver.j0] at H
   by_cases c20 : x40_5 = true
   ·subst c20
    have H1 : (some (0, false)) = some (r1, r2) := by rw [if_pos rfl] at H; exact H
    clear H
    have H := H1
    clear H1
    simp only [Option.some.injEq, Prod.mk.injEq] at H
    obtain ⟨rfl, rfl⟩ := H
    go_wp2
    go_ret2
    exact ⟨by first | rfl | (simp [errW_none, errW_some] <;> rfl) | (simp [*, errW_none, errW_some] <;> rfl), by repeat (first | (with_reducible first | exact HB.out | apply zA | apply zB | apply zC) | exact HB.out)⟩
   ·replace c20 := Bool.eq_false_iff.mpr c20
    subst c20
    have H1 : (spec_AggOver.l0 kj5 a2 a3 a4 l0 (l0.length : Int) 0 0 0 0 0 0 0 0 0) = some (r1, r2) := by rw [if_neg (show ¬ (false = true) by decide)] at H; exact H
    clear H
    have H := H1
    clear H1
    have H' := Aside0.mk H
    clear H
    go_wp2_with (first | ((with_reducible refine gate_dst (N := 12) rfl ?_); refine box_event ?hg (N := 12) ?hd (cs := #[.int .i64 0, .int .i64 0, .int .i64 0, .int .i64 0, .int .i64 0, .int .i64 0, .int .i64 0, .int .i64 0]) (t := 55) ?hr ?_; (case hd => rfl); (case hg => rfl); (case hr => first | (go_simp; done) | (go_simp; rfl)); intro gb115 hg w21 hbox hb; have n0_ := Aside0.mk (below_step (by repeat (first | (with_reducible first | exact HB.out | apply zA | apply zB | apply zC) | exact HB.out)) hb); have n1_ := Aside0.mk (hbox); have n2_ := Aside0.mk ((by rw [hg]; exact (zW (by repeat (first | (with_reducible first | exact HB.out | apply zA | apply zB | apply zC) | exact HB.out))) : w.heap.size ≤ gb115)); have n3_ := Aside0.mk ((by rw [hg]; exact (zW (by repeat (first | (with_reducible first | exact HB.out | apply zA | apply zB | apply zC) | exact HB.out))) : w.heap.size ≤ gb115)); clear HB; have HB := n0_; have BK115 := n1_; have GW115 := n2_; have GE115 := n3_; clear n0_ n1_ n2_ n3_; clear hb hbox hg; have hcz22_0 : w21.cell? ⟨gb115, 0, none⟩ = some (.int .i64 0) := (zQ BK115.out 0).trans rfl; have hcz22_1 : w21.cell? ⟨gb115, 1, none⟩ = some (.int .i64 0) := (zQ BK115.out 1).trans rfl; have hcz22_2 : w21.cell? ⟨gb115, 2, none⟩ = some (.int .i64 0) := (zQ BK115.out 2).trans rfl; have hcz22_3 : w21.cell? ⟨gb115, 3, none⟩ = some (.int .i64 0) := (zQ BK115.out 3).trans rfl; have hcz22_4 : w21.cell? ⟨gb115, 4, none⟩ = some (.int .i64 0) := (zQ BK115.out 4).trans rfl; have hcz22_5 : w21.cell? ⟨gb115, 5, none⟩ = some (.int .i64 0) := (zQ BK115.out 5).trans rfl; have hcz22_6 : w21.cell? ⟨gb115, 6, none⟩ = some (.int .i64 0) := (zQ BK115.out 6).trans rfl; have hcz22_7 : w21.cell? ⟨gb115, 7, none⟩ = some (.int .i64 0) := (zQ BK115.out 7).trans rfl; have hfz22_0 := blk_frozen BK115.out 0; have hfz22_1 := blk_frozen BK115.out 1; have hfz22_2 := blk_frozen BK115.out 2; have hfz22_3 := blk_frozen BK115.out 3; have hfz22_4 := blk_frozen BK115.out 4; have hfz22_5 := blk_frozen BK115.out 5; have hfz22_6 := blk_frozen BK115.out 6; have hfz22_7 := blk_frozen BK115.out 7))
    go_loopg [44] kj5 (fun kq v44 w' => ∃ (x44_2 : Int) (x116000_2 : Int) (x116001_2 : Int) (x116002_2 : Int) (x116003_2 : Int) (x116004_2 : Int) (x116005_2 : Int) (x116006_2 : Int) (x116007_2 : Int), v44 = .int .i64 x44_2 ∧ Aside0 (spec_AggOver.l0 kq a2 a3 a4 l0 (l0.length : Int) x44_2 x116000_2 x116001_2 x116002_2 x116003_2 x116004_2 x116005_2 x116006_2 x116007_2 = some (r1, r2)) ∧ Aside0 (kq ≤ kj5) ∧ Aside0 (w'.heap[gb115]? = some (.cells #[.int .i64 x116000_2, .int .i64 x116001_2, .int .i64 x116002_2, .int .i64 x116003_2, .int .i64 x116004_2, .int .i64 x116005_2, .int .i64 x116006_2, .int .i64 x116007_2] 55 (0, 0))) ∧ Aside0 (Below w.heap.size w w'))
    case atStart => exact ⟨(0), (0), (0), (0), (0), (0), (0), (0), (0), (by first | rfl | (simp; done) | (simp [*]; done)), H', ⟨Nat.le_refl _⟩, ⟨by (with_reducible repeat (first | refine zE ?_ _ | refine zF ?_ | refine zD ?_ _)); refine blk_put (cs := #[.int .i64 0, .int .i64 0, .int .i64 0, .int .i64 0, .int .i64 0, .int .i64 0, .int .i64 0, .int .i64 0]) ?_ 7 _ rfl; (with_reducible repeat (first | refine zE ?_ _ | refine zF ?_ | refine zD ?_ _)); refine blk_put (cs := #[.int .i64 0, .int .i64 0, .int .i64 0, .int .i64 0, .int .i64 0, .int .i64 0, .int .i64 0, .int .i64 0]) ?_ 6 _ rfl; (with_reducible repeat (first | refine zE ?_ _ | refine zF ?_ | refine zD ?_ _)); refine blk_put (cs := #[.int .i64 0, .int .i64 0, .int .i64 0, .int .i64 0, .int .i64 0, .int .i64 0, .int .i64 0, .int .i64 0]) ?_ 5 _ rfl; (with_reducible repeat (first | refine zE ?_ _ | refine zF ?_ | refine zD ?_ _)); refine blk_put (cs := #[.int .i64 0, .int .i64 0, .int .i64 0, .int .i64 0, .int .i64 0, .int .i64 0, .int .i64 0, .int .i64 0]) ?_ 4 _ rfl; (with_reducible repeat (first | refine zE ?_ _ | refine zF ?_ | refine zD ?_ _)); refine blk_put (cs := #[.int .i64 0, .int .i64 0, .int .i64 0, .int .i64 0, .int .i64 0, .int .i64 0, .int .i64 0, .int .i64 0]) ?_ 3 _ rfl; (with_reducible repeat (first | refine zE ?_ _ | refine zF ?_ | refine zD ?_ _)); refine blk_put (cs := #[.int .i64 0, .int .i64 0, .int .i64 0, .int .i64 0, .int .i64 0, .int .i64 0, .int .i64 0, .int .i64 0]) ?_ 2 _ rfl; (with_reducible repeat (first | refine zE ?_ _ | refine zF ?_ | refine zD ?_ _)); refine blk_put (cs := #[.int .i64 0, .int .i64 0, .int .i64 0, .int .i64 0, .int .i64 0, .int .i64 0, .int .i64 0, .int .i64 0]) ?_ 1 _ rfl; (with_reducible repeat (first | refine zE ?_ _ | refine zF ?_ | refine zD ?_ _)); refine blk_put (cs := #[.int .i64 0, .int .i64 0, .int .i64 0, .int .i64 0, .int .i64 0, .int .i64 0, .int .i64 0, .int .i64 0]) ?_ 0 _ rfl; (with_reducible repeat (first | refine zE ?_ _ | refine zF ?_ | refine zD ?_ _)); exact BK115.out⟩, ⟨by repeat (first | (with_reducible first | exact HB.out | apply zA | apply zB | apply zC | refine below_set ?_ GE115.out) | exact HB.out)⟩⟩
    case round =>
     clear H'
     try clear c1
     try clear c2
     try clear p2
     try clear c8
     try clear c9
     try clear c10
     try clear c11
     try clear c11b0
     try clear c12
     try clear c12b0
     try clear c12b1
     try clear c13
     try clear c13b0
     try clear c13b1
     try clear c16
     try clear c16b0
     try clear c16b1
     try clear c20
     try clear hcz22_0
     try clear hcz22_1
     try clear hcz22_2
     try clear hcz22_3
     try clear hcz22_4
     try clear hcz22_5
     try clear hcz22_6
     try clear hcz22_7
     try clear hfz22_0
     try clear hfz22_1
     try clear hfz22_2
     try clear hfz22_3
     try clear hfz22_4
     try clear hfz22_5
     try clear hfz22_6
     try clear hfz22_7
     try clear p2
     obtain ⟨x44_2, x116000_2, x116001_2, x116002_2, x116003_2, x116004_2, x116005_2, x116006_2, x116007_2, rfl, HA, HK2, BK115, HB⟩ := hrel
     cases gk with
     | zero => exact absurd HA.out (by simp [spec_AggOver.l0])
     | succ k2 =>
      have H := HA.out
      clear HA
      simp only [spec_AggOver.l0] at H
      by_cases c23 : x44_2 < (l0.length : Int)
      ·rw [if_pos c23] at H
       have c23b0 : decide (x44_2 < (l0.length : Int)) = true := decide_eq_true c23
       clear c23
       by_cases c24 : 0 ≤ x44_2
       ·rw [if_pos c24] at H
        have c24b0 : decide (0 ≤ x44_2) = true := decide_eq_true c24
        clear c24
        by_cases c25 : x44_2 < (l0.length : Int)
        ·rw [if_pos c25] at H
         have c25b0 : decide (x44_2 < (l0.length : Int)) = true := decide_eq_true c25
         clear c25
         have HC26 := Aside0.mk H
         clear H
         have p116 : 0 ≤ (x44_2 : Int) := zX (by first | (with_reducible assumption) | assumption)
         have q116 : x44_2 < (l0.length : Int) := zX (by first | (with_reducible assumption) | assumption)
         obtain ⟨ad116, e116, hx116_0, hx116_1, hx116_2, hx116_3, hx116_4, hx116_5, hx116_6, hx116_7⟩ := at_T55 HR0.out x44_2 p116 q116
         cases e116
         replace hx116_0 := (HB.out.cell (zR w _ hx116_0)).trans hx116_0
         replace hx116_1 := (HB.out.cell (zR w _ hx116_1)).trans hx116_1
         replace hx116_2 := (HB.out.cell (zR w _ hx116_2)).trans hx116_2
         replace hx116_3 := (HB.out.cell (zR w _ hx116_3)).trans hx116_3
         replace hx116_4 := (HB.out.cell (zR w _ hx116_4)).trans hx116_4
         replace hx116_5 := (HB.out.cell (zR w _ hx116_5)).trans hx116_5
         replace hx116_6 := (HB.out.cell (zR w _ hx116_6)).trans hx116_6
         replace hx116_7 := (HB.out.cell (zR w _ hx116_7)).trans hx116_7
         replace p116 := eq_true p116
         replace q116 := eq_true q116
         go_upto_region 7 with (first | ((with_reducible refine gate_dst (N := 14) rfl ?_); refine box_event ?hg (N := 14) ?hd (cs := #[.int .i64 0, .int .i64 0, .int .i64 0, .int .i64 0, .int .i64 0, .int .i64 0, .int .i64 0, .int .i64 0]) (t := 55) ?hr ?_; (case hd => rfl); (case hg => rfl); (case hr => first | (go_simp; done) | (go_simp; rfl)); intro gb117 hg w27 hbox hb; have n0_ := Aside0.mk (blk_below (g := gb115) (o := cs8 55 x116000_2 x116001_2 x116002_2 x116003_2 x116004_2 x116005_2 x116006_2 x116007_2) (by (with_reducible repeat (first | refine zE ?_ _ | refine zF ?_ | refine zD ?_ _)); exact BK115.out) hb); have n1_ := Aside0.mk (below_step (by repeat (first | (with_reducible first | exact HB.out | apply zA | apply zB | apply zC | refine below_set ?_ GE115.out) | exact HB.out)) hb); have n2_ := Aside0.mk (hbox); have n3_ := Aside0.mk ((by rw [hg]; exact (zW (by repeat (first | (with_reducible first | exact HB.out | apply zA | apply zB | apply zC | refine below_set ?_ GE115.out) | exact HB.out))) : w.heap.size ≤ gb117)); have n4_ := Aside0.mk ((by rw [hg]; exact (zW (by repeat (first | (with_reducible first | exact HB.out | apply zA | apply zB | apply zC | refine below_set ?_ GE115.out) | exact HB.out))) : w.heap.size ≤ gb117)); have n5_ := Aside0.mk ((by rw [hg]; exact Nat.ne_of_lt (blk_lt (g := gb115) (o := cs8 55 x116000_2 x116001_2 x116002_2 x116003_2 x116004_2 x116005_2 x116006_2 x116007_2) (by (with_reducible repeat (first | refine zE ?_ _ | refine zF ?_ | refine zD ?_ _)); exact BK115.out)) : gb115 ≠ gb117)); have n6_ := Aside0.mk ((by rw [hg]; exact Nat.ne_of_gt (blk_lt (g := gb115) (o := cs8 55 x116000_2 x116001_2 x116002_2 x116003_2 x116004_2 x116005_2 x116006_2 x116007_2) (by (with_reducible repeat (first | refine zE ?_ _ | refine zF ?_ | refine zD ?_ _)); exact BK115.out)) : gb117 ≠ gb115)); clear BK115; clear HB; have BK115 := n0_; have HB := n1_; have BK117 := n2_; have GW117 := n3_; have GE117 := n4_; have NB115_117 := n5_; have NB117_115 := n6_; clear n0_ n1_ n2_ n3_ n4_ n5_ n6_; clear hb hbox hg; have hnb28 := NB117_115.out; have hnc28 := NB115_117.out; have hcz29_0 : w27.cell? ⟨gb117, 0, none⟩ = some (.int .i64 0) := (zQ BK117.out 0).trans rfl; have hcz29_1 : w27.cell? ⟨gb117, 1, none⟩ = some (.int .i64 0) := (zQ BK117.out 1).trans rfl; have hcz29_2 : w27.cell? ⟨gb117, 2, none⟩ = some (.int .i64 0) := (zQ BK117.out 2).trans rfl; have hcz29_3 : w27.cell? ⟨gb117, 3, none⟩ = some (.int .i64 0) := (zQ BK117.out 3).trans rfl; have hcz29_4 : w27.cell? ⟨gb117, 4, none⟩ = some (.int .i64 0) := (zQ BK117.out 4).trans rfl; have hcz29_5 : w27.cell? ⟨gb117, 5, none⟩ = some (.int .i64 0) := (zQ BK117.out 5).trans rfl; have hcz29_6 : w27.cell? ⟨gb117, 6, none⟩ = some (.int .i64 0) := (zQ BK117.out 6).trans rfl; have hcz29_7 : w27.cell? ⟨gb117, 7, none⟩ = some (.int .i64 0) := (zQ BK117.out 7).trans rfl; have hfz29_0 := blk_frozen BK117.out 0; have hfz29_1 := blk_frozen BK117.out 1; have hfz29_2 := blk_frozen BK117.out 2; have hfz29_3 := blk_frozen BK117.out 3; have hfz29_4 := blk_frozen BK117.out 4; have hfz29_5 := blk_frozen BK117.out 5; have hfz29_6 := blk_frozen BK117.out 6; have hfz29_7 := blk_frozen BK117.out 7))
         (try simp only [Act.put, zT, zU, zV])
         go_cut [57] (fun v57 wc => ∃ (kq : Nat) (x57_25 : Bool), v57 = .bool x57_25 ∧ Aside0 (spec_AggOver.j2 kq a2 a3 a4 l0 (l0.length : Int) x44_2 x57_25 x116000_2 x116001_2 x116002_2 x116003_2 x116004_2 x116005_2 x116006_2 x116007_2 ((rd_T55 l0 x44_2).f0) ((rd_T55 l0 x44_2).f1) ((rd_T55 l0 x44_2).f2) ((rd_T55 l0 x44_2).f3) ((rd_T55 l0 x44_2).f4) ((rd_T55 l0 x44_2).f5) ((rd_T55 l0 x44_2).f6) ((rd_T55 l0 x44_2).f7) = some (r1, r2)) ∧ Aside0 (kq ≤ k2) ∧ Aside0 (wc.heap[gb115]? = some (.cells #[.int .i64 x116000_2, .int .i64 x116001_2, .int .i64 x116002_2, .int .i64 x116003_2, .int .i64 x116004_2, .int .i64 x116005_2, .int .i64 x116006_2, .int .i64 x116007_2] 55 (0, 0))) ∧ Aside0 (wc.heap[gb117]? = some (.cells #[.int .i64 ((rd_T55 l0 x44_2).f0), .int .i64 ((rd_T55 l0 x44_2).f1), .int .i64 ((rd_T55 l0 x44_2).f2), .int .i64 ((rd_T55 l0 x44_2).f3), .int .i64 ((rd_T55 l0 x44_2).f4), .int .i64 ((rd_T55 l0 x44_2).f5), .int .i64 ((rd_T55 l0 x44_2).f6), .int .i64 ((rd_T55 l0 x44_2).f7)] 55 (0, 0))) ∧ Aside0 (Below w.heap.size w wc))
         case first =>
          have H := HC26.out
          clear HC26
          by_cases c30 : ((rd_T55 l0 x44_2).f0) ≤ a2
          ·rw [if_pos c30] at H
           have c30b0 : decide (((rd_T55 l0 x44_2).f0) ≤ a2) = true := decide_eq_true c30
           clear c30
           (first | rw [c30b0] | (simp only [i64_w, i32_w]; rw [c30b0]) | skip)
           have H' := Aside0.mk H
           clear H
           have hnb31 := NB117_115.out
           have hnc31 := NB115_117.out
           have hcz32_0 : w27.cell? ⟨gb117, 0, none⟩ = some (.int .i64 0) := (zQ BK117.out 0).trans rfl
           have hcz32_1 : w27.cell? ⟨gb117, 1, none⟩ = some (.int .i64 0) := (zQ BK117.out 1).trans rfl
           have hcz32_2 : w27.cell? ⟨gb117, 2, none⟩ = some (.int .i64 0) := (zQ BK117.out 2).trans rfl
           have hcz32_3 : w27.cell? ⟨gb117, 3, none⟩ = some (.int .i64 0) := (zQ BK117.out 3).trans rfl
           have hcz32_4 : w27.cell? ⟨gb117, 4, none⟩ = some (.int .i64 0) := (zQ BK117.out 4).trans rfl
           have hcz32_5 : w27.cell? ⟨gb117, 5, none⟩ = some (.int .i64 0) := (zQ BK117.out 5).trans rfl
           have hcz32_6 : w27.cell? ⟨gb117, 6, none⟩ = some (.int .i64 0) := (zQ BK117.out 6).trans rfl
           have hcz32_7 : w27.cell? ⟨gb117, 7, none⟩ = some (.int .i64 0) := (zQ BK117.out 7).trans rfl
           have hfz32_0 := blk_frozen BK117.out 0
           have hfz32_1 := blk_frozen BK117.out 1
           have hfz32_2 := blk_frozen BK117.out 2
           have hfz32_3 := blk_frozen BK117.out 3
           have hfz32_4 := blk_frozen BK117.out 4
           have hfz32_5 := blk_frozen BK117.out 5
           have hfz32_6 := blk_frozen BK117.out 6
           have hfz32_7 := blk_frozen BK117.out 7
           go_wp2
           go_meet
           case rel => exact ⟨_, (true), (by first | rfl | (simp; done) | (simp [*]; done)), H', ⟨by have := HJ5.out; have := HK2.out; first | omega | exact Nat.le_refl _⟩, ⟨by (with_reducible repeat (first | refine zE ?_ _ | refine zF ?_ | refine zD ?_ _)); refine blk_far ?_ NB115_117.out _; (with_reducible repeat (first | refine zE ?_ _ | refine zF ?_ | refine zD ?_ _)); refine blk_far ?_ NB115_117.out _; (with_reducible repeat (first | refine zE ?_ _ | refine zF ?_ | refine zD ?_ _)); refine blk_far ?_ NB115_117.out _; (with_reducible repeat (first | refine zE ?_ _ | refine zF ?_ | refine zD ?_ _)); refine blk_far ?_ NB115_117.out _; (with_reducible repeat (first | refine zE ?_ _ | refine zF ?_ | refine zD ?_ _)); refine blk_far ?_ NB115_117.out _; (with_reducible repeat (first | refine zE ?_ _ | refine zF ?_ | refine zD ?_ _)); refine blk_far ?_ NB115_117.out _; (with_reducible repeat (first | refine zE ?_ _ | refine zF ?_ | refine zD ?_ _)); refine blk_far ?_ NB115_117.out _; (with_reducible repeat (first | refine zE ?_ _ | refine zF ?_ | refine zD ?_ _)); refine blk_far ?_ NB115_117.out _; (with_reducible repeat (first | refine zE ?_ _ | refine zF ?_ | refine zD ?_ _)); exact BK115.out⟩, ⟨by (with_reducible repeat (first | refine zE ?_ _ | refine zF ?_ | refine zD ?_ _)); refine blk_put (cs := #[.int .i64 ((rd_T55 l0 x44_2).f0), .int .i64 ((rd_T55 l0 x44_2).f1), .int .i64 ((rd_T55 l0 x44_2).f2), .int .i64 ((rd_T55 l0 x44_2).f3), .int .i64 ((rd_T55 l0 x44_2).f4), .int .i64 ((rd_T55 l0 x44_2).f5), .int .i64 ((rd_T55 l0 x44_2).f6), .int .i64 0]) ?_ 7 _ rfl; (with_reducible repeat (first | refine zE ?_ _ | refine zF ?_ | refine zD ?_ _)); refine blk_put (cs := #[.int .i64 ((rd_T55 l0 x44_2).f0), .int .i64 ((rd_T55 l0 x44_2).f1), .int .i64 ((rd_T55 l0 x44_2).f2), .int .i64 ((rd_T55 l0 x44_2).f3), .int .i64 ((rd_T55 l0 x44_2).f4), .int .i64 ((rd_T55 l0 x44_2).f5), .int .i64 0, .int .i64 0]) ?_ 6 _ rfl; (with_reducible repeat (first | refine zE ?_ _ | refine zF ?_ | refine zD ?_ _)); refine blk_put (cs := #[.int .i64 ((rd_T55 l0 x44_2).f0), .int .i64 ((rd_T55 l0 x44_2).f1), .int .i64 ((rd_T55 l0 x44_2).f2), .int .i64 ((rd_T55 l0 x44_2).f3), .int .i64 ((rd_T55 l0 x44_2).f4), .int .i64 0, .int .i64 0, .int .i64 0]) ?_ 5 _ rfl; (with_reducible repeat (first | refine zE ?_ _ | refine zF ?_ | refine zD ?_ _)); refine blk_put (cs := #[.int .i64 ((rd_T55 l0 x44_2).f0), .int .i64 ((rd_T55 l0 x44_2).f1), .int .i64 ((rd_T55 l0 x44_2).f2), .int .i64 ((rd_T55 l0 x44_2).f3), .int .i64 0, .int .i64 0, .int .i64 0, .int .i64 0]) ?_ 4 _ rfl; (with_reducible repeat (first | refine zE ?_ _ | refine zF ?_ | refine zD ?_ _)); refine blk_put (cs := #[.int .i64 ((rd_T55 l0 x44_2).f0), .int .i64 ((rd_T55 l0 x44_2).f1), .int .i64 ((rd_T55 l0 x44_2).f2), .int .i64 0, .int .i64 0, .int .i64 0, .int .i64 0, .int .i64 0]) ?_ 3 _ rfl; (with_reducible repeat (first | refine zE ?_ _ | refine zF ?_ | refine zD ?_ _)); refine blk_put (cs := #[.int .i64 ((rd_T55 l0 x44_2).f0), .int .i64 ((rd_T55 l0 x44_2).f1), .int .i64 0, .int .i64 0, .int .i64 0, .int .i64 0, .int .i64 0, .int .i64 0]) ?_ 2 _ rfl; (with_reducible repeat (first | refine zE ?_ _ | refine zF ?_ | refine zD ?_ _)); refine blk_put (cs := #[.int .i64 ((rd_T55 l0 x44_2).f0), .int .i64 0, .int .i64 0, .int .i64 0, .int .i64 0, .int .i64 0, .int .i64 0, .int .i64 0]) ?_ 1 _ rfl; (with_reducible repeat (first | refine zE ?_ _ | refine zF ?_ | refine zD ?_ _)); refine blk_put (cs := #[.int .i64 0, .int .i64 0, .int .i64 0, .int .i64 0, .int .i64 0, .int .i64 0, .int .i64 0, .int .i64 0]) ?_ 0 _ rfl; (with_reducible repeat (first | refine zE ?_ _ | refine zF ?_ | refine zD ?_ _)); exact BK117.out⟩, ⟨by repeat (first | (with_reducible first | exact HB.out | apply zA | apply zB | apply zC | refine below_set ?_ GE115.out | refine below_set ?_ GE117.out) | exact HB.out)⟩⟩
          ·rw [if_neg c30] at H
           have c30b0 : decide (((rd_T55 l0 x44_2).f0) ≤ a2) = false := decide_eq_false c30
           clear c30
           (first | rw [c30b0] | (simp only [i64_w, i32_w]; rw [c30b0]) | skip)
           have H' := Aside0.mk H
           clear H
           have hnb33 := NB117_115.out
           have hnc33 := NB115_117.out
           have hcz34_0 : w27.cell? ⟨gb117, 0, none⟩ = some (.int .i64 0) := (zQ BK117.out 0).trans rfl
           have hcz34_1 : w27.cell? ⟨gb117, 1, none⟩ = some (.int .i64 0) := (zQ BK117.out 1).trans rfl
           have hcz34_2 : w27.cell? ⟨gb117, 2, none⟩ = some (.int .i64 0) := (zQ BK117.out 2).trans rfl
           have hcz34_3 : w27.cell? ⟨gb117, 3, none⟩ = some (.int .i64 0) := (zQ BK117.out 3).trans rfl
           have hcz34_4 : w27.cell? ⟨gb117, 4, none⟩ = some (.int .i64 0) := (zQ BK117.out 4).trans rfl
           have hcz34_5 : w27.cell? ⟨gb117, 5, none⟩ = some (.int .i64 0) := (zQ BK117.out 5).trans rfl
           have hcz34_6 : w27.cell? ⟨gb117, 6, none⟩ = some (.int .i64 0) := (zQ BK117.out 6).trans rfl
           have hcz34_7 : w27.cell? ⟨gb117, 7, none⟩ = some (.int .i64 0) := (zQ BK117.out 7).trans rfl
           have hfz34_0 := blk_frozen BK117.out 0
           have hfz34_1 := blk_frozen BK117.out 1
           have hfz34_2 := blk_frozen BK117.out 2
           have hfz34_3 := blk_frozen BK117.out 3
           have hfz34_4 := blk_frozen BK117.out 4
           have hfz34_5 := blk_frozen BK117.out 5
           have hfz34_6 := blk_frozen BK117.out 6
           have hfz34_7 := blk_frozen BK117.out 7
           go_wp2
           go_meet
           case rel => exact ⟨_, (decide (((rd_T55 l0 x44_2).f0) > a3)), (by first | rfl | (simp; done) | (simp [*]; done)), H', ⟨by have := HJ5.out; have := HK2.out; first | omega | exact Nat.le_refl _⟩, ⟨by (with_reducible repeat (first | refine zE ?_ _ | refine zF ?_ | refine zD ?_ _)); refine blk_far ?_ NB115_117.out _; (with_reducible repeat (first | refine zE ?_ _ | refine zF ?_ | refine zD ?_ _)); refine blk_far ?_ NB115_117.out _; (with_reducible repeat (first | refine zE ?_ _ | refine zF ?_ | refine zD ?_ _)); refine blk_far ?_ NB115_117.out _; (with_reducible repeat (first | refine zE ?_ _ | refine zF ?_ | refine zD ?_ _)); refine blk_far ?_ NB115_117.out _; (with_reducible repeat (first | refine zE ?_ _ | refine zF ?_ | refine zD ?_ _)); refine blk_far ?_ NB115_117.out _; (with_reducible repeat (first | refine zE ?_ _ | refine zF ?_ | refine zD ?_ _)); refine blk_far ?_ NB115_117.out _; (with_reducible repeat (first | refine zE ?_ _ | refine zF ?_ | refine zD ?_ _)); refine blk_far ?_ NB115_117.out _; (with_reducible repeat (first | refine zE ?_ _ | refine zF ?_ | refine zD ?_ _)); refine blk_far ?_ NB115_117.out _; (with_reducible repeat (first | refine zE ?_ _ | refine zF ?_ | refine zD ?_ _)); exact BK115.out⟩, ⟨by (with_reducible repeat (first | refine zE ?_ _ | refine zF ?_ | refine zD ?_ _)); refine blk_put (cs := #[.int .i64 ((rd_T55 l0 x44_2).f0), .int .i64 ((rd_T55 l0 x44_2).f1), .int .i64 ((rd_T55 l0 x44_2).f2), .int .i64 ((rd_T55 l0 x44_2).f3), .int .i64 ((rd_T55 l0 x44_2).f4), .int .i64 ((rd_T55 l0 x44_2).f5), .int .i64 ((rd_T55 l0 x44_2).f6), .int .i64 0]) ?_ 7 _ rfl; (with_reducible repeat (first | refine zE ?_ _ | refine zF ?_ | refine zD ?_ _)); refine blk_put (cs := #[.int .i64 ((rd_T55 l0 x44_2).f0), .int .i64 ((rd_T55 l0 x44_2).f1), .int .i64 ((rd_T55 l0 x44_2).f2), .int .i64 ((rd_T55 l0 x44_2).f3), .int .i64 ((rd_T55 l0 x44_2).f4), .int .i64 ((rd_T55 l0 x44_2).f5), .int .i64 0, .int .i64 0]) ?_ 6 _ rfl; (with_reducible repeat (first | refine zE ?_ _ | refine zF ?_ | refine zD ?_ _)); refine blk_put (cs := #[.int .i64 ((rd_T55 l0 x44_2).f0), .int .i64 ((rd_T55 l0 x44_2).f1), .int .i64 ((rd_T55 l0 x44_2).f2), .int .i64 ((rd_T55 l0 x44_2).f3), .int .i64 ((rd_T55 l0 x44_2).f4), .int .i64 0, .int .i64 0, .int .i64 0]) ?_ 5 _ rfl; (with_reducible repeat (first | refine zE ?_ _ | refine zF ?_ | refine zD ?_ _)); refine blk_put (cs := #[.int .i64 ((rd_T55 l0 x44_2).f0), .int .i64 ((rd_T55 l0 x44_2).f1), .int .i64 ((rd_T55 l0 x44_2).f2), .int .i64 ((rd_T55 l0 x44_2).f3), .int .i64 0, .int .i64 0, .int .i64 0, .int .i64 0]) ?_ 4 _ rfl; (with_reducible repeat (first | refine zE ?_ _ | refine zF ?_ | refine zD ?_ _)); refine blk_put (cs := #[.int .i64 ((rd_T55 l0 x44_2).f0), .int .i64 ((rd_T55 l0 x44_2).f1), .int .i64 ((rd_T55 l0 x44_2).f2), .int .i64 0, .int .i64 0, .int .i64 0, .int .i64 0, .int .i64 0]) ?_ 3 _ rfl; (with_reducible repeat (first | refine zE ?_ _ | refine zF ?_ | refine zD ?_ _)); refine blk_put (cs := #[.int .i64 ((rd_T55 l0 x44_2).f0), .int .i64 ((rd_T55 l0 x44_2).f1), .int .i64 0, .int .i64 0, .int .i64 0, .int .i64 0, .int .i64 0, .int .i64 0]) ?_ 2 _ rfl; (with_reducible repeat (first | refine zE ?_ _ | refine zF ?_ | refine zD ?_ _)); refine blk_put (cs := #[.int .i64 ((rd_T55 l0 x44_2).f0), .int .i64 0, .int .i64 0, .int .i64 0, .int .i64 0, .int .i64 0, .int .i64 0, .int .i64 0]) ?_ 1 _ rfl; (with_reducible repeat (first | refine zE ?_ _ | refine zF ?_ | refine zD ?_ _)); refine blk_put (cs := #[.int .i64 0, .int .i64 0, .int .i64 0, .int .i64 0, .int .i64 0, .int .i64 0, .int .i64 0, .int .i64 0]) ?_ 0 _ rfl; (with_reducible repeat (first | refine zE ?_ _ | refine zF ?_ | refine zD ?_ _)); exact BK117.out⟩, ⟨by repeat (first | (with_reducible first | exact HB.out | apply zA | apply zB | apply zC | refine below_set ?_ GE115.out | refine below_set ?_ GE117.out) | exact HB.out)⟩⟩
         case rest =>
          clear HC26
          try clear c1
          try clear p1
          try clear q1
          try clear hx1
          try clear c2
          try clear p2
          try clear c3
          try clear c8
          try clear c9
          try clear c10
          try clear c11
          try clear c11b0
          try clear p11
          try clear q11
          try clear hx11
          try clear c12
          try clear c12b0
          try clear c12b1
          try clear c13
          try clear c13b0
          try clear c13b1
          try clear c16
          try clear c16b0
          try clear c16b1
          try clear c20
          try clear c23
          try clear c23b0
          try clear c24
          try clear c24b0
          try clear c25
          try clear c25b0
          try clear c27
          try clear c28
          try clear c30
          try clear c30b0
          try clear c31
          try clear c33
          try clear hcz22_0
          try clear hcz22_1
          try clear hcz22_2
          try clear hcz22_3
          try clear hcz22_4
          try clear hcz22_5
          try clear hcz22_6
          try clear hcz22_7
          try clear hcz29_0
          try clear hcz29_1
          try clear hcz29_2
          try clear hcz29_3
          try clear hcz29_4
          try clear hcz29_5
          try clear hcz29_6
          try clear hcz29_7
          try clear hcz32_0
          try clear hcz32_1
          try clear hcz32_2
          try clear hcz32_3
          try clear hcz32_4
          try clear hcz32_5
          try clear hcz32_6
          try clear hcz32_7
          try clear hcz34_0
          try clear hcz34_1
          try clear hcz34_2
          try clear hcz34_3
          try clear hcz34_4
          try clear hcz34_5
          try clear hcz34_6
          try clear hcz34_7
          try clear hfz22_0
          try clear hfz22_1
          try clear hfz22_2
          try clear hfz22_3
          try clear hfz22_4
          try clear hfz22_5
          try clear hfz22_6
          try clear hfz22_7
          try clear hfz29_0
          try clear hfz29_1
          try clear hfz29_2
          try clear hfz29_3
          try clear hfz29_4
          try clear hfz29_5
          try clear hfz29_6
          try clear hfz29_7
          try clear hfz32_0
          try clear hfz32_1
          try clear hfz32_2
          try clear hfz32_3
          try clear hfz32_4
          try clear hfz32_5
          try clear hfz32_6
          try clear hfz32_7
          try clear hfz34_0
          try clear hfz34_1
          try clear hfz34_2
          try clear hfz34_3
          try clear hfz34_4
          try clear hfz34_5
          try clear hfz34_6
          try clear hfz34_7
          try clear hx116_0
          try clear hx116_1
          try clear hx116_2
          try clear hx116_3
          try clear hx116_4
          try clear hx116_5
          try clear hx116_6
          try clear hx116_7
          try clear p116
          try clear p2
          try clear q116
          obtain ⟨kq, x57_25, rfl, HA, HJ25, BK115, BK117, HB⟩ := hcut
          cases kq with
          | zero => exact absurd HA.out (by simp [spec_AggOver.j2])
          | succ kj25 =>
           have H := HA.out
           clear HA
           simp only [spec_AggOver.j2] at H
           by_cases c35 : x57_25 = true
           ·subst c35
            have H1 : (spec_AggOver.l0 kj25 a2 a3 a4 l0 (l0.length : Int) (wrap64 (x44_2 + 1)) x116000_2 x116001_2 x116002_2 x116003_2 x116004_2 x116005_2 x116006_2 x116007_2) = some (r1, r2) := by rw [if_pos rfl] at H; exact H
            clear H
            have H := H1
            clear H1
            have H' := Aside0.mk H
            clear H
            go_wp2
            go_roundg kj25
            case measure => have := HJ5.out; have := HK2.out; have := HJ25.out; omega
            case rel => exact ⟨(wrap64 (x44_2 + 1)), (x116000_2), (x116001_2), (x116002_2), (x116003_2), (x116004_2), (x116005_2), (x116006_2), (x116007_2), (by first | rfl | (simp; done) | (simp [*]; done)), H', ⟨by have := HJ5.out; have := HK2.out; have := HJ25.out; omega⟩, ⟨by (with_reducible repeat (first | refine zE ?_ _ | refine zF ?_ | refine zD ?_ _)); exact BK115.out⟩, ⟨by repeat (first | (with_reducible first | exact HB.out | apply zA | apply zB | apply zC | refine below_set ?_ GE115.out | refine below_set ?_ GE117.out) | exact HB.out)⟩⟩
           ·replace c35 := Bool.eq_false_iff.mpr c35
            subst c35
            have H1 : (if x116001_2 = 0 then (spec_AggOver.l0 kj25 a2 a3 a4 l0 (l0.length : Int) (wrap64 (x44_2 + 1)) ((rd_T55 l0 x44_2).f0) ((rd_T55 l0 x44_2).f1) ((rd_T55 l0 x44_2).f2) ((rd_T55 l0 x44_2).f3) ((rd_T55 l0 x44_2).f4) ((rd_T55 l0 x44_2).f5) ((rd_T55 l0 x44_2).f6) ((rd_T55 l0 x44_2).f7)) else ((spec_MergeAgg.f kj25 x116000_2 x116001_2 x116002_2 x116003_2 x116004_2 x116005_2 x116006_2 x116007_2 ((rd_T55 l0 x44_2).f0) ((rd_T55 l0 x44_2).f1) ((rd_T55 l0 x44_2).f2) ((rd_T55 l0 x44_2).f3) ((rd_T55 l0 x44_2).f4) ((rd_T55 l0 x44_2).f5) ((rd_T55 l0 x44_2).f6) ((rd_T55 l0 x44_2).f7)).bind fun bt118 => (spec_AggOver.l0 kj25 a2 a3 a4 l0 (l0.length : Int) (wrap64 (x44_2 + 1)) bt118.1 bt118.2.1 bt118.2.2.1 bt118.2.2.2.1 bt118.2.2.2.2.1 bt118.2.2.2.2.2.1 bt118.2.2.2.2.2.2.1 bt118.2.2.2.2.2.2.2))) = some (r1, r2) := by rw [if_neg (show ¬ (false = true) by decide)] at H; exact H
            clear H
            have H := H1
            clear H1
            by_cases c36 : x116001_2 = 0
            ·rw [if_pos c36] at H
             have c36b0 : (x116001_2 == 0) = true := beq_iff_eq.mpr c36
             have c36b1 : (x116001_2 != 0) = false := bne_eq_false_iff_eq.mpr c36
             clear c36
             have H' := Aside0.mk H
             clear H
             have hnb37 := NB115_117.out
             have hnc37 := NB117_115.out
             have hcz38_0 : wc.cell? ⟨gb115, 0, none⟩ = some (.int .i64 x116000_2) := (zQ BK115.out 0).trans rfl
             have hcz38_1 : wc.cell? ⟨gb115, 1, none⟩ = some (.int .i64 x116001_2) := (zQ BK115.out 1).trans rfl
             have hcz38_2 : wc.cell? ⟨gb115, 2, none⟩ = some (.int .i64 x116002_2) := (zQ BK115.out 2).trans rfl
             have hcz38_3 : wc.cell? ⟨gb115, 3, none⟩ = some (.int .i64 x116003_2) := (zQ BK115.out 3).trans rfl
             have hcz38_4 : wc.cell? ⟨gb115, 4, none⟩ = some (.int .i64 x116004_2) := (zQ BK115.out 4).trans rfl
             have hcz38_5 : wc.cell? ⟨gb115, 5, none⟩ = some (.int .i64 x116005_2) := (zQ BK115.out 5).trans rfl
             have hcz38_6 : wc.cell? ⟨gb115, 6, none⟩ = some (.int .i64 x116006_2) := (zQ BK115.out 6).trans rfl
             have hcz38_7 : wc.cell? ⟨gb115, 7, none⟩ = some (.int .i64 x116007_2) := (zQ BK115.out 7).trans rfl
             have hfz38_0 := blk_frozen BK115.out 0
             have hfz38_1 := blk_frozen BK115.out 1
             have hfz38_2 := blk_frozen BK115.out 2
             have hfz38_3 := blk_frozen BK115.out 3
             have hfz38_4 := blk_frozen BK115.out 4
             have hfz38_5 := blk_frozen BK115.out 5
             have hfz38_6 := blk_frozen BK115.out 6
             have hfz38_7 := blk_frozen BK115.out 7
             have hcz39_0 : wc.cell? ⟨gb117, 0, none⟩ = some (.int .i64 ((rd_T55 l0 x44_2).f0)) := (zQ BK117.out 0).trans rfl
             have hcz39_1 : wc.cell? ⟨gb117, 1, none⟩ = some (.int .i64 ((rd_T55 l0 x44_2).f1)) := (zQ BK117.out 1).trans rfl
             have hcz39_2 : wc.cell? ⟨gb117, 2, none⟩ = some (.int .i64 ((rd_T55 l0 x44_2).f2)) := (zQ BK117.out 2).trans rfl
             have hcz39_3 : wc.cell? ⟨gb117, 3, none⟩ = some (.int .i64 ((rd_T55 l0 x44_2).f3)) := (zQ BK117.out 3).trans rfl
             have hcz39_4 : wc.cell? ⟨gb117, 4, none⟩ = some (.int .i64 ((rd_T55 l0 x44_2).f4)) := (zQ BK117.out 4).trans rfl
             have hcz39_5 : wc.cell? ⟨gb117, 5, none⟩ = some (.int .i64 ((rd_T55 l0 x44_2).f5)) := (zQ BK117.out 5).trans rfl
             have hcz39_6 : wc.cell? ⟨gb117, 6, none⟩ = some (.int .i64 ((rd_T55 l0 x44_2).f6)) := (zQ BK117.out 6).trans rfl
             have hcz39_7 : wc.cell? ⟨gb117, 7, none⟩ = some (.int .i64 ((rd_T55 l0 x44_2).f7)) := (zQ BK117.out 7).trans rfl
             have hfz39_0 := blk_frozen BK117.out 0
             have hfz39_1 := blk_frozen BK117.out 1
             have hfz39_2 := blk_frozen BK117.out 2
             have hfz39_3 := blk_frozen BK117.out 3
             have hfz39_4 := blk_frozen BK117.out 4
             have hfz39_5 := blk_frozen BK117.out 5
             have hfz39_6 := blk_frozen BK117.out 6
             have hfz39_7 := blk_frozen BK117.out 7
             go_wp2
             go_roundg kj25
             case measure => have := HJ5.out; have := HK2.out; have := HJ25.out; omega
             case rel => exact ⟨(wrap64 (x44_2 + 1)), (((rd_T55 l0 x44_2).f0)), (((rd_T55 l0 x44_2).f1)), (((rd_T55 l0 x44_2).f2)), (((rd_T55 l0 x44_2).f3)), (((rd_T55 l0 x44_2).f4)), (((rd_T55 l0 x44_2).f5)), (((rd_T55 l0 x44_2).f6)), (((rd_T55 l0 x44_2).f7)), (by first | rfl | (simp; done) | (simp [*]; done)), H', ⟨by have := HJ5.out; have := HK2.out; have := HJ25.out; omega⟩, ⟨by (with_reducible repeat (first | refine zE ?_ _ | refine zF ?_ | refine zD ?_ _)); refine blk_put (cs := #[.int .i64 ((rd_T55 l0 x44_2).f0), .int .i64 ((rd_T55 l0 x44_2).f1), .int .i64 ((rd_T55 l0 x44_2).f2), .int .i64 ((rd_T55 l0 x44_2).f3), .int .i64 ((rd_T55 l0 x44_2).f4), .int .i64 ((rd_T55 l0 x44_2).f5), .int .i64 ((rd_T55 l0 x44_2).f6), .int .i64 x116007_2]) ?_ 7 _ rfl; (with_reducible repeat (first | refine zE ?_ _ | refine zF ?_ | refine zD ?_ _)); refine blk_put (cs := #[.int .i64 ((rd_T55 l0 x44_2).f0), .int .i64 ((rd_T55 l0 x44_2).f1), .int .i64 ((rd_T55 l0 x44_2).f2), .int .i64 ((rd_T55 l0 x44_2).f3), .int .i64 ((rd_T55 l0 x44_2).f4), .int .i64 ((rd_T55 l0 x44_2).f5), .int .i64 x116006_2, .int .i64 x116007_2]) ?_ 6 _ rfl; (with_reducible repeat (first | refine zE ?_ _ | refine zF ?_ | refine zD ?_ _)); refine blk_put (cs := #[.int .i64 ((rd_T55 l0 x44_2).f0), .int .i64 ((rd_T55 l0 x44_2).f1), .int .i64 ((rd_T55 l0 x44_2).f2), .int .i64 ((rd_T55 l0 x44_2).f3), .int .i64 ((rd_T55 l0 x44_2).f4), .int .i64 x116005_2, .int .i64 x116006_2, .int .i64 x116007_2]) ?_ 5 _ rfl; (with_reducible repeat (first | refine zE ?_ _ | refine zF ?_ | refine zD ?_ _)); refine blk_put (cs := #[.int .i64 ((rd_T55 l0 x44_2).f0), .int .i64 ((rd_T55 l0 x44_2).f1), .int .i64 ((rd_T55 l0 x44_2).f2), .int .i64 ((rd_T55 l0 x44_2).f3), .int .i64 x116004_2, .int .i64 x116005_2, .int .i64 x116006_2, .int .i64 x116007_2]) ?_ 4 _ rfl; (with_reducible repeat (first | refine zE ?_ _ | refine zF ?_ | refine zD ?_ _)); refine blk_put (cs := #[.int .i64 ((rd_T55 l0 x44_2).f0), .int .i64 ((rd_T55 l0 x44_2).f1), .int .i64 ((rd_T55 l0 x44_2).f2), .int .i64 x116003_2, .int .i64 x116004_2, .int .i64 x116005_2, .int .i64 x116006_2, .int .i64 x116007_2]) ?_ 3 _ rfl; (with_reducible repeat (first | refine zE ?_ _ | refine zF ?_ | refine zD ?_ _)); refine blk_put (cs := #[.int .i64 ((rd_T55 l0 x44_2).f0), .int .i64 ((rd_T55 l0 x44_2).f1), .int .i64 x116002_2, .int .i64 x116003_2, .int .i64 x116004_2, .int .i64 x116005_2, .int .i64 x116006_2, .int .i64 x116007_2]) ?_ 2 _ rfl; (with_reducible repeat (first | refine zE ?_ _ | refine zF ?_ | refine zD ?_ _)); refine blk_put (cs := #[.int .i64 ((rd_T55 l0 x44_2).f0), .int .i64 x116001_2, .int .i64 x116002_2, .int .i64 x116003_2, .int .i64 x116004_2, .int .i64 x116005_2, .int .i64 x116006_2, .int .i64 x116007_2]) ?_ 1 _ rfl; (with_reducible repeat (first | refine zE ?_ _ | refine zF ?_ | refine zD ?_ _)); refine blk_put (cs := #[.int .i64 x116000_2, .int .i64 x116001_2, .int .i64 x116002_2, .int .i64 x116003_2, .int .i64 x116004_2, .int .i64 x116005_2, .int .i64 x116006_2, .int .i64 x116007_2]) ?_ 0 _ rfl; (with_reducible repeat (first | refine zE ?_ _ | refine zF ?_ | refine zD ?_ _)); exact BK115.out⟩, ⟨by repeat (first | (with_reducible first | exact HB.out | apply zA | apply zB | apply zC | refine below_set ?_ GE115.out | refine below_set ?_ GE117.out) | exact HB.out)⟩⟩
            ·rw [if_neg c36] at H
             have c36b0 : (x116001_2 == 0) = false := beq_eq_false_iff_ne.mpr c36
             have c36b1 : (x116001_2 != 0) = true := bne_iff_ne.mpr c36
             replace H := Option.bind_eq_some_iff.mp H
             obtain ⟨⟨t118, t119, t120, t121, t122, t123, t124, t125⟩, A400, H⟩ := H
             replace H : (spec_AggOver.l0 kj25 a2 a3 a4 l0 (l0.length : Int) (wrap64 (x44_2 + 1)) t118 t119 t120 t121 t122 t123 t124 t125) = some (r1, r2) := H
             have A40 := Aside0.mk A400
             clear A400
             have H' := Aside0.mk H
             clear H
             have hnb41 := NB115_117.out
             have hnc41 := NB117_115.out
             have hcz42_0 : wc.cell? ⟨gb115, 0, none⟩ = some (.int .i64 x116000_2) := (zQ BK115.out 0).trans rfl
             have hcz42_1 : wc.cell? ⟨gb115, 1, none⟩ = some (.int .i64 x116001_2) := (zQ BK115.out 1).trans rfl
             have hcz42_2 : wc.cell? ⟨gb115, 2, none⟩ = some (.int .i64 x116002_2) := (zQ BK115.out 2).trans rfl
             have hcz42_3 : wc.cell? ⟨gb115, 3, none⟩ = some (.int .i64 x116003_2) := (zQ BK115.out 3).trans rfl
             have hcz42_4 : wc.cell? ⟨gb115, 4, none⟩ = some (.int .i64 x116004_2) := (zQ BK115.out 4).trans rfl
             have hcz42_5 : wc.cell? ⟨gb115, 5, none⟩ = some (.int .i64 x116005_2) := (zQ BK115.out 5).trans rfl
             have hcz42_6 : wc.cell? ⟨gb115, 6, none⟩ = some (.int .i64 x116006_2) := (zQ BK115.out 6).trans rfl
             have hcz42_7 : wc.cell? ⟨gb115, 7, none⟩ = some (.int .i64 x116007_2) := (zQ BK115.out 7).trans rfl
             have hfz42_0 := blk_frozen BK115.out 0
             have hfz42_1 := blk_frozen BK115.out 1
             have hfz42_2 := blk_frozen BK115.out 2
             have hfz42_3 := blk_frozen BK115.out 3
             have hfz42_4 := blk_frozen BK115.out 4
             have hfz42_5 := blk_frozen BK115.out 5
             have hfz42_6 := blk_frozen BK115.out 6
             have hfz42_7 := blk_frozen BK115.out 7
             have hcz43_0 : wc.cell? ⟨gb117, 0, none⟩ = some (.int .i64 ((rd_T55 l0 x44_2).f0)) := (zQ BK117.out 0).trans rfl
             have hcz43_1 : wc.cell? ⟨gb117, 1, none⟩ = some (.int .i64 ((rd_T55 l0 x44_2).f1)) := (zQ BK117.out 1).trans rfl
             have hcz43_2 : wc.cell? ⟨gb117, 2, none⟩ = some (.int .i64 ((rd_T55 l0 x44_2).f2)) := (zQ BK117.out 2).trans rfl
             have hcz43_3 : wc.cell? ⟨gb117, 3, none⟩ = some (.int .i64 ((rd_T55 l0 x44_2).f3)) := (zQ BK117.out 3).trans rfl
             have hcz43_4 : wc.cell? ⟨gb117, 4, none⟩ = some (.int .i64 ((rd_T55 l0 x44_2).f4)) := (zQ BK117.out 4).trans rfl
             have hcz43_5 : wc.cell? ⟨gb117, 5, none⟩ = some (.int .i64 ((rd_T55 l0 x44_2).f5)) := (zQ BK117.out 5).trans rfl
             have hcz43_6 : wc.cell? ⟨gb117, 6, none⟩ = some (.int .i64 ((rd_T55 l0 x44_2).f6)) := (zQ BK117.out 6).trans rfl
             have hcz43_7 : wc.cell? ⟨gb117, 7, none⟩ = some (.int .i64 ((rd_T55 l0 x44_2).f7)) := (zQ BK117.out 7).trans rfl
             have hfz43_0 := blk_frozen BK117.out 0
             have hfz43_1 := blk_frozen BK117.out 1
             have hfz43_2 := blk_frozen BK117.out 2
             have hfz43_3 := blk_frozen BK117.out 3
             have hfz43_4 := blk_frozen BK117.out 4
             have hfz43_5 := blk_frozen BK117.out 5
             have hfz43_6 := blk_frozen BK117.out 6
             have hfz43_7 := blk_frozen BK117.out 7
             go_wp2_with (first | ((with_reducible refine gate_callee (f := 38) rfl ?_); refine goesL_ (some 64) rfl rfl Try.func38 (by kernel_rfl) rfl #[.agg #[.int .i64 x116000_2, .int .i64 x116001_2, .int .i64 x116002_2, .int .i64 x116003_2, .int .i64 x116004_2, .int .i64 x116005_2, .int .i64 x116006_2, .int .i64 x116007_2], .agg #[.int .i64 ((rd_T55 l0 x44_2).f0), .int .i64 ((rd_T55 l0 x44_2).f1), .int .i64 ((rd_T55 l0 x44_2).f2), .int .i64 ((rd_T55 l0 x44_2).f3), .int .i64 ((rd_T55 l0 x44_2).f4), .int .i64 ((rd_T55 l0 x44_2).f5), .int .i64 ((rd_T55 l0 x44_2).f6), .int .i64 ((rd_T55 l0 x44_2).f7)]] rfl (by (try simp only [List.map_toArray, List.map_cons, List.map_nil]); first | done | rfl | (simp only [List.length_drop, List.length_take]; rfl)) ?_; (with_reducible refine (spec_MergeAgg.calls kj25 x116000_2 x116001_2 x116002_2 x116003_2 x116004_2 x116005_2 x116006_2 x116007_2 ((rd_T55 l0 x44_2).f0) ((rd_T55 l0 x44_2).f1) ((rd_T55 l0 x44_2).f2) ((rd_T55 l0 x44_2).f3) ((rd_T55 l0 x44_2).f4) ((rd_T55 l0 x44_2).f5) ((rd_T55 l0 x44_2).f6) ((rd_T55 l0 x44_2).f7) t118 t119 t120 t121 t122 t123 t124 t125 _ A40.out).mono ?_); rintro e w44 ⟨rfl, hb⟩; refine ⟨_, rfl, ?_⟩; have n0_ := Aside0.mk (blk_below (g := gb115) (o := cs8 55 x116000_2 x116001_2 x116002_2 x116003_2 x116004_2 x116005_2 x116006_2 x116007_2) (by (with_reducible repeat (first | refine zE ?_ _ | refine zF ?_ | refine zD ?_ _)); exact BK115.out) hb); have n1_ := Aside0.mk (blk_below (g := gb117) (o := cs8 55 ((rd_T55 l0 x44_2).f0) ((rd_T55 l0 x44_2).f1) ((rd_T55 l0 x44_2).f2) ((rd_T55 l0 x44_2).f3) ((rd_T55 l0 x44_2).f4) ((rd_T55 l0 x44_2).f5) ((rd_T55 l0 x44_2).f6) ((rd_T55 l0 x44_2).f7)) (by (with_reducible repeat (first | refine zE ?_ _ | refine zF ?_ | refine zD ?_ _)); exact BK117.out) hb); have n2_ := Aside0.mk (below_step (by repeat (first | (with_reducible first | exact HB.out | apply zA | apply zB | apply zC | refine below_set ?_ GE115.out | refine below_set ?_ GE117.out) | exact HB.out)) hb); clear BK115; clear BK117; clear HB; have BK115 := n0_; have BK117 := n1_; have HB := n2_; clear n0_ n1_ n2_; (try clear hb); (try clear hb2); (try clear hk); (try clear hi); have hcz45_0 : w44.cell? ⟨gb115, 0, none⟩ = some (.int .i64 x116000_2) := (zQ BK115.out 0).trans rfl; have hcz45_1 : w44.cell? ⟨gb115, 1, none⟩ = some (.int .i64 x116001_2) := (zQ BK115.out 1).trans rfl; have hcz45_2 : w44.cell? ⟨gb115, 2, none⟩ = some (.int .i64 x116002_2) := (zQ BK115.out 2).trans rfl; have hcz45_3 : w44.cell? ⟨gb115, 3, none⟩ = some (.int .i64 x116003_2) := (zQ BK115.out 3).trans rfl; have hcz45_4 : w44.cell? ⟨gb115, 4, none⟩ = some (.int .i64 x116004_2) := (zQ BK115.out 4).trans rfl; have hcz45_5 : w44.cell? ⟨gb115, 5, none⟩ = some (.int .i64 x116005_2) := (zQ BK115.out 5).trans rfl; have hcz45_6 : w44.cell? ⟨gb115, 6, none⟩ = some (.int .i64 x116006_2) := (zQ BK115.out 6).trans rfl; have hcz45_7 : w44.cell? ⟨gb115, 7, none⟩ = some (.int .i64 x116007_2) := (zQ BK115.out 7).trans rfl; have hfz45_0 := blk_frozen BK115.out 0; have hfz45_1 := blk_frozen BK115.out 1; have hfz45_2 := blk_frozen BK115.out 2; have hfz45_3 := blk_frozen BK115.out 3; have hfz45_4 := blk_frozen BK115.out 4; have hfz45_5 := blk_frozen BK115.out 5; have hfz45_6 := blk_frozen BK115.out 6; have hfz45_7 := blk_frozen BK115.out 7))
             go_roundg kj25
             case measure => have := HJ5.out; have := HK2.out; have := HJ25.out; omega
             case rel => exact ⟨(wrap64 (x44_2 + 1)), (t118), (t119), (t120), (t121), (t122), (t123), (t124), (t125), (by first | rfl | (simp; done) | (simp [*]; done)), H', ⟨by have := HJ5.out; have := HK2.out; have := HJ25.out; omega⟩, ⟨by (with_reducible repeat (first | refine zE ?_ _ | refine zF ?_ | refine zD ?_ _)); refine blk_put (cs := #[.int .i64 t118, .int .i64 t119, .int .i64 t120, .int .i64 t121, .int .i64 t122, .int .i64 t123, .int .i64 t124, .int .i64 x116007_2]) ?_ 7 _ rfl; (with_reducible repeat (first | refine zE ?_ _ | refine zF ?_ | refine zD ?_ _)); refine blk_put (cs := #[.int .i64 t118, .int .i64 t119, .int .i64 t120, .int .i64 t121, .int .i64 t122, .int .i64 t123, .int .i64 x116006_2, .int .i64 x116007_2]) ?_ 6 _ rfl; (with_reducible repeat (first | refine zE ?_ _ | refine zF ?_ | refine zD ?_ _)); refine blk_put (cs := #[.int .i64 t118, .int .i64 t119, .int .i64 t120, .int .i64 t121, .int .i64 t122, .int .i64 x116005_2, .int .i64 x116006_2, .int .i64 x116007_2]) ?_ 5 _ rfl; (with_reducible repeat (first | refine zE ?_ _ | refine zF ?_ | refine zD ?_ _)); refine blk_put (cs := #[.int .i64 t118, .int .i64 t119, .int .i64 t120, .int .i64 t121, .int .i64 x116004_2, .int .i64 x116005_2, .int .i64 x116006_2, .int .i64 x116007_2]) ?_ 4 _ rfl; (with_reducible repeat (first | refine zE ?_ _ | refine zF ?_ | refine zD ?_ _)); refine blk_put (cs := #[.int .i64 t118, .int .i64 t119, .int .i64 t120, .int .i64 x116003_2, .int .i64 x116004_2, .int .i64 x116005_2, .int .i64 x116006_2, .int .i64 x116007_2]) ?_ 3 _ rfl; (with_reducible repeat (first | refine zE ?_ _ | refine zF ?_ | refine zD ?_ _)); refine blk_put (cs := #[.int .i64 t118, .int .i64 t119, .int .i64 x116002_2, .int .i64 x116003_2, .int .i64 x116004_2, .int .i64 x116005_2, .int .i64 x116006_2, .int .i64 x116007_2]) ?_ 2 _ rfl; (with_reducible repeat (first | refine zE ?_ _ | refine zF ?_ | refine zD ?_ _)); refine blk_put (cs := #[.int .i64 t118, .int .i64 x116001_2, .int .i64 x116002_2, .int .i64 x116003_2, .int .i64 x116004_2, .int .i64 x116005_2, .int .i64 x116006_2, .int .i64 x116007_2]) ?_ 1 _ rfl; (with_reducible repeat (first | refine zE ?_ _ | refine zF ?_ | refine zD ?_ _)); refine blk_put (cs := #[.int .i64 x116000_2, .int .i64 x116001_2, .int .i64 x116002_2, .int .i64 x116003_2, .int .i64 x116004_2, .int .i64 x116005_2, .int .i64 x116006_2, .int .i64 x116007_2]) ?_ 0 _ rfl; (with_reducible repeat (first | refine zE ?_ _ | refine zF ?_ | refine zD ?_ _)); exact BK115.out⟩, ⟨by repeat (first | (with_reducible first | exact HB.out | apply zA | apply zB | apply zC | refine below_set ?_ GE115.out | refine below_set ?_ GE117.out) | exact HB.out)⟩⟩
        ·rw [if_neg c25] at H
         exact absurd H (by simp)
       ·rw [if_neg c24] at H
        exact absurd H (by simp)
      ·rw [if_neg c23] at H
       have c23b0 : decide (x44_2 < (l0.length : Int)) = false := decide_eq_false c23
       clear c23
       by_cases c46 : x116001_2 < 1
       ·rw [if_pos c46] at H
        have c46b0 : decide (x116001_2 < 1) = true := decide_eq_true c46
        clear c46
        simp only [Option.some.injEq, Prod.mk.injEq] at H
        obtain ⟨rfl, rfl⟩ := H
        have hcz47_0 : wr.cell? ⟨gb115, 0, none⟩ = some (.int .i64 x116000_2) := (zQ BK115.out 0).trans rfl
        have hcz47_1 : wr.cell? ⟨gb115, 1, none⟩ = some (.int .i64 x116001_2) := (zQ BK115.out 1).trans rfl
        have hcz47_2 : wr.cell? ⟨gb115, 2, none⟩ = some (.int .i64 x116002_2) := (zQ BK115.out 2).trans rfl
        have hcz47_3 : wr.cell? ⟨gb115, 3, none⟩ = some (.int .i64 x116003_2) := (zQ BK115.out 3).trans rfl
        have hcz47_4 : wr.cell? ⟨gb115, 4, none⟩ = some (.int .i64 x116004_2) := (zQ BK115.out 4).trans rfl
        have hcz47_5 : wr.cell? ⟨gb115, 5, none⟩ = some (.int .i64 x116005_2) := (zQ BK115.out 5).trans rfl
        have hcz47_6 : wr.cell? ⟨gb115, 6, none⟩ = some (.int .i64 x116006_2) := (zQ BK115.out 6).trans rfl
        have hcz47_7 : wr.cell? ⟨gb115, 7, none⟩ = some (.int .i64 x116007_2) := (zQ BK115.out 7).trans rfl
        have hfz47_0 := blk_frozen BK115.out 0
        have hfz47_1 := blk_frozen BK115.out 1
        have hfz47_2 := blk_frozen BK115.out 2
        have hfz47_3 := blk_frozen BK115.out 3
        have hfz47_4 := blk_frozen BK115.out 4
        have hfz47_5 := blk_frozen BK115.out 5
        have hfz47_6 := blk_frozen BK115.out 6
        have hfz47_7 := blk_frozen BK115.out 7
        go_wp2
        go_ret2
        exact ⟨by first | rfl | (simp [errW_none, errW_some] <;> rfl) | (simp [*, errW_none, errW_some] <;> rfl), by repeat (first | (with_reducible first | exact HB.out | apply zA | apply zB | apply zC | refine below_set ?_ GE115.out) | exact HB.out)⟩
       ·rw [if_neg c46] at H
        have c46b0 : decide (x116001_2 < 1) = false := decide_eq_false c46
        clear c46
        replace H := Option.bind_eq_some_iff.mp H
        obtain ⟨⟨t126, t127⟩, A480, H⟩ := H
        replace H : (some (t126, t127)) = some (r1, r2) := H
        have A48 := Aside0.mk A480
        clear A480
        simp only [Option.some.injEq, Prod.mk.injEq] at H
        obtain ⟨rfl, rfl⟩ := H
        have hcz49_0 : wr.cell? ⟨gb115, 0, none⟩ = some (.int .i64 x116000_2) := (zQ BK115.out 0).trans rfl
        have hcz49_1 : wr.cell? ⟨gb115, 1, none⟩ = some (.int .i64 x116001_2) := (zQ BK115.out 1).trans rfl
        have hcz49_2 : wr.cell? ⟨gb115, 2, none⟩ = some (.int .i64 x116002_2) := (zQ BK115.out 2).trans rfl
        have hcz49_3 : wr.cell? ⟨gb115, 3, none⟩ = some (.int .i64 x116003_2) := (zQ BK115.out 3).trans rfl
        have hcz49_4 : wr.cell? ⟨gb115, 4, none⟩ = some (.int .i64 x116004_2) := (zQ BK115.out 4).trans rfl
        have hcz49_5 : wr.cell? ⟨gb115, 5, none⟩ = some (.int .i64 x116005_2) := (zQ BK115.out 5).trans rfl
        have hcz49_6 : wr.cell? ⟨gb115, 6, none⟩ = some (.int .i64 x116006_2) := (zQ BK115.out 6).trans rfl
        have hcz49_7 : wr.cell? ⟨gb115, 7, none⟩ = some (.int .i64 x116007_2) := (zQ BK115.out 7).trans rfl
        have hfz49_0 := blk_frozen BK115.out 0
        have hfz49_1 := blk_frozen BK115.out 1
        have hfz49_2 := blk_frozen BK115.out 2
        have hfz49_3 := blk_frozen BK115.out 3
        have hfz49_4 := blk_frozen BK115.out 4
        have hfz49_5 := blk_frozen BK115.out 5
        have hfz49_6 := blk_frozen BK115.out 6
        have hfz49_7 := blk_frozen BK115.out 7
        go_wp2_with (first | ((with_reducible refine gate_callee (f := 39) rfl ?_); refine goesL_ (some 71) rfl rfl Try.func39 (by kernel_rfl) rfl #[.agg #[.int .i64 x116000_2, .int .i64 x116001_2, .int .i64 x116002_2, .int .i64 x116003_2, .int .i64 x116004_2, .int .i64 x116005_2, .int .i64 x116006_2, .int .i64 x116007_2], .int .i64 a4] rfl (by (try simp only [List.map_toArray, List.map_cons, List.map_nil]); first | done | rfl | (simp only [List.length_drop, List.length_take]; rfl)) ?_; (with_reducible refine (spec_l11Over.calls x116000_2 x116001_2 x116002_2 x116003_2 x116004_2 x116005_2 x116006_2 x116007_2 a4 t126 t127 _ A48.out).mono ?_); rintro e w50 ⟨rfl, hb⟩; refine ⟨_, rfl, ?_⟩; have n0_ := Aside0.mk (blk_below (g := gb115) (o := cs8 55 x116000_2 x116001_2 x116002_2 x116003_2 x116004_2 x116005_2 x116006_2 x116007_2) (by (with_reducible repeat (first | refine zE ?_ _ | refine zF ?_ | refine zD ?_ _)); exact BK115.out) hb); have n1_ := Aside0.mk (below_step (by repeat (first | (with_reducible first | exact HB.out | apply zA | apply zB | apply zC | refine below_set ?_ GE115.out) | exact HB.out)) hb); clear BK115; clear HB; have BK115 := n0_; have HB := n1_; clear n0_ n1_; (try clear hb); (try clear hb2); (try clear hk); (try clear hi)))
        go_ret2
        exact ⟨by first | rfl | (simp [errW_none, errW_some] <;> rfl) | (simp [*, errW_none, errW_some] <;> rfl), by repeat (first | (with_reducible first | exact HB.out | apply zA | apply zB | apply zC | refine below_set ?_ GE115.out) | exact HB.out)⟩

/-! ### laws_toAgg: function 40 -/
def laws_toAgg.f (a0_0 : Int) (a0_1 : Int) (a0_2 : Int) (a0_3 : Int) (a0_4 : Int) (a0_5 : Int) (a0_6 : Int) (a0_7 : Int) : Option (Int × Int × Int × Int × Int × Int × Int × Int) := some (a0_0, a0_1, a0_2, a0_3, a0_4, a0_5, a0_6, a0_7)
set_option maxHeartbeats 8000000 in
set_option maxRecDepth 100000 in
theorem laws_toAgg.calls (a0_0 : Int) (a0_1 : Int) (a0_2 : Int) (a0_3 : Int) (a0_4 : Int) (a0_5 : Int) (a0_6 : Int) (a0_7 : Int) (r1 : Int) (r2 : Int) (r3 : Int) (r4 : Int) (r5 : Int) (r6 : Int) (r7 : Int) (r8 : Int) (w : World) (h : laws_toAgg.f a0_0 a0_1 a0_2 a0_3 a0_4 a0_5 a0_6 a0_7 = some (r1, r2, r3, r4, r5, r6, r7, r8)) :
  Calls Try.prog 40 #[.agg #[.int .i64 a0_0, .int .i64 a0_1, .int .i64 a0_2, .int .i64 a0_3, .int .i64 a0_4, .int .i64 a0_5, .int .i64 a0_6, .int .i64 a0_7]] w fun e w' => e = .returned (.agg #[.int .i64 r1, .int .i64 r2, .int .i64 r3, .int .i64 r4, .int .i64 r5, .int .i64 r6, .int .i64 r7, .int .i64 r8]) ∧ Below w.heap.size w w' := by
 have hu76 := Try.underlying76
 have hu55 := Try.underlying55
 have HB := Aside0.mk (Below.refl w.heap.size w)
 have H : (some (a0_0, a0_1, a0_2, a0_3, a0_4, a0_5, a0_6, a0_7)) = some (r1, r2, r3, r4, r5, r6, r7, r8) := h
 clear h
 simp only [Option.some.injEq, Prod.mk.injEq] at H
 obtain ⟨rfl, rfl, rfl, rfl, rfl, rfl, rfl, rfl⟩ := H
 go_enter Try.func40, Try.ntmps40
 go_wp2_with (first | ((with_reducible refine gate_dst (N := 1) rfl ?_); refine box_event ?hg (N := 1) ?hd (cs := #[.int .i64 a0_0, .int .i64 a0_1, .int .i64 a0_2, .int .i64 a0_3, .int .i64 a0_4, .int .i64 a0_5, .int .i64 a0_6, .int .i64 a0_7]) (t := 76) ?hr ?_; (case hd => rfl); (case hg => rfl); (case hr => first | (go_simp; done) | (go_simp; rfl)); intro gb128 hg w2 hbox hb; have n0_ := Aside0.mk (below_step (by repeat (first | (with_reducible first | exact HB.out | apply zA | apply zB | apply zC) | exact HB.out)) hb); have n1_ := Aside0.mk (hbox); have n2_ := Aside0.mk ((by rw [hg]; exact (zW (by repeat (first | (with_reducible first | exact HB.out | apply zA | apply zB | apply zC) | exact HB.out))) : w.heap.size ≤ gb128)); have n3_ := Aside0.mk ((by rw [hg]; exact (zW (by repeat (first | (with_reducible first | exact HB.out | apply zA | apply zB | apply zC) | exact HB.out))) : w.heap.size ≤ gb128)); clear HB; have HB := n0_; have BK128 := n1_; have GW128 := n2_; have GE128 := n3_; clear n0_ n1_ n2_ n3_; clear hb hbox hg) | ((with_reducible refine gate_dst (N := 2) rfl ?_); refine box_event ?hg (N := 2) ?hd (cs := #[.int .i64 0, .int .i64 0, .int .i64 0, .int .i64 0, .int .i64 0, .int .i64 0, .int .i64 0, .int .i64 0]) (t := 55) ?hr ?_; (case hd => rfl); (case hg => rfl); (case hr => first | (go_simp; done) | (go_simp; rfl)); intro gb129 hg w3 hbox hb; have n0_ := Aside0.mk (blk_below (g := gb128) (o := cs8 76 a0_0 a0_1 a0_2 a0_3 a0_4 a0_5 a0_6 a0_7) (by (with_reducible repeat (first | refine zE ?_ _ | refine zF ?_ | refine zD ?_ _)); exact BK128.out) hb); have n1_ := Aside0.mk (below_step (by repeat (first | (with_reducible first | exact HB.out | apply zA | apply zB | apply zC | refine below_set ?_ GE128.out) | exact HB.out)) hb); have n2_ := Aside0.mk (hbox); have n3_ := Aside0.mk ((by rw [hg]; exact (zW (by repeat (first | (with_reducible first | exact HB.out | apply zA | apply zB | apply zC | refine below_set ?_ GE128.out) | exact HB.out))) : w.heap.size ≤ gb129)); have n4_ := Aside0.mk ((by rw [hg]; exact (zW (by repeat (first | (with_reducible first | exact HB.out | apply zA | apply zB | apply zC | refine below_set ?_ GE128.out) | exact HB.out))) : w.heap.size ≤ gb129)); have n5_ := Aside0.mk ((by rw [hg]; exact Nat.ne_of_lt (blk_lt (g := gb128) (o := cs8 76 a0_0 a0_1 a0_2 a0_3 a0_4 a0_5 a0_6 a0_7) (by (with_reducible repeat (first | refine zE ?_ _ | refine zF ?_ | refine zD ?_ _)); exact BK128.out)) : gb128 ≠ gb129)); have n6_ := Aside0.mk ((by rw [hg]; exact Nat.ne_of_gt (blk_lt (g := gb128) (o := cs8 76 a0_0 a0_1 a0_2 a0_3 a0_4 a0_5 a0_6 a0_7) (by (with_reducible repeat (first | refine zE ?_ _ | refine zF ?_ | refine zD ?_ _)); exact BK128.out)) : gb129 ≠ gb128)); clear BK128; clear HB; have BK128 := n0_; have HB := n1_; have BK129 := n2_; have GW129 := n3_; have GE129 := n4_; have NB128_129 := n5_; have NB129_128 := n6_; clear n0_ n1_ n2_ n3_ n4_ n5_ n6_; clear hb hbox hg) | ((with_reducible refine gate_dst (N := 3) rfl ?_); refine box_event ?hg (N := 3) ?hd (cs := #[.int .i64 0, .int .i64 0, .int .i64 0, .int .i64 0, .int .i64 0, .int .i64 0, .int .i64 0, .int .i64 0]) (t := 55) ?hr ?_; (case hd => rfl); (case hg => rfl); (case hr => first | (go_simp; done) | (go_simp; rfl)); intro gb130 hg w4 hbox hb; have n0_ := Aside0.mk (blk_below (g := gb128) (o := cs8 76 a0_0 a0_1 a0_2 a0_3 a0_4 a0_5 a0_6 a0_7) (by (with_reducible repeat (first | refine zE ?_ _ | refine zF ?_ | refine zD ?_ _)); exact BK128.out) hb); have n1_ := Aside0.mk (blk_below (g := gb129) (o := cs8 55 0 0 0 0 0 0 0 0) (by (with_reducible repeat (first | refine zE ?_ _ | refine zF ?_ | refine zD ?_ _)); exact BK129.out) hb); have n2_ := Aside0.mk (below_step (by repeat (first | (with_reducible first | exact HB.out | apply zA | apply zB | apply zC | refine below_set ?_ GE128.out | refine below_set ?_ GE129.out) | exact HB.out)) hb); have n3_ := Aside0.mk (hbox); have n4_ := Aside0.mk ((by rw [hg]; exact (zW (by repeat (first | (with_reducible first | exact HB.out | apply zA | apply zB | apply zC | refine below_set ?_ GE128.out | refine below_set ?_ GE129.out) | exact HB.out))) : w.heap.size ≤ gb130)); have n5_ := Aside0.mk ((by rw [hg]; exact (zW (by repeat (first | (with_reducible first | exact HB.out | apply zA | apply zB | apply zC | refine below_set ?_ GE128.out | refine below_set ?_ GE129.out) | exact HB.out))) : w.heap.size ≤ gb130)); have n6_ := Aside0.mk ((by rw [hg]; exact Nat.ne_of_lt (blk_lt (g := gb128) (o := cs8 76 a0_0 a0_1 a0_2 a0_3 a0_4 a0_5 a0_6 a0_7) (by (with_reducible repeat (first | refine zE ?_ _ | refine zF ?_ | refine zD ?_ _)); exact BK128.out)) : gb128 ≠ gb130)); have n7_ := Aside0.mk ((by rw [hg]; exact Nat.ne_of_gt (blk_lt (g := gb128) (o := cs8 76 a0_0 a0_1 a0_2 a0_3 a0_4 a0_5 a0_6 a0_7) (by (with_reducible repeat (first | refine zE ?_ _ | refine zF ?_ | refine zD ?_ _)); exact BK128.out)) : gb130 ≠ gb128)); have n8_ := Aside0.mk ((by rw [hg]; exact Nat.ne_of_lt (blk_lt (g := gb129) (o := cs8 55 0 0 0 0 0 0 0 0) (by (with_reducible repeat (first | refine zE ?_ _ | refine zF ?_ | refine zD ?_ _)); exact BK129.out)) : gb129 ≠ gb130)); have n9_ := Aside0.mk ((by rw [hg]; exact Nat.ne_of_gt (blk_lt (g := gb129) (o := cs8 55 0 0 0 0 0 0 0 0) (by (with_reducible repeat (first | refine zE ?_ _ | refine zF ?_ | refine zD ?_ _)); exact BK129.out)) : gb130 ≠ gb129)); clear BK128; clear BK129; clear HB; have BK128 := n0_; have BK129 := n1_; have HB := n2_; have BK130 := n3_; have GW130 := n4_; have GE130 := n5_; have NB128_130 := n6_; have NB130_128 := n7_; have NB129_130 := n8_; have NB130_129 := n9_; clear n0_ n1_ n2_ n3_ n4_ n5_ n6_ n7_ n8_ n9_; clear hb hbox hg; have hnb5 := NB128_129.out; have hnc5 := NB129_128.out; have hnb6 := NB128_130.out; have hnc6 := NB130_128.out; have hcz7_0 : w4.cell? ⟨gb128, 0, none⟩ = some (.int .i64 a0_0) := (zQ BK128.out 0).trans rfl; have hcz7_1 : w4.cell? ⟨gb128, 1, none⟩ = some (.int .i64 a0_1) := (zQ BK128.out 1).trans rfl; have hcz7_2 : w4.cell? ⟨gb128, 2, none⟩ = some (.int .i64 a0_2) := (zQ BK128.out 2).trans rfl; have hcz7_3 : w4.cell? ⟨gb128, 3, none⟩ = some (.int .i64 a0_3) := (zQ BK128.out 3).trans rfl; have hcz7_4 : w4.cell? ⟨gb128, 4, none⟩ = some (.int .i64 a0_4) := (zQ BK128.out 4).trans rfl; have hcz7_5 : w4.cell? ⟨gb128, 5, none⟩ = some (.int .i64 a0_5) := (zQ BK128.out 5).trans rfl; have hcz7_6 : w4.cell? ⟨gb128, 6, none⟩ = some (.int .i64 a0_6) := (zQ BK128.out 6).trans rfl; have hcz7_7 : w4.cell? ⟨gb128, 7, none⟩ = some (.int .i64 a0_7) := (zQ BK128.out 7).trans rfl; have hfz7_0 := blk_frozen BK128.out 0; have hfz7_1 := blk_frozen BK128.out 1; have hfz7_2 := blk_frozen BK128.out 2; have hfz7_3 := blk_frozen BK128.out 3; have hfz7_4 := blk_frozen BK128.out 4; have hfz7_5 := blk_frozen BK128.out 5; have hfz7_6 := blk_frozen BK128.out 6; have hfz7_7 := blk_frozen BK128.out 7; have hnb8 := NB130_129.out; have hnc8 := NB129_130.out; have hcz9_0 : w4.cell? ⟨gb130, 0, none⟩ = some (.int .i64 0) := (zQ BK130.out 0).trans rfl; have hcz9_1 : w4.cell? ⟨gb130, 1, none⟩ = some (.int .i64 0) := (zQ BK130.out 1).trans rfl; have hcz9_2 : w4.cell? ⟨gb130, 2, none⟩ = some (.int .i64 0) := (zQ BK130.out 2).trans rfl; have hcz9_3 : w4.cell? ⟨gb130, 3, none⟩ = some (.int .i64 0) := (zQ BK130.out 3).trans rfl; have hcz9_4 : w4.cell? ⟨gb130, 4, none⟩ = some (.int .i64 0) := (zQ BK130.out 4).trans rfl; have hcz9_5 : w4.cell? ⟨gb130, 5, none⟩ = some (.int .i64 0) := (zQ BK130.out 5).trans rfl; have hcz9_6 : w4.cell? ⟨gb130, 6, none⟩ = some (.int .i64 0) := (zQ BK130.out 6).trans rfl; have hcz9_7 : w4.cell? ⟨gb130, 7, none⟩ = some (.int .i64 0) := (zQ BK130.out 7).trans rfl; have hfz9_0 := blk_frozen BK130.out 0; have hfz9_1 := blk_frozen BK130.out 1; have hfz9_2 := blk_frozen BK130.out 2; have hfz9_3 := blk_frozen BK130.out 3; have hfz9_4 := blk_frozen BK130.out 4; have hfz9_5 := blk_frozen BK130.out 5; have hfz9_6 := blk_frozen BK130.out 6; have hfz9_7 := blk_frozen BK130.out 7; have hcz10_0 : w4.cell? ⟨gb129, 0, none⟩ = some (.int .i64 0) := (zQ BK129.out 0).trans rfl; have hcz10_1 : w4.cell? ⟨gb129, 1, none⟩ = some (.int .i64 0) := (zQ BK129.out 1).trans rfl; have hcz10_2 : w4.cell? ⟨gb129, 2, none⟩ = some (.int .i64 0) := (zQ BK129.out 2).trans rfl; have hcz10_3 : w4.cell? ⟨gb129, 3, none⟩ = some (.int .i64 0) := (zQ BK129.out 3).trans rfl; have hcz10_4 : w4.cell? ⟨gb129, 4, none⟩ = some (.int .i64 0) := (zQ BK129.out 4).trans rfl; have hcz10_5 : w4.cell? ⟨gb129, 5, none⟩ = some (.int .i64 0) := (zQ BK129.out 5).trans rfl; have hcz10_6 : w4.cell? ⟨gb129, 6, none⟩ = some (.int .i64 0) := (zQ BK129.out 6).trans rfl; have hcz10_7 : w4.cell? ⟨gb129, 7, none⟩ = some (.int .i64 0) := (zQ BK129.out 7).trans rfl; have hfz10_0 := blk_frozen BK129.out 0; have hfz10_1 := blk_frozen BK129.out 1; have hfz10_2 := blk_frozen BK129.out 2; have hfz10_3 := blk_frozen BK129.out 3; have hfz10_4 := blk_frozen BK129.out 4; have hfz10_5 := blk_frozen BK129.out 5; have hfz10_6 := blk_frozen BK129.out 6; have hfz10_7 := blk_frozen BK129.out 7))
 refine bodyPost_ret (results_cell_row rfl _ _ gb129 55 #[.int .i64 a0_0, .int .i64 a0_1, .int .i64 a0_2, .int .i64 a0_3, .int .i64 a0_4, .int .i64 a0_5, .int .i64 a0_6, .int .i64 a0_7] (0, 0) _ rfl (by (with_reducible repeat (first | refine zE ?_ _ | refine zF ?_ | refine zD ?_ _)); refine blk_put (cs := #[.int .i64 a0_0, .int .i64 a0_1, .int .i64 a0_2, .int .i64 a0_3, .int .i64 a0_4, .int .i64 a0_5, .int .i64 a0_6, .int .i64 0]) ?_ 7 _ rfl; (with_reducible repeat (first | refine zE ?_ _ | refine zF ?_ | refine zD ?_ _)); refine blk_put (cs := #[.int .i64 a0_0, .int .i64 a0_1, .int .i64 a0_2, .int .i64 a0_3, .int .i64 a0_4, .int .i64 a0_5, .int .i64 0, .int .i64 0]) ?_ 6 _ rfl; (with_reducible repeat (first | refine zE ?_ _ | refine zF ?_ | refine zD ?_ _)); refine blk_put (cs := #[.int .i64 a0_0, .int .i64 a0_1, .int .i64 a0_2, .int .i64 a0_3, .int .i64 a0_4, .int .i64 0, .int .i64 0, .int .i64 0]) ?_ 5 _ rfl; (with_reducible repeat (first | refine zE ?_ _ | refine zF ?_ | refine zD ?_ _)); refine blk_put (cs := #[.int .i64 a0_0, .int .i64 a0_1, .int .i64 a0_2, .int .i64 a0_3, .int .i64 0, .int .i64 0, .int .i64 0, .int .i64 0]) ?_ 4 _ rfl; (with_reducible repeat (first | refine zE ?_ _ | refine zF ?_ | refine zD ?_ _)); refine blk_put (cs := #[.int .i64 a0_0, .int .i64 a0_1, .int .i64 a0_2, .int .i64 0, .int .i64 0, .int .i64 0, .int .i64 0, .int .i64 0]) ?_ 3 _ rfl; (with_reducible repeat (first | refine zE ?_ _ | refine zF ?_ | refine zD ?_ _)); refine blk_put (cs := #[.int .i64 a0_0, .int .i64 a0_1, .int .i64 0, .int .i64 0, .int .i64 0, .int .i64 0, .int .i64 0, .int .i64 0]) ?_ 2 _ rfl; (with_reducible repeat (first | refine zE ?_ _ | refine zF ?_ | refine zD ?_ _)); refine blk_put (cs := #[.int .i64 a0_0, .int .i64 0, .int .i64 0, .int .i64 0, .int .i64 0, .int .i64 0, .int .i64 0, .int .i64 0]) ?_ 1 _ rfl; (with_reducible repeat (first | refine zE ?_ _ | refine zF ?_ | refine zD ?_ _)); refine blk_put (cs := #[.int .i64 0, .int .i64 0, .int .i64 0, .int .i64 0, .int .i64 0, .int .i64 0, .int .i64 0, .int .i64 0]) ?_ 0 _ rfl; (with_reducible repeat (first | refine zE ?_ _ | refine zF ?_ | refine zD ?_ _)); refine blk_far ?_ NB129_130.out _; (with_reducible repeat (first | refine zE ?_ _ | refine zF ?_ | refine zD ?_ _)); refine blk_far ?_ NB129_130.out _; (with_reducible repeat (first | refine zE ?_ _ | refine zF ?_ | refine zD ?_ _)); refine blk_far ?_ NB129_130.out _; (with_reducible repeat (first | refine zE ?_ _ | refine zF ?_ | refine zD ?_ _)); refine blk_far ?_ NB129_130.out _; (with_reducible repeat (first | refine zE ?_ _ | refine zF ?_ | refine zD ?_ _)); refine blk_far ?_ NB129_130.out _; (with_reducible repeat (first | refine zE ?_ _ | refine zF ?_ | refine zD ?_ _)); refine blk_far ?_ NB129_130.out _; (with_reducible repeat (first | refine zE ?_ _ | refine zF ?_ | refine zD ?_ _)); refine blk_far ?_ NB129_130.out _; (with_reducible repeat (first | refine zE ?_ _ | refine zF ?_ | refine zD ?_ _)); refine blk_far ?_ NB129_130.out _; (with_reducible repeat (first | refine zE ?_ _ | refine zF ?_ | refine zD ?_ _)); exact BK129.out) Try.underlying55 rfl (by kernel_rfl)) rfl ?_
 exact ⟨by first | rfl | (simp [errW_none, errW_some] <;> rfl) | (simp [*, errW_none, errW_some] <;> rfl), by repeat (first | (with_reducible first | exact HB.out | apply zA | apply zB | apply zC | refine below_set ?_ GE128.out | refine below_set ?_ GE129.out | refine below_set ?_ GE130.out) | exact HB.out)⟩

end Go.Proofs.Ytppifefhpjhmaab.PFnExactAggOver
