/- The law of what is chosen of the blocks of a shelf. No condition. -/
import Derived.Test.YtbhkjbfphhfecaaGreatU1
import Derived.Test.YtbhkjbfphhfecaaGreatB10
set_option maxRecDepth 100000
set_option linter.unusedVariables false
set_option linter.unusedSimpArgs false
namespace Go.Ring
open Go Go.RowKit Go.Eager Go.Abs Go.Proofs
theorem f6_ok (a0 : Int) (pa0 : (Lit.int .i64 a0).wf = true) (a1 : List Block) (pa1 : LB a1.length ∧ ∀ y ∈ a1, LBlock y) (a2 : List Matcher) (pa2 : LB a2.length ∧ ∀ y ∈ a2, LMatcher y) (a3 : Int) (pa3 : (Lit.int .i64 a3).wf = true) (a4 : Int) (pa4 : (Lit.int .i64 a4).wf = true) : PFn Tryz.prog 6 [int a0, eBlockS a1, eMatcherS a2, int a3, int a4] (bool true) := by
  refine fn_ok' (n := 107) Tryz.func6 rfl rfl rfl (Nat.le_of_ble_eq_true rfl) rfl fun w0 O => ?_
  refine ok_seq fun K1 h1 => ?_
  refine ok_region rfl (q_as _ rfl (run_nil (h1 _ ?_)))
  clear h1 K1
  refine ok_seq fun K2 h2 => ?_
  refine ok_region rfl (q_as _ rfl (run_nil (h2 _ ?_)))
  clear h2 K2
  refine ok_seq fun K3 h3 => ?_
  refine ok_region rfl (q_mv _ rfl (q_mv _ rfl (q_call (f32_ok a1 pa1 1048576 (by decide) (by decide)) cl32 rfl rfl (q_as _ rfl (run_nil (h3 _ ?_))))))
  clear h3 K3
  refine ok_seq fun K4 h4 => ?_
  refine ok_seq fun K5 h5 => ?_
  refine ok_region rfl (q_mv _ rfl (q_bin _ _ _ rfl rfl rfl (run_nil (h5 _ ?_))))
  clear h5 K5
  refine ok_cond rfl (fun c6 => ?_) (fun c6 => ?_)
  · refine ok_seq fun K7 h7 => ?_
    refine ok_region rfl (q_as _ rfl (run_nil (h7 _ ?_)))
    clear h7 K7
    exact ok_ret ⟨_, rfl, rfl⟩
  · have p1 : 0 ≤ zBlockS a1 1048576 := by have := of_decide_eq_false c6; omega
    have u1 : zBlockS a1 1048576 ≤ 1048576 := (zBlockS_ok a1 _ (by decide)).1
    have hs1 := (zBlockS_ok a1 _ (by decide)).2.2 p1
    have kb1 := kc_BlockS a1 _ p1
    refine ok_skip (h4 _ ?_)
    refine ok_seq fun K8 h8 => ?_
    refine ok_region rfl (q_mv _ rfl (q_mv _ rfl (q_call (f12_ok a2 pa2 (zBlockS a1 1048576) p1 u1) cl12 rfl rfl (q_as _ rfl (run_nil (h8 _ ?_))))))
    clear h8 K8
    refine ok_seq fun K9 h9 => ?_
    refine ok_seq fun K10 h10 => ?_
    refine ok_region rfl (q_mv _ rfl (q_bin _ _ _ rfl rfl rfl (run_nil (h10 _ ?_))))
    clear h10 K10
    refine ok_cond rfl (fun c11 => ?_) (fun c11 => ?_)
    · refine ok_seq fun K12 h12 => ?_
      refine ok_region rfl (q_as _ rfl (run_nil (h12 _ ?_)))
      clear h12 K12
      exact ok_ret ⟨_, rfl, rfl⟩
    · have p2 : 0 ≤ zMatcherS a2 ((zBlockS a1 1048576)) := by have := of_decide_eq_false c11; omega
      have u2 : zMatcherS a2 ((zBlockS a1 1048576)) ≤ 1048576 := (zMatcherS_ok a2 _ u1).1
      have hs2 := (zMatcherS_ok a2 _ u1).2.2 p2
      have kb2 := kc_MatcherS a2 _ p2
      have hCg := resSB_C a0 hs1.2 (zBlockS_wt p1 (by decide)) a2 a3 a4
      refine ok_skip (h9 _ ?_)
      refine ok_seq fun K13 h13 => ?_
      refine ok_region rfl (q_mv _ rfl (q_mv _ rfl (q_call (f34_ok a1 hs1) cl34 rfl rfl (q_mv _ rfl (q_call (f15_ok a2 hs2) cl15 rfl rfl (q_mv _ rfl (q_mv _ rfl (q_call (f33_ok a0 a1 hs1 (zBlockS_wt p1 (by decide)) a2 hs2 a3 a4) cl33 rfl rfl (q_as _ rfl (run_nil (h13 _ ?_)))))))))))
      clear h13 K13
      refine ok_seq fun K14 h14 => ?_
      refine ok_region rfl (q_mv _ rfl (q_callg [12, 2, 1] (f34_t a1 hs1) cl34 ⟨.inl rfl, trivial⟩ (fun r_x0 hr_x0 hz_x0 ha_x0 => ?_)))
      obtain ⟨Zx0, vx0, rfl⟩ := gd_sl_inv hr_x0
      refine q_as _ rfl (run_nil (h14 _ ?_))
      refine ok_le (σ' := ⟨[(13, .sv (.tr Zx0 (eBlockS a1) vx0)), (39, .sv (.tr Zx0 (eBlockS a1) vx0)), (12, .av (fun b => Zn b (.tr Zx0 (eBlockS a1) vx0)) (eSeriesS (resSB a0 a1 a2 a3 a4))), (10, .sv (bool false)), (4, .sv (int a4)), (3, .sv (int a3)), (2, .av (fun b => Zn b (.tr Zx0 (eBlockS a1) vx0)) (eMatcherS a2)), (1, .av (fun b => Zn b (.tr Zx0 (eBlockS a1) vx0)) (eBlockS a1)), (0, .sv (int a0))], []⟩) (le_sub ⟨rfl, rfl, rfl, rfl, rfl, rfl, rfl, rfl, rfl, trivial⟩ trivial) ?_
      clear h14 K14
      refine ok_seq fun K15 h15 => ?_
      refine ok_region rfl (q_mva rfl (q_callg [12, 2, 1] (f15_t a2 hs2) cl15 ⟨.inr (.inr ⟨_, rfl⟩), trivial⟩ (fun r_x1 hr_x1 hz_x1 ha_x1 => ?_)))
      obtain ⟨Zx1, vx1, rfl⟩ := gd_sl_inv hr_x1
      have ap_x0_x1 : ∀ b, Zn b (.tr Zx0 (eBlockS a1) vx0) → ¬ Zn b (.tr Zx1 (eMatcherS a2) vx1) := fun b h1 h2 => ha_x1.1 13 _ b rfl h1 h2
      refine q_as _ rfl (run_nil (h15 _ ?_))
      refine ok_le (σ' := ⟨[(14, .sv (.tr Zx1 (eMatcherS a2) vx1)), (41, .sv (.tr Zx1 (eMatcherS a2) vx1)), (13, .sv (.tr Zx0 (eBlockS a1) vx0)), (39, .sv (.tr Zx0 (eBlockS a1) vx0)), (12, .av (fun b => (Zn b (.tr Zx0 (eBlockS a1) vx0)) ∨ Zn b (.tr Zx1 (eMatcherS a2) vx1)) (eSeriesS (resSB a0 a1 a2 a3 a4))), (10, .sv (bool false)), (4, .sv (int a4)), (3, .sv (int a3)), (2, .av (fun b => (Zn b (.tr Zx0 (eBlockS a1) vx0)) ∨ Zn b (.tr Zx1 (eMatcherS a2) vx1)) (eMatcherS a2)), (1, .av (fun b => (Zn b (.tr Zx0 (eBlockS a1) vx0)) ∨ Zn b (.tr Zx1 (eMatcherS a2) vx1)) (eBlockS a1)), (0, .sv (int a0))], []⟩) (le_sub ⟨rfl, rfl, rfl, rfl, rfl, rfl, rfl, rfl, rfl, rfl, rfl, trivial⟩ trivial) ?_
      clear h15 K15
      refine ok_seq fun K16 h16 => ?_
      refine ok_region rfl (q_mv _ rfl (q_mv _ rfl (q_mv _ rfl (q_mv _ rfl (q_mv _ rfl (q_callg [12, 2, 1] (f35_t a0 a1 hs1 (zBlockS_wt p1 (by decide)) a2 hs2 a3 a4) cl35 ⟨.inl rfl, .inr (.inl ⟨_, rfl, (.tr _ _ _ _)⟩), .inr (.inl ⟨_, rfl, (.tr _ _ _ _)⟩), .inl rfl, .inl rfl, trivial⟩ (fun r_g hr_g hz_g ha_g => ?_)))))))
      obtain ⟨Zg, vg, rfl⟩ := gd_sl_inv hr_g
      have ap_x0_g : ∀ b, Zn b (.tr Zx0 (eBlockS a1) vx0) → ¬ Zn b (.tr Zg (eSeriesS (resSB a0 a1 a2 a3 a4)) vg) := fun b h1 h2 => ha_g.1 43 _ b rfl h1 h2
      have ap_x1_g : ∀ b, Zn b (.tr Zx1 (eMatcherS a2) vx1) → ¬ Zn b (.tr Zg (eSeriesS (resSB a0 a1 a2 a3 a4)) vg) := fun b h1 h2 => ha_g.1 44 _ b rfl h1 h2
      refine q_as _ rfl (run_nil (h16 _ ?_))
      refine ok_le (σ' := ⟨[(15, .sv (.tr Zg (eSeriesS (resSB a0 a1 a2 a3 a4)) vg)), (47, .sv (.tr Zg (eSeriesS (resSB a0 a1 a2 a3 a4)) vg)), (14, .sv (.tr Zx1 (eMatcherS a2) vx1)), (41, .sv (.tr Zx1 (eMatcherS a2) vx1)), (13, .sv (.tr Zx0 (eBlockS a1) vx0)), (39, .sv (.tr Zx0 (eBlockS a1) vx0)), (12, .av (fun b => ((Zn b (.tr Zx0 (eBlockS a1) vx0)) ∨ Zn b (.tr Zx1 (eMatcherS a2) vx1)) ∨ Zn b (.tr Zg (eSeriesS (resSB a0 a1 a2 a3 a4)) vg)) (eSeriesS (resSB a0 a1 a2 a3 a4))), (10, .sv (bool false)), (4, .sv (int a4)), (3, .sv (int a3)), (2, .av (fun b => ((Zn b (.tr Zx0 (eBlockS a1) vx0)) ∨ Zn b (.tr Zx1 (eMatcherS a2) vx1)) ∨ Zn b (.tr Zg (eSeriesS (resSB a0 a1 a2 a3 a4)) vg)) (eMatcherS a2)), (1, .av (fun b => ((Zn b (.tr Zx0 (eBlockS a1) vx0)) ∨ Zn b (.tr Zx1 (eMatcherS a2) vx1)) ∨ Zn b (.tr Zg (eSeriesS (resSB a0 a1 a2 a3 a4)) vg)) (eBlockS a1)), (0, .sv (int a0))], []⟩) (le_sub ⟨rfl, rfl, rfl, rfl, rfl, rfl, rfl, rfl, rfl, rfl, rfl, rfl, rfl, trivial⟩ trivial) ?_
      clear h16 K16
      refine ok_seq fun K17 h17 => ?_
      refine ok_seq fun K18 h18 => ?_
      refine ok_region rfl (q_mv _ rfl (q_mva rfl (q_callp (f26_ok (resSB a0 a1 a2 a3 a4) (resSB_S a0 hs1.2 (zBlockS_wt p1 (by decide)) a2 a3 a4)) cl26 ⟨.inr (.inl ⟨_, rfl, (.tr _ _ _ _)⟩), .inr (.inr ⟨_, rfl⟩), trivial⟩ (q_un _ _ rfl rfl (run_nil (h18 _ ?_))))))
      clear h18 K18
      refine ok_cond rfl (fun c19 => ?_) (fun c19 => ?_)
      · first | (exfalso; simp at c19; done) | (exfalso; have hcc := of_decide_eq_true c19; omega) | (exfalso; simp at c19; omega)
      · refine ok_skip (h17 _ ?_)
        refine ok_seq fun K20 h20 => ?_
        refine ok_seq fun K21 h21 => ?_
        refine ok_region rfl (q_mv _ rfl (q_mva rfl (q_callq (fun b hb => by cases hb) (f34_ok a1 hs1) cl34 ⟨.inr (.inr ⟨_, rfl⟩), trivial⟩ (q_callp (f36_ok a1 hs1) cl36 ⟨.inr (.inl ⟨_, rfl, (.tr _ _ _ _)⟩), .inl rfl, trivial⟩ (q_un _ _ rfl rfl (run_nil (h21 _ ?_)))))))
        clear h21 K21
        refine ok_cond rfl (fun c22 => ?_) (fun c22 => ?_)
        · first | (exfalso; simp at c22; done) | (exfalso; have hcc := of_decide_eq_true c22; omega) | (exfalso; simp at c22; omega)
        · refine ok_skip (h20 _ ?_)
          refine ok_seq fun K23 h23 => ?_
          refine ok_seq fun K24 h24 => ?_
          refine ok_region rfl (q_mv _ rfl (q_mva rfl (q_callq (fun b hb => by cases hb) (f15_ok a2 hs2) cl15 ⟨.inr (.inr ⟨_, rfl⟩), trivial⟩ (q_callp (f19_ok a2 hs2) cl19 ⟨.inr (.inl ⟨_, rfl, (.tr _ _ _ _)⟩), .inl rfl, trivial⟩ (q_un _ _ rfl rfl (run_nil (h24 _ ?_)))))))
          clear h24 K24
          refine ok_cond rfl (fun c25 => ?_) (fun c25 => ?_)
          · first | (exfalso; simp at c25; done) | (exfalso; have hcc := of_decide_eq_true c25; omega) | (exfalso; simp at c25; omega)
          · refine ok_skip (h23 _ ?_)
            refine ok_seq fun K26 h26 => ?_
            refine ok_region rfl (q_as _ rfl (run_nil (h26 _ ?_)))
            clear h26 K26
            refine ok_seq fun K27 h27 => ?_
            refine ok_region rfl (q_mv _ rfl (q_mv _ rfl (q_markg (k := ((1 : Nat) : Int)) (.tr _ _ _ _) (f37_m a1 (⟨(hs1).1, fun y hy => nBlock_of ((hs1).2 y hy)⟩) (1) (by omega) (by omega)) cl37 rfl rfl (fun b hb => .inl (hz_x0 b hb)) [(16, .sv (int 1)), (15, .sv (.tr Zg (eSeriesS (resSB a0 a1 a2 a3 a4)) vg)), (47, .sv (.tr Zg (eSeriesS (resSB a0 a1 a2 a3 a4)) vg)), (14, .sv (.tr Zx1 (eMatcherS a2) vx1)), (41, .sv (.tr Zx1 (eMatcherS a2) vx1)), (12, .av (fun b => ((Zn b (.tr Zx0 (eBlockS a1) vx0)) ∨ Zn b (.tr Zx1 (eMatcherS a2) vx1)) ∨ Zn b (.tr Zg (eSeriesS (resSB a0 a1 a2 a3 a4)) vg)) (eSeriesS (resSB a0 a1 a2 a3 a4))), (10, .sv (bool false)), (4, .sv (int a4)), (3, .sv (int a3)), (2, .av (fun b => ((Zn b (.tr Zx0 (eBlockS a1) vx0)) ∨ Zn b (.tr Zx1 (eMatcherS a2) vx1)) ∨ Zn b (.tr Zg (eSeriesS (resSB a0 a1 a2 a3 a4)) vg)) (eMatcherS a2)), (1, .av (fun b => ((Zn b (.tr Zx0 (eBlockS a1) vx0)) ∨ Zn b (.tr Zx1 (eMatcherS a2) vx1)) ∨ Zn b (.tr Zg (eSeriesS (resSB a0 a1 a2 a3 a4)) vg)) (eBlockS a1)), (0, .sv (int a0))] [] ⟨⟨_, rfl, .raw⟩, ⟨_, rfl, .good (.tr _ _ _ _) (fun b hb hb' => ap_x0_g b hb' hb)⟩, ⟨_, rfl, .good (.tr _ _ _ _) (fun b hb hb' => ap_x0_g b hb' hb)⟩, ⟨_, rfl, .good (.tr _ _ _ _) (fun b hb hb' => ap_x0_x1 b hb' hb)⟩, ⟨_, rfl, .good (.tr _ _ _ _) (fun b hb hb' => ap_x0_x1 b hb' hb)⟩, ⟨_, rfl, .av (fun b hb => (.inl (.inl hb)))⟩, ⟨_, rfl, .raw⟩, ⟨_, rfl, .raw⟩, ⟨_, rfl, .raw⟩, ⟨_, rfl, .av (fun b hb => (.inl (.inl hb)))⟩, ⟨_, rfl, .av (fun b hb => (.inl (.inl hb)))⟩, ⟨_, rfl, .raw⟩, trivial⟩ trivial (fun k' s' hR => ?_))))
            obtain ⟨rfl, -⟩ := hR
            refine q_as _ rfl (run_nil (h27 _ ?_))
            refine ok_le (σ' := ⟨[(16, .sv (int ((1 + cL cBlock a1 : Nat) : Int))), (15, .sv (.tr Zg (eSeriesS (resSB a0 a1 a2 a3 a4)) vg)), (47, .sv (.tr Zg (eSeriesS (resSB a0 a1 a2 a3 a4)) vg)), (14, .sv (.tr Zx1 (eMatcherS a2) vx1)), (41, .sv (.tr Zx1 (eMatcherS a2) vx1)), (12, .av (fun b => ((Zn b (.tr Zx0 (eBlockS a1) vx0)) ∨ Zn b (.tr Zx1 (eMatcherS a2) vx1)) ∨ Zn b (.tr Zg (eSeriesS (resSB a0 a1 a2 a3 a4)) vg)) (eSeriesS (resSB a0 a1 a2 a3 a4))), (10, .sv (bool false)), (4, .sv (int a4)), (3, .sv (int a3)), (2, .av (fun b => ((Zn b (.tr Zx0 (eBlockS a1) vx0)) ∨ Zn b (.tr Zx1 (eMatcherS a2) vx1)) ∨ Zn b (.tr Zg (eSeriesS (resSB a0 a1 a2 a3 a4)) vg)) (eMatcherS a2)), (1, .av (fun b => ((Zn b (.tr Zx0 (eBlockS a1) vx0)) ∨ Zn b (.tr Zx1 (eMatcherS a2) vx1)) ∨ Zn b (.tr Zg (eSeriesS (resSB a0 a1 a2 a3 a4)) vg)) (eBlockS a1)), (0, .sv (int a0))], []⟩) (le_sub ⟨rfl, rfl, rfl, rfl, rfl, rfl, rfl, rfl, rfl, rfl, rfl, rfl, trivial⟩ trivial) ?_
            clear h27 K27
            refine ok_seq fun K28 h28 => ?_
            refine ok_region rfl (q_mv _ rfl (q_mv _ rfl (q_markg (k := ((1 + cL cBlock a1 : Nat) : Int)) (.tr _ _ _ _) (f21_m a2 ((hs2).1) (1 + cL cBlock a1) (by omega) (by omega)) cl21 rfl rfl (fun b hb => .inl (hz_x1 b hb)) [(16, .sv (int ((1 + cL cBlock a1 : Nat) : Int))), (15, .sv (.tr Zg (eSeriesS (resSB a0 a1 a2 a3 a4)) vg)), (47, .sv (.tr Zg (eSeriesS (resSB a0 a1 a2 a3 a4)) vg)), (12, .av (fun b => ((Zn b (.tr Zx0 (eBlockS a1) vx0)) ∨ Zn b (.tr Zx1 (eMatcherS a2) vx1)) ∨ Zn b (.tr Zg (eSeriesS (resSB a0 a1 a2 a3 a4)) vg)) (eSeriesS (resSB a0 a1 a2 a3 a4))), (10, .sv (bool false)), (4, .sv (int a4)), (3, .sv (int a3)), (2, .av (fun b => ((Zn b (.tr Zx0 (eBlockS a1) vx0)) ∨ Zn b (.tr Zx1 (eMatcherS a2) vx1)) ∨ Zn b (.tr Zg (eSeriesS (resSB a0 a1 a2 a3 a4)) vg)) (eMatcherS a2)), (1, .av (fun b => ((Zn b (.tr Zx0 (eBlockS a1) vx0)) ∨ Zn b (.tr Zx1 (eMatcherS a2) vx1)) ∨ Zn b (.tr Zg (eSeriesS (resSB a0 a1 a2 a3 a4)) vg)) (eBlockS a1)), (0, .sv (int a0))] [] ⟨⟨_, rfl, .raw⟩, ⟨_, rfl, .good (.tr _ _ _ _) (fun b hb hb' => ap_x1_g b hb' hb)⟩, ⟨_, rfl, .good (.tr _ _ _ _) (fun b hb hb' => ap_x1_g b hb' hb)⟩, ⟨_, rfl, .av (fun b hb => (.inl (.inr hb)))⟩, ⟨_, rfl, .raw⟩, ⟨_, rfl, .raw⟩, ⟨_, rfl, .raw⟩, ⟨_, rfl, .av (fun b hb => (.inl (.inr hb)))⟩, ⟨_, rfl, .av (fun b hb => (.inl (.inr hb)))⟩, ⟨_, rfl, .raw⟩, trivial⟩ trivial (fun k' s' hR => ?_))))
            obtain ⟨rfl, -⟩ := hR
            refine q_as _ rfl (run_nil (h28 _ ?_))
            refine ok_le (σ' := ⟨[(16, .sv (int ((1 + cL cBlock a1 + cL cMatcher a2 : Nat) : Int))), (15, .sv (.tr Zg (eSeriesS (resSB a0 a1 a2 a3 a4)) vg)), (47, .sv (.tr Zg (eSeriesS (resSB a0 a1 a2 a3 a4)) vg)), (12, .av (fun b => ((Zn b (.tr Zx0 (eBlockS a1) vx0)) ∨ Zn b (.tr Zx1 (eMatcherS a2) vx1)) ∨ Zn b (.tr Zg (eSeriesS (resSB a0 a1 a2 a3 a4)) vg)) (eSeriesS (resSB a0 a1 a2 a3 a4))), (10, .sv (bool false)), (4, .sv (int a4)), (3, .sv (int a3)), (2, .av (fun b => ((Zn b (.tr Zx0 (eBlockS a1) vx0)) ∨ Zn b (.tr Zx1 (eMatcherS a2) vx1)) ∨ Zn b (.tr Zg (eSeriesS (resSB a0 a1 a2 a3 a4)) vg)) (eMatcherS a2)), (1, .av (fun b => ((Zn b (.tr Zx0 (eBlockS a1) vx0)) ∨ Zn b (.tr Zx1 (eMatcherS a2) vx1)) ∨ Zn b (.tr Zg (eSeriesS (resSB a0 a1 a2 a3 a4)) vg)) (eBlockS a1)), (0, .sv (int a0))], []⟩) (le_sub ⟨rfl, rfl, rfl, rfl, rfl, rfl, rfl, rfl, rfl, rfl, trivial⟩ trivial) ?_
            clear h28 K28
            refine ok_seq fun K29 h29 => ?_
            refine ok_seq fun K30 h30 => ?_
            refine ok_region rfl (q_mv _ rfl (q_bin _ _ _ rfl rfl rfl (q_mv _ rfl (q_or 4 4 rfl rfl rfl rfl rfl (fun hb75 =>q_mv _ rfl (q_mva rfl (q_callp (f26_ok (resSB a0 a1 a2 a3 a4) (resSB_S a0 hs1.2 (zBlockS_wt p1 (by decide)) a2 a3 a4)) cl26 ⟨.inr (.inl ⟨_, rfl, (.tr _ _ _ _)⟩), .inr (.inr ⟨_, rfl⟩), trivial⟩ (q_un _ _ rfl rfl (run_nil ⟨rfl, rfl, rfl, rfl⟩))))) (run_nil (h30 _ ?_))))))
            clear h30 K30
            refine ok_cond rfl (fun c31 => ?_) (fun c31 => ?_)
            · first | (exfalso; simp at c31; done) | (exfalso; have hcc := of_decide_eq_true c31; omega) | (exfalso; simp at c31; omega)
            · refine ok_skip (h29 _ ?_)
              refine ok_seq fun K32 h32 => ?_
              refine ok_region rfl (q_as _ rfl (run_nil (h32 _ ?_)))
              refine ok_le (σ' := ⟨[(17, .sv (int 1)), (16, .sv (int ((1 + cL cBlock a1 + cL cMatcher a2 : Nat) : Int))), (15, .sv (.tr Zg (eSeriesS (resSB a0 a1 a2 a3 a4)) vg)), (47, .sv (.tr Zg (eSeriesS (resSB a0 a1 a2 a3 a4)) vg)), (12, .av (fun b => ((Zn b (.tr Zx0 (eBlockS a1) vx0)) ∨ Zn b (.tr Zx1 (eMatcherS a2) vx1)) ∨ Zn b (.tr Zg (eSeriesS (resSB a0 a1 a2 a3 a4)) vg)) (eSeriesS (resSB a0 a1 a2 a3 a4))), (10, .sv (bool false)), (4, .sv (int a4)), (3, .sv (int a3)), (2, .av (fun b => ((Zn b (.tr Zx0 (eBlockS a1) vx0)) ∨ Zn b (.tr Zx1 (eMatcherS a2) vx1)) ∨ Zn b (.tr Zg (eSeriesS (resSB a0 a1 a2 a3 a4)) vg)) (eMatcherS a2)), (1, .av (fun b => ((Zn b (.tr Zx0 (eBlockS a1) vx0)) ∨ Zn b (.tr Zx1 (eMatcherS a2) vx1)) ∨ Zn b (.tr Zg (eSeriesS (resSB a0 a1 a2 a3 a4)) vg)) (eBlockS a1)), (0, .sv (int a0))], []⟩) (le_sub ⟨rfl, rfl, rfl, rfl, rfl, rfl, rfl, rfl, rfl, rfl, rfl, trivial⟩ trivial) ?_
              clear h32 K32
              refine ok_seq fun K33 h33 => ?_
              refine ok_region rfl (q_mv _ rfl (q_mv _ rfl (q_mark (k := ((1 : Nat) : Int)) (f27_m (resSB a0 a1 a2 a3 a4) (⟨((resSB_S a0 hs1.2 (zBlockS_wt p1 (by decide)) a2 a3 a4)).1, fun y hy => nSeries_of (((resSB_S a0 hs1.2 (zBlockS_wt p1 (by decide)) a2 a3 a4)).2 y hy)⟩) 1 (by decide) hCg) cl27 rfl rfl (fun b hb => .inl (hz_g b (.tr _ _ _ hb))) (fun s' => [(77, .sv (int 1)), (76, .dead), (17, .sv (int 1)), (16, .sv (int ((1 + cL cBlock a1 + cL cMatcher a2 : Nat) : Int))), (15, .sv (.tr Zg s' vg)), (47, .sv (.tr Zg s' vg)), (12, .av (fun b => ((Zn b (.tr Zx0 (eBlockS a1) vx0)) ∨ Zn b (.tr Zx1 (eMatcherS a2) vx1)) ∨ Zn b (.tr Zg (eSeriesS (resSB a0 a1 a2 a3 a4)) vg)) (eSeriesS (resSB a0 a1 a2 a3 a4))), (10, .sv (bool false)), (4, .sv (int a4)), (3, .sv (int a3)), (2, .av (fun b => ((Zn b (.tr Zx0 (eBlockS a1) vx0)) ∨ Zn b (.tr Zx1 (eMatcherS a2) vx1)) ∨ Zn b (.tr Zg (eSeriesS (resSB a0 a1 a2 a3 a4)) vg)) (eMatcherS a2)), (1, .av (fun b => ((Zn b (.tr Zx0 (eBlockS a1) vx0)) ∨ Zn b (.tr Zx1 (eMatcherS a2) vx1)) ∨ Zn b (.tr Zg (eSeriesS (resSB a0 a1 a2 a3 a4)) vg)) (eBlockS a1)), (0, .sv (int a0))]) (fun s' => []) (fun s' => ⟨rfl, .sv (.raw _), rfl, .dead, rfl, .sv (.raw _), rfl, .sv (.raw _), rfl, .sv .same, rfl, .sv .same, rfl, .av (fun b hb => (.inr (.tr _ _ _ hb))), rfl, .sv (.raw _), rfl, .sv (.raw _), rfl, .sv (.raw _), rfl, .av (fun b hb => (.inr (.tr _ _ _ hb))), rfl, .av (fun b hb => (.inr (.tr _ _ _ hb))), rfl, .sv (.raw _), trivial⟩) (fun s' => trivial) (fun k' s' hR => ?_))))
              obtain ⟨rfl, lg, rfl, hhg, hcg, hmg⟩ := hR
              refine q_as _ rfl (run_nil (h33 _ ?_))
              clear h33 K33
              refine ok_seq fun K34 h34 => ?_
              refine ok_region rfl (q_as _ rfl (run_nil (h34 _ ?_)))
              refine ok_le (σ' := ⟨[(18, .sv (int 1)), (17, .sv (int ((1 + cL cSeries (resSB a0 a1 a2 a3 a4) : Nat) : Int))), (16, .sv (int ((1 + cL cBlock a1 + cL cMatcher a2 : Nat) : Int))), (15, .sv (.tr Zg (eSeriesS lg) vg)), (47, .sv (.tr Zg (eSeriesS lg) vg)), (12, .av (fun b => ((Zn b (.tr Zx0 (eBlockS a1) vx0)) ∨ Zn b (.tr Zx1 (eMatcherS a2) vx1)) ∨ Zn b (.tr Zg (eSeriesS (resSB a0 a1 a2 a3 a4)) vg)) (eSeriesS (resSB a0 a1 a2 a3 a4))), (10, .sv (bool false)), (4, .sv (int a4)), (3, .sv (int a3)), (2, .av (fun b => ((Zn b (.tr Zx0 (eBlockS a1) vx0)) ∨ Zn b (.tr Zx1 (eMatcherS a2) vx1)) ∨ Zn b (.tr Zg (eSeriesS (resSB a0 a1 a2 a3 a4)) vg)) (eMatcherS a2)), (1, .av (fun b => ((Zn b (.tr Zx0 (eBlockS a1) vx0)) ∨ Zn b (.tr Zx1 (eMatcherS a2) vx1)) ∨ Zn b (.tr Zg (eSeriesS (resSB a0 a1 a2 a3 a4)) vg)) (eBlockS a1)), (0, .sv (int a0))], []⟩) (le_sub ⟨rfl, rfl, rfl, rfl, rfl, rfl, rfl, rfl, rfl, rfl, rfl, rfl, trivial⟩ trivial) ?_
              clear h34 K34
              refine ok_seq fun K35 h35 => ?_
              refine ok_region rfl (q_mv _ rfl (q_mv _ rfl (q_callp (show PFn Tryz.prog 28 [eSeriesS lg, int ((1 : Nat) : Int)] (int ((1 + cL cSeries (resSB a0 a1 a2 a3 a4) : Nat) : Int)) from by have h9 := f28_h lg hmg 1 (by decide) (by rw [hcg]; exact hCg) hhg; rw [hcg] at h9; exact h9) cl28 ⟨.inr (.inl ⟨_, rfl, .tr _ _ _ _⟩), .inl rfl, trivial⟩ (q_as _ rfl (run_nil (h35 _ ?_))))))
              clear h35 K35
              refine ok_seq fun K36 h36 => ?_
              refine ok_seq fun K37 h37 => ?_
              refine ok_region rfl (q_mv _ rfl (q_bin _ _ _ rfl rfl rfl (run_nil (h37 _ ?_))))
              clear h37 K37
              refine ok_cond rfl (fun c38 => ?_) (fun c38 => ?_)
              · first | (exfalso; simp at c38; done) | (exfalso; have hcc := of_decide_eq_true c38; omega) | (exfalso; simp at c38; omega)
              · refine ok_skip (h36 _ ?_)
                refine ok_seq fun K39 h39 => ?_
                refine ok_seq fun K40 h40 => ?_
                refine ok_region rfl (q_mv _ rfl (q_mv _ rfl (q_bin _ _ _ rfl rfl rfl (run_nil (h40 _ ?_)))))
                clear h40 K40
                refine ok_cond rfl (fun c41 => ?_) (fun c41 => ?_)
                · first | (exfalso; simp at c41; done) | (exfalso; have hcc := of_decide_eq_true c41; omega) | (exfalso; simp at c41; omega)
                · refine ok_skip (h39 _ ?_)
                  refine ok_seq fun K42 h42 => ?_
                  refine ok_region rfl (q_mv _ rfl (q_mva rfl (q_callq (fun b hb => by cases hb) (f34_ok a1 hs1) cl34 ⟨.inr (.inr ⟨_, rfl⟩), trivial⟩ (q_mva rfl (q_callq (fun b hb => by cases hb) (f15_ok a2 hs2) cl15 ⟨.inr (.inr ⟨_, rfl⟩), trivial⟩ (q_mv _ rfl (q_mv _ rfl (q_callg [] (f35_t a0 a1 hs1 (zBlockS_wt p1 (by decide)) a2 hs2 a3 a4) cl35 ⟨.inl rfl, .inl rfl, .inl rfl, .inl rfl, .inl rfl, trivial⟩ (fun r_h hr_h hz_h ha_h => ?_)))))))))
                  obtain ⟨Zh, vh, rfl⟩ := gd_sl_inv hr_h
                  refine q_as _ rfl (run_nil (h42 _ ?_))
                  refine ok_le (σ' := ⟨[(19, .sv (.tr Zh (eSeriesS (resSB a0 a1 a2 a3 a4)) vh)), (94, .sv (.tr Zh (eSeriesS (resSB a0 a1 a2 a3 a4)) vh)), (18, .sv (int ((1 + cL cSeries (resSB a0 a1 a2 a3 a4) : Nat) : Int))), (17, .sv (int ((1 + cL cSeries (resSB a0 a1 a2 a3 a4) : Nat) : Int))), (16, .sv (int ((1 + cL cBlock a1 + cL cMatcher a2 : Nat) : Int))), (15, .sv (.tr Zg (eSeriesS lg) vg)), (47, .sv (.tr Zg (eSeriesS lg) vg)), (12, .av (fun b => ((Zn b (.tr Zx0 (eBlockS a1) vx0)) ∨ Zn b (.tr Zx1 (eMatcherS a2) vx1)) ∨ Zn b (.tr Zg (eSeriesS (resSB a0 a1 a2 a3 a4)) vg)) (eSeriesS (resSB a0 a1 a2 a3 a4))), (10, .sv (bool false)), (4, .sv (int a4)), (3, .sv (int a3)), (2, .av (fun b => ((Zn b (.tr Zx0 (eBlockS a1) vx0)) ∨ Zn b (.tr Zx1 (eMatcherS a2) vx1)) ∨ Zn b (.tr Zg (eSeriesS (resSB a0 a1 a2 a3 a4)) vg)) (eMatcherS a2)), (1, .av (fun b => ((Zn b (.tr Zx0 (eBlockS a1) vx0)) ∨ Zn b (.tr Zx1 (eMatcherS a2) vx1)) ∨ Zn b (.tr Zg (eSeriesS (resSB a0 a1 a2 a3 a4)) vg)) (eBlockS a1)), (0, .sv (int a0))], []⟩) (le_sub ⟨rfl, rfl, rfl, rfl, rfl, rfl, rfl, rfl, rfl, rfl, rfl, rfl, rfl, rfl, trivial⟩ trivial) ?_
                  clear h42 K42
                  refine ok_seq fun K43 h43 => ?_
                  refine ok_seq fun K44 h44 => ?_
                  refine ok_region rfl (q_mv _ rfl (q_mva rfl (q_callp (f26_ok (resSB a0 a1 a2 a3 a4) (resSB_S a0 hs1.2 (zBlockS_wt p1 (by decide)) a2 a3 a4)) cl26 ⟨.inr (.inl ⟨_, rfl, (.tr _ _ _ _)⟩), .inr (.inr ⟨_, rfl⟩), trivial⟩ (q_un _ _ rfl rfl (run_nil (h44 _ ?_))))))
                  clear h44 K44
                  refine ok_cond rfl (fun c45 => ?_) (fun c45 => ?_)
                  · first | (exfalso; simp at c45; done) | (exfalso; have hcc := of_decide_eq_true c45; omega) | (exfalso; simp at c45; omega)
                  · refine ok_skip (h43 _ ?_)
                    refine ok_seq fun K46 h46 => ?_
                    refine ok_region rfl (q_as _ rfl (run_nil (h46 _ ?_)))
                    refine ok_le (σ' := ⟨[(18, .sv (int 1)), (19, .sv (.tr Zh (eSeriesS (resSB a0 a1 a2 a3 a4)) vh)), (94, .sv (.tr Zh (eSeriesS (resSB a0 a1 a2 a3 a4)) vh)), (17, .sv (int ((1 + cL cSeries (resSB a0 a1 a2 a3 a4) : Nat) : Int))), (16, .sv (int ((1 + cL cBlock a1 + cL cMatcher a2 : Nat) : Int))), (15, .sv (.tr Zg (eSeriesS lg) vg)), (47, .sv (.tr Zg (eSeriesS lg) vg)), (12, .av (fun b => ((Zn b (.tr Zx0 (eBlockS a1) vx0)) ∨ Zn b (.tr Zx1 (eMatcherS a2) vx1)) ∨ Zn b (.tr Zg (eSeriesS (resSB a0 a1 a2 a3 a4)) vg)) (eSeriesS (resSB a0 a1 a2 a3 a4))), (10, .sv (bool false)), (4, .sv (int a4)), (3, .sv (int a3)), (2, .av (fun b => ((Zn b (.tr Zx0 (eBlockS a1) vx0)) ∨ Zn b (.tr Zx1 (eMatcherS a2) vx1)) ∨ Zn b (.tr Zg (eSeriesS (resSB a0 a1 a2 a3 a4)) vg)) (eMatcherS a2)), (1, .av (fun b => ((Zn b (.tr Zx0 (eBlockS a1) vx0)) ∨ Zn b (.tr Zx1 (eMatcherS a2) vx1)) ∨ Zn b (.tr Zg (eSeriesS (resSB a0 a1 a2 a3 a4)) vg)) (eBlockS a1)), (0, .sv (int a0))], []⟩) (le_sub ⟨rfl, rfl, rfl, rfl, rfl, rfl, rfl, rfl, rfl, rfl, rfl, rfl, rfl, rfl, trivial⟩ trivial) ?_
                    clear h46 K46
                    refine ok_seq fun K47 h47 => ?_
                    refine ok_region rfl (q_mv _ rfl (q_mv _ rfl (q_callp (show PFn Tryz.prog 28 [eSeriesS lg, int ((1 : Nat) : Int)] (int ((1 + cL cSeries (resSB a0 a1 a2 a3 a4) : Nat) : Int)) from by have h9 := f28_h lg hmg 1 (by decide) (by rw [hcg]; exact hCg) hhg; rw [hcg] at h9; exact h9) cl28 ⟨.inr (.inl ⟨_, rfl, .tr _ _ _ _⟩), .inl rfl, trivial⟩ (q_as _ rfl (run_nil (h47 _ ?_))))))
                    clear h47 K47
                    refine ok_seq fun K48 h48 => ?_
                    refine ok_seq fun K49 h49 => ?_
                    refine ok_region rfl (q_mv _ rfl (q_bin _ _ _ rfl rfl rfl (run_nil (h49 _ ?_))))
                    clear h49 K49
                    refine ok_cond rfl (fun c50 => ?_) (fun c50 => ?_)
                    · first | (exfalso; simp at c50; done) | (exfalso; have hcc := of_decide_eq_true c50; omega) | (exfalso; simp at c50; omega)
                    · refine ok_skip (h48 _ ?_)
                      refine ok_seq fun K51 h51 => ?_
                      refine ok_seq fun K52 h52 => ?_
                      refine ok_region rfl (q_mv _ rfl (q_mv _ rfl (q_bin _ _ _ rfl rfl rfl (run_nil (h52 _ ?_)))))
                      clear h52 K52
                      refine ok_cond rfl (fun c53 => ?_) (fun c53 => ?_)
                      · first | (exfalso; simp at c53; done) | (exfalso; have hcc := of_decide_eq_true c53; omega) | (exfalso; simp at c53; omega)
                      · refine ok_skip (h51 _ ?_)
                        refine ok_seq fun K54 h54 => ?_
                        refine ok_region rfl (q_as _ rfl (run_nil (h54 _ ?_)))
                        refine ok_le (σ' := ⟨[(10, .sv (bool true)), (18, .sv (int ((1 + cL cSeries (resSB a0 a1 a2 a3 a4) : Nat) : Int))), (19, .sv (.tr Zh (eSeriesS (resSB a0 a1 a2 a3 a4)) vh)), (94, .sv (.tr Zh (eSeriesS (resSB a0 a1 a2 a3 a4)) vh)), (17, .sv (int ((1 + cL cSeries (resSB a0 a1 a2 a3 a4) : Nat) : Int))), (16, .sv (int ((1 + cL cBlock a1 + cL cMatcher a2 : Nat) : Int))), (15, .sv (.tr Zg (eSeriesS lg) vg)), (47, .sv (.tr Zg (eSeriesS lg) vg)), (12, .av (fun b => ((Zn b (.tr Zx0 (eBlockS a1) vx0)) ∨ Zn b (.tr Zx1 (eMatcherS a2) vx1)) ∨ Zn b (.tr Zg (eSeriesS (resSB a0 a1 a2 a3 a4)) vg)) (eSeriesS (resSB a0 a1 a2 a3 a4))), (4, .sv (int a4)), (3, .sv (int a3)), (2, .av (fun b => ((Zn b (.tr Zx0 (eBlockS a1) vx0)) ∨ Zn b (.tr Zx1 (eMatcherS a2) vx1)) ∨ Zn b (.tr Zg (eSeriesS (resSB a0 a1 a2 a3 a4)) vg)) (eMatcherS a2)), (1, .av (fun b => ((Zn b (.tr Zx0 (eBlockS a1) vx0)) ∨ Zn b (.tr Zx1 (eMatcherS a2) vx1)) ∨ Zn b (.tr Zg (eSeriesS (resSB a0 a1 a2 a3 a4)) vg)) (eBlockS a1)), (0, .sv (int a0))], []⟩) (le_sub ⟨rfl, rfl, rfl, rfl, rfl, rfl, rfl, rfl, rfl, rfl, rfl, rfl, rfl, rfl, trivial⟩ trivial) ?_
                        clear h54 K54
                        exact ok_ret ⟨_, rfl, rfl⟩
end Go.Ring
