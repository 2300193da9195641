/- The law of how a cluster is read. No condition. -/
import Derived.Test.YtanilephcohjkaaGreatW1
import Derived.Test.YtanilephcohjkaaGreatK2
set_option maxRecDepth 100000
set_option linter.unusedVariables false
set_option linter.unusedSimpArgs false
namespace Go.Ring
open Go Go.RowKit Go.Eager Go.Abs Go.Proofs
theorem resRR_S {c : Cluster} (hc : SCluster c) (hw : sumF wt c.data ≤ 1048576) (ms : List Matcher) (f t : Int) : (resRR c ms f t).1.length ≤ 1048576 ∧ ∀ y ∈ (resRR c ms f t).1, SSeries y := by
  unfold resRR
  split
  · rename_i h
    have hd := datOk hc hw (of_pB h.1)
    obtain ⟨a1, a2, a3⟩ := allU_inv (ns := c.ring.nodes) hd
    exact selL_S (lb_ss a1.b a2)
  · exact ⟨by simp, by simp⟩
theorem resRR_C {c : Cluster} (hc : SCluster c) (hw : sumF wt c.data ≤ 1048576) (ms : List Matcher) (f t : Int) : 1 + cL cSeries (resRR c ms f t).1 ≤ 1152921504606846976 := by
  have hS := resRR_S hc hw ms f t
  have h1 := cL_le (c := cSeries) (m := 4194304) (resRR c ms f t).1 fun s hs => cSeries_le (hS.2 s hs)
  have h2 := hS.1
  omega
theorem f6_ok (a0 : Cluster) (pa0 : LCluster a0) (a1 : List Matcher) (pa1 : LB a1.length ∧ ∀ y ∈ a1, LMatcher y) (a2 : Int) (pa2 : (Lit.int .i64 a2).wf = true) (a3 : Int) (pa3 : (Lit.int .i64 a3).wf = true) : PFn Tryz.prog 6 [eCluster a0, eMatcherS a1, int a2, int a3] (bool true) := by
  refine fn_ok' (n := 129) Tryz.func6 rfl rfl rfl (Nat.le_of_ble_eq_true rfl) rfl fun w0 O => ?_
  refine ok_seq fun K1 h1 => ok_region rfl (q_boxs _ rfl (Nat.zero_lt_succ _) (q_as _ rfl (run_nil (h1 _ ?_)))); clear h1 K1
  refine ok_seq fun K1 h1 => ok_region rfl (q_as _ rfl (run_nil (h1 _ ?_))); clear h1 K1
  refine ok_seq fun K1 h1 => ok_region rfl (q_lds _ ag27 rfl sz27 (q_mv _ rfl (q_call (f9_ok a0 pa0 1048576 (by decide) (by decide)) cl9 rfl rfl (q_as _ rfl (run_nil (h1 _ ?_)))))); clear h1 K1
  refine ok_seq fun K1 h1 => ?_
  refine ok_seq fun K2 h2 => ok_region rfl (q_mv _ rfl (q_bin _ _ _ rfl rfl rfl (run_nil (h2 _ ?_)))); clear h2 K2
  refine ok_cond rfl (fun c3 => ?_) (fun c3 => ?_)
  · refine ok_seq fun K4 h4 => ok_region rfl (q_as _ rfl (run_nil (h4 _ ?_)))
    exact ok_ret ⟨_, rfl, rfl⟩
  have p0 : 0 ≤ zCluster a0 1048576 := by have := of_decide_eq_false c3; omega
  have u0 : zCluster a0 1048576 ≤ 1048576 := (zCluster_ok a0 _ (by decide)).1
  have hs0 := (zCluster_ok a0 _ (by decide)).2.2 p0
  have kb0 := kcm_Cluster a0 _ p0
  have hw0 := zCluster_wt p0 (by decide)
  refine ok_skip (h1 _ ?_); clear h1 K1
  refine ok_seq fun K1 h1 => ok_region rfl (q_mv _ rfl (q_mv _ rfl (q_call (f31_ok a1 pa1 (zCluster a0 1048576) p0 u0) cl31 rfl rfl (q_as _ rfl (run_nil (h1 _ ?_)))))); clear h1 K1
  refine ok_seq fun K1 h1 => ?_
  refine ok_seq fun K2 h2 => ok_region rfl (q_mv _ rfl (q_bin _ _ _ rfl rfl rfl (run_nil (h2 _ ?_)))); clear h2 K2
  refine ok_cond rfl (fun c4 => ?_) (fun c4 => ?_)
  · refine ok_seq fun K4 h4 => ok_region rfl (q_as _ rfl (run_nil (h4 _ ?_)))
    exact ok_ret ⟨_, rfl, rfl⟩
  have p1 : 0 ≤ zMatcherS a1 (zCluster a0 1048576) := by have := of_decide_eq_false c4; omega
  have hs1 := (zMatcherS_ok a1 _ u0).2.2 p1
  have kb1 := kc_MatcherS a1 _ p1
  have c32 := f32_ok a0 hs0 hw0 a1 hs1 a2 a3
  have c34 := f34_t a0 hs0 hw0 a1 hs1 a2 a3
  have hS := resRR_S hs0 hw0 a1 a2 a3
  have hCT := resRR_C hs0 hw0 a1 a2 a3
  generalize resRR a0 a1 a2 a3 = rr at c32 c34 hS hCT
  obtain ⟨r1, r2⟩ := rr
  simp only at c32 c34 hS hCT
  refine ok_skip (h1 _ ?_); clear h1 K1
  refine ok_seq fun K1 h1 => ?_
  refine ok_region rfl (q_lds _ ag27 rfl sz27 (q_call (f11_ok a0 hs0) cl11 rfl rfl (q_mv _ rfl (q_call (f33_ok a1 hs1) cl33 rfl rfl (q_mv _ rfl (q_mv _ rfl (q_call c32 cl32 rfl rfl (q_mv _ rfl (q_ext _ rfl rfl (q_ext _ rfl rfl (q_as _ rfl (q_as _ rfl (run_nil (h1 _ ?_))))))))))))))
  clear h1 K1
  refine ok_le (σ' := ⟨[(10, .sv (eSeriesS r1)), (4, .sv (.ptr (eCluster a0))), (1, .sv (eMatcherS a1)), (11, .sv (bool r2)), (8, .sv (bool false)), (3, .sv (int a3)), (2, .sv (int a2))], []⟩) (le_sub ⟨rfl, rfl, rfl, rfl, rfl, rfl, rfl, trivial⟩ trivial) ?_
  refine ok_seq fun K2 h2 => ?_
  refine ok_region rfl (q_lds _ ag27 rfl sz27 (q_callg [10, 4, 1] (f11_t a0 hs0) cl11 ⟨.inl rfl, trivial⟩ (fun r_x hr_x hz_x ha_x => ?_)))
  obtain ⟨Z1x, v1x, Z2x, v2x, rfl, d12⟩ := gi_Cluster (x := a0) hr_x
  refine q_alloc _ ze34 rfl rfl rfl rfl (q_sts _ rfl rfl rfl sz34 (Nat.le_of_ble_eq_true rfl) rfl (run_nil (h2 _ ?_)))
  refine ok_le (σ' := ⟨[(12, .ptr 12 0), (42, .sv (.agg [int a0.ring.copies, .tr Z1x (eRingNodeS a0.ring.nodes) v1x, .tr Z2x (eSeriesSS a0.data) v2x])), (10, .av (fun b => Zn b (.agg [int a0.ring.copies, .tr Z1x (eRingNodeS a0.ring.nodes) v1x, .tr Z2x (eSeriesSS a0.data) v2x])) (eSeriesS r1)), (4, .av (fun b => Zn b (.agg [int a0.ring.copies, .tr Z1x (eRingNodeS a0.ring.nodes) v1x, .tr Z2x (eSeriesSS a0.data) v2x])) (.ptr (eCluster a0))), (1, .av (fun b => Zn b (.agg [int a0.ring.copies, .tr Z1x (eRingNodeS a0.ring.nodes) v1x, .tr Z2x (eSeriesSS a0.data) v2x])) (eMatcherS a1)), (11, .sv (bool r2)), (8, .sv (bool false)), (3, .sv (int a3)), (2, .sv (int a2))], [(12, .box [.sv (int a0.ring.copies), .sv (.tr Z1x (eRingNodeS a0.ring.nodes) v1x), .sv (.tr Z2x (eSeriesSS a0.data) v2x)])]⟩) (le_sub ⟨rfl, rfl, rfl, rfl, rfl, rfl, rfl, rfl, rfl, trivial⟩ ⟨rfl, trivial⟩) ?_
  clear h2 K2
  refine ok_seq fun K3 h3 => ?_
  refine ok_region rfl (q_mva rfl (q_callg [10, 4, 1] (f33_t a1 hs1) cl33 ⟨.inr (.inr ⟨_, rfl⟩), trivial⟩ (fun r_m hr_m hz_m ha_m => ?_)))
  obtain ⟨Zm, vm, rfl⟩ := gd_sl_inv hr_m
  have ap_x_m : ∀ b, Zn b (.agg [int a0.ring.copies, .tr Z1x (eRingNodeS a0.ring.nodes) v1x, .tr Z2x (eSeriesSS a0.data) v2x]) → ¬ Zn b (.tr Zm (eMatcherS a1) vm) := fun b h1 h2 => ha_m.1 42 _ b rfl h1 h2
  refine q_as _ rfl (run_nil (h3 _ ?_))
  refine ok_le (σ' := ⟨[(13, .sv (.tr Zm (eMatcherS a1) vm)), (12, .ptr 12 0), (42, .sv (.agg [int a0.ring.copies, .tr Z1x (eRingNodeS a0.ring.nodes) v1x, .tr Z2x (eSeriesSS a0.data) v2x])), (10, .av (fun b => Zn b (.agg [int a0.ring.copies, .tr Z1x (eRingNodeS a0.ring.nodes) v1x, .tr Z2x (eSeriesSS a0.data) v2x]) ∨ Zn b (.tr Zm (eMatcherS a1) vm)) (eSeriesS r1)), (4, .av (fun b => Zn b (.agg [int a0.ring.copies, .tr Z1x (eRingNodeS a0.ring.nodes) v1x, .tr Z2x (eSeriesSS a0.data) v2x]) ∨ Zn b (.tr Zm (eMatcherS a1) vm)) (.ptr (eCluster a0))), (1, .av (fun b => Zn b (.agg [int a0.ring.copies, .tr Z1x (eRingNodeS a0.ring.nodes) v1x, .tr Z2x (eSeriesSS a0.data) v2x]) ∨ Zn b (.tr Zm (eMatcherS a1) vm)) (eMatcherS a1)), (11, .sv (bool r2)), (8, .sv (bool false)), (3, .sv (int a3)), (2, .sv (int a2))], [(12, .box [.sv (int a0.ring.copies), .sv (.tr Z1x (eRingNodeS a0.ring.nodes) v1x), .sv (.tr Z2x (eSeriesSS a0.data) v2x)])]⟩) (le_sub ⟨rfl, rfl, rfl, rfl, rfl, rfl, rfl, rfl, rfl, rfl, trivial⟩ ⟨rfl, trivial⟩) ?_
  clear h3 K3
  refine ok_seq fun K4 h4 => ?_
  refine ok_region rfl (q_ldbs ag34 rfl rfl sz34 rfl rfl (q_mv _ rfl (q_mv _ rfl (q_mv _ rfl (q_callg [10, 4, 1] c34 cl34 ⟨.inr (.inl ⟨_, rfl, gc_Cluster a0 d12⟩), .inr (.inl ⟨_, rfl, .tr _ _ _ _⟩), .inl rfl, .inl rfl, trivial⟩ (fun r_g hr_g hz_g ha_g => ?_))))))
  obtain ⟨g1, rfl, hg1⟩ := hr_g
  obtain ⟨Zg, vg, rfl⟩ := gd_sl_inv hg1
  have ing : ∀ b, Zg b → Zn b (.tup [.tr Zg (eSeriesS r1) vg, bool r2]) := fun b hb => znT_cons.2 (.inl (.tr _ _ _ hb))
  have otg : ∀ b, Zn b (.tup [.tr Zg (eSeriesS r1) vg, bool r2]) → Zg b := fun b hb => zn_tr (zn_tupB hb)
  have ap_x_g : ∀ b, Zn b (.agg [int a0.ring.copies, .tr Z1x (eRingNodeS a0.ring.nodes) v1x, .tr Z2x (eSeriesSS a0.data) v2x]) → ¬ Zg b := fun b h1 h2 => ha_g.1 46 _ b rfl h1 (ing b h2)
  have ap_m_g : ∀ b, Zm b → ¬ Zg b := fun b h1 h2 => ha_g.1 13 _ b rfl (.tr _ _ _ h1) (ing b h2)
  refine q_mv _ rfl (q_ext _ rfl rfl (q_ext _ rfl rfl (q_as _ rfl (q_as _ rfl (run_nil (h4 _ ?_))))))
  refine ok_le (σ' := ⟨[(15, .sv (bool r2)), (14, .sv (.tr Zg (eSeriesS r1) vg)), (13, .sv (.tr Zm (eMatcherS a1) vm)), (12, .ptr 12 0), (10, .av (fun b => (Zn b (.agg [int a0.ring.copies, .tr Z1x (eRingNodeS a0.ring.nodes) v1x, .tr Z2x (eSeriesSS a0.data) v2x]) ∨ Zn b (.tr Zm (eMatcherS a1) vm)) ∨ Zn b (.tup [.tr Zg (eSeriesS r1) vg, bool r2])) (eSeriesS r1)), (4, .av (fun b => (Zn b (.agg [int a0.ring.copies, .tr Z1x (eRingNodeS a0.ring.nodes) v1x, .tr Z2x (eSeriesSS a0.data) v2x]) ∨ Zn b (.tr Zm (eMatcherS a1) vm)) ∨ Zn b (.tup [.tr Zg (eSeriesS r1) vg, bool r2])) (.ptr (eCluster a0))), (1, .av (fun b => (Zn b (.agg [int a0.ring.copies, .tr Z1x (eRingNodeS a0.ring.nodes) v1x, .tr Z2x (eSeriesSS a0.data) v2x]) ∨ Zn b (.tr Zm (eMatcherS a1) vm)) ∨ Zn b (.tup [.tr Zg (eSeriesS r1) vg, bool r2])) (eMatcherS a1)), (11, .sv (bool r2)), (8, .sv (bool false)), (3, .sv (int a3)), (2, .sv (int a2))], [(12, .box [.sv (int a0.ring.copies), .sv (.tr Z1x (eRingNodeS a0.ring.nodes) v1x), .sv (.tr Z2x (eSeriesSS a0.data) v2x)])]⟩) (le_sub ⟨rfl, rfl, rfl, rfl, rfl, rfl, rfl, rfl, rfl, rfl, rfl, trivial⟩ ⟨rfl, trivial⟩) ?_
  clear h4 K4
  refine ok_seq fun K5 h5 => ?_
  refine ok_seq fun K6 h6 => ?_
  refine ok_region rfl (q_mv _ rfl (q_mva rfl (q_callp (f35_ok r1 hS) cl35 ⟨.inr (.inl ⟨_, rfl, .tr _ _ _ _⟩), .inr (.inr ⟨_, rfl⟩), trivial⟩ (q_un _ _ rfl rfl (q_mv _ rfl (q_or 3 3 rfl rfl rfl rfl rfl (fun hb => q_mv _ rfl (q_mv _ rfl (q_neb (p := r2) (q := r2) Tryz.underlying4 rfl rfl (run_nil ⟨rfl, rfl, rfl, rfl⟩)))) (run_nil (h6 _ ?_))))))))
  clear h6 K6
  refine ok_cond rfl (fun c7 => ?_) (fun c7 => ?_)
  · first | (exfalso; simp at c7; done) | (exfalso; have hcc := of_decide_eq_true c7; omega) | (exfalso; simp at c7; omega)
  refine ok_skip (h5 _ ?_)
  refine ok_seq fun K8 h8 => ?_
  refine ok_seq fun K9 h9 => ?_
  refine ok_region_i (by kernel_rfl) (by kernel_rfl) rfl (q_ldbs ag34 rfl rfl sz34 rfl rfl (q_ldsa _ ag27 rfl sz27 (q_call (f11_ok a0 hs0) cl11 rfl rfl (q_callp (f13_ok a0 hs0) cl13 ⟨.inr (.inl ⟨_, rfl, gc_Cluster a0 d12⟩), .inl rfl, trivial⟩ (q_un _ _ rfl rfl (run_nil (h9 _ ?_)))))))
  clear h9 K9
  refine ok_cond rfl (fun c10 => ?_) (fun c10 => ?_)
  · first | (exfalso; simp at c10; done) | (exfalso; have hcc := of_decide_eq_true c10; omega) | (exfalso; simp at c10; omega)
  refine ok_skip (h8 _ ?_)
  refine ok_seq fun K11 h11 => ?_
  refine ok_seq fun K12 h12 => ?_
  refine ok_region rfl (q_mv _ rfl (q_mva rfl (q_callq (fun b hb => by cases hb) (f33_ok a1 hs1) cl33 ⟨.inr (.inr ⟨_, rfl⟩), trivial⟩ (q_callp (f36_ok a1 hs1) cl36 ⟨.inr (.inl ⟨_, rfl, .tr _ _ _ _⟩), .inl rfl, trivial⟩ (q_un _ _ rfl rfl (run_nil (h12 _ ?_)))))))
  clear h12 K12
  refine ok_cond rfl (fun c13 => ?_) (fun c13 => ?_)
  · first | (exfalso; simp at c13; done) | (exfalso; have hcc := of_decide_eq_true c13; omega) | (exfalso; simp at c13; omega)
  refine ok_skip (h11 _ ?_)
  refine ok_seq fun K14 h14 => ?_
  refine ok_region rfl (q_as _ rfl (run_nil (h14 _ ?_)))
  clear h14 K14
  refine ok_le (σ' := ⟨[(16, .sv (int 1)), (15, .sv (bool r2)), (14, .sv (.tr Zg (eSeriesS r1) vg)), (13, .sv (.tr Zm (eMatcherS a1) vm)), (12, .ptr 12 0), (10, .av (fun b => (Zn b (.agg [int a0.ring.copies, .tr Z1x (eRingNodeS a0.ring.nodes) v1x, .tr Z2x (eSeriesSS a0.data) v2x]) ∨ Zn b (.tr Zm (eMatcherS a1) vm)) ∨ Zn b (.tup [.tr Zg (eSeriesS r1) vg, bool r2])) (eSeriesS r1)), (4, .av (fun b => (Zn b (.agg [int a0.ring.copies, .tr Z1x (eRingNodeS a0.ring.nodes) v1x, .tr Z2x (eSeriesSS a0.data) v2x]) ∨ Zn b (.tr Zm (eMatcherS a1) vm)) ∨ Zn b (.tup [.tr Zg (eSeriesS r1) vg, bool r2])) (.ptr (eCluster a0))), (1, .av (fun b => (Zn b (.agg [int a0.ring.copies, .tr Z1x (eRingNodeS a0.ring.nodes) v1x, .tr Z2x (eSeriesSS a0.data) v2x]) ∨ Zn b (.tr Zm (eMatcherS a1) vm)) ∨ Zn b (.tup [.tr Zg (eSeriesS r1) vg, bool r2])) (eMatcherS a1)), (11, .sv (bool r2)), (8, .sv (bool false)), (3, .sv (int a3)), (2, .sv (int a2))], [(12, .box [.sv (int a0.ring.copies), .sv (.tr Z1x (eRingNodeS a0.ring.nodes) v1x), .sv (.tr Z2x (eSeriesSS a0.data) v2x)])]⟩) (le_sub ⟨rfl, rfl, rfl, rfl, rfl, rfl, rfl, rfl, rfl, rfl, rfl, rfl, trivial⟩ ⟨rfl, trivial⟩) ?_
  refine ok_seq fun K15 h15 => ?_
  refine ok_region rfl (q_ldbs ag34 rfl rfl sz34 rfl rfl (q_mv _ rfl (q_markg (k := ((1 : Nat) : Int)) (gc_Cluster a0 d12) (f14_m a0 (nCluster_of hs0) 1 (by omega) (by omega)) cl14 rfl rfl (fun b hb => .inl (hz_x b hb)) [(16, .sv (int 1)), (15, .sv (bool r2)), (14, .sv (.tr Zg (eSeriesS r1) vg)), (13, .sv (.tr Zm (eMatcherS a1) vm)), (10, .av (fun b => (Zn b (.agg [int a0.ring.copies, .tr Z1x (eRingNodeS a0.ring.nodes) v1x, .tr Z2x (eSeriesSS a0.data) v2x]) ∨ Zn b (.tr Zm (eMatcherS a1) vm)) ∨ Zn b (.tup [.tr Zg (eSeriesS r1) vg, bool r2])) (eSeriesS r1)), (4, .av (fun b => (Zn b (.agg [int a0.ring.copies, .tr Z1x (eRingNodeS a0.ring.nodes) v1x, .tr Z2x (eSeriesSS a0.data) v2x]) ∨ Zn b (.tr Zm (eMatcherS a1) vm)) ∨ Zn b (.tup [.tr Zg (eSeriesS r1) vg, bool r2])) (.ptr (eCluster a0))), (1, .av (fun b => (Zn b (.agg [int a0.ring.copies, .tr Z1x (eRingNodeS a0.ring.nodes) v1x, .tr Z2x (eSeriesSS a0.data) v2x]) ∨ Zn b (.tr Zm (eMatcherS a1) vm)) ∨ Zn b (.tup [.tr Zg (eSeriesS r1) vg, bool r2])) (eMatcherS a1)), (11, .sv (bool r2)), (8, .sv (bool false)), (3, .sv (int a3)), (2, .sv (int a2))] [] ⟨⟨_, rfl, .raw⟩, ⟨_, rfl, .raw⟩, ⟨_, rfl, .good (.tr _ _ _ _) (fun b hb hb' => ap_x_g b hb' (zn_tr hb))⟩, ⟨_, rfl, .good (.tr _ _ _ _) (fun b hb hb' => ap_x_m b hb' hb)⟩, ⟨_, rfl, .av (fun b hb => .inl (.inl hb))⟩, ⟨_, rfl, .av (fun b hb => .inl (.inl hb))⟩, ⟨_, rfl, .av (fun b hb => .inl (.inl hb))⟩, ⟨_, rfl, .raw⟩, ⟨_, rfl, .raw⟩, ⟨_, rfl, .raw⟩, ⟨_, rfl, .raw⟩, trivial⟩ trivial (fun k' s' hR => ?_))))
  obtain ⟨rfl, -⟩ := hR
  refine q_as _ rfl (run_nil (h15 _ ?_)); clear h15 K15
  refine ok_le (σ' := ⟨[(16, .sv (int ((1 + cmCluster a0 : Nat) : Int))), (15, .sv (bool r2)), (14, .sv (.tr Zg (eSeriesS r1) vg)), (13, .sv (.tr Zm (eMatcherS a1) vm)), (10, .av (fun b => (Zn b (.agg [int a0.ring.copies, .tr Z1x (eRingNodeS a0.ring.nodes) v1x, .tr Z2x (eSeriesSS a0.data) v2x]) ∨ Zn b (.tr Zm (eMatcherS a1) vm)) ∨ Zn b (.tup [.tr Zg (eSeriesS r1) vg, bool r2])) (eSeriesS r1)), (4, .av (fun b => (Zn b (.agg [int a0.ring.copies, .tr Z1x (eRingNodeS a0.ring.nodes) v1x, .tr Z2x (eSeriesSS a0.data) v2x]) ∨ Zn b (.tr Zm (eMatcherS a1) vm)) ∨ Zn b (.tup [.tr Zg (eSeriesS r1) vg, bool r2])) (.ptr (eCluster a0))), (1, .av (fun b => (Zn b (.agg [int a0.ring.copies, .tr Z1x (eRingNodeS a0.ring.nodes) v1x, .tr Z2x (eSeriesSS a0.data) v2x]) ∨ Zn b (.tr Zm (eMatcherS a1) vm)) ∨ Zn b (.tup [.tr Zg (eSeriesS r1) vg, bool r2])) (eMatcherS a1)), (11, .sv (bool r2)), (8, .sv (bool false)), (3, .sv (int a3)), (2, .sv (int a2))], []⟩) (le_sub ⟨rfl, rfl, rfl, rfl, rfl, rfl, rfl, rfl, rfl, rfl, rfl, trivial⟩ trivial) ?_
  refine ok_seq fun K16 h16 => ?_
  refine ok_region rfl (q_mv _ rfl (q_mv _ rfl (q_markg (k := ((1 + cmCluster a0 : Nat) : Int)) (.tr _ _ _ _) (f37_m a1 hs1.1 (1 + cmCluster a0) (by omega) (by omega)) cl37 rfl rfl (fun b hb => .inl (hz_m b hb)) [(16, .sv (int ((1 + cmCluster a0 : Nat) : Int))), (15, .sv (bool r2)), (14, .sv (.tr Zg (eSeriesS r1) vg)), (10, .av (fun b => (Zn b (.agg [int a0.ring.copies, .tr Z1x (eRingNodeS a0.ring.nodes) v1x, .tr Z2x (eSeriesSS a0.data) v2x]) ∨ Zn b (.tr Zm (eMatcherS a1) vm)) ∨ Zn b (.tup [.tr Zg (eSeriesS r1) vg, bool r2])) (eSeriesS r1)), (4, .av (fun b => (Zn b (.agg [int a0.ring.copies, .tr Z1x (eRingNodeS a0.ring.nodes) v1x, .tr Z2x (eSeriesSS a0.data) v2x]) ∨ Zn b (.tr Zm (eMatcherS a1) vm)) ∨ Zn b (.tup [.tr Zg (eSeriesS r1) vg, bool r2])) (.ptr (eCluster a0))), (1, .av (fun b => (Zn b (.agg [int a0.ring.copies, .tr Z1x (eRingNodeS a0.ring.nodes) v1x, .tr Z2x (eSeriesSS a0.data) v2x]) ∨ Zn b (.tr Zm (eMatcherS a1) vm)) ∨ Zn b (.tup [.tr Zg (eSeriesS r1) vg, bool r2])) (eMatcherS a1)), (11, .sv (bool r2)), (8, .sv (bool false)), (3, .sv (int a3)), (2, .sv (int a2))] [] ⟨⟨_, rfl, .raw⟩, ⟨_, rfl, .raw⟩, ⟨_, rfl, .good (.tr _ _ _ _) (fun b hb hb' => ap_m_g b (zn_tr hb') (zn_tr hb))⟩, ⟨_, rfl, .av (fun b hb => .inl (.inr hb))⟩, ⟨_, rfl, .av (fun b hb => .inl (.inr hb))⟩, ⟨_, rfl, .av (fun b hb => .inl (.inr hb))⟩, ⟨_, rfl, .raw⟩, ⟨_, rfl, .raw⟩, ⟨_, rfl, .raw⟩, ⟨_, rfl, .raw⟩, trivial⟩ trivial (fun k' s' hR => ?_))))
  obtain ⟨rfl, -⟩ := hR
  refine q_as _ rfl (run_nil (h16 _ ?_)); clear h16 K16
  refine ok_le (σ' := ⟨[(16, .sv (int ((1 + cmCluster a0 + cL cMatcher a1 : Nat) : Int))), (15, .sv (bool r2)), (14, .sv (.tr Zg (eSeriesS r1) vg)), (10, .av (fun b => (Zn b (.agg [int a0.ring.copies, .tr Z1x (eRingNodeS a0.ring.nodes) v1x, .tr Z2x (eSeriesSS a0.data) v2x]) ∨ Zn b (.tr Zm (eMatcherS a1) vm)) ∨ Zn b (.tup [.tr Zg (eSeriesS r1) vg, bool r2])) (eSeriesS r1)), (4, .av (fun b => (Zn b (.agg [int a0.ring.copies, .tr Z1x (eRingNodeS a0.ring.nodes) v1x, .tr Z2x (eSeriesSS a0.data) v2x]) ∨ Zn b (.tr Zm (eMatcherS a1) vm)) ∨ Zn b (.tup [.tr Zg (eSeriesS r1) vg, bool r2])) (.ptr (eCluster a0))), (1, .av (fun b => (Zn b (.agg [int a0.ring.copies, .tr Z1x (eRingNodeS a0.ring.nodes) v1x, .tr Z2x (eSeriesSS a0.data) v2x]) ∨ Zn b (.tr Zm (eMatcherS a1) vm)) ∨ Zn b (.tup [.tr Zg (eSeriesS r1) vg, bool r2])) (eMatcherS a1)), (11, .sv (bool r2)), (8, .sv (bool false)), (3, .sv (int a3)), (2, .sv (int a2))], []⟩) (le_sub ⟨rfl, rfl, rfl, rfl, rfl, rfl, rfl, rfl, rfl, rfl, trivial⟩ trivial) ?_
  refine ok_seq fun K17 h17 => ?_
  refine ok_seq fun K18 h18 => ?_
  refine ok_region rfl (q_mv _ rfl (q_bin _ _ _ rfl rfl rfl (q_mv _ rfl (q_or 4 4 rfl rfl rfl rfl rfl (fun hb => q_mv _ rfl (q_mva rfl (q_callp (f35_ok r1 hS) cl35 ⟨.inr (.inl ⟨_, rfl, .tr _ _ _ _⟩), .inr (.inr ⟨_, rfl⟩), trivial⟩ (q_un _ _ rfl rfl (run_nil ⟨rfl, rfl, rfl, rfl⟩))))) (q_mv _ rfl (q_or 3 3 rfl rfl rfl rfl rfl (fun hb => q_mv _ rfl (q_mv _ rfl (q_neb (p := r2) (q := r2) Tryz.underlying4 rfl rfl (run_nil ⟨rfl, rfl, rfl, rfl⟩)))) (run_nil (h18 _ ?_))))))))
  clear h18 K18
  refine ok_cond rfl (fun c19 => ?_) (fun c19 => ?_)
  · first | (exfalso; simp at c19; done) | (exfalso; have hcc := of_decide_eq_true c19; omega) | (exfalso; simp at c19; omega)
  refine ok_skip (h17 _ ?_)
  refine ok_seq fun K20 h20 => ?_
  refine ok_region rfl (q_as _ rfl (run_nil (h20 _ ?_)))
  clear h20 K20
  refine ok_le (σ' := ⟨[(17, .sv (int 1)), (16, .sv (int ((1 + cmCluster a0 + cL cMatcher a1 : Nat) : Int))), (15, .sv (bool r2)), (14, .sv (.tr Zg (eSeriesS r1) vg)), (10, .av (fun b => (Zn b (.agg [int a0.ring.copies, .tr Z1x (eRingNodeS a0.ring.nodes) v1x, .tr Z2x (eSeriesSS a0.data) v2x]) ∨ Zn b (.tr Zm (eMatcherS a1) vm)) ∨ Zn b (.tup [.tr Zg (eSeriesS r1) vg, bool r2])) (eSeriesS r1)), (4, .av (fun b => (Zn b (.agg [int a0.ring.copies, .tr Z1x (eRingNodeS a0.ring.nodes) v1x, .tr Z2x (eSeriesSS a0.data) v2x]) ∨ Zn b (.tr Zm (eMatcherS a1) vm)) ∨ Zn b (.tup [.tr Zg (eSeriesS r1) vg, bool r2])) (.ptr (eCluster a0))), (1, .av (fun b => (Zn b (.agg [int a0.ring.copies, .tr Z1x (eRingNodeS a0.ring.nodes) v1x, .tr Z2x (eSeriesSS a0.data) v2x]) ∨ Zn b (.tr Zm (eMatcherS a1) vm)) ∨ Zn b (.tup [.tr Zg (eSeriesS r1) vg, bool r2])) (eMatcherS a1)), (11, .sv (bool r2)), (8, .sv (bool false)), (3, .sv (int a3)), (2, .sv (int a2))], []⟩) (le_sub ⟨rfl, rfl, rfl, rfl, rfl, rfl, rfl, rfl, rfl, rfl, rfl, trivial⟩ trivial) ?_
  refine ok_seq fun K21 h21 => ?_
  refine ok_region rfl (q_mv _ rfl (q_mv _ rfl (q_mark (k := ((1 : Nat) : Int)) (f38_m r1 ⟨hS.1, fun y hy => nSeries_of (hS.2 y hy)⟩ 1 (by decide) hCT) cl38 rfl rfl (fun b hb => .inl (hz_g b (ing b hb))) (fun s' => [(92, .sv (int 1)), (91, .dead), (17, .sv (int 1)), (16, .sv (int ((1 + cmCluster a0 + cL cMatcher a1 : Nat) : Int))), (15, .sv (bool r2)), (14, .sv (.tr Zg s' vg)), (10, .av (fun b => (Zn b (.agg [int a0.ring.copies, .tr Z1x (eRingNodeS a0.ring.nodes) v1x, .tr Z2x (eSeriesSS a0.data) v2x]) ∨ Zn b (.tr Zm (eMatcherS a1) vm)) ∨ Zn b (.tup [.tr Zg (eSeriesS r1) vg, bool r2])) (eSeriesS r1)), (4, .av (fun b => (Zn b (.agg [int a0.ring.copies, .tr Z1x (eRingNodeS a0.ring.nodes) v1x, .tr Z2x (eSeriesSS a0.data) v2x]) ∨ Zn b (.tr Zm (eMatcherS a1) vm)) ∨ Zn b (.tup [.tr Zg (eSeriesS r1) vg, bool r2])) (.ptr (eCluster a0))), (1, .av (fun b => (Zn b (.agg [int a0.ring.copies, .tr Z1x (eRingNodeS a0.ring.nodes) v1x, .tr Z2x (eSeriesSS a0.data) v2x]) ∨ Zn b (.tr Zm (eMatcherS a1) vm)) ∨ Zn b (.tup [.tr Zg (eSeriesS r1) vg, bool r2])) (eMatcherS a1)), (11, .sv (bool r2)), (8, .sv (bool false)), (3, .sv (int a3)), (2, .sv (int a2))]) (fun s' => []) (fun s' => ⟨rfl, .sv (.raw _), rfl, .dead, rfl, .sv (.raw _), rfl, .sv (.raw _), rfl, .sv (.raw _), rfl, .sv .same, rfl, .av (fun b hb => .inr (ing b hb)), rfl, .av (fun b hb => .inr (ing b hb)), rfl, .av (fun b hb => .inr (ing b hb)), rfl, .sv (.raw _), rfl, .sv (.raw _), rfl, .sv (.raw _), rfl, .sv (.raw _), trivial⟩) (fun s' => trivial) (fun k' s' hR => ?_))))
  obtain ⟨rfl, lg, rfl, hhg, hcg, hmg⟩ := hR
  refine q_as _ rfl (run_nil (h21 _ ?_)); clear h21 K21
  refine ok_le (σ' := ⟨[(17, .sv (int ((1 + cL cSeries r1 : Nat) : Int))), (16, .sv (int ((1 + cmCluster a0 + cL cMatcher a1 : Nat) : Int))), (15, .sv (bool r2)), (14, .sv (.tr Zg (eSeriesS lg) vg)), (10, .av (fun b => (Zn b (.agg [int a0.ring.copies, .tr Z1x (eRingNodeS a0.ring.nodes) v1x, .tr Z2x (eSeriesSS a0.data) v2x]) ∨ Zn b (.tr Zm (eMatcherS a1) vm)) ∨ Zn b (.tup [.tr Zg (eSeriesS r1) vg, bool r2])) (eSeriesS r1)), (4, .av (fun b => (Zn b (.agg [int a0.ring.copies, .tr Z1x (eRingNodeS a0.ring.nodes) v1x, .tr Z2x (eSeriesSS a0.data) v2x]) ∨ Zn b (.tr Zm (eMatcherS a1) vm)) ∨ Zn b (.tup [.tr Zg (eSeriesS r1) vg, bool r2])) (.ptr (eCluster a0))), (1, .av (fun b => (Zn b (.agg [int a0.ring.copies, .tr Z1x (eRingNodeS a0.ring.nodes) v1x, .tr Z2x (eSeriesSS a0.data) v2x]) ∨ Zn b (.tr Zm (eMatcherS a1) vm)) ∨ Zn b (.tup [.tr Zg (eSeriesS r1) vg, bool r2])) (eMatcherS a1)), (11, .sv (bool r2)), (8, .sv (bool false)), (3, .sv (int a3)), (2, .sv (int a2))], []⟩) (le_sub ⟨rfl, rfl, rfl, rfl, rfl, rfl, rfl, rfl, rfl, rfl, rfl, trivial⟩ trivial) ?_
  have hh1 : PFn Tryz.prog 39 [eSeriesS lg, int ((1 : Nat) : Int)] (int ((1 + cL cSeries r1 : Nat) : Int)) := by have h9 := f39_h lg hmg 1 (by decide) (by rw [hcg]; exact hCT) hhg; rw [hcg] at h9; exact h9
  refine ok_seq fun K22 h22 => ?_
  refine ok_region rfl (q_as _ rfl (run_nil (h22 _ ?_)))
  clear h22 K22
  refine ok_seq fun K23 h23 => ?_
  refine ok_region rfl (q_mv _ rfl (q_mv _ rfl (q_callp hh1 cl39 ⟨.inr (.inl ⟨_, rfl, .tr _ _ _ _⟩), .inl rfl, trivial⟩ (q_as _ rfl (run_nil (h23 _ ?_))))))
  clear h23 K23
  refine ok_le (σ' := ⟨[(18, .sv (int ((1 + cL cSeries r1 : Nat) : Int))), (17, .sv (int ((1 + cL cSeries r1 : Nat) : Int))), (16, .sv (int ((1 + cmCluster a0 + cL cMatcher a1 : Nat) : Int))), (15, .sv (bool r2)), (14, .sv (.tr Zg (eSeriesS lg) vg)), (10, .av (fun b => (Zn b (.agg [int a0.ring.copies, .tr Z1x (eRingNodeS a0.ring.nodes) v1x, .tr Z2x (eSeriesSS a0.data) v2x]) ∨ Zn b (.tr Zm (eMatcherS a1) vm)) ∨ Zn b (.tup [.tr Zg (eSeriesS r1) vg, bool r2])) (eSeriesS r1)), (4, .av (fun b => (Zn b (.agg [int a0.ring.copies, .tr Z1x (eRingNodeS a0.ring.nodes) v1x, .tr Z2x (eSeriesSS a0.data) v2x]) ∨ Zn b (.tr Zm (eMatcherS a1) vm)) ∨ Zn b (.tup [.tr Zg (eSeriesS r1) vg, bool r2])) (.ptr (eCluster a0))), (1, .av (fun b => (Zn b (.agg [int a0.ring.copies, .tr Z1x (eRingNodeS a0.ring.nodes) v1x, .tr Z2x (eSeriesSS a0.data) v2x]) ∨ Zn b (.tr Zm (eMatcherS a1) vm)) ∨ Zn b (.tup [.tr Zg (eSeriesS r1) vg, bool r2])) (eMatcherS a1)), (11, .sv (bool r2)), (8, .sv (bool false)), (3, .sv (int a3)), (2, .sv (int a2))], []⟩) (le_sub ⟨rfl, rfl, rfl, rfl, rfl, rfl, rfl, rfl, rfl, rfl, rfl, rfl, trivial⟩ trivial) ?_
  refine ok_seq fun K24 h24 => ?_
  refine ok_seq fun K25 h25 => ?_
  refine ok_region rfl (q_mv _ rfl (q_bin _ _ _ rfl rfl rfl (run_nil (h25 _ ?_))))
  clear h25 K25
  refine ok_cond rfl (fun c26 => ?_) (fun c26 => ?_)
  · first | (exfalso; simp at c26; done) | (exfalso; have hcc := of_decide_eq_true c26; omega) | (exfalso; simp at c26; omega)
  refine ok_skip (h24 _ ?_)
  refine ok_seq fun K27 h27 => ?_
  refine ok_seq fun K28 h28 => ?_
  refine ok_region rfl (q_mv _ rfl (q_mv _ rfl (q_bin _ _ _ rfl rfl rfl (run_nil (h28 _ ?_)))))
  clear h28 K28
  refine ok_cond rfl (fun c29 => ?_) (fun c29 => ?_)
  · first | (exfalso; simp at c29; done) | (exfalso; have hcc := of_decide_eq_true c29; omega) | (exfalso; simp at c29; omega)
  refine ok_skip (h27 _ ?_)
  refine ok_le (σ' := ⟨[(17, .sv (int ((1 + cL cSeries r1 : Nat) : Int))), (16, .sv (int ((1 + cmCluster a0 + cL cMatcher a1 : Nat) : Int))), (15, .sv (bool r2)), (14, .sv (.tr Zg (eSeriesS lg) vg)), (10, .av (fun b => (Zn b (.agg [int a0.ring.copies, .tr Z1x (eRingNodeS a0.ring.nodes) v1x, .tr Z2x (eSeriesSS a0.data) v2x]) ∨ Zn b (.tr Zm (eMatcherS a1) vm)) ∨ Zn b (.tup [.tr Zg (eSeriesS r1) vg, bool r2])) (eSeriesS r1)), (4, .av (fun b => (Zn b (.agg [int a0.ring.copies, .tr Z1x (eRingNodeS a0.ring.nodes) v1x, .tr Z2x (eSeriesSS a0.data) v2x]) ∨ Zn b (.tr Zm (eMatcherS a1) vm)) ∨ Zn b (.tup [.tr Zg (eSeriesS r1) vg, bool r2])) (.ptr (eCluster a0))), (1, .av (fun b => (Zn b (.agg [int a0.ring.copies, .tr Z1x (eRingNodeS a0.ring.nodes) v1x, .tr Z2x (eSeriesSS a0.data) v2x]) ∨ Zn b (.tr Zm (eMatcherS a1) vm)) ∨ Zn b (.tup [.tr Zg (eSeriesS r1) vg, bool r2])) (eMatcherS a1)), (11, .sv (bool r2)), (8, .sv (bool false)), (3, .sv (int a3)), (2, .sv (int a2))], []⟩) (le_sub ⟨rfl, rfl, rfl, rfl, rfl, rfl, rfl, rfl, rfl, rfl, rfl, trivial⟩ trivial) ?_
  refine ok_seq fun K30 h30 => ?_
  refine ok_region rfl (q_ldsa _ ag27 rfl sz27 (q_call (f11_ok a0 hs0) cl11 rfl rfl (q_mva rfl (q_callq (fun b hb => by cases hb) (f33_ok a1 hs1) cl33 ⟨.inr (.inr ⟨_, rfl⟩), trivial⟩ (q_mv _ rfl (q_mv _ rfl (q_callg [] c34 cl34 ⟨.inl rfl, .inl rfl, .inl rfl, .inl rfl, trivial⟩ (fun r_h hr_h hz_h ha_h => ?_))))))))
  obtain ⟨e1, rfl, he1⟩ := hr_h
  obtain ⟨Zh, vh, rfl⟩ := gd_sl_inv he1
  refine q_mv _ rfl (q_ext _ rfl rfl (q_ext _ rfl rfl (q_as _ rfl (q_as _ rfl (run_nil (h30 _ ?_))))))
  refine ok_le (σ' := ⟨[(20, .sv (bool r2)), (19, .sv (.tr Zh (eSeriesS r1) vh)), (17, .sv (int ((1 + cL cSeries r1 : Nat) : Int))), (16, .sv (int ((1 + cmCluster a0 + cL cMatcher a1 : Nat) : Int))), (15, .sv (bool r2)), (14, .sv (.tr Zg (eSeriesS lg) vg)), (10, .av (fun b => (Zn b (.agg [int a0.ring.copies, .tr Z1x (eRingNodeS a0.ring.nodes) v1x, .tr Z2x (eSeriesSS a0.data) v2x]) ∨ Zn b (.tr Zm (eMatcherS a1) vm)) ∨ Zn b (.tup [.tr Zg (eSeriesS r1) vg, bool r2])) (eSeriesS r1)), (4, .av (fun b => (Zn b (.agg [int a0.ring.copies, .tr Z1x (eRingNodeS a0.ring.nodes) v1x, .tr Z2x (eSeriesSS a0.data) v2x]) ∨ Zn b (.tr Zm (eMatcherS a1) vm)) ∨ Zn b (.tup [.tr Zg (eSeriesS r1) vg, bool r2])) (.ptr (eCluster a0))), (1, .av (fun b => (Zn b (.agg [int a0.ring.copies, .tr Z1x (eRingNodeS a0.ring.nodes) v1x, .tr Z2x (eSeriesSS a0.data) v2x]) ∨ Zn b (.tr Zm (eMatcherS a1) vm)) ∨ Zn b (.tup [.tr Zg (eSeriesS r1) vg, bool r2])) (eMatcherS a1)), (11, .sv (bool r2)), (8, .sv (bool false)), (3, .sv (int a3)), (2, .sv (int a2))], []⟩) (le_sub ⟨rfl, rfl, rfl, rfl, rfl, rfl, rfl, rfl, rfl, rfl, rfl, rfl, rfl, trivial⟩ trivial) ?_
  clear h30 K30
  refine ok_seq fun K31 h31 => ?_
  refine ok_seq fun K32 h32 => ?_
  refine ok_region rfl (q_mv _ rfl (q_mva rfl (q_callp (f35_ok r1 hS) cl35 ⟨.inr (.inl ⟨_, rfl, .tr _ _ _ _⟩), .inr (.inr ⟨_, rfl⟩), trivial⟩ (q_un _ _ rfl rfl (q_mv _ rfl (q_or 3 3 rfl rfl rfl rfl rfl (fun hb => q_mv _ rfl (q_mv _ rfl (q_neb (p := r2) (q := r2) Tryz.underlying4 rfl rfl (run_nil ⟨rfl, rfl, rfl, rfl⟩)))) (run_nil (h32 _ ?_))))))))
  clear h32 K32
  refine ok_cond rfl (fun c33 => ?_) (fun c33 => ?_)
  · first | (exfalso; simp at c33; done) | (exfalso; have hcc := of_decide_eq_true c33; omega) | (exfalso; simp at c33; omega)
  refine ok_skip (h31 _ ?_)
  refine ok_le (σ' := ⟨[(17, .sv (int ((1 + cL cSeries r1 : Nat) : Int))), (16, .sv (int ((1 + cmCluster a0 + cL cMatcher a1 : Nat) : Int))), (15, .sv (bool r2)), (14, .sv (.tr Zg (eSeriesS lg) vg)), (10, .av (fun b => (Zn b (.agg [int a0.ring.copies, .tr Z1x (eRingNodeS a0.ring.nodes) v1x, .tr Z2x (eSeriesSS a0.data) v2x]) ∨ Zn b (.tr Zm (eMatcherS a1) vm)) ∨ Zn b (.tup [.tr Zg (eSeriesS r1) vg, bool r2])) (eSeriesS r1)), (4, .av (fun b => (Zn b (.agg [int a0.ring.copies, .tr Z1x (eRingNodeS a0.ring.nodes) v1x, .tr Z2x (eSeriesSS a0.data) v2x]) ∨ Zn b (.tr Zm (eMatcherS a1) vm)) ∨ Zn b (.tup [.tr Zg (eSeriesS r1) vg, bool r2])) (.ptr (eCluster a0))), (1, .av (fun b => (Zn b (.agg [int a0.ring.copies, .tr Z1x (eRingNodeS a0.ring.nodes) v1x, .tr Z2x (eSeriesSS a0.data) v2x]) ∨ Zn b (.tr Zm (eMatcherS a1) vm)) ∨ Zn b (.tup [.tr Zg (eSeriesS r1) vg, bool r2])) (eMatcherS a1)), (11, .sv (bool r2)), (8, .sv (bool false)), (3, .sv (int a3)), (2, .sv (int a2))], []⟩) (le_sub ⟨rfl, rfl, rfl, rfl, rfl, rfl, rfl, rfl, rfl, rfl, rfl, trivial⟩ trivial) ?_
  refine ok_seq fun K34 h34 => ?_
  refine ok_region rfl (q_as _ rfl (run_nil (h34 _ ?_)))
  clear h34 K34
  refine ok_seq fun K35 h35 => ?_
  refine ok_region rfl (q_mv _ rfl (q_mv _ rfl (q_callp hh1 cl39 ⟨.inr (.inl ⟨_, rfl, .tr _ _ _ _⟩), .inl rfl, trivial⟩ (q_as _ rfl (run_nil (h35 _ ?_))))))
  clear h35 K35
  refine ok_le (σ' := ⟨[(18, .sv (int ((1 + cL cSeries r1 : Nat) : Int))), (17, .sv (int ((1 + cL cSeries r1 : Nat) : Int))), (16, .sv (int ((1 + cmCluster a0 + cL cMatcher a1 : Nat) : Int))), (15, .sv (bool r2)), (14, .sv (.tr Zg (eSeriesS lg) vg)), (10, .av (fun b => (Zn b (.agg [int a0.ring.copies, .tr Z1x (eRingNodeS a0.ring.nodes) v1x, .tr Z2x (eSeriesSS a0.data) v2x]) ∨ Zn b (.tr Zm (eMatcherS a1) vm)) ∨ Zn b (.tup [.tr Zg (eSeriesS r1) vg, bool r2])) (eSeriesS r1)), (4, .av (fun b => (Zn b (.agg [int a0.ring.copies, .tr Z1x (eRingNodeS a0.ring.nodes) v1x, .tr Z2x (eSeriesSS a0.data) v2x]) ∨ Zn b (.tr Zm (eMatcherS a1) vm)) ∨ Zn b (.tup [.tr Zg (eSeriesS r1) vg, bool r2])) (.ptr (eCluster a0))), (1, .av (fun b => (Zn b (.agg [int a0.ring.copies, .tr Z1x (eRingNodeS a0.ring.nodes) v1x, .tr Z2x (eSeriesSS a0.data) v2x]) ∨ Zn b (.tr Zm (eMatcherS a1) vm)) ∨ Zn b (.tup [.tr Zg (eSeriesS r1) vg, bool r2])) (eMatcherS a1)), (11, .sv (bool r2)), (8, .sv (bool false)), (3, .sv (int a3)), (2, .sv (int a2))], []⟩) (le_sub ⟨rfl, rfl, rfl, rfl, rfl, rfl, rfl, rfl, rfl, rfl, rfl, rfl, trivial⟩ trivial) ?_
  refine ok_seq fun K36 h36 => ?_
  refine ok_seq fun K37 h37 => ?_
  refine ok_region rfl (q_mv _ rfl (q_bin _ _ _ rfl rfl rfl (run_nil (h37 _ ?_))))
  clear h37 K37
  refine ok_cond rfl (fun c38 => ?_) (fun c38 => ?_)
  · first | (exfalso; simp at c38; done) | (exfalso; have hcc := of_decide_eq_true c38; omega) | (exfalso; simp at c38; omega)
  refine ok_skip (h36 _ ?_)
  refine ok_seq fun K39 h39 => ?_
  refine ok_seq fun K40 h40 => ?_
  refine ok_region rfl (q_mv _ rfl (q_mv _ rfl (q_bin _ _ _ rfl rfl rfl (run_nil (h40 _ ?_)))))
  clear h40 K40
  refine ok_cond rfl (fun c41 => ?_) (fun c41 => ?_)
  · first | (exfalso; simp at c41; done) | (exfalso; have hcc := of_decide_eq_true c41; omega) | (exfalso; simp at c41; omega)
  refine ok_skip (h39 _ ?_)
  refine ok_seq fun K1 h1 => ok_region rfl (q_as _ rfl (run_nil (h1 _ ?_)))
  exact ok_ret ⟨_, rfl, rfl⟩
end Go.Ring
