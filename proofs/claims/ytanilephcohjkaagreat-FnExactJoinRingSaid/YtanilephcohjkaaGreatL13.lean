/- The law of how a node joins a cluster. No condition. -/
import Derived.Test.YtanilephcohjkaaGreatSg14
import Derived.Test.YtanilephcohjkaaGreatEg3
set_option maxRecDepth 100000
set_option linter.unusedVariables false
set_option linter.unusedSimpArgs false
namespace Go.Ring
open Go Go.RowKit Go.Eager Go.Abs Go.Proofs
theorem resJ_S {c : Cluster} (hc : SCluster c) (hw : sumF wt c.data ≤ 1048576) {n : RingNode} (hn : SRingNode n) : SCluster (resJ c n) ∧ (resJ c n).data.length ≤ 21 ∧ (resJ c n).ring.nodes.length ≤ 21 ∧ ∀ d ∈ (resJ c n).data, d.length ≤ 200 := by
  unfold resJ
  split
  · rename_i h
    have hk := of_pB h.1
    have hd := datOk hc hw hk
    have hk' := (jnC_ok (n := n) hk).2 (of_pB h.2.2)
    have hc' := jnC_S (n := n) hc hk hn
    have hd' := jnC_D (n := n) hd
    have hR := repR_S2 hc' hk' hd' (jnC_at (n := n) hk)
    have h20 := (dat_ok hk').1
    refine ⟨⟨hc'.1, by show (List.set _ _ _).length ≤ _; rw [List.length_set]; omega, fun d hdd => ?_⟩, by show (List.set _ _ _).length ≤ _; rw [List.length_set]; omega, by have := hk'.1.2.2.1; show (jnC c n).ring.nodes.length ≤ _; omega, fun d hdd => ?_⟩
    · obtain ⟨j, hj⟩ := List.getElem?_of_mem hdd
      rcases set_getG hj with ⟨_, rfl⟩ | ⟨_, h2⟩
      · exact ⟨by have := (ser_small hR.1).1; omega, hR.2⟩
      · exact hc'.2.2 d (smem h2)
    · obtain ⟨j, hj⟩ := List.getElem?_of_mem hdd
      rcases set_getG hj with ⟨_, rfl⟩ | ⟨_, h2⟩
      · exact (ser_small hR.1).1
      · exact (ser_small ((dat_ok hk').2 d (smem h2))).1
  · exact ⟨⟨⟨by simp, by simp⟩, by simp, by simp⟩, by simp, by simp, by simp⟩
theorem resJ_C {c : Cluster} (hc : SCluster c) (hw : sumF wt c.data ≤ 1048576) {n : RingNode} (hn : SRingNode n) : 1 + cmCluster (resJ c n) ≤ 1152921504606846976 := by
  obtain ⟨⟨h1, h2, h3⟩, h4, h5, h6⟩ := resJ_S hc hw hn
  have e : cmCluster (resJ c n) = cL cRingNode (resJ c n).ring.nodes + cL (cL cSeries) (resJ c n).data := rfl
  have g1 := cL_le (c := cRingNode) (m := 2097152) (resJ c n).ring.nodes fun n hn => by
    have := (h1.2 n hn).2
    have e2 : cRingNode n = 1 + 1 + cL cOne n.toks := rfl
    have e3 := cL_le (c := cOne) (m := 1) n.toks fun _ _ => Nat.le_refl _
    omega
  have g2 := cL_le (c := cL cSeries) (m := 838860800) (resJ c n).data fun d hdd => by
    have e3 := cL_le (c := cSeries) (m := 4194304) d fun s hs => cSeries_le ((h3 d hdd).2 s hs)
    have := h6 d hdd
    omega
  omega
set_option maxHeartbeats 4000000 in
theorem f4_ok (a0 : Cluster) (pa0 : LCluster a0) (a1 : RingNode) (pa1 : LRingNode a1) : PFn Tryz.prog 4 [eCluster a0, eRingNode a1] (bool true) := by
  refine fn_ok' (n := 92) Tryz.func4 rfl rfl rfl (Nat.le_of_ble_eq_true rfl) rfl fun w0 O => ?_
  refine ok_seq fun K1 h1 => ok_region rfl (q_boxs _ rfl (Nat.zero_lt_succ _) (q_boxs _ rfl (Nat.zero_lt_succ _) (q_as _ rfl (run_nil (h1 _ ?_)))))
  refine ok_seq fun K1 h1 => ok_region rfl (q_as _ rfl (run_nil (h1 _ ?_)))
  refine ok_seq fun K1 h1 => ok_region rfl (q_lds _ ag27 rfl sz27 (q_mv _ rfl (q_call (f9_ok a0 pa0 1048576 (by decide) (by decide)) cl9 rfl rfl (q_as _ rfl (run_nil (h1 _ ?_))))))
  refine ok_seq fun K1 h1 => ?_
  refine ok_seq fun K2 h2 => ok_region rfl (q_mv _ rfl (q_bin _ _ _ rfl rfl rfl (run_nil (h2 _ ?_))))
  refine ok_cond rfl (fun c3 => ?_) (fun c3 => ?_)
  · refine ok_seq fun K4 h4 => ok_region rfl (q_as _ rfl (run_nil (h4 _ ?_)))
    exact ok_ret ⟨_, rfl, rfl⟩
  have p0 : 0 ≤ zCluster a0 1048576 := by have := of_decide_eq_false c3; omega
  have u0 : zCluster a0 1048576 ≤ 1048576 := (zCluster_ok a0 _ (by decide)).1
  have hs0 := (zCluster_ok a0 _ (by decide)).2.2 p0
  have kb0 := kcm_Cluster a0 _ p0
  have hw0 := zCluster_wt p0 (by decide)
  refine ok_skip (h1 _ ?_)
  refine ok_seq fun K1 h1 => ok_region rfl (q_lds _ ag42 rfl sz42 (q_mv _ rfl (q_call (f16_ok a1 pa1 (zCluster a0 1048576) p0 u0) cl16 rfl rfl (q_as _ rfl (run_nil (h1 _ ?_))))))
  refine ok_seq fun K1 h1 => ?_
  refine ok_seq fun K2 h2 => ok_region rfl (q_mv _ rfl (q_bin _ _ _ rfl rfl rfl (run_nil (h2 _ ?_))))
  refine ok_cond rfl (fun c4 => ?_) (fun c4 => ?_)
  · refine ok_seq fun K4 h4 => ok_region rfl (q_as _ rfl (run_nil (h4 _ ?_)))
    exact ok_ret ⟨_, rfl, rfl⟩
  have p1 : 0 ≤ zRingNode a1 (zCluster a0 1048576) := by have := of_decide_eq_false c4; omega
  have hs1 := (zRingNode_ok a1 _ u0).2.2 p1
  have kb1 := kcm_RingNode a1 _ p1
  have c17 := f17_ok a0 hs0 hw0 a1 hs1
  have c19 := f19_t a0 hs0 hw0 a1 hs1
  have hS := (resJ_S hs0 hw0 hs1).1
  have hCT := resJ_C hs0 hw0 hs1
  generalize resJ a0 a1 = rr at c17 c19 hS hCT
  refine ok_skip (h1 _ ?_)
  refine ok_seq_join (fun (_ : Unit) => ⟨[(6, .ptr 6 0), (3, .sv (.ptr (eRingNode a1))), (2, .sv (.ptr (eCluster a0))), (4, .sv (bool false))], [(6, .box [.sv (int rr.ring.copies), .sv (eRingNodeS rr.ring.nodes), .sv (eSeriesSS rr.data)])]⟩) (fun _ => True) ?_ (fun _ _ => ?_)
  · refine ok_last fun K5 h5 => ok_region_t (.fork [0, 2] 1 (.fork [] 3 (.fork [] 4 (.leaf [5, 6]) 5 (.leaf [4, 6])) 5 (.leaf [3, 4, 6])) 5 (.leaf [1, 3, 4, 6])) (by kernel_rfl) (by kernel_rfl) rfl ?_
    refine runT_fork ?_
    refine q_lds _ ag27 rfl sz27 (q_lds _ ag42 rfl sz42 (run_nil ⟨?_, ?_⟩))
    · refine q_call (f11_ok a0 hs0) cl11 rfl rfl (run_nil (runT_fork (run_nil ⟨?_, ?_⟩)))
      · refine q_call (f18_ok a1 hs1) cl18 rfl rfl (run_nil (runT_fork (run_nil ⟨?_, ?_⟩)))
        · exact q_call c17 cl17 rfl rfl (run_nil (runT_leaf (q_alloc _ ze34 rfl rfl rfl rfl (q_sts _ rfl rfl rfl sz34 (Nat.le_of_ble_eq_true rfl) rfl (run_nil (h5 _ ⟨(), trivial, le_sub ⟨rfl, rfl, rfl, rfl, trivial⟩ ⟨rfl, trivial⟩⟩))))))
        · exact q_alloc _ ze34 rfl rfl rfl rfl (run_nil (runT_leaf (q_call c17 cl17 rfl rfl (q_sts _ rfl rfl rfl sz34 (Nat.le_of_ble_eq_true rfl) rfl (run_nil (h5 _ ⟨(), trivial, le_sub ⟨rfl, rfl, rfl, rfl, trivial⟩ ⟨rfl, trivial⟩⟩))))))
      · exact q_alloc _ ze34 rfl rfl rfl rfl (run_nil (runT_leaf (q_call (f18_ok a1 hs1) cl18 rfl rfl (q_call c17 cl17 rfl rfl (q_sts _ rfl rfl rfl sz34 (Nat.le_of_ble_eq_true rfl) rfl (run_nil (h5 _ ⟨(), trivial, le_sub ⟨rfl, rfl, rfl, rfl, trivial⟩ ⟨rfl, trivial⟩⟩)))))))
    · exact q_alloc _ ze34 rfl rfl rfl rfl (run_nil (runT_leaf (q_call (f11_ok a0 hs0) cl11 rfl rfl (q_call (f18_ok a1 hs1) cl18 rfl rfl (q_call c17 cl17 rfl rfl (q_sts _ rfl rfl rfl sz34 (Nat.le_of_ble_eq_true rfl) rfl (run_nil (h5 _ ⟨(), trivial, le_sub ⟨rfl, rfl, rfl, rfl, trivial⟩ ⟨rfl, trivial⟩⟩))))))))
  refine Ok.le (le_fb 6 [int rr.ring.copies, eRingNodeS rr.ring.nodes, eSeriesSS rr.data] rfl rfl (by simp)) ?_
  refine ok_le (σ' := ⟨[(6, .sv (.ptr (eCluster rr))), (3, .sv (.ptr (eRingNode a1))), (2, .sv (.ptr (eCluster a0))), (4, .sv (bool false))], []⟩) (le_sub ⟨rfl, rfl, rfl, rfl, trivial⟩ trivial) ?_
  refine ok_seq fun K1 h1 => ?_
  refine ok_region rfl (q_lds _ ag27 rfl sz27 (q_callg [6, 3, 2] (f11_t a0 hs0) cl11 ⟨.inl rfl, trivial⟩ (fun r_x hr_x hz_x ha_x => ?_)))
  obtain ⟨Z1x, v1x, Z2x, v2x, rfl, dx⟩ := gi_Cluster (x := a0) hr_x
  refine q_alloc _ ze34 rfl rfl rfl rfl (q_sts _ rfl rfl rfl sz34 (Nat.le_of_ble_eq_true rfl) rfl (run_nil (h1 _ ?_)))
  refine ok_le (σ' := ⟨[(7, .ptr 7 0), (30, .sv (.agg [int a0.ring.copies, .tr Z1x (eRingNodeS a0.ring.nodes) v1x, .tr Z2x (eSeriesSS a0.data) v2x])), (6, .av (fun b => Zn b (.agg [int a0.ring.copies, .tr Z1x (eRingNodeS a0.ring.nodes) v1x, .tr Z2x (eSeriesSS a0.data) v2x])) (.ptr (eCluster rr))), (3, .av (fun b => Zn b (.agg [int a0.ring.copies, .tr Z1x (eRingNodeS a0.ring.nodes) v1x, .tr Z2x (eSeriesSS a0.data) v2x])) (.ptr (eRingNode a1))), (2, .av (fun b => Zn b (.agg [int a0.ring.copies, .tr Z1x (eRingNodeS a0.ring.nodes) v1x, .tr Z2x (eSeriesSS a0.data) v2x])) (.ptr (eCluster a0))), (4, .sv (bool false))], [(7, .box [.sv (int a0.ring.copies), .sv (.tr Z1x (eRingNodeS a0.ring.nodes) v1x), .sv (.tr Z2x (eSeriesSS a0.data) v2x)])]⟩) (le_sub ⟨rfl, rfl, rfl, rfl, rfl, rfl, trivial⟩ ⟨rfl, trivial⟩) ?_
  refine ok_seq fun K2 h2 => ?_
  refine ok_region rfl (q_ldsa _ ag42 rfl sz42 (q_callg [6, 3, 2] (f18_t a1 hs1) cl18 ⟨.inl rfl, trivial⟩ (fun r_m hr_m hz_m ha_m => ?_)))
  obtain ⟨Ztm, vtm, rfl⟩ := gi_RingNode (x := a1) hr_m
  have ap_x_m : ∀ b, Zn b (.agg [int a0.ring.copies, .tr Z1x (eRingNodeS a0.ring.nodes) v1x, .tr Z2x (eSeriesSS a0.data) v2x]) → ¬ Zn b (.agg [str a1.id, int a1.st, .tr Ztm (ints a1.toks) vtm]) := fun b h1 h2 => ha_m.1 30 _ b rfl h1 h2
  refine q_alloc _ ze45 rfl rfl rfl rfl (q_sts _ rfl rfl rfl sz45 (Nat.le_of_ble_eq_true rfl) rfl (run_nil (h2 _ ?_)))
  refine ok_le (σ' := ⟨[(8, .ptr 8 0), (32, .sv (.agg [str a1.id, int a1.st, .tr Ztm (ints a1.toks) vtm])), (7, .ptr 7 0), (30, .sv (.agg [int a0.ring.copies, .tr Z1x (eRingNodeS a0.ring.nodes) v1x, .tr Z2x (eSeriesSS a0.data) v2x])), (6, .av (fun b => Zn b (.agg [int a0.ring.copies, .tr Z1x (eRingNodeS a0.ring.nodes) v1x, .tr Z2x (eSeriesSS a0.data) v2x]) ∨ Zn b (.agg [str a1.id, int a1.st, .tr Ztm (ints a1.toks) vtm])) (.ptr (eCluster rr))), (3, .av (fun b => Zn b (.agg [int a0.ring.copies, .tr Z1x (eRingNodeS a0.ring.nodes) v1x, .tr Z2x (eSeriesSS a0.data) v2x]) ∨ Zn b (.agg [str a1.id, int a1.st, .tr Ztm (ints a1.toks) vtm])) (.ptr (eRingNode a1))), (2, .av (fun b => Zn b (.agg [int a0.ring.copies, .tr Z1x (eRingNodeS a0.ring.nodes) v1x, .tr Z2x (eSeriesSS a0.data) v2x]) ∨ Zn b (.agg [str a1.id, int a1.st, .tr Ztm (ints a1.toks) vtm])) (.ptr (eCluster a0))), (4, .sv (bool false))], [(8, .box [.sv (str a1.id), .sv (int a1.st), .sv (.tr Ztm (ints a1.toks) vtm)]), (7, .box [.sv (int a0.ring.copies), .sv (.tr Z1x (eRingNodeS a0.ring.nodes) v1x), .sv (.tr Z2x (eSeriesSS a0.data) v2x)])]⟩) (le_sub ⟨rfl, rfl, rfl, rfl, rfl, rfl, rfl, rfl, trivial⟩ ⟨rfl, rfl, trivial⟩) ?_
  refine ok_seq fun K3 h3 => ?_
  refine ok_region rfl (q_ldbs ag34 rfl rfl sz34 rfl rfl (q_ldbs ag45 rfl rfl sz45 rfl rfl (q_callg [6, 3, 2] c19 cl19 ⟨.inr (.inl ⟨_, rfl, gc_Cluster a0 dx⟩), .inr (.inl ⟨_, rfl, gc_RingNode a1⟩), trivial⟩ (fun r_g hr_g hz_g ha_g => ?_))))
  obtain ⟨Z1g, v1g, Z2g, v2g, rfl, dg⟩ := gi_Cluster (x := rr) hr_g
  have ap_x_g : ∀ b, Zn b (.agg [int a0.ring.copies, .tr Z1x (eRingNodeS a0.ring.nodes) v1x, .tr Z2x (eSeriesSS a0.data) v2x]) → ¬ Zn b (.agg [int rr.ring.copies, .tr Z1g (eRingNodeS rr.ring.nodes) v1g, .tr Z2g (eSeriesSS rr.data) v2g]) := fun b h1 h2 => ha_g.1 30 _ b rfl h1 h2
  have ap_m_g : ∀ b, Zn b (.agg [str a1.id, int a1.st, .tr Ztm (ints a1.toks) vtm]) → ¬ Zn b (.agg [int rr.ring.copies, .tr Z1g (eRingNodeS rr.ring.nodes) v1g, .tr Z2g (eSeriesSS rr.data) v2g]) := fun b h1 h2 => ha_g.1 32 _ b rfl h1 h2
  have inm : ∀ b, Ztm b → Zn b (.agg [str a1.id, int a1.st, .tr Ztm (ints a1.toks) vtm]) := fun b hb => by simp only [znA_cons, znI_raw, znI_tr, znA_nil, or_false, false_or]; exact hb
  have in1 : ∀ b, Z1g b → Zn b (.agg [int rr.ring.copies, .tr Z1g (eRingNodeS rr.ring.nodes) v1g, .tr Z2g (eSeriesSS rr.data) v2g]) := fun b hb => by simp only [znA_cons, znI_raw, znI_tr, znA_nil, or_false, false_or]; exact .inl hb
  have in2 : ∀ b, Z2g b → Zn b (.agg [int rr.ring.copies, .tr Z1g (eRingNodeS rr.ring.nodes) v1g, .tr Z2g (eSeriesSS rr.data) v2g]) := fun b hb => by simp only [znA_cons, znI_raw, znI_tr, znA_nil, or_false, false_or]; exact .inr hb
  refine q_alloc _ ze34 rfl rfl rfl rfl (q_sts _ rfl rfl rfl sz34 (Nat.le_of_ble_eq_true rfl) rfl (run_nil (h3 _ ?_)))
  refine ok_le (σ' := ⟨[(9, .ptr 9 0), (8, .ptr 8 0), (7, .ptr 7 0), (6, .av (fun b => (Zn b (.agg [int a0.ring.copies, .tr Z1x (eRingNodeS a0.ring.nodes) v1x, .tr Z2x (eSeriesSS a0.data) v2x]) ∨ Zn b (.agg [str a1.id, int a1.st, .tr Ztm (ints a1.toks) vtm])) ∨ Zn b (.agg [int rr.ring.copies, .tr Z1g (eRingNodeS rr.ring.nodes) v1g, .tr Z2g (eSeriesSS rr.data) v2g])) (.ptr (eCluster rr))), (3, .av (fun b => (Zn b (.agg [int a0.ring.copies, .tr Z1x (eRingNodeS a0.ring.nodes) v1x, .tr Z2x (eSeriesSS a0.data) v2x]) ∨ Zn b (.agg [str a1.id, int a1.st, .tr Ztm (ints a1.toks) vtm])) ∨ Zn b (.agg [int rr.ring.copies, .tr Z1g (eRingNodeS rr.ring.nodes) v1g, .tr Z2g (eSeriesSS rr.data) v2g])) (.ptr (eRingNode a1))), (2, .av (fun b => (Zn b (.agg [int a0.ring.copies, .tr Z1x (eRingNodeS a0.ring.nodes) v1x, .tr Z2x (eSeriesSS a0.data) v2x]) ∨ Zn b (.agg [str a1.id, int a1.st, .tr Ztm (ints a1.toks) vtm])) ∨ Zn b (.agg [int rr.ring.copies, .tr Z1g (eRingNodeS rr.ring.nodes) v1g, .tr Z2g (eSeriesSS rr.data) v2g])) (.ptr (eCluster a0))), (4, .sv (bool false))], [(9, .box [.sv (int rr.ring.copies), .sv (.tr Z1g (eRingNodeS rr.ring.nodes) v1g), .sv (.tr Z2g (eSeriesSS rr.data) v2g)]), (8, .box [.sv (str a1.id), .sv (int a1.st), .sv (.tr Ztm (ints a1.toks) vtm)]), (7, .box [.sv (int a0.ring.copies), .sv (.tr Z1x (eRingNodeS a0.ring.nodes) v1x), .sv (.tr Z2x (eSeriesSS a0.data) v2x)])]⟩) (le_sub ⟨rfl, rfl, rfl, rfl, rfl, rfl, rfl, trivial⟩ ⟨rfl, rfl, rfl, trivial⟩) ?_
  refine ok_seq fun K4 h4 => ?_
  refine ok_seq fun K5 h5 => ?_
  refine ok_region rfl (q_ldbs ag34 rfl rfl sz34 rfl rfl (q_ldsa _ ag34 rfl sz34 (q_callp (f13_ok rr hS) cl13 ⟨.inr (.inl ⟨_, rfl, gc_Cluster rr dg⟩), .inl rfl, trivial⟩ (q_un _ _ rfl rfl (run_nil (h5 _ ?_))))))
  refine ok_cond rfl (fun c6 => ?_) (fun c6 => ?_)
  · first | (exfalso; simp at c6; done) | (exfalso; have hcc := of_decide_eq_true c6; omega) | (exfalso; simp at c6; omega)
  refine ok_skip (h4 _ ?_)
  refine ok_seq fun K7 h7 => ?_
  refine ok_seq fun K8 h8 => ?_
  refine ok_region_i (by kernel_rfl) (by kernel_rfl) rfl (q_ldbs ag34 rfl rfl sz34 rfl rfl (q_ldsa _ ag27 rfl sz27 (q_call (f11_ok a0 hs0) cl11 rfl rfl (q_callp (f13_ok a0 hs0) cl13 ⟨.inr (.inl ⟨_, rfl, gc_Cluster a0 dx⟩), .inl rfl, trivial⟩ (q_un _ _ rfl rfl (run_nil (h8 _ ?_)))))))
  refine ok_cond rfl (fun c9 => ?_) (fun c9 => ?_)
  · first | (exfalso; simp at c9; done) | (exfalso; have hcc := of_decide_eq_true c9; omega) | (exfalso; simp at c9; omega)
  refine ok_skip (h7 _ ?_)
  refine ok_seq fun K10 h10 => ?_
  refine ok_seq fun K11 h11 => ?_
  refine ok_region_i (by kernel_rfl) (by kernel_rfl) rfl (q_ldbs ag45 rfl rfl sz45 rfl rfl (q_ldsa _ ag42 rfl sz42 (q_call (f18_ok a1 hs1) cl18 rfl rfl (q_callp (f20_ok a1 hs1) cl20 ⟨.inr (.inl ⟨_, rfl, gc_RingNode a1⟩), .inl rfl, trivial⟩ (q_un _ _ rfl rfl (run_nil (h11 _ ?_)))))))
  refine ok_cond rfl (fun c12 => ?_) (fun c12 => ?_)
  · first | (exfalso; simp at c12; done) | (exfalso; have hcc := of_decide_eq_true c12; omega) | (exfalso; simp at c12; omega)
  refine ok_skip (h10 _ ?_)
  refine ok_seq fun K13 h13 => ?_
  refine ok_region rfl (q_as _ rfl (run_nil (h13 _ ?_)))
  refine ok_le (σ' := ⟨[(10, .sv (int 1)), (9, .ptr 9 0), (8, .ptr 8 0), (7, .ptr 7 0), (6, .av (fun b => (Zn b (.agg [int a0.ring.copies, .tr Z1x (eRingNodeS a0.ring.nodes) v1x, .tr Z2x (eSeriesSS a0.data) v2x]) ∨ Zn b (.agg [str a1.id, int a1.st, .tr Ztm (ints a1.toks) vtm])) ∨ Zn b (.agg [int rr.ring.copies, .tr Z1g (eRingNodeS rr.ring.nodes) v1g, .tr Z2g (eSeriesSS rr.data) v2g])) (.ptr (eCluster rr))), (3, .av (fun b => (Zn b (.agg [int a0.ring.copies, .tr Z1x (eRingNodeS a0.ring.nodes) v1x, .tr Z2x (eSeriesSS a0.data) v2x]) ∨ Zn b (.agg [str a1.id, int a1.st, .tr Ztm (ints a1.toks) vtm])) ∨ Zn b (.agg [int rr.ring.copies, .tr Z1g (eRingNodeS rr.ring.nodes) v1g, .tr Z2g (eSeriesSS rr.data) v2g])) (.ptr (eRingNode a1))), (2, .av (fun b => (Zn b (.agg [int a0.ring.copies, .tr Z1x (eRingNodeS a0.ring.nodes) v1x, .tr Z2x (eSeriesSS a0.data) v2x]) ∨ Zn b (.agg [str a1.id, int a1.st, .tr Ztm (ints a1.toks) vtm])) ∨ Zn b (.agg [int rr.ring.copies, .tr Z1g (eRingNodeS rr.ring.nodes) v1g, .tr Z2g (eSeriesSS rr.data) v2g])) (.ptr (eCluster a0))), (4, .sv (bool false))], [(9, .box [.sv (int rr.ring.copies), .sv (.tr Z1g (eRingNodeS rr.ring.nodes) v1g), .sv (.tr Z2g (eSeriesSS rr.data) v2g)]), (8, .box [.sv (str a1.id), .sv (int a1.st), .sv (.tr Ztm (ints a1.toks) vtm)]), (7, .box [.sv (int a0.ring.copies), .sv (.tr Z1x (eRingNodeS a0.ring.nodes) v1x), .sv (.tr Z2x (eSeriesSS a0.data) v2x)])]⟩) (le_sub ⟨rfl, rfl, rfl, rfl, rfl, rfl, rfl, rfl, trivial⟩ ⟨rfl, rfl, rfl, trivial⟩) ?_
  refine ok_seq fun K14 h14 => ?_
  refine ok_region rfl (q_ldbs ag34 rfl rfl sz34 rfl rfl (q_mv _ rfl (q_markg (k := ((1 : Nat) : Int)) (gc_Cluster a0 dx) (f14_m a0 (nCluster_of hs0) 1 (by omega) (by omega)) cl14 rfl rfl (fun b hb => .inl (hz_x b hb)) [(10, .sv (int 1)), (9, .ptr 9 0), (8, .ptr 8 0), (6, .av (fun b => (Zn b (.agg [int a0.ring.copies, .tr Z1x (eRingNodeS a0.ring.nodes) v1x, .tr Z2x (eSeriesSS a0.data) v2x]) ∨ Zn b (.agg [str a1.id, int a1.st, .tr Ztm (ints a1.toks) vtm])) ∨ Zn b (.agg [int rr.ring.copies, .tr Z1g (eRingNodeS rr.ring.nodes) v1g, .tr Z2g (eSeriesSS rr.data) v2g])) (.ptr (eCluster rr))), (3, .av (fun b => (Zn b (.agg [int a0.ring.copies, .tr Z1x (eRingNodeS a0.ring.nodes) v1x, .tr Z2x (eSeriesSS a0.data) v2x]) ∨ Zn b (.agg [str a1.id, int a1.st, .tr Ztm (ints a1.toks) vtm])) ∨ Zn b (.agg [int rr.ring.copies, .tr Z1g (eRingNodeS rr.ring.nodes) v1g, .tr Z2g (eSeriesSS rr.data) v2g])) (.ptr (eRingNode a1))), (2, .av (fun b => (Zn b (.agg [int a0.ring.copies, .tr Z1x (eRingNodeS a0.ring.nodes) v1x, .tr Z2x (eSeriesSS a0.data) v2x]) ∨ Zn b (.agg [str a1.id, int a1.st, .tr Ztm (ints a1.toks) vtm])) ∨ Zn b (.agg [int rr.ring.copies, .tr Z1g (eRingNodeS rr.ring.nodes) v1g, .tr Z2g (eSeriesSS rr.data) v2g])) (.ptr (eCluster a0))), (4, .sv (bool false))] [(9, .box [.sv (int rr.ring.copies), .sv (.tr Z1g (eRingNodeS rr.ring.nodes) v1g), .sv (.tr Z2g (eSeriesSS rr.data) v2g)]), (8, .box [.sv (str a1.id), .sv (int a1.st), .sv (.tr Ztm (ints a1.toks) vtm)])] ⟨⟨_, rfl, .raw⟩, ⟨_, rfl, .ptr⟩, ⟨_, rfl, .ptr⟩, ⟨_, rfl, .av (fun b hb => .inl (.inl hb))⟩, ⟨_, rfl, .av (fun b hb => .inl (.inl hb))⟩, ⟨_, rfl, .av (fun b hb => .inl (.inl hb))⟩, ⟨_, rfl, .raw⟩, trivial⟩ ⟨⟨_, rfl, .box ⟨.raw, .good (.tr _ _ _ _) (fun b hb hb' => ap_x_g b hb' (in1 b (zn_tr hb))), .good (.tr _ _ _ _) (fun b hb hb' => ap_x_g b hb' (in2 b (zn_tr hb))), trivial⟩⟩, ⟨_, rfl, .box ⟨.raw, .raw, .good (.tr _ _ _ _) (fun b hb hb' => ap_x_m b hb' (inm b (zn_tr hb))), trivial⟩⟩, trivial⟩ (fun k' s' hR => ?_))))
  obtain ⟨rfl, -⟩ := hR
  refine q_as _ rfl (run_nil (h14 _ ?_))
  refine ok_le (σ' := ⟨[(10, .sv (int ((1 + cmCluster a0 : Nat) : Int))), (9, .ptr 9 0), (8, .ptr 8 0), (6, .av (fun b => (Zn b (.agg [int a0.ring.copies, .tr Z1x (eRingNodeS a0.ring.nodes) v1x, .tr Z2x (eSeriesSS a0.data) v2x]) ∨ Zn b (.agg [str a1.id, int a1.st, .tr Ztm (ints a1.toks) vtm])) ∨ Zn b (.agg [int rr.ring.copies, .tr Z1g (eRingNodeS rr.ring.nodes) v1g, .tr Z2g (eSeriesSS rr.data) v2g])) (.ptr (eCluster rr))), (3, .av (fun b => (Zn b (.agg [int a0.ring.copies, .tr Z1x (eRingNodeS a0.ring.nodes) v1x, .tr Z2x (eSeriesSS a0.data) v2x]) ∨ Zn b (.agg [str a1.id, int a1.st, .tr Ztm (ints a1.toks) vtm])) ∨ Zn b (.agg [int rr.ring.copies, .tr Z1g (eRingNodeS rr.ring.nodes) v1g, .tr Z2g (eSeriesSS rr.data) v2g])) (.ptr (eRingNode a1))), (2, .av (fun b => (Zn b (.agg [int a0.ring.copies, .tr Z1x (eRingNodeS a0.ring.nodes) v1x, .tr Z2x (eSeriesSS a0.data) v2x]) ∨ Zn b (.agg [str a1.id, int a1.st, .tr Ztm (ints a1.toks) vtm])) ∨ Zn b (.agg [int rr.ring.copies, .tr Z1g (eRingNodeS rr.ring.nodes) v1g, .tr Z2g (eSeriesSS rr.data) v2g])) (.ptr (eCluster a0))), (4, .sv (bool false))], [(9, .box [.sv (int rr.ring.copies), .sv (.tr Z1g (eRingNodeS rr.ring.nodes) v1g), .sv (.tr Z2g (eSeriesSS rr.data) v2g)]), (8, .box [.sv (str a1.id), .sv (int a1.st), .sv (.tr Ztm (ints a1.toks) vtm)])]⟩) (le_sub ⟨rfl, rfl, rfl, rfl, rfl, rfl, rfl, trivial⟩ ⟨rfl, rfl, trivial⟩) ?_
  refine ok_seq fun K15 h15 => ?_
  refine ok_region rfl (q_ldbs ag45 rfl rfl sz45 rfl rfl (q_mv _ rfl (q_markg (k := ((1 + cmCluster a0 : Nat) : Int)) (gc_RingNode a1) (f21_m a1 (nRingNode_of hs1) (1 + cmCluster a0) (by omega) (by omega)) cl21 rfl rfl (fun b hb => .inl (hz_m b hb)) [(10, .sv (int ((1 + cmCluster a0 : Nat) : Int))), (9, .ptr 9 0), (6, .av (fun b => (Zn b (.agg [int a0.ring.copies, .tr Z1x (eRingNodeS a0.ring.nodes) v1x, .tr Z2x (eSeriesSS a0.data) v2x]) ∨ Zn b (.agg [str a1.id, int a1.st, .tr Ztm (ints a1.toks) vtm])) ∨ Zn b (.agg [int rr.ring.copies, .tr Z1g (eRingNodeS rr.ring.nodes) v1g, .tr Z2g (eSeriesSS rr.data) v2g])) (.ptr (eCluster rr))), (3, .av (fun b => (Zn b (.agg [int a0.ring.copies, .tr Z1x (eRingNodeS a0.ring.nodes) v1x, .tr Z2x (eSeriesSS a0.data) v2x]) ∨ Zn b (.agg [str a1.id, int a1.st, .tr Ztm (ints a1.toks) vtm])) ∨ Zn b (.agg [int rr.ring.copies, .tr Z1g (eRingNodeS rr.ring.nodes) v1g, .tr Z2g (eSeriesSS rr.data) v2g])) (.ptr (eRingNode a1))), (2, .av (fun b => (Zn b (.agg [int a0.ring.copies, .tr Z1x (eRingNodeS a0.ring.nodes) v1x, .tr Z2x (eSeriesSS a0.data) v2x]) ∨ Zn b (.agg [str a1.id, int a1.st, .tr Ztm (ints a1.toks) vtm])) ∨ Zn b (.agg [int rr.ring.copies, .tr Z1g (eRingNodeS rr.ring.nodes) v1g, .tr Z2g (eSeriesSS rr.data) v2g])) (.ptr (eCluster a0))), (4, .sv (bool false))] [(9, .box [.sv (int rr.ring.copies), .sv (.tr Z1g (eRingNodeS rr.ring.nodes) v1g), .sv (.tr Z2g (eSeriesSS rr.data) v2g)])] ⟨⟨_, rfl, .raw⟩, ⟨_, rfl, .ptr⟩, ⟨_, rfl, .av (fun b hb => .inl (.inr hb))⟩, ⟨_, rfl, .av (fun b hb => .inl (.inr hb))⟩, ⟨_, rfl, .av (fun b hb => .inl (.inr hb))⟩, ⟨_, rfl, .raw⟩, trivial⟩ ⟨⟨_, rfl, .box ⟨.raw, .good (.tr _ _ _ _) (fun b hb hb' => ap_m_g b hb' (in1 b (zn_tr hb))), .good (.tr _ _ _ _) (fun b hb hb' => ap_m_g b hb' (in2 b (zn_tr hb))), trivial⟩⟩, trivial⟩ (fun k' s' hR => ?_))))
  obtain ⟨rfl, -⟩ := hR
  refine q_as _ rfl (run_nil (h15 _ ?_))
  refine ok_le (σ' := ⟨[(10, .sv (int ((1 + cmCluster a0 + cmRingNode a1 : Nat) : Int))), (9, .ptr 9 0), (6, .av (fun b => (Zn b (.agg [int a0.ring.copies, .tr Z1x (eRingNodeS a0.ring.nodes) v1x, .tr Z2x (eSeriesSS a0.data) v2x]) ∨ Zn b (.agg [str a1.id, int a1.st, .tr Ztm (ints a1.toks) vtm])) ∨ Zn b (.agg [int rr.ring.copies, .tr Z1g (eRingNodeS rr.ring.nodes) v1g, .tr Z2g (eSeriesSS rr.data) v2g])) (.ptr (eCluster rr))), (3, .av (fun b => (Zn b (.agg [int a0.ring.copies, .tr Z1x (eRingNodeS a0.ring.nodes) v1x, .tr Z2x (eSeriesSS a0.data) v2x]) ∨ Zn b (.agg [str a1.id, int a1.st, .tr Ztm (ints a1.toks) vtm])) ∨ Zn b (.agg [int rr.ring.copies, .tr Z1g (eRingNodeS rr.ring.nodes) v1g, .tr Z2g (eSeriesSS rr.data) v2g])) (.ptr (eRingNode a1))), (2, .av (fun b => (Zn b (.agg [int a0.ring.copies, .tr Z1x (eRingNodeS a0.ring.nodes) v1x, .tr Z2x (eSeriesSS a0.data) v2x]) ∨ Zn b (.agg [str a1.id, int a1.st, .tr Ztm (ints a1.toks) vtm])) ∨ Zn b (.agg [int rr.ring.copies, .tr Z1g (eRingNodeS rr.ring.nodes) v1g, .tr Z2g (eSeriesSS rr.data) v2g])) (.ptr (eCluster a0))), (4, .sv (bool false))], [(9, .box [.sv (int rr.ring.copies), .sv (.tr Z1g (eRingNodeS rr.ring.nodes) v1g), .sv (.tr Z2g (eSeriesSS rr.data) v2g)])]⟩) (le_sub ⟨rfl, rfl, rfl, rfl, rfl, rfl, trivial⟩ ⟨rfl, trivial⟩) ?_
  refine ok_seq fun K16 h16 => ?_
  refine ok_seq fun K17 h17 => ?_
  refine ok_region rfl (q_mv _ rfl (q_bin _ _ _ rfl rfl rfl (q_mv _ rfl (q_or 4 4 rfl rfl rfl rfl rfl (fun hb => q_ldbs ag34 rfl rfl sz34 rfl rfl (q_ldsa _ ag34 rfl sz34 (q_callp (f13_ok rr hS) cl13 ⟨.inr (.inl ⟨_, rfl, gc_Cluster rr dg⟩), .inl rfl, trivial⟩ (q_un _ _ rfl rfl (run_nil ⟨rfl, rfl, rfl, rfl⟩))))) (run_nil (h17 _ ?_))))))
  refine ok_cond rfl (fun c18 => ?_) (fun c18 => ?_)
  · first | (exfalso; simp at c18; done) | (exfalso; have hcc := of_decide_eq_true c18; omega) | (exfalso; simp at c18; omega)
  refine ok_skip (h16 _ ?_)
  refine ok_seq fun K19 h19 => ?_
  refine ok_region rfl (q_as _ rfl (run_nil (h19 _ ?_)))
  refine ok_le (σ' := ⟨[(11, .sv (int 1)), (10, .sv (int ((1 + cmCluster a0 + cmRingNode a1 : Nat) : Int))), (9, .ptr 9 0), (6, .av (fun b => (Zn b (.agg [int a0.ring.copies, .tr Z1x (eRingNodeS a0.ring.nodes) v1x, .tr Z2x (eSeriesSS a0.data) v2x]) ∨ Zn b (.agg [str a1.id, int a1.st, .tr Ztm (ints a1.toks) vtm])) ∨ Zn b (.agg [int rr.ring.copies, .tr Z1g (eRingNodeS rr.ring.nodes) v1g, .tr Z2g (eSeriesSS rr.data) v2g])) (.ptr (eCluster rr))), (3, .av (fun b => (Zn b (.agg [int a0.ring.copies, .tr Z1x (eRingNodeS a0.ring.nodes) v1x, .tr Z2x (eSeriesSS a0.data) v2x]) ∨ Zn b (.agg [str a1.id, int a1.st, .tr Ztm (ints a1.toks) vtm])) ∨ Zn b (.agg [int rr.ring.copies, .tr Z1g (eRingNodeS rr.ring.nodes) v1g, .tr Z2g (eSeriesSS rr.data) v2g])) (.ptr (eRingNode a1))), (2, .av (fun b => (Zn b (.agg [int a0.ring.copies, .tr Z1x (eRingNodeS a0.ring.nodes) v1x, .tr Z2x (eSeriesSS a0.data) v2x]) ∨ Zn b (.agg [str a1.id, int a1.st, .tr Ztm (ints a1.toks) vtm])) ∨ Zn b (.agg [int rr.ring.copies, .tr Z1g (eRingNodeS rr.ring.nodes) v1g, .tr Z2g (eSeriesSS rr.data) v2g])) (.ptr (eCluster a0))), (4, .sv (bool false))], [(9, .box [.sv (int rr.ring.copies), .sv (.tr Z1g (eRingNodeS rr.ring.nodes) v1g), .sv (.tr Z2g (eSeriesSS rr.data) v2g)])]⟩) (le_sub ⟨rfl, rfl, rfl, rfl, rfl, rfl, rfl, trivial⟩ ⟨rfl, trivial⟩) ?_
  refine ok_seq fun K20 h20 => ?_
  refine ok_region rfl (q_ldbs ag34 rfl rfl sz34 rfl rfl (q_mv _ rfl (q_mark2 9 (k := ((1 : Nat) : Int)) (f14_m rr (nCluster_of hS) 1 (by decide) hCT) cl14 (gc_Cluster rr dg) rfl rfl (fun b hb => .inl (hz_g b hb)) rfl (fun k' s'' h => by obtain ⟨_, x', rfl, _⟩ := h; exact ⟨.int .i64 x'.ring.copies, eRingNodeS x'.ring.nodes, eSeriesSS x'.data, rfl⟩) [(11, .sv (int 1)), (10, .sv (int ((1 + cmCluster a0 + cmRingNode a1 : Nat) : Int))), (9, .ptr 9 0), (6, .av (fun b => (Zn b (.agg [int a0.ring.copies, .tr Z1x (eRingNodeS a0.ring.nodes) v1x, .tr Z2x (eSeriesSS a0.data) v2x]) ∨ Zn b (.agg [str a1.id, int a1.st, .tr Ztm (ints a1.toks) vtm])) ∨ Zn b (.agg [int rr.ring.copies, .tr Z1g (eRingNodeS rr.ring.nodes) v1g, .tr Z2g (eSeriesSS rr.data) v2g])) (.ptr (eCluster rr))), (3, .av (fun b => (Zn b (.agg [int a0.ring.copies, .tr Z1x (eRingNodeS a0.ring.nodes) v1x, .tr Z2x (eSeriesSS a0.data) v2x]) ∨ Zn b (.agg [str a1.id, int a1.st, .tr Ztm (ints a1.toks) vtm])) ∨ Zn b (.agg [int rr.ring.copies, .tr Z1g (eRingNodeS rr.ring.nodes) v1g, .tr Z2g (eSeriesSS rr.data) v2g])) (.ptr (eRingNode a1))), (2, .av (fun b => (Zn b (.agg [int a0.ring.copies, .tr Z1x (eRingNodeS a0.ring.nodes) v1x, .tr Z2x (eSeriesSS a0.data) v2x]) ∨ Zn b (.agg [str a1.id, int a1.st, .tr Ztm (ints a1.toks) vtm])) ∨ Zn b (.agg [int rr.ring.copies, .tr Z1g (eRingNodeS rr.ring.nodes) v1g, .tr Z2g (eSeriesSS rr.data) v2g])) (.ptr (eCluster a0))), (4, .sv (bool false))] [(9, .box [.sv (int rr.ring.copies), .dead, .dead])] rfl ⟨⟨_, rfl, .raw⟩, ⟨_, rfl, .raw⟩, ⟨_, rfl, .ptr⟩, ⟨_, rfl, .av (fun b hb => .inr hb)⟩, ⟨_, rfl, .av (fun b hb => .inr hb)⟩, ⟨_, rfl, .av (fun b hb => .inr hb)⟩, ⟨_, rfl, .raw⟩, trivial⟩ ⟨⟨_, rfl, .box ⟨.raw, .dead, .dead, trivial⟩⟩, trivial⟩ (fun k' s1' s2' Z1m Z2m dm im1 im2 hR => ?_))))
  obtain ⟨rfl, ⟨⟨lc, ln⟩, ld⟩, hlg, hhg, hcg, hmg⟩ := hR
  have hlg : SV.agg [int rr.ring.copies, s1', s2'] = .agg [int lc, eRingNodeS ln, eSeriesSS ld] := hlg
  simp only [SV.agg.injEq, List.cons.injEq, SV.raw.injEq, Value.int.injEq, true_and, and_true] at hlg
  obtain ⟨rfl, rfl, rfl⟩ := hlg
  refine q_as _ rfl (run_nil (h20 _ ?_))
  refine ok_le (σ' := ⟨[(11, .sv (int ((1 + cmCluster rr : Nat) : Int))), (10, .sv (int ((1 + cmCluster a0 + cmRingNode a1 : Nat) : Int))), (9, .ptr 9 0), (6, .av (fun b => (Zn b (.agg [int a0.ring.copies, .tr Z1x (eRingNodeS a0.ring.nodes) v1x, .tr Z2x (eSeriesSS a0.data) v2x]) ∨ Zn b (.agg [str a1.id, int a1.st, .tr Ztm (ints a1.toks) vtm])) ∨ Zn b (.agg [int rr.ring.copies, .tr Z1g (eRingNodeS rr.ring.nodes) v1g, .tr Z2g (eSeriesSS rr.data) v2g])) (.ptr (eCluster rr))), (3, .av (fun b => (Zn b (.agg [int a0.ring.copies, .tr Z1x (eRingNodeS a0.ring.nodes) v1x, .tr Z2x (eSeriesSS a0.data) v2x]) ∨ Zn b (.agg [str a1.id, int a1.st, .tr Ztm (ints a1.toks) vtm])) ∨ Zn b (.agg [int rr.ring.copies, .tr Z1g (eRingNodeS rr.ring.nodes) v1g, .tr Z2g (eSeriesSS rr.data) v2g])) (.ptr (eRingNode a1))), (2, .av (fun b => (Zn b (.agg [int a0.ring.copies, .tr Z1x (eRingNodeS a0.ring.nodes) v1x, .tr Z2x (eSeriesSS a0.data) v2x]) ∨ Zn b (.agg [str a1.id, int a1.st, .tr Ztm (ints a1.toks) vtm])) ∨ Zn b (.agg [int rr.ring.copies, .tr Z1g (eRingNodeS rr.ring.nodes) v1g, .tr Z2g (eSeriesSS rr.data) v2g])) (.ptr (eCluster a0))), (4, .sv (bool false))], [(9, .box [.sv (int rr.ring.copies), .sv (.tr Z1m (eRingNodeS ln) v1g), .sv (.tr Z2m (eSeriesSS ld) v2g)])]⟩) (le_sub ⟨rfl, rfl, rfl, rfl, rfl, rfl, rfl, trivial⟩ ⟨rfl, trivial⟩) ?_
  have hh1 : PFn Tryz.prog 15 [eCluster ⟨⟨rr.ring.copies, ln⟩, ld⟩, int ((1 : Nat) : Int)] (int ((1 + cmCluster rr : Nat) : Int)) := by have h9 := f15_h ⟨⟨rr.ring.copies, ln⟩, ld⟩ hmg 1 (by decide) (by rw [hcg]; exact hCT) hhg; rw [hcg] at h9; exact h9
  refine ok_seq fun K21 h21 => ?_
  refine ok_region rfl (q_as _ rfl (run_nil (h21 _ ?_)))
  refine ok_seq fun K22 h22 => ?_
  refine ok_region rfl (q_ldbs ag34 rfl rfl sz34 rfl rfl (q_mv _ rfl (q_callp hh1 cl15 ⟨.inr (.inl ⟨_, rfl, gc_Cluster ⟨⟨rr.ring.copies, ln⟩, ld⟩ dm⟩), .inl rfl, trivial⟩ (q_as _ rfl (run_nil (h22 _ ?_))))))
  refine ok_le (σ' := ⟨[(12, .sv (int ((1 + cmCluster rr : Nat) : Int))), (11, .sv (int ((1 + cmCluster rr : Nat) : Int))), (10, .sv (int ((1 + cmCluster a0 + cmRingNode a1 : Nat) : Int))), (9, .ptr 9 0), (6, .av (fun b => (Zn b (.agg [int a0.ring.copies, .tr Z1x (eRingNodeS a0.ring.nodes) v1x, .tr Z2x (eSeriesSS a0.data) v2x]) ∨ Zn b (.agg [str a1.id, int a1.st, .tr Ztm (ints a1.toks) vtm])) ∨ Zn b (.agg [int rr.ring.copies, .tr Z1g (eRingNodeS rr.ring.nodes) v1g, .tr Z2g (eSeriesSS rr.data) v2g])) (.ptr (eCluster rr))), (3, .av (fun b => (Zn b (.agg [int a0.ring.copies, .tr Z1x (eRingNodeS a0.ring.nodes) v1x, .tr Z2x (eSeriesSS a0.data) v2x]) ∨ Zn b (.agg [str a1.id, int a1.st, .tr Ztm (ints a1.toks) vtm])) ∨ Zn b (.agg [int rr.ring.copies, .tr Z1g (eRingNodeS rr.ring.nodes) v1g, .tr Z2g (eSeriesSS rr.data) v2g])) (.ptr (eRingNode a1))), (2, .av (fun b => (Zn b (.agg [int a0.ring.copies, .tr Z1x (eRingNodeS a0.ring.nodes) v1x, .tr Z2x (eSeriesSS a0.data) v2x]) ∨ Zn b (.agg [str a1.id, int a1.st, .tr Ztm (ints a1.toks) vtm])) ∨ Zn b (.agg [int rr.ring.copies, .tr Z1g (eRingNodeS rr.ring.nodes) v1g, .tr Z2g (eSeriesSS rr.data) v2g])) (.ptr (eCluster a0))), (4, .sv (bool false))], [(9, .box [.sv (int rr.ring.copies), .sv (.tr Z1m (eRingNodeS ln) v1g), .sv (.tr Z2m (eSeriesSS ld) v2g)])]⟩) (le_sub ⟨rfl, rfl, rfl, rfl, rfl, rfl, rfl, rfl, trivial⟩ ⟨rfl, trivial⟩) ?_
  refine ok_seq fun K23 h23 => ?_
  refine ok_seq fun K24 h24 => ?_
  refine ok_region rfl (q_mv _ rfl (q_bin _ _ _ rfl rfl rfl (run_nil (h24 _ ?_))))
  refine ok_cond rfl (fun c25 => ?_) (fun c25 => ?_)
  · first | (exfalso; simp at c25; done) | (exfalso; have hcc := of_decide_eq_true c25; omega) | (exfalso; simp at c25; omega)
  refine ok_skip (h23 _ ?_)
  refine ok_seq fun K26 h26 => ?_
  refine ok_seq fun K27 h27 => ?_
  refine ok_region rfl (q_mv _ rfl (q_mv _ rfl (q_bin _ _ _ rfl rfl rfl (run_nil (h27 _ ?_)))))
  refine ok_cond rfl (fun c28 => ?_) (fun c28 => ?_)
  · first | (exfalso; simp at c28; done) | (exfalso; have hcc := of_decide_eq_true c28; omega) | (exfalso; simp at c28; omega)
  refine ok_skip (h26 _ ?_)
  refine ok_le (σ' := ⟨[(11, .sv (int ((1 + cmCluster rr : Nat) : Int))), (10, .sv (int ((1 + cmCluster a0 + cmRingNode a1 : Nat) : Int))), (9, .ptr 9 0), (6, .av (fun b => (Zn b (.agg [int a0.ring.copies, .tr Z1x (eRingNodeS a0.ring.nodes) v1x, .tr Z2x (eSeriesSS a0.data) v2x]) ∨ Zn b (.agg [str a1.id, int a1.st, .tr Ztm (ints a1.toks) vtm])) ∨ Zn b (.agg [int rr.ring.copies, .tr Z1g (eRingNodeS rr.ring.nodes) v1g, .tr Z2g (eSeriesSS rr.data) v2g])) (.ptr (eCluster rr))), (3, .av (fun b => (Zn b (.agg [int a0.ring.copies, .tr Z1x (eRingNodeS a0.ring.nodes) v1x, .tr Z2x (eSeriesSS a0.data) v2x]) ∨ Zn b (.agg [str a1.id, int a1.st, .tr Ztm (ints a1.toks) vtm])) ∨ Zn b (.agg [int rr.ring.copies, .tr Z1g (eRingNodeS rr.ring.nodes) v1g, .tr Z2g (eSeriesSS rr.data) v2g])) (.ptr (eRingNode a1))), (2, .av (fun b => (Zn b (.agg [int a0.ring.copies, .tr Z1x (eRingNodeS a0.ring.nodes) v1x, .tr Z2x (eSeriesSS a0.data) v2x]) ∨ Zn b (.agg [str a1.id, int a1.st, .tr Ztm (ints a1.toks) vtm])) ∨ Zn b (.agg [int rr.ring.copies, .tr Z1g (eRingNodeS rr.ring.nodes) v1g, .tr Z2g (eSeriesSS rr.data) v2g])) (.ptr (eCluster a0))), (4, .sv (bool false))], [(9, .box [.sv (int rr.ring.copies), .sv (.tr Z1m (eRingNodeS ln) v1g), .sv (.tr Z2m (eSeriesSS ld) v2g)])]⟩) (le_sub ⟨rfl, rfl, rfl, rfl, rfl, rfl, rfl, trivial⟩ ⟨rfl, trivial⟩) ?_
  refine ok_seq_join (fun (s : (Nat → Prop) × Value × (Nat → Prop) × Value) => ⟨[(13, .ptr 13 0), (11, .sv (int ((1 + cmCluster rr : Nat) : Int))), (10, .sv (int ((1 + cmCluster a0 + cmRingNode a1 : Nat) : Int))), (9, .ptr 9 0), (6, .av (fun b => (Zn b (.agg [int a0.ring.copies, .tr Z1x (eRingNodeS a0.ring.nodes) v1x, .tr Z2x (eSeriesSS a0.data) v2x]) ∨ Zn b (.agg [str a1.id, int a1.st, .tr Ztm (ints a1.toks) vtm])) ∨ Zn b (.agg [int rr.ring.copies, .tr Z1g (eRingNodeS rr.ring.nodes) v1g, .tr Z2g (eSeriesSS rr.data) v2g])) (.ptr (eCluster rr))), (3, .av (fun b => (Zn b (.agg [int a0.ring.copies, .tr Z1x (eRingNodeS a0.ring.nodes) v1x, .tr Z2x (eSeriesSS a0.data) v2x]) ∨ Zn b (.agg [str a1.id, int a1.st, .tr Ztm (ints a1.toks) vtm])) ∨ Zn b (.agg [int rr.ring.copies, .tr Z1g (eRingNodeS rr.ring.nodes) v1g, .tr Z2g (eSeriesSS rr.data) v2g])) (.ptr (eRingNode a1))), (2, .av (fun b => (Zn b (.agg [int a0.ring.copies, .tr Z1x (eRingNodeS a0.ring.nodes) v1x, .tr Z2x (eSeriesSS a0.data) v2x]) ∨ Zn b (.agg [str a1.id, int a1.st, .tr Ztm (ints a1.toks) vtm])) ∨ Zn b (.agg [int rr.ring.copies, .tr Z1g (eRingNodeS rr.ring.nodes) v1g, .tr Z2g (eSeriesSS rr.data) v2g])) (.ptr (eCluster a0))), (4, .sv (bool false))], [(13, .box [.sv (int rr.ring.copies), .sv (.tr s.1 (eRingNodeS rr.ring.nodes) s.2.1), .sv (.tr s.2.2.1 (eSeriesSS rr.data) s.2.2.2)]), (9, .box [.sv (int rr.ring.copies), .sv (.tr Z1m (eRingNodeS ln) v1g), .sv (.tr Z2m (eSeriesSS ld) v2g)])]⟩) (fun s => ∀ b, s.1 b → ¬ s.2.2.1 b) ?_ (fun s dh => ?_)
  · refine ok_last fun K5 h5 => ok_region_t (.fork [0, 2] 1 (.fork [] 3 (.fork [] 4 (.leaf [5, 6]) 5 (.leaf [4, 6])) 5 (.leaf [3, 4, 6])) 5 (.leaf [1, 3, 4, 6])) (by kernel_rfl) (by kernel_rfl) rfl ?_
    refine runT_fork ?_
    refine q_ldsa _ ag27 rfl sz27 (q_ldsa _ ag42 rfl sz42 (run_nil ⟨?_, ?_⟩))
    · refine q_call (f11_ok a0 hs0) cl11 rfl rfl (run_nil (runT_fork (run_nil ⟨?_, ?_⟩)))
      · refine q_call (f18_ok a1 hs1) cl18 rfl rfl (run_nil (runT_fork (run_nil ⟨?_, ?_⟩)))
        · refine q_callg [] c19 cl19 ⟨.inl rfl, .inl rfl, trivial⟩ (fun r_h hr_h hz_h ha_h => ?_)
          obtain ⟨Z1h, v1h, Z2h, v2h, rfl, dh⟩ := gi_Cluster (x := rr) hr_h
          exact run_nil (runT_leaf (q_alloc _ ze34 rfl rfl rfl rfl (q_sts _ rfl rfl rfl sz34 (Nat.le_of_ble_eq_true rfl) rfl (run_nil (h5 _ ⟨(Z1h, v1h, Z2h, v2h), dh, le_sub ⟨rfl, rfl, rfl, rfl, rfl, rfl, rfl, rfl, trivial⟩ ⟨rfl, rfl, trivial⟩⟩)))))
        · refine q_alloc _ ze34 rfl rfl rfl rfl (run_nil (runT_leaf (q_callg [] c19 cl19 ⟨.inl rfl, .inl rfl, trivial⟩ (fun r_h hr_h hz_h ha_h => ?_))))
          obtain ⟨Z1h, v1h, Z2h, v2h, rfl, dh⟩ := gi_Cluster (x := rr) hr_h
          exact q_sts _ rfl rfl rfl sz34 (Nat.le_of_ble_eq_true rfl) rfl (run_nil (h5 _ ⟨(Z1h, v1h, Z2h, v2h), dh, le_sub ⟨rfl, rfl, rfl, rfl, rfl, rfl, rfl, rfl, trivial⟩ ⟨rfl, rfl, trivial⟩⟩))
      · refine q_alloc _ ze34 rfl rfl rfl rfl (run_nil (runT_leaf (q_call (f18_ok a1 hs1) cl18 rfl rfl (q_callg [] c19 cl19 ⟨.inl rfl, .inl rfl, trivial⟩ (fun r_h hr_h hz_h ha_h => ?_)))))
        obtain ⟨Z1h, v1h, Z2h, v2h, rfl, dh⟩ := gi_Cluster (x := rr) hr_h
        exact q_sts _ rfl rfl rfl sz34 (Nat.le_of_ble_eq_true rfl) rfl (run_nil (h5 _ ⟨(Z1h, v1h, Z2h, v2h), dh, le_sub ⟨rfl, rfl, rfl, rfl, rfl, rfl, rfl, rfl, trivial⟩ ⟨rfl, rfl, trivial⟩⟩))
    · refine q_alloc _ ze34 rfl rfl rfl rfl (run_nil (runT_leaf (q_call (f11_ok a0 hs0) cl11 rfl rfl (q_call (f18_ok a1 hs1) cl18 rfl rfl (q_callg [] c19 cl19 ⟨.inl rfl, .inl rfl, trivial⟩ (fun r_h hr_h hz_h ha_h => ?_))))))
      obtain ⟨Z1h, v1h, Z2h, v2h, rfl, dh⟩ := gi_Cluster (x := rr) hr_h
      exact q_sts _ rfl rfl rfl sz34 (Nat.le_of_ble_eq_true rfl) rfl (run_nil (h5 _ ⟨(Z1h, v1h, Z2h, v2h), dh, le_sub ⟨rfl, rfl, rfl, rfl, rfl, rfl, rfl, rfl, trivial⟩ ⟨rfl, rfl, trivial⟩⟩))
  obtain ⟨Z1h, v1h, Z2h, v2h⟩ := s
  simp only at dh
  refine ok_seq fun K29 h29 => ?_
  refine ok_seq fun K30 h30 => ?_
  refine ok_region rfl (q_ldbs ag34 rfl rfl sz34 rfl rfl (q_ldsa _ ag34 rfl sz34 (q_callp (f13_ok rr hS) cl13 ⟨.inr (.inl ⟨_, rfl, gc_Cluster rr dh⟩), .inl rfl, trivial⟩ (q_un _ _ rfl rfl (run_nil (h30 _ ?_))))))
  refine ok_cond rfl (fun c31 => ?_) (fun c31 => ?_)
  · first | (exfalso; simp at c31; done) | (exfalso; have hcc := of_decide_eq_true c31; omega) | (exfalso; simp at c31; omega)
  refine ok_skip (h29 _ ?_)
  refine ok_le (σ' := ⟨[(11, .sv (int ((1 + cmCluster rr : Nat) : Int))), (10, .sv (int ((1 + cmCluster a0 + cmRingNode a1 : Nat) : Int))), (9, .ptr 9 0), (6, .av (fun b => (Zn b (.agg [int a0.ring.copies, .tr Z1x (eRingNodeS a0.ring.nodes) v1x, .tr Z2x (eSeriesSS a0.data) v2x]) ∨ Zn b (.agg [str a1.id, int a1.st, .tr Ztm (ints a1.toks) vtm])) ∨ Zn b (.agg [int rr.ring.copies, .tr Z1g (eRingNodeS rr.ring.nodes) v1g, .tr Z2g (eSeriesSS rr.data) v2g])) (.ptr (eCluster rr))), (3, .av (fun b => (Zn b (.agg [int a0.ring.copies, .tr Z1x (eRingNodeS a0.ring.nodes) v1x, .tr Z2x (eSeriesSS a0.data) v2x]) ∨ Zn b (.agg [str a1.id, int a1.st, .tr Ztm (ints a1.toks) vtm])) ∨ Zn b (.agg [int rr.ring.copies, .tr Z1g (eRingNodeS rr.ring.nodes) v1g, .tr Z2g (eSeriesSS rr.data) v2g])) (.ptr (eRingNode a1))), (2, .av (fun b => (Zn b (.agg [int a0.ring.copies, .tr Z1x (eRingNodeS a0.ring.nodes) v1x, .tr Z2x (eSeriesSS a0.data) v2x]) ∨ Zn b (.agg [str a1.id, int a1.st, .tr Ztm (ints a1.toks) vtm])) ∨ Zn b (.agg [int rr.ring.copies, .tr Z1g (eRingNodeS rr.ring.nodes) v1g, .tr Z2g (eSeriesSS rr.data) v2g])) (.ptr (eCluster a0))), (4, .sv (bool false))], [(9, .box [.sv (int rr.ring.copies), .sv (.tr Z1m (eRingNodeS ln) v1g), .sv (.tr Z2m (eSeriesSS ld) v2g)])]⟩) (le_sub ⟨rfl, rfl, rfl, rfl, rfl, rfl, rfl, trivial⟩ ⟨rfl, trivial⟩) ?_
  refine ok_seq fun K32 h32 => ?_
  refine ok_region rfl (q_as _ rfl (run_nil (h32 _ ?_)))
  refine ok_seq fun K33 h33 => ?_
  refine ok_region rfl (q_ldbs ag34 rfl rfl sz34 rfl rfl (q_mv _ rfl (q_callp hh1 cl15 ⟨.inr (.inl ⟨_, rfl, gc_Cluster ⟨⟨rr.ring.copies, ln⟩, ld⟩ dm⟩), .inl rfl, trivial⟩ (q_as _ rfl (run_nil (h33 _ ?_))))))
  refine ok_le (σ' := ⟨[(12, .sv (int ((1 + cmCluster rr : Nat) : Int))), (11, .sv (int ((1 + cmCluster rr : Nat) : Int))), (10, .sv (int ((1 + cmCluster a0 + cmRingNode a1 : Nat) : Int))), (9, .ptr 9 0), (6, .av (fun b => (Zn b (.agg [int a0.ring.copies, .tr Z1x (eRingNodeS a0.ring.nodes) v1x, .tr Z2x (eSeriesSS a0.data) v2x]) ∨ Zn b (.agg [str a1.id, int a1.st, .tr Ztm (ints a1.toks) vtm])) ∨ Zn b (.agg [int rr.ring.copies, .tr Z1g (eRingNodeS rr.ring.nodes) v1g, .tr Z2g (eSeriesSS rr.data) v2g])) (.ptr (eCluster rr))), (3, .av (fun b => (Zn b (.agg [int a0.ring.copies, .tr Z1x (eRingNodeS a0.ring.nodes) v1x, .tr Z2x (eSeriesSS a0.data) v2x]) ∨ Zn b (.agg [str a1.id, int a1.st, .tr Ztm (ints a1.toks) vtm])) ∨ Zn b (.agg [int rr.ring.copies, .tr Z1g (eRingNodeS rr.ring.nodes) v1g, .tr Z2g (eSeriesSS rr.data) v2g])) (.ptr (eRingNode a1))), (2, .av (fun b => (Zn b (.agg [int a0.ring.copies, .tr Z1x (eRingNodeS a0.ring.nodes) v1x, .tr Z2x (eSeriesSS a0.data) v2x]) ∨ Zn b (.agg [str a1.id, int a1.st, .tr Ztm (ints a1.toks) vtm])) ∨ Zn b (.agg [int rr.ring.copies, .tr Z1g (eRingNodeS rr.ring.nodes) v1g, .tr Z2g (eSeriesSS rr.data) v2g])) (.ptr (eCluster a0))), (4, .sv (bool false))], [(9, .box [.sv (int rr.ring.copies), .sv (.tr Z1m (eRingNodeS ln) v1g), .sv (.tr Z2m (eSeriesSS ld) v2g)])]⟩) (le_sub ⟨rfl, rfl, rfl, rfl, rfl, rfl, rfl, rfl, trivial⟩ ⟨rfl, trivial⟩) ?_
  refine ok_seq fun K34 h34 => ?_
  refine ok_seq fun K35 h35 => ?_
  refine ok_region rfl (q_mv _ rfl (q_bin _ _ _ rfl rfl rfl (run_nil (h35 _ ?_))))
  refine ok_cond rfl (fun c36 => ?_) (fun c36 => ?_)
  · first | (exfalso; simp at c36; done) | (exfalso; have hcc := of_decide_eq_true c36; omega) | (exfalso; simp at c36; omega)
  refine ok_skip (h34 _ ?_)
  refine ok_seq fun K37 h37 => ?_
  refine ok_seq fun K38 h38 => ?_
  refine ok_region rfl (q_mv _ rfl (q_mv _ rfl (q_bin _ _ _ rfl rfl rfl (run_nil (h38 _ ?_)))))
  refine ok_cond rfl (fun c39 => ?_) (fun c39 => ?_)
  · first | (exfalso; simp at c39; done) | (exfalso; have hcc := of_decide_eq_true c39; omega) | (exfalso; simp at c39; omega)
  refine ok_skip (h37 _ ?_)
  refine ok_seq fun K1 h1 => ok_region rfl (q_as _ rfl (run_nil (h1 _ ?_)))
  exact ok_ret ⟨_, rfl, rfl⟩
end Go.Ring
