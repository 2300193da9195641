/- The law of how a cluster is repaired. No condition. -/
import Derived.Test.YtanilephcohjkaaGreatSg5
import Derived.Test.YtanilephcohjkaaGreatSg13
import Derived.Test.YtanilephcohjkaaGreatEg3
set_option maxRecDepth 100000
set_option linter.unusedVariables false
set_option linter.unusedSimpArgs false
namespace Go.Ring
open Go Go.RowKit Go.Eager Go.Abs Go.Proofs
theorem repR_S {c : Cluster} (hc : SCluster c) (hk : ClusterOk c) (hd : DatOk c.data) {i : Nat} {d : List Series} (hi : c.data[i]? = some d) : SeriesOk (repR c i d) ∧ ∀ y ∈ repR c i d, SSeries y := by
  unfold repR
  split
  · rename_i h
    have hs := of_pB h
    have hnd := hd.n d (smem hi)
    obtain ⟨a1, _, _⟩ := allU_inv (ns := c.ring.nodes) hd
    have hn : Nice (repG c i d) := hnd.jn (a1.filter _)
    exact ⟨hs, fun y hy => ⟨hn.b y hy, by have := (ser_small hs).2 y hy; omega⟩⟩
  · exact ⟨(dat_ok hk).2 d (smem hi), (hc.2.2 d (smem hi)).2⟩
theorem repK_S {c : Cluster} (hc : SCluster c) (hk : ClusterOk c) (hd : DatOk c.data) : ∀ k, ∀ d ∈ repK c k, SeriesOk d ∧ ∀ y ∈ d, SSeries y
  | 0 => fun d h => ⟨(dat_ok hk).2 d h, (hc.2.2 d h).2⟩
  | k + 1 => fun d h => by
    have ih := repK_S hc hk hd k
    rw [repK] at h
    split at h
    · rename_i n d0 hn hd0
      split at h
      · obtain ⟨j, hj⟩ := List.getElem?_of_mem h
        rcases set_getG hj with ⟨_, rfl⟩ | ⟨_, h2⟩
        · exact repR_S hc hk hd hd0
        · exact ih d (smem h2)
      · exact ih d h
    · exact ih d h
theorem resRep_S {c : Cluster} (hc : SCluster c) (hw : sumF wt c.data ≤ 1048576) : SCluster (resRep c) ∧ (resRep c).data.length ≤ 20 ∧ (resRep c).ring.nodes.length ≤ 20 ∧ ∀ d ∈ (resRep c).data, d.length ≤ 200 := by
  unfold resRep
  split
  · rename_i h
    have hk := of_pB h
    have hd := datOk hc hw hk
    have hS := repK_S hc hk hd c.ring.nodes.length
    have hl := repK_len c c.ring.nodes.length
    have hl2 := (dat_ok hk).1
    exact ⟨⟨hc.1, by show (repK c c.ring.nodes.length).length ≤ _; omega, fun d hdd => ⟨by have := (ser_small (hS d hdd).1).1; omega, (hS d hdd).2⟩⟩, by show (repK c c.ring.nodes.length).length ≤ _; omega, hk.1.2.2.1, fun d hdd => (ser_small (hS d hdd).1).1⟩
  · exact ⟨⟨⟨by simp, by simp⟩, by simp, by simp⟩, by simp, by simp, by simp⟩
theorem resRep_C {c : Cluster} (hc : SCluster c) (hw : sumF wt c.data ≤ 1048576) : 1 + cmCluster (resRep c) ≤ 1152921504606846976 := by
  obtain ⟨⟨h1, h2, h3⟩, h4, h5, h6⟩ := resRep_S hc hw
  have e : cmCluster (resRep c) = cL cRingNode (resRep c).ring.nodes + cL (cL cSeries) (resRep c).data := rfl
  have g1 := cL_le (c := cRingNode) (m := 2097152) (resRep c).ring.nodes fun n hn => by
    have := (h1.2 n hn).2
    have e2 : cRingNode n = 1 + 1 + cL cOne n.toks := rfl
    have e3 := cL_le (c := cOne) (m := 1) n.toks fun _ _ => Nat.le_refl _
    omega
  have g2 := cL_le (c := cL cSeries) (m := 838860800) (resRep c).data fun d hdd => by
    have e3 := cL_le (c := cSeries) (m := 4194304) d fun s hs => cSeries_le ((h3 d hdd).2 s hs)
    have := h6 d hdd
    omega
  omega
theorem f3_ok (a0 : Cluster) (pa0 : LCluster a0) : PFn Tryz.prog 3 [eCluster a0] (bool true) := by
  refine fn_ok' (n := 69) Tryz.func3 rfl rfl rfl (Nat.le_of_ble_eq_true rfl) rfl fun w0 O => ?_
  refine ok_seq fun K1 h1 => ok_region rfl (q_boxs _ rfl (Nat.zero_lt_succ _) (q_as _ rfl (run_nil (h1 _ ?_)))); clear h1 K1
  refine ok_seq fun K1 h1 => ok_region rfl (q_as _ rfl (run_nil (h1 _ ?_))); clear h1 K1
  refine ok_seq fun K1 h1 => ok_region rfl (q_lds _ ag27 rfl sz27 (q_mv _ rfl (q_call (f9_ok a0 pa0 1048576 (by decide) (by decide)) cl9 rfl rfl (q_as _ rfl (run_nil (h1 _ ?_)))))); clear h1 K1
  refine ok_seq fun K1 h1 => ?_
  refine ok_seq fun K2 h2 => ok_region rfl (q_mv _ rfl (q_bin _ _ _ rfl rfl rfl (run_nil (h2 _ ?_)))); clear h2 K2
  refine ok_cond rfl (fun c3 => ?_) (fun c3 => ?_)
  · refine ok_seq fun K4 h4 => ok_region rfl (q_as _ rfl (run_nil (h4 _ ?_)))
    exact ok_ret ⟨_, rfl, rfl⟩
  have p0 : 0 ≤ zCluster a0 1048576 := by have := of_decide_eq_false c3; omega
  have hs0 := (zCluster_ok a0 _ (by decide)).2.2 p0
  have kb0 := kcm_Cluster a0 _ p0
  have hw0 := zCluster_wt p0 (by decide)
  have c10 := f10_ok a0 hs0 hw0
  have c12 := f12_t a0 hs0 hw0
  have hS := (resRep_S hs0 hw0).1
  have hCT := resRep_C hs0 hw0
  generalize resRep a0 = rr at c10 c12 hS hCT
  refine ok_skip (h1 _ ?_); clear h1 K1
  refine ok_seq fun K1 h1 => ?_
  refine ok_region rfl (q_lds _ ag27 rfl sz27 (q_call (f11_ok a0 hs0) cl11 rfl rfl (q_call c10 cl10 rfl rfl (q_alloc _ ze34 rfl rfl rfl rfl (q_sts _ rfl rfl rfl sz34 (Nat.le_of_ble_eq_true rfl) rfl (run_nil (h1 _ ?_)))))))
  clear h1 K1
  refine Ok.le (le_fb 4 [int rr.ring.copies, eRingNodeS rr.ring.nodes, eSeriesSS rr.data] rfl rfl (by simp)) ?_
  refine ok_le (σ' := ⟨[(4, .sv (.ptr (eCluster rr))), (1, .sv (.ptr (eCluster a0))), (2, .sv (bool false))], []⟩) (le_sub ⟨rfl, rfl, rfl, trivial⟩ trivial) ?_
  refine ok_seq fun K2 h2 => ?_
  refine ok_region rfl (q_lds _ ag27 rfl sz27 (q_callg [4, 1] (f11_t a0 hs0) cl11 ⟨.inl rfl, trivial⟩ (fun r_x hr_x hz_x ha_x => ?_)))
  obtain ⟨Z1x, v1x, Z2x, v2x, rfl, dx⟩ := gi_Cluster (x := a0) hr_x
  refine q_alloc _ ze34 rfl rfl rfl rfl (q_sts _ rfl rfl rfl sz34 (Nat.le_of_ble_eq_true rfl) rfl (run_nil (h2 _ ?_)))
  refine ok_le (σ' := ⟨[(5, .ptr 5 0), (20, .sv (.agg [int a0.ring.copies, .tr Z1x (eRingNodeS a0.ring.nodes) v1x, .tr Z2x (eSeriesSS a0.data) v2x])), (4, .av (fun b => Zn b (.agg [int a0.ring.copies, .tr Z1x (eRingNodeS a0.ring.nodes) v1x, .tr Z2x (eSeriesSS a0.data) v2x])) (.ptr (eCluster rr))), (1, .av (fun b => Zn b (.agg [int a0.ring.copies, .tr Z1x (eRingNodeS a0.ring.nodes) v1x, .tr Z2x (eSeriesSS a0.data) v2x])) (.ptr (eCluster a0))), (2, .sv (bool false))], [(5, .box [.sv (int a0.ring.copies), .sv (.tr Z1x (eRingNodeS a0.ring.nodes) v1x), .sv (.tr Z2x (eSeriesSS a0.data) v2x)])]⟩) (le_sub ⟨rfl, rfl, rfl, rfl, rfl, trivial⟩ ⟨rfl, trivial⟩) ?_
  clear h2 K2
  refine ok_seq fun K3 h3 => ?_
  refine ok_region rfl (q_ldbs ag34 rfl rfl sz34 rfl rfl (q_callg [4, 1] c12 cl12 ⟨.inr (.inl ⟨_, rfl, gc_Cluster a0 dx⟩), trivial⟩ (fun r_g hr_g hz_g ha_g => ?_)))
  obtain ⟨Z1g, v1g, Z2g, v2g, rfl, dg⟩ := gi_Cluster (x := rr) hr_g
  have ap_x_g : ∀ b, Zn b (.agg [int a0.ring.copies, .tr Z1x (eRingNodeS a0.ring.nodes) v1x, .tr Z2x (eSeriesSS a0.data) v2x]) → ¬ Zn b (.agg [int rr.ring.copies, .tr Z1g (eRingNodeS rr.ring.nodes) v1g, .tr Z2g (eSeriesSS rr.data) v2g]) := fun b h1 h2 => ha_g.1 20 _ b rfl h1 h2
  have in1 : ∀ b, Z1g b → Zn b (.agg [int rr.ring.copies, .tr Z1g (eRingNodeS rr.ring.nodes) v1g, .tr Z2g (eSeriesSS rr.data) v2g]) := fun b hb => by simp only [znA_cons, znI_raw, znI_tr, znA_nil, or_false, false_or]; exact .inl hb
  have in2 : ∀ b, Z2g b → Zn b (.agg [int rr.ring.copies, .tr Z1g (eRingNodeS rr.ring.nodes) v1g, .tr Z2g (eSeriesSS rr.data) v2g]) := fun b hb => by simp only [znA_cons, znI_raw, znI_tr, znA_nil, or_false, false_or]; exact .inr hb
  refine q_alloc _ ze34 rfl rfl rfl rfl (q_sts _ rfl rfl rfl sz34 (Nat.le_of_ble_eq_true rfl) rfl (run_nil (h3 _ ?_)))
  refine ok_le (σ' := ⟨[(6, .ptr 6 0), (5, .ptr 5 0), (4, .av (fun b => Zn b (.agg [int a0.ring.copies, .tr Z1x (eRingNodeS a0.ring.nodes) v1x, .tr Z2x (eSeriesSS a0.data) v2x]) ∨ Zn b (.agg [int rr.ring.copies, .tr Z1g (eRingNodeS rr.ring.nodes) v1g, .tr Z2g (eSeriesSS rr.data) v2g])) (.ptr (eCluster rr))), (1, .av (fun b => Zn b (.agg [int a0.ring.copies, .tr Z1x (eRingNodeS a0.ring.nodes) v1x, .tr Z2x (eSeriesSS a0.data) v2x]) ∨ Zn b (.agg [int rr.ring.copies, .tr Z1g (eRingNodeS rr.ring.nodes) v1g, .tr Z2g (eSeriesSS rr.data) v2g])) (.ptr (eCluster a0))), (2, .sv (bool false))], [(6, .box [.sv (int rr.ring.copies), .sv (.tr Z1g (eRingNodeS rr.ring.nodes) v1g), .sv (.tr Z2g (eSeriesSS rr.data) v2g)]), (5, .box [.sv (int a0.ring.copies), .sv (.tr Z1x (eRingNodeS a0.ring.nodes) v1x), .sv (.tr Z2x (eSeriesSS a0.data) v2x)])]⟩) (le_sub ⟨rfl, rfl, rfl, rfl, rfl, trivial⟩ ⟨rfl, rfl, trivial⟩) ?_
  clear h3 K3
  refine ok_seq fun K4 h4 => ?_
  refine ok_seq fun K5 h5 => ?_
  refine ok_region rfl (q_ldbs ag34 rfl rfl sz34 rfl rfl (q_ldsa _ ag34 rfl sz34 (q_callp (f13_ok rr hS) cl13 ⟨.inr (.inl ⟨_, rfl, gc_Cluster rr dg⟩), .inl rfl, trivial⟩ (q_un _ _ rfl rfl (run_nil (h5 _ ?_))))))
  clear h5 K5
  refine ok_cond rfl (fun c6 => ?_) (fun c6 => ?_)
  · first | (exfalso; simp at c6; done) | (exfalso; have hcc := of_decide_eq_true c6; omega) | (exfalso; simp at c6; omega)
  refine ok_skip (h4 _ ?_)
  refine ok_seq fun K7 h7 => ?_
  refine ok_seq fun K8 h8 => ?_
  refine ok_region_i (by kernel_rfl) (by kernel_rfl) rfl (q_ldbs ag34 rfl rfl sz34 rfl rfl (q_ldsa _ ag27 rfl sz27 (q_call (f11_ok a0 hs0) cl11 rfl rfl (q_callp (f13_ok a0 hs0) cl13 ⟨.inr (.inl ⟨_, rfl, gc_Cluster a0 dx⟩), .inl rfl, trivial⟩ (q_un _ _ rfl rfl (run_nil (h8 _ ?_)))))))
  clear h8 K8
  refine ok_cond rfl (fun c9 => ?_) (fun c9 => ?_)
  · first | (exfalso; simp at c9; done) | (exfalso; have hcc := of_decide_eq_true c9; omega) | (exfalso; simp at c9; omega)
  refine ok_skip (h7 _ ?_)
  refine ok_seq fun K10 h10 => ?_
  refine ok_region rfl (q_as _ rfl (run_nil (h10 _ ?_)))
  clear h10 K10
  refine ok_le (σ' := ⟨[(7, .sv (int 1)), (6, .ptr 6 0), (5, .ptr 5 0), (4, .av (fun b => Zn b (.agg [int a0.ring.copies, .tr Z1x (eRingNodeS a0.ring.nodes) v1x, .tr Z2x (eSeriesSS a0.data) v2x]) ∨ Zn b (.agg [int rr.ring.copies, .tr Z1g (eRingNodeS rr.ring.nodes) v1g, .tr Z2g (eSeriesSS rr.data) v2g])) (.ptr (eCluster rr))), (1, .av (fun b => Zn b (.agg [int a0.ring.copies, .tr Z1x (eRingNodeS a0.ring.nodes) v1x, .tr Z2x (eSeriesSS a0.data) v2x]) ∨ Zn b (.agg [int rr.ring.copies, .tr Z1g (eRingNodeS rr.ring.nodes) v1g, .tr Z2g (eSeriesSS rr.data) v2g])) (.ptr (eCluster a0))), (2, .sv (bool false))], [(6, .box [.sv (int rr.ring.copies), .sv (.tr Z1g (eRingNodeS rr.ring.nodes) v1g), .sv (.tr Z2g (eSeriesSS rr.data) v2g)]), (5, .box [.sv (int a0.ring.copies), .sv (.tr Z1x (eRingNodeS a0.ring.nodes) v1x), .sv (.tr Z2x (eSeriesSS a0.data) v2x)])]⟩) (le_sub ⟨rfl, rfl, rfl, rfl, rfl, rfl, trivial⟩ ⟨rfl, rfl, trivial⟩) ?_
  refine ok_seq fun K11 h11 => ?_
  refine ok_region rfl (q_ldbs ag34 rfl rfl sz34 rfl rfl (q_mv _ rfl (q_markg (k := ((1 : Nat) : Int)) (gc_Cluster a0 dx) (f14_m a0 (nCluster_of hs0) 1 (by omega) (by omega)) cl14 rfl rfl (fun b hb => .inl (hz_x b hb)) [(7, .sv (int 1)), (6, .ptr 6 0), (4, .av (fun b => Zn b (.agg [int a0.ring.copies, .tr Z1x (eRingNodeS a0.ring.nodes) v1x, .tr Z2x (eSeriesSS a0.data) v2x]) ∨ Zn b (.agg [int rr.ring.copies, .tr Z1g (eRingNodeS rr.ring.nodes) v1g, .tr Z2g (eSeriesSS rr.data) v2g])) (.ptr (eCluster rr))), (1, .av (fun b => Zn b (.agg [int a0.ring.copies, .tr Z1x (eRingNodeS a0.ring.nodes) v1x, .tr Z2x (eSeriesSS a0.data) v2x]) ∨ Zn b (.agg [int rr.ring.copies, .tr Z1g (eRingNodeS rr.ring.nodes) v1g, .tr Z2g (eSeriesSS rr.data) v2g])) (.ptr (eCluster a0))), (2, .sv (bool false))] [(6, .box [.sv (int rr.ring.copies), .sv (.tr Z1g (eRingNodeS rr.ring.nodes) v1g), .sv (.tr Z2g (eSeriesSS rr.data) v2g)])] ⟨⟨_, rfl, .raw⟩, ⟨_, rfl, .ptr⟩, ⟨_, rfl, .av (fun b hb => .inl hb)⟩, ⟨_, rfl, .av (fun b hb => .inl hb)⟩, ⟨_, rfl, .raw⟩, trivial⟩ ⟨⟨_, rfl, .box ⟨.raw, .good (.tr _ _ _ _) (fun b hb hb' => ap_x_g b hb' (in1 b (zn_tr hb))), .good (.tr _ _ _ _) (fun b hb hb' => ap_x_g b hb' (in2 b (zn_tr hb))), trivial⟩⟩, trivial⟩ (fun k' s' hR => ?_))))
  obtain ⟨rfl, -⟩ := hR
  refine q_as _ rfl (run_nil (h11 _ ?_)); clear h11 K11
  refine ok_le (σ' := ⟨[(7, .sv (int ((1 + cmCluster a0 : Nat) : Int))), (6, .ptr 6 0), (4, .av (fun b => Zn b (.agg [int a0.ring.copies, .tr Z1x (eRingNodeS a0.ring.nodes) v1x, .tr Z2x (eSeriesSS a0.data) v2x]) ∨ Zn b (.agg [int rr.ring.copies, .tr Z1g (eRingNodeS rr.ring.nodes) v1g, .tr Z2g (eSeriesSS rr.data) v2g])) (.ptr (eCluster rr))), (1, .av (fun b => Zn b (.agg [int a0.ring.copies, .tr Z1x (eRingNodeS a0.ring.nodes) v1x, .tr Z2x (eSeriesSS a0.data) v2x]) ∨ Zn b (.agg [int rr.ring.copies, .tr Z1g (eRingNodeS rr.ring.nodes) v1g, .tr Z2g (eSeriesSS rr.data) v2g])) (.ptr (eCluster a0))), (2, .sv (bool false))], [(6, .box [.sv (int rr.ring.copies), .sv (.tr Z1g (eRingNodeS rr.ring.nodes) v1g), .sv (.tr Z2g (eSeriesSS rr.data) v2g)])]⟩) (le_sub ⟨rfl, rfl, rfl, rfl, rfl, trivial⟩ ⟨rfl, trivial⟩) ?_
  refine ok_seq fun K12 h12 => ?_
  refine ok_seq fun K13 h13 => ?_
  refine ok_region rfl (q_mv _ rfl (q_bin _ _ _ rfl rfl rfl (q_mv _ rfl (q_or 4 4 rfl rfl rfl rfl rfl (fun hb => q_ldbs ag34 rfl rfl sz34 rfl rfl (q_ldsa _ ag34 rfl sz34 (q_callp (f13_ok rr hS) cl13 ⟨.inr (.inl ⟨_, rfl, gc_Cluster rr dg⟩), .inl rfl, trivial⟩ (q_un _ _ rfl rfl (run_nil ⟨rfl, rfl, rfl, rfl⟩))))) (run_nil (h13 _ ?_))))))
  clear h13 K13
  refine ok_cond rfl (fun c14 => ?_) (fun c14 => ?_)
  · first | (exfalso; simp at c14; done) | (exfalso; have hcc := of_decide_eq_true c14; omega) | (exfalso; simp at c14; omega)
  refine ok_skip (h12 _ ?_)
  refine ok_seq fun K15 h15 => ?_
  refine ok_region rfl (q_as _ rfl (run_nil (h15 _ ?_)))
  clear h15 K15
  refine ok_le (σ' := ⟨[(8, .sv (int 1)), (7, .sv (int ((1 + cmCluster a0 : Nat) : Int))), (6, .ptr 6 0), (4, .av (fun b => Zn b (.agg [int a0.ring.copies, .tr Z1x (eRingNodeS a0.ring.nodes) v1x, .tr Z2x (eSeriesSS a0.data) v2x]) ∨ Zn b (.agg [int rr.ring.copies, .tr Z1g (eRingNodeS rr.ring.nodes) v1g, .tr Z2g (eSeriesSS rr.data) v2g])) (.ptr (eCluster rr))), (1, .av (fun b => Zn b (.agg [int a0.ring.copies, .tr Z1x (eRingNodeS a0.ring.nodes) v1x, .tr Z2x (eSeriesSS a0.data) v2x]) ∨ Zn b (.agg [int rr.ring.copies, .tr Z1g (eRingNodeS rr.ring.nodes) v1g, .tr Z2g (eSeriesSS rr.data) v2g])) (.ptr (eCluster a0))), (2, .sv (bool false))], [(6, .box [.sv (int rr.ring.copies), .sv (.tr Z1g (eRingNodeS rr.ring.nodes) v1g), .sv (.tr Z2g (eSeriesSS rr.data) v2g)])]⟩) (le_sub ⟨rfl, rfl, rfl, rfl, rfl, rfl, trivial⟩ ⟨rfl, trivial⟩) ?_
  refine ok_seq fun K16 h16 => ?_
  refine ok_region rfl (q_ldbs ag34 rfl rfl sz34 rfl rfl (q_mv _ rfl (q_mark2 6 (k := ((1 : Nat) : Int)) (f14_m rr (nCluster_of hS) 1 (by decide) hCT) cl14 (gc_Cluster rr dg) rfl rfl (fun b hb => .inl (hz_g b hb)) rfl (fun k' s'' h => by obtain ⟨_, x', rfl, _⟩ := h; exact ⟨.int .i64 x'.ring.copies, eRingNodeS x'.ring.nodes, eSeriesSS x'.data, rfl⟩) [(8, .sv (int 1)), (7, .sv (int ((1 + cmCluster a0 : Nat) : Int))), (6, .ptr 6 0), (4, .av (fun b => Zn b (.agg [int a0.ring.copies, .tr Z1x (eRingNodeS a0.ring.nodes) v1x, .tr Z2x (eSeriesSS a0.data) v2x]) ∨ Zn b (.agg [int rr.ring.copies, .tr Z1g (eRingNodeS rr.ring.nodes) v1g, .tr Z2g (eSeriesSS rr.data) v2g])) (.ptr (eCluster rr))), (1, .av (fun b => Zn b (.agg [int a0.ring.copies, .tr Z1x (eRingNodeS a0.ring.nodes) v1x, .tr Z2x (eSeriesSS a0.data) v2x]) ∨ Zn b (.agg [int rr.ring.copies, .tr Z1g (eRingNodeS rr.ring.nodes) v1g, .tr Z2g (eSeriesSS rr.data) v2g])) (.ptr (eCluster a0))), (2, .sv (bool false))] [(6, .box [.sv (int rr.ring.copies), .dead, .dead])] rfl ⟨⟨_, rfl, .raw⟩, ⟨_, rfl, .raw⟩, ⟨_, rfl, .ptr⟩, ⟨_, rfl, .av (fun b hb => .inr hb)⟩, ⟨_, rfl, .av (fun b hb => .inr hb)⟩, ⟨_, rfl, .raw⟩, trivial⟩ ⟨⟨_, rfl, .box ⟨.raw, .dead, .dead, trivial⟩⟩, trivial⟩ (fun k' s1' s2' Z1m Z2m dm im1 im2 hR => ?_))))
  obtain ⟨rfl, ⟨⟨lc, ln⟩, ld⟩, hlg, hhg, hcg, hmg⟩ := hR
  have hlg : SV.agg [int rr.ring.copies, s1', s2'] = .agg [int lc, eRingNodeS ln, eSeriesSS ld] := hlg
  simp only [SV.agg.injEq, List.cons.injEq, SV.raw.injEq, Value.int.injEq, true_and, and_true] at hlg
  obtain ⟨rfl, rfl, rfl⟩ := hlg
  refine q_as _ rfl (run_nil (h16 _ ?_)); clear h16 K16
  refine ok_le (σ' := ⟨[(8, .sv (int ((1 + cmCluster rr : Nat) : Int))), (7, .sv (int ((1 + cmCluster a0 : Nat) : Int))), (6, .ptr 6 0), (4, .av (fun b => Zn b (.agg [int a0.ring.copies, .tr Z1x (eRingNodeS a0.ring.nodes) v1x, .tr Z2x (eSeriesSS a0.data) v2x]) ∨ Zn b (.agg [int rr.ring.copies, .tr Z1g (eRingNodeS rr.ring.nodes) v1g, .tr Z2g (eSeriesSS rr.data) v2g])) (.ptr (eCluster rr))), (1, .av (fun b => Zn b (.agg [int a0.ring.copies, .tr Z1x (eRingNodeS a0.ring.nodes) v1x, .tr Z2x (eSeriesSS a0.data) v2x]) ∨ Zn b (.agg [int rr.ring.copies, .tr Z1g (eRingNodeS rr.ring.nodes) v1g, .tr Z2g (eSeriesSS rr.data) v2g])) (.ptr (eCluster a0))), (2, .sv (bool false))], [(6, .box [.sv (int rr.ring.copies), .sv (.tr Z1m (eRingNodeS ln) v1g), .sv (.tr Z2m (eSeriesSS ld) v2g)])]⟩) (le_sub ⟨rfl, rfl, rfl, rfl, rfl, rfl, trivial⟩ ⟨rfl, trivial⟩) ?_
  have hh1 : PFn Tryz.prog 15 [eCluster ⟨⟨rr.ring.copies, ln⟩, ld⟩, int ((1 : Nat) : Int)] (int ((1 + cmCluster rr : Nat) : Int)) := by have h9 := f15_h ⟨⟨rr.ring.copies, ln⟩, ld⟩ hmg 1 (by decide) (by rw [hcg]; exact hCT) hhg; rw [hcg] at h9; exact h9
  refine ok_seq fun K17 h17 => ?_
  refine ok_region rfl (q_as _ rfl (run_nil (h17 _ ?_)))
  clear h17 K17
  refine ok_seq fun K18 h18 => ?_
  refine ok_region rfl (q_ldbs ag34 rfl rfl sz34 rfl rfl (q_mv _ rfl (q_callp hh1 cl15 ⟨.inr (.inl ⟨_, rfl, gc_Cluster ⟨⟨rr.ring.copies, ln⟩, ld⟩ dm⟩), .inl rfl, trivial⟩ (q_as _ rfl (run_nil (h18 _ ?_))))))
  clear h18 K18
  refine ok_le (σ' := ⟨[(9, .sv (int ((1 + cmCluster rr : Nat) : Int))), (8, .sv (int ((1 + cmCluster rr : Nat) : Int))), (7, .sv (int ((1 + cmCluster a0 : Nat) : Int))), (6, .ptr 6 0), (4, .av (fun b => Zn b (.agg [int a0.ring.copies, .tr Z1x (eRingNodeS a0.ring.nodes) v1x, .tr Z2x (eSeriesSS a0.data) v2x]) ∨ Zn b (.agg [int rr.ring.copies, .tr Z1g (eRingNodeS rr.ring.nodes) v1g, .tr Z2g (eSeriesSS rr.data) v2g])) (.ptr (eCluster rr))), (1, .av (fun b => Zn b (.agg [int a0.ring.copies, .tr Z1x (eRingNodeS a0.ring.nodes) v1x, .tr Z2x (eSeriesSS a0.data) v2x]) ∨ Zn b (.agg [int rr.ring.copies, .tr Z1g (eRingNodeS rr.ring.nodes) v1g, .tr Z2g (eSeriesSS rr.data) v2g])) (.ptr (eCluster a0))), (2, .sv (bool false))], [(6, .box [.sv (int rr.ring.copies), .sv (.tr Z1m (eRingNodeS ln) v1g), .sv (.tr Z2m (eSeriesSS ld) v2g)])]⟩) (le_sub ⟨rfl, rfl, rfl, rfl, rfl, rfl, rfl, trivial⟩ ⟨rfl, trivial⟩) ?_
  refine ok_seq fun K19 h19 => ?_
  refine ok_seq fun K20 h20 => ?_
  refine ok_region rfl (q_mv _ rfl (q_bin _ _ _ rfl rfl rfl (run_nil (h20 _ ?_))))
  clear h20 K20
  refine ok_cond rfl (fun c21 => ?_) (fun c21 => ?_)
  · first | (exfalso; simp at c21; done) | (exfalso; have hcc := of_decide_eq_true c21; omega) | (exfalso; simp at c21; omega)
  refine ok_skip (h19 _ ?_)
  refine ok_seq fun K22 h22 => ?_
  refine ok_seq fun K23 h23 => ?_
  refine ok_region rfl (q_mv _ rfl (q_mv _ rfl (q_bin _ _ _ rfl rfl rfl (run_nil (h23 _ ?_)))))
  clear h23 K23
  refine ok_cond rfl (fun c24 => ?_) (fun c24 => ?_)
  · first | (exfalso; simp at c24; done) | (exfalso; have hcc := of_decide_eq_true c24; omega) | (exfalso; simp at c24; omega)
  refine ok_skip (h22 _ ?_)
  refine ok_le (σ' := ⟨[(8, .sv (int ((1 + cmCluster rr : Nat) : Int))), (7, .sv (int ((1 + cmCluster a0 : Nat) : Int))), (6, .ptr 6 0), (4, .av (fun b => Zn b (.agg [int a0.ring.copies, .tr Z1x (eRingNodeS a0.ring.nodes) v1x, .tr Z2x (eSeriesSS a0.data) v2x]) ∨ Zn b (.agg [int rr.ring.copies, .tr Z1g (eRingNodeS rr.ring.nodes) v1g, .tr Z2g (eSeriesSS rr.data) v2g])) (.ptr (eCluster rr))), (1, .av (fun b => Zn b (.agg [int a0.ring.copies, .tr Z1x (eRingNodeS a0.ring.nodes) v1x, .tr Z2x (eSeriesSS a0.data) v2x]) ∨ Zn b (.agg [int rr.ring.copies, .tr Z1g (eRingNodeS rr.ring.nodes) v1g, .tr Z2g (eSeriesSS rr.data) v2g])) (.ptr (eCluster a0))), (2, .sv (bool false))], [(6, .box [.sv (int rr.ring.copies), .sv (.tr Z1m (eRingNodeS ln) v1g), .sv (.tr Z2m (eSeriesSS ld) v2g)])]⟩) (le_sub ⟨rfl, rfl, rfl, rfl, rfl, rfl, trivial⟩ ⟨rfl, trivial⟩) ?_
  refine ok_seq fun K25 h25 => ?_
  refine ok_region rfl (q_ldsa _ ag27 rfl sz27 (q_call (f11_ok a0 hs0) cl11 rfl rfl (q_callg [] c12 cl12 ⟨.inl rfl, trivial⟩ (fun r_h hr_h hz_h ha_h => ?_))))
  obtain ⟨Z1h, v1h, Z2h, v2h, rfl, dh⟩ := gi_Cluster (x := rr) hr_h
  refine q_alloc _ ze34 rfl rfl rfl rfl (q_sts _ rfl rfl rfl sz34 (Nat.le_of_ble_eq_true rfl) rfl (run_nil (h25 _ ?_)))
  refine ok_le (σ' := ⟨[(10, .ptr 10 0), (8, .sv (int ((1 + cmCluster rr : Nat) : Int))), (7, .sv (int ((1 + cmCluster a0 : Nat) : Int))), (6, .ptr 6 0), (4, .av (fun b => Zn b (.agg [int a0.ring.copies, .tr Z1x (eRingNodeS a0.ring.nodes) v1x, .tr Z2x (eSeriesSS a0.data) v2x]) ∨ Zn b (.agg [int rr.ring.copies, .tr Z1g (eRingNodeS rr.ring.nodes) v1g, .tr Z2g (eSeriesSS rr.data) v2g])) (.ptr (eCluster rr))), (1, .av (fun b => Zn b (.agg [int a0.ring.copies, .tr Z1x (eRingNodeS a0.ring.nodes) v1x, .tr Z2x (eSeriesSS a0.data) v2x]) ∨ Zn b (.agg [int rr.ring.copies, .tr Z1g (eRingNodeS rr.ring.nodes) v1g, .tr Z2g (eSeriesSS rr.data) v2g])) (.ptr (eCluster a0))), (2, .sv (bool false))], [(10, .box [.sv (int rr.ring.copies), .sv (.tr Z1h (eRingNodeS rr.ring.nodes) v1h), .sv (.tr Z2h (eSeriesSS rr.data) v2h)]), (6, .box [.sv (int rr.ring.copies), .sv (.tr Z1m (eRingNodeS ln) v1g), .sv (.tr Z2m (eSeriesSS ld) v2g)])]⟩) (le_sub ⟨rfl, rfl, rfl, rfl, rfl, rfl, rfl, trivial⟩ ⟨rfl, rfl, trivial⟩) ?_
  clear h25 K25
  refine ok_seq fun K26 h26 => ?_
  refine ok_seq fun K27 h27 => ?_
  refine ok_region rfl (q_ldbs ag34 rfl rfl sz34 rfl rfl (q_ldsa _ ag34 rfl sz34 (q_callp (f13_ok rr hS) cl13 ⟨.inr (.inl ⟨_, rfl, gc_Cluster rr dh⟩), .inl rfl, trivial⟩ (q_un _ _ rfl rfl (run_nil (h27 _ ?_))))))
  clear h27 K27
  refine ok_cond rfl (fun c28 => ?_) (fun c28 => ?_)
  · first | (exfalso; simp at c28; done) | (exfalso; have hcc := of_decide_eq_true c28; omega) | (exfalso; simp at c28; omega)
  refine ok_skip (h26 _ ?_)
  refine ok_le (σ' := ⟨[(8, .sv (int ((1 + cmCluster rr : Nat) : Int))), (7, .sv (int ((1 + cmCluster a0 : Nat) : Int))), (6, .ptr 6 0), (4, .av (fun b => Zn b (.agg [int a0.ring.copies, .tr Z1x (eRingNodeS a0.ring.nodes) v1x, .tr Z2x (eSeriesSS a0.data) v2x]) ∨ Zn b (.agg [int rr.ring.copies, .tr Z1g (eRingNodeS rr.ring.nodes) v1g, .tr Z2g (eSeriesSS rr.data) v2g])) (.ptr (eCluster rr))), (1, .av (fun b => Zn b (.agg [int a0.ring.copies, .tr Z1x (eRingNodeS a0.ring.nodes) v1x, .tr Z2x (eSeriesSS a0.data) v2x]) ∨ Zn b (.agg [int rr.ring.copies, .tr Z1g (eRingNodeS rr.ring.nodes) v1g, .tr Z2g (eSeriesSS rr.data) v2g])) (.ptr (eCluster a0))), (2, .sv (bool false))], [(6, .box [.sv (int rr.ring.copies), .sv (.tr Z1m (eRingNodeS ln) v1g), .sv (.tr Z2m (eSeriesSS ld) v2g)])]⟩) (le_sub ⟨rfl, rfl, rfl, rfl, rfl, rfl, trivial⟩ ⟨rfl, trivial⟩) ?_
  refine ok_seq fun K29 h29 => ?_
  refine ok_region rfl (q_as _ rfl (run_nil (h29 _ ?_)))
  clear h29 K29
  refine ok_seq fun K30 h30 => ?_
  refine ok_region rfl (q_ldbs ag34 rfl rfl sz34 rfl rfl (q_mv _ rfl (q_callp hh1 cl15 ⟨.inr (.inl ⟨_, rfl, gc_Cluster ⟨⟨rr.ring.copies, ln⟩, ld⟩ dm⟩), .inl rfl, trivial⟩ (q_as _ rfl (run_nil (h30 _ ?_))))))
  clear h30 K30
  refine ok_le (σ' := ⟨[(9, .sv (int ((1 + cmCluster rr : Nat) : Int))), (8, .sv (int ((1 + cmCluster rr : Nat) : Int))), (7, .sv (int ((1 + cmCluster a0 : Nat) : Int))), (6, .ptr 6 0), (4, .av (fun b => Zn b (.agg [int a0.ring.copies, .tr Z1x (eRingNodeS a0.ring.nodes) v1x, .tr Z2x (eSeriesSS a0.data) v2x]) ∨ Zn b (.agg [int rr.ring.copies, .tr Z1g (eRingNodeS rr.ring.nodes) v1g, .tr Z2g (eSeriesSS rr.data) v2g])) (.ptr (eCluster rr))), (1, .av (fun b => Zn b (.agg [int a0.ring.copies, .tr Z1x (eRingNodeS a0.ring.nodes) v1x, .tr Z2x (eSeriesSS a0.data) v2x]) ∨ Zn b (.agg [int rr.ring.copies, .tr Z1g (eRingNodeS rr.ring.nodes) v1g, .tr Z2g (eSeriesSS rr.data) v2g])) (.ptr (eCluster a0))), (2, .sv (bool false))], [(6, .box [.sv (int rr.ring.copies), .sv (.tr Z1m (eRingNodeS ln) v1g), .sv (.tr Z2m (eSeriesSS ld) v2g)])]⟩) (le_sub ⟨rfl, rfl, rfl, rfl, rfl, rfl, rfl, trivial⟩ ⟨rfl, trivial⟩) ?_
  refine ok_seq fun K31 h31 => ?_
  refine ok_seq fun K32 h32 => ?_
  refine ok_region rfl (q_mv _ rfl (q_bin _ _ _ rfl rfl rfl (run_nil (h32 _ ?_))))
  clear h32 K32
  refine ok_cond rfl (fun c33 => ?_) (fun c33 => ?_)
  · first | (exfalso; simp at c33; done) | (exfalso; have hcc := of_decide_eq_true c33; omega) | (exfalso; simp at c33; omega)
  refine ok_skip (h31 _ ?_)
  refine ok_seq fun K34 h34 => ?_
  refine ok_seq fun K35 h35 => ?_
  refine ok_region rfl (q_mv _ rfl (q_mv _ rfl (q_bin _ _ _ rfl rfl rfl (run_nil (h35 _ ?_)))))
  clear h35 K35
  refine ok_cond rfl (fun c36 => ?_) (fun c36 => ?_)
  · first | (exfalso; simp at c36; done) | (exfalso; have hcc := of_decide_eq_true c36; omega) | (exfalso; simp at c36; omega)
  refine ok_skip (h34 _ ?_)
  refine ok_seq fun K1 h1 => ok_region rfl (q_as _ rfl (run_nil (h1 _ ?_)))
  exact ok_ret ⟨_, rfl, rfl⟩
end Go.Ring
