/- Clusters copied, marked and held (a struct in a struct: by hand). No condition. -/
import Derived.Test.YtanilephcohjkaaGreatU1
import Derived.Test.YtanilephcohjkaaGreatEg3
set_option maxRecDepth 100000
set_option linter.unusedVariables false
set_option linter.unusedSimpArgs false
namespace Go.Ring
open Go Go.RowKit Go.Eager Go.Abs Go.Proofs
theorem gi_Cluster {x : Cluster} {r : SV} (h : Gd r (eCluster x)) : ∃ (Z1 : Nat → Prop) (v1 : Value) (Z2 : Nat → Prop) (v2 : Value), r = .agg [int x.ring.copies, .tr Z1 (eRingNodeS x.ring.nodes) v1, .tr Z2 (eSeriesSS x.data) v2] ∧ (∀ b, Z1 b → ¬ Z2 b) := by
  obtain ⟨rs, rfl, g, a⟩ := gd_agg_inv h
  obtain ⟨r0, q0, rfl, g0, g⟩ := g.inv_cons
  obtain ⟨r1, q1, rfl, g1, g⟩ := g.inv_cons
  obtain ⟨r2, q2, rfl, g2, g⟩ := g.inv_cons
  obtain rfl := g.inv_nil
  obtain rfl := gd_raw_inv g0
  obtain ⟨Z1, v1, rfl⟩ := gd_sl_inv g1
  obtain ⟨Z2, v2, rfl⟩ := gd_sl_inv g2
  exact ⟨Z1, v1, Z2, v2, rfl, fun b h1 h2 => absurd (a.sep (i := 1) (j := 2) rfl rfl (.tr _ _ _ h1) (.tr _ _ _ h2)) (by decide)⟩
theorem gc_Cluster (x : Cluster) {Z1 : Nat → Prop} {v1 : Value} {Z2 : Nat → Prop} {v2 : Value} (d1_2 : ∀ b, Z1 b → ¬ Z2 b) : Gd (.agg [int x.ring.copies, .tr Z1 (eRingNodeS x.ring.nodes) v1, .tr Z2 (eSeriesSS x.data) v2]) (eCluster x) := gd_agg ⟨.raw _, .tr _ _ _ _, .tr _ _ _ _, trivial⟩ (AL_raw (AL_tr (fun b hb hb' => by simp only [znA_cons, znI_raw, znI_tr, znA_nil, or_false, false_or] at hb'; exact d1_2 b hb hb') (AL_tr (fun b hb hb' => by simp only [znA_cons, znI_raw, znI_tr, znA_nil, or_false, false_or] at hb') trivial)))
def NCluster (x : Cluster) : Prop := NRing x.ring ∧ (x.data.length ≤ 1048576 ∧ ∀ y ∈ x.data, y.length ≤ 1048576 ∧ ∀ z ∈ y, NSeries z)
theorem nCluster_of {x : Cluster} (h : SCluster x) : NCluster x := ⟨nRing_of h.1, h.2.1, fun y hy => ⟨(h.2.2 y hy).1, fun z hz => nSeries_of ((h.2.2 y hy).2 z hz)⟩⟩
theorem f11_t (x : Cluster) (hx : SCluster x) : PFnT Tryz.prog 11 [eCluster x] (eCluster x) := by
  refine fnp_ok (n := 13) Tryz.func11 rfl rfl rfl (Nat.le_of_ble_eq_true rfl) rfl fun w0 O => ?_
  refine ok_seq fun K1 h1 => ok_region rfl (q_boxs _ rfl (Nat.zero_lt_succ _) (q_alloc _ ze34 rfl rfl rfl rfl (run_nil (h1 _ ?_)))); clear h1 K1
  refine ok_seq fun K2 h2 => ok_region rfl (q_alloc _ ze34 rfl rfl rfl rfl (run_nil (h2 _ ?_))); clear h2 K2
  refine ok_seq fun K3 h3 => ok_region rfl (q_fas fd27_0 rfl (by decide) (Nat.le_of_ble_eq_true rfl) rfl (q_lds _ ag24 rfl sz24 (q_callr (f54_t x.ring hx.1) cl54 rfl (fun r0 hr0 hz0 ha0 => ?_))))
  obtain ⟨Z1, v1, rfl⟩ := gi_Ring hr0
  refine q_fap fd34_0 rfl (by decide) (q_sts _ rfl rfl rfl sz31 (Nat.le_of_ble_eq_true rfl) rfl (run_nil (h3 _ ?_)))
  clear h3 K3
  refine ok_seq fun K4 h4 => ok_region rfl (q_fa _ fd27_1 rfl rfl (by decide) (q_ld _ ag25 rfl rfl (q_callr (f55_t x.data hx.2) cl55 rfl (fun r1 hr1 hz1 ha1 => ?_))))
  obtain ⟨Z2, v2, rfl⟩ := gd_sl_inv hr1
  have d12 : ∀ b, Z1 b → ¬ Z2 b := fun b h1 h2 => ha1.1 6 _ b rfl (.agg _ (.tr Z1 (eRingNodeS x.ring.nodes) v1) (by simp) (.tr Z1 _ v1 h1)) (.tr Z2 _ v2 h2)
  refine q_fap fd34_1 rfl (by decide) (q_st _ sz32 rfl rfl (Nat.le_of_ble_eq_true rfl) rfl ⟨_, rfl, rfl⟩ rfl (run_nil (h4 _ ?_)))
  clear h4 K4
  refine ok_seq fun K5 h5 => ok_region rfl (q_ldbs ag34 rfl rfl sz34 rfl rfl (q_sts _ rfl rfl rfl sz34 (Nat.le_of_ble_eq_true rfl) rfl (run_nil (h5 _ ?_)))); clear h5 K5
  refine ok_ret ⟨[.agg [int x.ring.copies, .tr Z1 (eRingNodeS x.ring.nodes) v1, .tr Z2 (eSeriesSS x.data) v2]], ⟨_, _, res_cells (l := [int x.ring.copies, .tr Z1 (eRingNodeS x.ring.nodes) v1, .tr Z2 (eSeriesSS x.data) v2]) rfl rfl ag34 sz34 rfl, rfl, rfl⟩, gc_Cluster x d12, fun b hb => ?_⟩
  have hb : Zn b (.agg [int x.ring.copies, .tr Z1 (eRingNodeS x.ring.nodes) v1, .tr Z2 (eSeriesSS x.data) v2]) := hb
  simp only [znA_cons, znI_raw, znI_tr, znA_nil, or_false, false_or] at hb
  rcases hb with hb | hb
  · exact hz0 b (.agg _ (.tr Z1 (eRingNodeS x.ring.nodes) v1) (by simp) (.tr Z1 _ v1 hb))
  · exact hz1 b (.tr Z2 _ v2 hb)
def cmCluster (x : Cluster) : Nat := cmRing x.ring + cL (cL cSeries) x.data
def hmCluster (x : Cluster) (k : Nat) : Prop := hmRing x.ring k ∧ HL (cL cSeries) (HL cSeries hSeries) x.data (k + cmRing x.ring)
theorem f14_m (x : Cluster) (hs : NCluster x) (k : Nat) (h0 : 1 ≤ k) (hk : k + cmCluster x ≤ 1152921504606846976) : MarkC Tryz.prog 14 (eCluster x) k (fun k' s' => k' = ((k + cmCluster x : Nat) : Int) ∧ ∃ x', s' = eCluster x' ∧ hmCluster x' k ∧ cmCluster x' = cmCluster x ∧ NCluster x') := by
  have hcx : cmCluster x = cmRing x.ring + cL (cL cSeries) x.data := rfl
  obtain ⟨hn1, hn2⟩ := hs
  refine fns_ok (t := 4) (bx := 2) Tryz.func14 rfl rfl rfl (by decide) (fun w0 Z rs hG hA hZ => ?_)
  obtain ⟨Z1, v1, Z2, v2, hrs, d12⟩ := gi_Cluster (x := x) (gd_agg hG hA)
  injection hrs with hrs
  subst hrs
  refine ⟨rfl, ?_⟩
  refine ok_seq fun K1 h1 => ok_region rfl (q_boxo (cells := [.sv (int x.ring.copies), .sv (.tr Z1 (eRingNodeS x.ring.nodes) v1), .sv (.tr Z2 (eSeriesSS x.data) v2)]) _ rfl (.inl ⟨_, rfl⟩) rfl rfl rfl (q_as _ rfl (run_nil (h1 _ ?_)))); clear h1 K1
  refine ok_seq fun K2 h2 => ok_region rfl (q_fap fd34_0 rfl (by decide) (q_ldbs (r := [int x.ring.copies, .tr Z1 (eRingNodeS x.ring.nodes) v1]) ag31 rfl rfl sz31 rfl rfl (q_mv _ rfl (q_mark1 [.int .i64 x.ring.copies] [] (k := ((k : Nat) : Int)) (f61_m x.ring hn1 k h0 (by omega)) cl61 rfl rfl (fun b hb => .inr (hZ b (.agg _ (.tr Z1 (eRingNodeS x.ring.nodes) v1) (by simp) (.tr Z1 (eRingNodeS x.ring.nodes) v1 hb))))
    (fun k' s'' h => by obtain ⟨_, x', rfl, _⟩ := h; exact ⟨[.int .i64 x'.copies], eRingNodeS x'.nodes, [], rfl, rfl, rfl⟩)
    (fun _ => mkDT _) (fun s' => [(2, .box [.sv (int x.ring.copies), .sv (.tr Z1 s' v1), .sv (.tr Z2 (eSeriesSS x.data) v2)])]) (fun s' => mkDT_ok _) (fun s' => ⟨rfl, mk_box ⟨.sv (.raw _), .sv .same, .sv (.other _ _ _ (fun b h1 h2 => d12 b h2 h1)), trivial⟩, trivial⟩) (fun k' s' hR => ?_)))))
  obtain ⟨rfl, ⟨lc, ln⟩, hlg, hh1, hc1, hm1⟩ := hR
  have hlg : SV.agg [int x.ring.copies, s'] = .agg [int lc, eRingNodeS ln] := hlg
  simp only [SV.agg.injEq, List.cons.injEq, SV.raw.injEq, Value.int.injEq, true_and, and_true] at hlg
  obtain ⟨rfl, rfl⟩ := hlg
  refine q_as _ rfl (run_nil (h2 _ ?_))
  clear h2 K2
  refine ok_seq fun K3 h3 => ok_region rfl (q_fap fd34_1 rfl (by decide) (q_ldb _ ag32 rfl rfl rfl (q_mv _ rfl (q_mark (k := ((k + cmRing x.ring : Nat) : Int)) (f62_m x.data hn2 (k + cmRing x.ring) (by omega) (by omega)) cl62 rfl rfl (fun b hb => .inr (hZ b (.agg _ (.tr Z2 (eSeriesSS x.data) v2) (by simp) (.tr Z2 (eSeriesSS x.data) v2 hb)))) (fun _ => mkDT _) (fun s' => [(2, .box [.sv (int x.ring.copies), .sv (.tr Z1 (eRingNodeS ln) v1), .sv (.tr Z2 s' v2)])]) (fun s' => mkDT_ok _) (fun s' => ⟨rfl, mk_box ⟨.sv (.raw _), .sv (.other _ _ _ (fun b h1 h2 => d12 b h1 h2)), .sv .same, trivial⟩, trivial⟩) (fun k' s' hR => ?_)))))
  obtain ⟨rfl, w2, rfl, hh2, hc2, hm2⟩ := hR
  refine q_as _ rfl (run_nil (h3 _ ?_))
  clear h3 K3
  refine ok_seq fun K4 h4 => ok_region rfl (q_mv _ rfl (q_as _ rfl (run_nil (h4 _ ?_)))); clear h4 K4
  exact ok_ret ⟨_, [int x.ring.copies, .tr Z1 (eRingNodeS ln) v1, .tr Z2 (eSeriesSS w2) v2], [int x.ring.copies, eRingNodeS ln, eSeriesSS w2], rfl, rfl, rfl, rfl, ⟨.raw _, .tr _ _ _ _, .tr _ _ _ _, trivial⟩, (AL_raw (AL_tr (fun b hb hb' => by simp only [znA_cons, znI_raw, znI_tr, znA_nil, or_false, false_or] at hb'; exact d12 b hb hb') (AL_tr (fun b hb hb' => by simp only [znA_cons, znI_raw, znI_tr, znA_nil, or_false, false_or] at hb') trivial))), (fun b hb => by simp only [znA_cons, znI_raw, znI_tr, znA_nil, or_false, false_or] at hb; exact hZ b (by simp only [znA_cons, znI_raw, znI_tr, znA_nil, or_false, false_or]; exact hb)), by rw [hcx, Nat.add_assoc], (⟨⟨x.ring.copies, ln⟩, w2⟩ : Cluster), rfl, ⟨hh1, by rw [show cmRing (⟨x.ring.copies, ln⟩ : Ring) = cmRing x.ring from hc1]; exact hh2⟩, by show cmRing (⟨x.ring.copies, ln⟩ : Ring) + cL (cL cSeries) w2 = _; rw [hcx, hc1, hc2], hm1, hm2⟩
theorem kcm_Cluster (x : Cluster) : KC (cmCluster x) (zCluster x) 16 := by
  have h := kc_stp (show KC (cmRing x.ring) (zRing x.ring) 0 from kc_RingNodeS x.ring.nodes) (kc_SeriesSS x.data)
  have e : cmCluster x = cmRing x.ring + cL (cL cSeries) x.data := rfl
  exact h.mono (by rw [e]; omega)
end Go.Ring
