/- Parts of the proof, laid together: W1 G1 G2 G3 G4 G6. No condition. -/
import Derived.Test.YtanilephcohjkaaGreatU1
import Derived.Test.YtanilephcohjkaaGreatEg3
import Derived.Test.YtanilephcohjkaaGreatFam
/- Clusters copied, marked and held (a struct in a struct: by hand). No condition. -/
set_option maxRecDepth 100000
set_option linter.unusedVariables false
set_option linter.unusedSimpArgs false
namespace Go.Ring
open Go Go.RowKit Go.Eager Go.Abs Go.Proofs
theorem gi_Cluster {x : Cluster} {r : SV} (h : Gd r (eCluster x)) : ∃ (Z1 : Nat → Prop) (v1 : Value) (Z2 : Nat → Prop) (v2 : Value), r = .agg [int x.ring.copies, .tr Z1 (eRingNodeS x.ring.nodes) v1, .tr Z2 (eSeriesSS x.data) v2] ∧ (∀ b, Z1 b → ¬ Z2 b) := by
  obtain ⟨rs, rfl, g, a⟩ := gd_agg_inv h
  obtain ⟨r0, q0, rfl, g0, g⟩ := g.inv_cons
  obtain ⟨r1, q1, rfl, g1, g⟩ := g.inv_cons
  obtain ⟨r2, q2, rfl, g2, g⟩ := g.inv_cons
  obtain rfl := g.inv_nil
  obtain rfl := gd_raw_inv g0
  obtain ⟨Z1, v1, rfl⟩ := gd_sl_inv g1
  obtain ⟨Z2, v2, rfl⟩ := gd_sl_inv g2
  exact ⟨Z1, v1, Z2, v2, rfl, fun b h1 h2 => absurd (a.sep (i := 1) (j := 2) rfl rfl (.tr _ _ _ h1) (.tr _ _ _ h2)) (by decide)⟩
theorem gc_Cluster (x : Cluster) {Z1 : Nat → Prop} {v1 : Value} {Z2 : Nat → Prop} {v2 : Value} (d1_2 : ∀ b, Z1 b → ¬ Z2 b) : Gd (.agg [int x.ring.copies, .tr Z1 (eRingNodeS x.ring.nodes) v1, .tr Z2 (eSeriesSS x.data) v2]) (eCluster x) := gd_agg ⟨.raw _, .tr _ _ _ _, .tr _ _ _ _, trivial⟩ (AL_raw (AL_tr (fun b hb hb' => by simp only [znA_cons, znI_raw, znI_tr, znA_nil, or_false, false_or] at hb'; exact d1_2 b hb hb') (AL_tr (fun b hb hb' => by simp only [znA_cons, znI_raw, znI_tr, znA_nil, or_false, false_or] at hb') trivial)))
def NCluster (x : Cluster) : Prop := NRing x.ring ∧ (x.data.length ≤ 1048576 ∧ ∀ y ∈ x.data, y.length ≤ 1048576 ∧ ∀ z ∈ y, NSeries z)
theorem nCluster_of {x : Cluster} (h : SCluster x) : NCluster x := ⟨nRing_of h.1, h.2.1, fun y hy => ⟨(h.2.2 y hy).1, fun z hz => nSeries_of ((h.2.2 y hy).2 z hz)⟩⟩
theorem f11_t (x : Cluster) (hx : SCluster x) : PFnT Tryz.prog 11 [eCluster x] (eCluster x) := by
  refine fnp_ok (n := 13) Tryz.func11 rfl rfl rfl (Nat.le_of_ble_eq_true rfl) rfl fun w0 O => ?_
  refine ok_seq fun K1 h1 => ok_region rfl (q_boxs _ rfl (Nat.zero_lt_succ _) (q_alloc _ ze34 rfl rfl rfl rfl (run_nil (h1 _ ?_)))); clear h1 K1
  refine ok_seq fun K2 h2 => ok_region rfl (q_alloc _ ze34 rfl rfl rfl rfl (run_nil (h2 _ ?_))); clear h2 K2
  refine ok_seq fun K3 h3 => ok_region rfl (q_fas fd27_0 rfl (by decide) (Nat.le_of_ble_eq_true rfl) rfl (q_lds _ ag24 rfl sz24 (q_callr (f54_t x.ring hx.1) cl54 rfl (fun r0 hr0 hz0 ha0 => ?_))))
  obtain ⟨Z1, v1, rfl⟩ := gi_Ring hr0
  refine q_fap fd34_0 rfl (by decide) (q_sts _ rfl rfl rfl sz31 (Nat.le_of_ble_eq_true rfl) rfl (run_nil (h3 _ ?_)))
  clear h3 K3
  refine ok_seq fun K4 h4 => ok_region rfl (q_fa _ fd27_1 rfl rfl (by decide) (q_ld _ ag25 rfl rfl (q_callr (f55_t x.data hx.2) cl55 rfl (fun r1 hr1 hz1 ha1 => ?_))))
  obtain ⟨Z2, v2, rfl⟩ := gd_sl_inv hr1
  have d12 : ∀ b, Z1 b → ¬ Z2 b := fun b h1 h2 => ha1.1 6 _ b rfl (.agg _ (.tr Z1 (eRingNodeS x.ring.nodes) v1) (by simp) (.tr Z1 _ v1 h1)) (.tr Z2 _ v2 h2)
  refine q_fap fd34_1 rfl (by decide) (q_st _ sz32 rfl rfl (Nat.le_of_ble_eq_true rfl) rfl ⟨_, rfl, rfl⟩ rfl (run_nil (h4 _ ?_)))
  clear h4 K4
  refine ok_seq fun K5 h5 => ok_region rfl (q_ldbs ag34 rfl rfl sz34 rfl rfl (q_sts _ rfl rfl rfl sz34 (Nat.le_of_ble_eq_true rfl) rfl (run_nil (h5 _ ?_)))); clear h5 K5
  refine ok_ret ⟨[.agg [int x.ring.copies, .tr Z1 (eRingNodeS x.ring.nodes) v1, .tr Z2 (eSeriesSS x.data) v2]], ⟨_, _, res_cells (l := [int x.ring.copies, .tr Z1 (eRingNodeS x.ring.nodes) v1, .tr Z2 (eSeriesSS x.data) v2]) rfl rfl ag34 sz34 rfl, rfl, rfl⟩, gc_Cluster x d12, fun b hb => ?_⟩
  have hb : Zn b (.agg [int x.ring.copies, .tr Z1 (eRingNodeS x.ring.nodes) v1, .tr Z2 (eSeriesSS x.data) v2]) := hb
  simp only [znA_cons, znI_raw, znI_tr, znA_nil, or_false, false_or] at hb
  rcases hb with hb | hb
  · exact hz0 b (.agg _ (.tr Z1 (eRingNodeS x.ring.nodes) v1) (by simp) (.tr Z1 _ v1 hb))
  · exact hz1 b (.tr Z2 _ v2 hb)
def cmCluster (x : Cluster) : Nat := cmRing x.ring + cL (cL cSeries) x.data
def hmCluster (x : Cluster) (k : Nat) : Prop := hmRing x.ring k ∧ HL (cL cSeries) (HL cSeries hSeries) x.data (k + cmRing x.ring)
theorem f14_m (x : Cluster) (hs : NCluster x) (k : Nat) (h0 : 1 ≤ k) (hk : k + cmCluster x ≤ 1152921504606846976) : MarkC Tryz.prog 14 (eCluster x) k (fun k' s' => k' = ((k + cmCluster x : Nat) : Int) ∧ ∃ x', s' = eCluster x' ∧ hmCluster x' k ∧ cmCluster x' = cmCluster x ∧ NCluster x') := by
  have hcx : cmCluster x = cmRing x.ring + cL (cL cSeries) x.data := rfl
  obtain ⟨hn1, hn2⟩ := hs
  refine fns_ok (t := 4) (bx := 2) Tryz.func14 rfl rfl rfl (by decide) (fun w0 Z rs hG hA hZ => ?_)
  obtain ⟨Z1, v1, Z2, v2, hrs, d12⟩ := gi_Cluster (x := x) (gd_agg hG hA)
  injection hrs with hrs
  subst hrs
  refine ⟨rfl, ?_⟩
  refine ok_seq fun K1 h1 => ok_region rfl (q_boxo (cells := [.sv (int x.ring.copies), .sv (.tr Z1 (eRingNodeS x.ring.nodes) v1), .sv (.tr Z2 (eSeriesSS x.data) v2)]) _ rfl (.inl ⟨_, rfl⟩) rfl rfl rfl (q_as _ rfl (run_nil (h1 _ ?_)))); clear h1 K1
  refine ok_seq fun K2 h2 => ok_region rfl (q_fap fd34_0 rfl (by decide) (q_ldbs (r := [int x.ring.copies, .tr Z1 (eRingNodeS x.ring.nodes) v1]) ag31 rfl rfl sz31 rfl rfl (q_mv _ rfl (q_mark1 [.int .i64 x.ring.copies] [] (k := ((k : Nat) : Int)) (f61_m x.ring hn1 k h0 (by omega)) cl61 rfl rfl (fun b hb => .inr (hZ b (.agg _ (.tr Z1 (eRingNodeS x.ring.nodes) v1) (by simp) (.tr Z1 (eRingNodeS x.ring.nodes) v1 hb))))
    (fun k' s'' h => by obtain ⟨_, x', rfl, _⟩ := h; exact ⟨[.int .i64 x'.copies], eRingNodeS x'.nodes, [], rfl, rfl, rfl⟩)
    (fun _ => mkDT _) (fun s' => [(2, .box [.sv (int x.ring.copies), .sv (.tr Z1 s' v1), .sv (.tr Z2 (eSeriesSS x.data) v2)])]) (fun s' => mkDT_ok _) (fun s' => ⟨rfl, mk_box ⟨.sv (.raw _), .sv .same, .sv (.other _ _ _ (fun b h1 h2 => d12 b h2 h1)), trivial⟩, trivial⟩) (fun k' s' hR => ?_)))))
  obtain ⟨rfl, ⟨lc, ln⟩, hlg, hh1, hc1, hm1⟩ := hR
  have hlg : SV.agg [int x.ring.copies, s'] = .agg [int lc, eRingNodeS ln] := hlg
  simp only [SV.agg.injEq, List.cons.injEq, SV.raw.injEq, Value.int.injEq, true_and, and_true] at hlg
  obtain ⟨rfl, rfl⟩ := hlg
  refine q_as _ rfl (run_nil (h2 _ ?_))
  clear h2 K2
  refine ok_seq fun K3 h3 => ok_region rfl (q_fap fd34_1 rfl (by decide) (q_ldb _ ag32 rfl rfl rfl (q_mv _ rfl (q_mark (k := ((k + cmRing x.ring : Nat) : Int)) (f62_m x.data hn2 (k + cmRing x.ring) (by omega) (by omega)) cl62 rfl rfl (fun b hb => .inr (hZ b (.agg _ (.tr Z2 (eSeriesSS x.data) v2) (by simp) (.tr Z2 (eSeriesSS x.data) v2 hb)))) (fun _ => mkDT _) (fun s' => [(2, .box [.sv (int x.ring.copies), .sv (.tr Z1 (eRingNodeS ln) v1), .sv (.tr Z2 s' v2)])]) (fun s' => mkDT_ok _) (fun s' => ⟨rfl, mk_box ⟨.sv (.raw _), .sv (.other _ _ _ (fun b h1 h2 => d12 b h1 h2)), .sv .same, trivial⟩, trivial⟩) (fun k' s' hR => ?_)))))
  obtain ⟨rfl, w2, rfl, hh2, hc2, hm2⟩ := hR
  refine q_as _ rfl (run_nil (h3 _ ?_))
  clear h3 K3
  refine ok_seq fun K4 h4 => ok_region rfl (q_mv _ rfl (q_as _ rfl (run_nil (h4 _ ?_)))); clear h4 K4
  exact ok_ret ⟨_, [int x.ring.copies, .tr Z1 (eRingNodeS ln) v1, .tr Z2 (eSeriesSS w2) v2], [int x.ring.copies, eRingNodeS ln, eSeriesSS w2], rfl, rfl, rfl, rfl, ⟨.raw _, .tr _ _ _ _, .tr _ _ _ _, trivial⟩, (AL_raw (AL_tr (fun b hb hb' => by simp only [znA_cons, znI_raw, znI_tr, znA_nil, or_false, false_or] at hb'; exact d12 b hb hb') (AL_tr (fun b hb hb' => by simp only [znA_cons, znI_raw, znI_tr, znA_nil, or_false, false_or] at hb') trivial))), (fun b hb => by simp only [znA_cons, znI_raw, znI_tr, znA_nil, or_false, false_or] at hb; exact hZ b (by simp only [znA_cons, znI_raw, znI_tr, znA_nil, or_false, false_or]; exact hb)), by rw [hcx, Nat.add_assoc], (⟨⟨x.ring.copies, ln⟩, w2⟩ : Cluster), rfl, ⟨hh1, by rw [show cmRing (⟨x.ring.copies, ln⟩ : Ring) = cmRing x.ring from hc1]; exact hh2⟩, by show cmRing (⟨x.ring.copies, ln⟩ : Ring) + cL (cL cSeries) w2 = _; rw [hcx, hc1, hc2], hm1, hm2⟩
theorem f15_h (x : Cluster) (hs : NCluster x) (k : Nat) (h0 : 1 ≤ k) (hk : k + cmCluster x ≤ 1152921504606846976) (hh : hmCluster x k) : PFn Tryz.prog 15 [eCluster x, int k] (int ((k + cmCluster x : Nat) : Int)) := by
  have hcx : cmCluster x = cmRing x.ring + cL (cL cSeries) x.data := rfl
  obtain ⟨hn1, hn2⟩ := hs
  obtain ⟨e1, e2⟩ := hh
  refine fn_ok' (n := 18) Tryz.func15 rfl rfl rfl (Nat.le_of_ble_eq_true rfl) rfl fun w0 O => ?_
  refine ok_seq fun K1 h1 => ok_region rfl (q_boxs _ rfl (Nat.zero_lt_succ _) (q_as _ rfl (run_nil (h1 _ ?_)))); clear h1 K1
  refine ok_seq fun K2 h2 => ok_region rfl (q_fas fd34_0 rfl (by decide) (Nat.le_of_ble_eq_true rfl) rfl (q_lds _ ag31 rfl sz31 (q_mv _ rfl (q_call (f63_h x.ring hn1 k (by omega) (by omega) e1) cl63 rfl rfl (q_as _ rfl (run_nil (h2 _ ?_))))))); clear h2 K2
  refine ok_seq fun K3 h3 => ?_
  refine ok_seq fun K4 h4 => ok_region rfl (q_mv _ rfl (q_bin _ _ _ rfl rfl rfl (run_nil (h4 _ ?_)))); clear h4 K4
  refine ok_cond rfl (fun c5 => ?_) (fun c5 => ?_)
  · have := of_decide_eq_true c5; omega
  · refine ok_skip (h3 _ ?_)
    refine ok_seq fun K6 h6 => ok_region rfl (q_fa _ fd34_1 rfl rfl (by decide) (q_ld _ ag32 rfl rfl (q_mv _ rfl (q_call (f64_h x.data hn2 (k + cmRing x.ring) (by omega) (by omega) e2) cl64 rfl rfl (q_as _ rfl (run_nil (h6 _ ?_))))))); clear h6 K6
    refine ok_seq fun K7 h7 => ?_
    refine ok_seq fun K8 h8 => ok_region rfl (q_mv _ rfl (q_bin _ _ _ rfl rfl rfl (run_nil (h8 _ ?_)))); clear h8 K8
    refine ok_cond rfl (fun c9 => ?_) (fun c9 => ?_)
    · have := of_decide_eq_true c9; omega
    · refine ok_skip (h7 _ ?_)
      refine ok_seq fun K10 h10 => ok_region rfl (q_mv _ rfl (q_as _ rfl (run_nil (h10 _ ?_)))); clear h10 K10
      have hE : k + cmCluster x = k + cmRing x.ring + cL (cL cSeries) x.data := by rw [hcx] <;> omega
      exact ok_ret ⟨_, rfl, by first | (rw [hE]; done) | (rw [hE]; rfl)⟩
theorem kcm_Cluster (x : Cluster) : KC (cmCluster x) (zCluster x) 16 := by
  have h := kc_stp (show KC (cmRing x.ring) (zRing x.ring) 0 from kc_RingNodeS x.ring.nodes) (kc_SeriesSS x.data)
  have e : cmCluster x = cmRing x.ring + cL (cL cSeries) x.data := rfl
  exact h.mono (by rw [e]; omega)
end Go.Ring

namespace Go.Ring
open Go Go.RowKit Go.Eager Go.Abs Go.Proofs
set_option maxRecDepth 100000
set_option linter.unusedVariables false
set_option linter.unusedSimpArgs false


theorem bget {s : ByteArray} {i : Nat} {b : UInt8} (h : s.data.toList[i]? = some b) : s[i]? = some b := by
  have hlt := (List.getElem?_eq_some_iff.1 h).1
  have hs : i < s.size := by simpa using hlt
  rw [getElem?_pos s i hs]
  have h2 := (List.getElem?_eq_some_iff.1 h).2
  simp at h2
  rw [← h2]; rfl
theorem bget' {s : ByteArray} {i : Nat} (h : i < s.size) : s.data.toList[i]? = some (s.data.toList[i]'(by simpa using h)) := List.getElem?_eq_getElem _
theorem wu8 (b : UInt8) : IntKind.i64.wrap (b.toNat : Int) = (b.toNat : Int) := IntWalk.i64_in _ (by have := b.toNat_lt; omega)
theorem size_list (s : ByteArray) : s.data.toList.length = s.size := by simp
def letB (c : UInt8) : Bool := (decide (97 ≤ (c.toNat : Int)) && decide ((c.toNat : Int) ≤ 122)) || (decide (65 ≤ (c.toNat : Int)) && decide ((c.toNat : Int) ≤ 90))
def digB (c : UInt8) : Bool := decide (48 ≤ (c.toNat : Int)) && decide ((c.toNat : Int) ≤ 57)
def wordB (c : UInt8) : Bool := letB c || digB c || decide ((c.toNat : Int) = 95)
theorem f239_ok (c : UInt8) : PFn Tryz.prog 239 [byt c] (bool (digB c)) := by
  refine fn_ok' (n := 9) Tryz.func239 rfl rfl rfl (Nat.le_of_ble_eq_true rfl) rfl fun w0 O => ?_
  refine ok_seq fun K1 h1 => ok_region rfl (q_as _ rfl (run_nil (h1 _ ?_))); clear h1 K1
  refine ok_seq fun K2 h2 => ?_
  refine ok_region rfl (q_mv _ rfl (q_bin _ _ _ rfl rfl rfl (q_mv _ rfl (q_and 2 2 rfl rfl rfl rfl rfl (fun hb8 =>
      q_mv _ rfl (q_bin _ _ _ rfl rfl rfl (run_nil ⟨rfl, rfl, rfl, rfl⟩))) (
    q_as _ rfl (run_nil (h2 _ ?_)))))))
  exact ok_ret ⟨_, rfl, rfl⟩
theorem f263_ok (c : UInt8) : PFn Tryz.prog 263 [byt c] (bool (letB c)) := by
  refine fn_ok' (n := 17) Tryz.func263 rfl rfl rfl (Nat.le_of_ble_eq_true rfl) rfl fun w0 O => ?_
  refine ok_seq fun K1 h1 => ok_region rfl (q_as _ rfl (run_nil (h1 _ ?_))); clear h1 K1
  refine ok_seq fun K2 h2 => ?_
  refine ok_region rfl (q_mv _ rfl (q_bin _ _ _ rfl rfl rfl (q_mv _ rfl (q_and 2 2 rfl rfl rfl rfl rfl (fun hb8 =>
      q_mv _ rfl (q_bin _ _ _ rfl rfl rfl (run_nil ⟨rfl, rfl, rfl, rfl⟩))) (
    q_mv _ rfl (q_or 6 4 rfl rfl rfl rfl rfl (fun hb16 =>
      q_mv _ rfl (q_bin _ _ _ rfl rfl rfl (q_mv _ rfl (q_and 2 2 rfl rfl rfl rfl rfl (fun hb15 =>
        q_mv _ rfl (q_bin _ _ _ rfl rfl rfl (run_nil ⟨rfl, rfl, rfl, rfl⟩))) (
      run_nil ⟨rfl, rfl, rfl, rfl⟩))))) (
    q_as _ rfl (run_nil (h2 _ ?_)))))))))
  exact ok_ret ⟨_, rfl, rfl⟩

theorem f240_ok (c : UInt8) : PFn Tryz.prog 240 [byt c] (bool (wordB c)) := by
  refine fn_ok' (n := 13) Tryz.func240 rfl rfl rfl (Nat.le_of_ble_eq_true rfl) rfl fun w0 O => ?_
  refine ok_seq fun K1 h1 => ok_region rfl (q_as _ rfl (run_nil (h1 _ ?_))); clear h1 K1
  refine ok_seq fun K2 h2 => ?_
  refine ok_region rfl (q_mv _ rfl (q_call (f263_ok c) cl263 rfl rfl (q_mv _ rfl (q_or 2 2 rfl rfl rfl rfl rfl (fun hb8 =>
      q_mv _ rfl (q_call (f239_ok c) cl239 rfl rfl (run_nil ⟨rfl, rfl, rfl, rfl⟩))) (
    q_mv _ rfl (q_or 2 2 rfl rfl rfl rfl rfl (fun hb12 =>
      q_mv _ rfl (q_bin _ _ _ rfl rfl rfl (run_nil ⟨rfl, rfl, rfl, rfl⟩))) (
    q_as _ rfl (run_nil (h2 _ ?_)))))))))
  exact ok_ret ⟨_, rfl, rfl⟩
theorem f222_ok (c : UInt8) : PFn Tryz.prog 222 [byt c] (bool (digB c)) := by
  refine fn_ok' (n := 9) Tryz.func222 rfl rfl rfl (Nat.le_of_ble_eq_true rfl) rfl fun w0 O => ?_
  refine ok_seq fun K1 h1 => ok_region rfl (q_as _ rfl (run_nil (h1 _ ?_))); clear h1 K1
  refine ok_seq fun K2 h2 => ?_
  refine ok_region rfl (q_mv _ rfl (q_bin _ _ _ rfl rfl rfl (q_mv _ rfl (q_and 2 2 rfl rfl rfl rfl rfl (fun hb8 =>
      q_mv _ rfl (q_bin _ _ _ rfl rfl rfl (run_nil ⟨rfl, rfl, rfl, rfl⟩))) (
    q_as _ rfl (run_nil (h2 _ ?_)))))))
  exact ok_ret ⟨_, rfl, rfl⟩
theorem f223_ok (c : UInt8) : PFn Tryz.prog 223 [byt c] (bool (letB c)) := by
  refine fn_ok' (n := 17) Tryz.func223 rfl rfl rfl (Nat.le_of_ble_eq_true rfl) rfl fun w0 O => ?_
  refine ok_seq fun K1 h1 => ok_region rfl (q_as _ rfl (run_nil (h1 _ ?_))); clear h1 K1
  refine ok_seq fun K2 h2 => ?_
  refine ok_region rfl (q_mv _ rfl (q_bin _ _ _ rfl rfl rfl (q_mv _ rfl (q_and 2 2 rfl rfl rfl rfl rfl (fun hb8 =>
      q_mv _ rfl (q_bin _ _ _ rfl rfl rfl (run_nil ⟨rfl, rfl, rfl, rfl⟩))) (
    q_mv _ rfl (q_or 6 4 rfl rfl rfl rfl rfl (fun hb16 =>
      q_mv _ rfl (q_bin _ _ _ rfl rfl rfl (q_mv _ rfl (q_and 2 2 rfl rfl rfl rfl rfl (fun hb15 =>
        q_mv _ rfl (q_bin _ _ _ rfl rfl rfl (run_nil ⟨rfl, rfl, rfl, rfl⟩))) (
      run_nil ⟨rfl, rfl, rfl, rfl⟩))))) (
    q_as _ rfl (run_nil (h2 _ ?_)))))))))
  exact ok_ret ⟨_, rfl, rfl⟩
def cmpN (a b : Int) : Int := if a < b then -1 else if b < a then 1 else 0
theorem f140_ok (a b : Int) : PFn Tryz.prog 140 [int a, int b] (int (cmpN a b)) := by
  refine fn_ok' (n := 11) Tryz.func140 rfl rfl rfl (Nat.le_of_ble_eq_true rfl) rfl fun w0 O => ?_
  refine ok_seq fun K1 h1 => ok_region rfl (q_as _ rfl (run_nil (h1 _ ?_))); clear h1 K1
  refine ok_seq fun K2 h2 => ?_
  refine ok_seq fun K3 h3 => ok_region rfl (q_mv _ rfl (q_mv _ rfl (q_bin _ _ _ rfl rfl rfl (run_nil (h3 _ ?_))))); clear h3 K3
  refine ok_cond rfl (fun c4 => ?_) (fun c4 => ?_)
  · refine ok_seq fun K5 h5 => ok_region rfl (q_as _ rfl (run_nil (h5 _ ?_)))
    have c := of_decide_eq_true c4
    exact ok_ret ⟨_, rfl, by simp [tupSV, cmpN, c]⟩
  · have c := of_decide_eq_false c4
    refine ok_skip (h2 _ ?_)
    refine ok_seq fun K6 h6 => ?_
    refine ok_seq fun K7 h7 => ok_region rfl (q_mv _ rfl (q_mv _ rfl (q_bin _ _ _ rfl rfl rfl (run_nil (h7 _ ?_))))); clear h7 K7
    refine ok_cond rfl (fun c8 => ?_) (fun c8 => ?_)
    · refine ok_seq fun K9 h9 => ok_region rfl (q_as _ rfl (run_nil (h9 _ ?_)))
      have c' := of_decide_eq_true c8
      exact ok_ret ⟨_, rfl, by simp [tupSV, cmpN, c, c']⟩
    · have c' := of_decide_eq_false c8
      refine ok_skip (h6 _ ?_)
      refine ok_seq fun K10 h10 => ok_region rfl (q_as _ rfl (run_nil (h10 _ ?_)))
      exact ok_ret ⟨_, rfl, by simp [tupSV, cmpN, c, c']⟩
def cmpT : List UInt8 → List UInt8 → Int
  | [], [] => 0
  | [], _ :: _ => -1
  | _ :: _, [] => 1
  | x :: a, y :: b => if x = y then cmpT a b else cmpN x.toNat y.toNat
theorem cmpT_len : ∀ (a b : List UInt8), a = [] ∨ b = [] → cmpT a b = cmpN a.length b.length
  | [], [], _ => rfl
  | [], _ :: _, _ => by simp [cmpT, cmpN]
  | _ :: _, [], _ => by simp [cmpT, cmpN]; omega
  | _ :: _, _ :: _, h => by simp at h
theorem cmpT_less : ∀ (a b : List UInt8), Op.bytesLess a b = decide (cmpT a b < 0)
  | [], [] => rfl
  | [], _ :: _ => rfl
  | _ :: _, [] => rfl
  | x :: a, y :: b => by
    simp only [Op.bytesLess, cmpT, cmpT_less a b]
    by_cases h : x = y
    · subst h; simp
    · simp only [h, if_false]
      have hne : x.toNat ≠ y.toNat := fun e => h (UInt8.toNat_inj.1 e)
      have hb : (x == y) = false := by simpa using h
      simp only [hb, Bool.false_and, Bool.or_false, cmpN]
      by_cases h2 : x < y
      · have h3 : x.toNat < y.toNat := UInt8.lt_iff_toNat_lt.1 h2
        simp [h2, h3]
      · have h3 : ¬ x.toNat < y.toNat := fun e => h2 (UInt8.lt_iff_toNat_lt.2 e)
        have h4 : y.toNat < x.toNat := by omega
        simp [h2, h3, h4]
theorem f66_ok (a b : ByteArray) (ha : a.size ≤ 1048576) (hb : b.size ≤ 1048576) : PFn Tryz.prog 66 [str a, str b] (int (cmpT a.data.toList b.data.toList)) := by
  refine fn_ok' (n := 39) Tryz.func66 rfl rfl rfl (Nat.le_of_ble_eq_true rfl) rfl fun w0 O => ?_
  refine ok_seq fun K1 h1 => ok_region rfl (q_as _ rfl (run_nil (h1 _ ?_))); clear h1 K1
  refine ok_seq fun K2 h2 => ?_
  refine ok_seq fun K3 h3 => ok_region rfl (q_as _ rfl (run_nil (h3 _ ?_))); clear h3 K3
  refine ok_block ?_
  refine ok_loop (fun (k : Nat) => ⟨[(0, .sv (str a)), (1, .sv (str b)), (5, .sv (int k))], []⟩) (fun k => k ≤ a.size ∧ k ≤ b.size ∧ cmpT a.data.toList b.data.toList = cmpT (a.data.toList.drop k) (b.data.toList.drop k)) (fun k => a.size - k) 0 ⟨Nat.zero_le _, Nat.zero_le _, rfl⟩ (le_same ⟨rfl, rfl, rfl, trivial⟩) (fun k J => ?_)
  obtain ⟨ja, jb, jc⟩ := J
  have la := size_list a
  have lb := size_list b
  refine ok_seq fun K4 h4 => ?_
  refine ok_seq fun K5 h5 => ?_
  refine ok_region rfl (q_mv _ rfl (q_mv _ rfl (q_lens st9 rfl (q_bin _ _ _ rfl rfl rfl (q_mv _ rfl (q_and 4 4 rfl rfl rfl rfl rfl (fun hb15 =>
      q_mv _ rfl (q_mv _ rfl (q_lens st9 rfl (q_bin _ _ _ rfl rfl rfl (run_nil ⟨rfl, rfl, rfl, rfl⟩))))) (
    run_nil (h5 _ ?_))))))))
  clear h5 K5
  refine ok_cond rfl (fun c6 => ?_) (fun c6 => ?_)
  · refine ok_skip (h4 _ ?_)
    clear h4 K4
    simp only [Bool.and_eq_true, decide_eq_true_eq] at c6
    have ka : k < a.size := by omega
    have kb : k < b.size := by omega
    have ga := bget' ka
    have gb := bget' kb
    have ea : a.data.toList.drop k = a.data.toList[k]'(by omega) :: a.data.toList.drop (k + 1) := List.drop_eq_getElem_cons _
    have eb : b.data.toList.drop k = b.data.toList[k]'(by omega) :: b.data.toList.drop (k + 1) := List.drop_eq_getElem_cons _
    generalize a.data.toList[k]'(by omega) = x at ga ea
    generalize b.data.toList[k]'(by omega) = y at gb eb
    refine ok_seq fun K7 h7 => ?_
    refine ok_block ?_
    refine ok_seq fun K8 h8 => ?_
    refine ok_region_d [0, 0, 0, 0, 0, 0, 0] #[[], [], [0, 1], [], [], [3, 4], [0, 1, 2, 3, 4, 5]] [0, 1, 2, 3, 4, 5, 6] (by kernel_rfl) (by kernel_rfl) rfl rfl (
      q_mv _ rfl (q_mv _ rfl (q_ix st9 rfl rfl (by omega) (bget ga) (q_mv _ rfl (q_mv _ rfl (q_ix st9 rfl rfl (by omega) (bget gb) (q_bin _ _ _ rfl rfl rfl (run_nil (h8 _ ?_)))))))))
    clear h8 K8
    refine ok_cond rfl (fun c9 => ?_) (fun c9 => ?_)
    · refine ok_seq fun K10 h10 => ?_
      refine ok_region_d [0, 0, 0, 0, 0, 0, 0, 0, 3, 0] #[[], [], [0, 1], [0, 1, 2], [], [], [4, 5], [4, 5, 6], [0, 1, 2, 3, 4, 5, 6, 7], [0, 1, 2, 3, 4, 5, 6, 7, 8]] [0, 1, 2, 3, 4, 5, 6, 7, 8, 9] (by kernel_rfl) (by kernel_rfl) rfl rfl (
        q_mv _ rfl (q_mv _ rfl (q_ix st9 rfl rfl (by omega) (bget ga) (q_cv aS5 ik3 rfl (wu8 _) (q_mv _ rfl (q_mv _ rfl (q_ix st9 rfl rfl (by omega) (bget gb) (q_cv aS5 ik3 rfl (wu8 _) (
        q_call (f140_ok _ _) cl140 rfl rfl (q_as _ rfl (run_nil (h10 _ ?_))))))))))))
      refine ok_ret ⟨_, rfl, ?_⟩
      have hne : x ≠ y := fun e => by subst e; simp at c9
      rw [jc, ea, eb]; simp [tupSV, cmpT, hne]
    · refine ok_skip (h7 _ ?_)
      clear h7 K7
      have hxy : x = y := by simp at c9; exact UInt8.toNat_inj.1 (by omega)
      refine ok_region rfl (q_mv _ rfl (q_add rfl rfl (by omega) (q_as _ rfl (run_nil (⟨k + 1, by omega, ⟨by omega, by omega, ?_⟩, le_same ⟨rfl, rfl, rfl, trivial⟩⟩)))))
      rw [jc, ea, eb]; simp [cmpT, hxy]
  · refine ok_exit (h2 _ ?_)
    refine ok_seq fun K11 h11 => ok_region rfl (q_mv _ rfl (q_lens st9 rfl (q_mv _ rfl (q_lens st9 rfl (q_call (f140_ok _ _) cl140 rfl rfl (q_as _ rfl (run_nil (h11 _ ?_)))))))); clear h11 K11
    refine ok_ret ⟨_, rfl, ?_⟩
    simp only [Bool.and_eq_false_iff, decide_eq_false_iff_not] at c6
    rw [jc, cmpT_len _ _ (c6.imp (fun c => List.drop_eq_nil_of_le (by omega)) fun c => List.drop_eq_nil_of_le (by omega))]
    have e : cmpN (a.size : Int) (b.size : Int) = cmpN ((a.size - k : Nat) : Int) ((b.size - k : Nat) : Int) := by unfold cmpN; (repeat split) <;> omega
    simp only [tupSV, List.length_drop, la, lb, e]

def nameB (s : ByteArray) : Bool := decide (1 ≤ s.size) && decide (s.size ≤ 40) && !digB (s.data.toList.headD 0) && s.data.toList.all wordB
theorem all_step {s : ByteArray} {p : UInt8 → Bool} {k : Nat} {c : UInt8} (hc : s.data.toList[k]? = some c) (h1 : (s.data.toList.take k).all p = true) (h2 : p c = true) : (s.data.toList.take (k + 1)).all p = true := by
  rw [List.take_add_one, hc, List.all_append]; simp [h1, h2]
theorem all_not {s : ByteArray} {p : UInt8 → Bool} {k : Nat} {c : UInt8} (hc : s.data.toList[k]? = some c) (h2 : p c = false) : s.data.toList.all p = false := by
  rw [Bool.eq_false_iff]; intro h; rw [List.all_eq_true] at h; rw [h c (List.mem_of_getElem? hc)] at h2; cases h2
theorem f171_ok (s : ByteArray) (hs : s.size ≤ 1048576) : PFn Tryz.prog 171 [str s] (bool (nameB s)) := by
  have ls := size_list s
  refine fn_ok' (n := 41) Tryz.func171 rfl rfl rfl (Nat.le_of_ble_eq_true rfl) rfl fun w0 O => ?_
  refine ok_seq fun K1 h1 => ok_region rfl (q_as _ rfl (run_nil (h1 _ ?_))); clear h1 K1
  refine ok_seq fun K2 h2 => ?_
  have hd : ∀ h : 0 < s.size, s.data.toList[(0 : Int).toNat]? = some (s.data.toList.headD 0) := fun h => by
    have := bget' h
    cases hl : s.data.toList with
    | nil => rw [hl] at ls; simp at ls; omega
    | cons a l => simp
  refine ok_seq fun K3 h3 => ?_
  refine ok_region rfl (q_mv _ rfl (q_lens st9 rfl (q_bin _ _ _ rfl rfl rfl (q_mv _ rfl (q_or 3 3 rfl rfl rfl rfl rfl (fun hb11 =>
      q_mv _ rfl (q_lens st9 rfl (q_bin _ _ _ rfl rfl rfl (run_nil ⟨rfl, rfl, rfl, rfl⟩)))) (
    q_mv _ rfl (q_or 3 3 rfl rfl rfl rfl rfl (fun hb16 =>
      q_mv _ rfl (q_ix st9 rfl rfl (by omega) (bget (hd (by simp at hb16; omega))) (q_call (f222_ok _) cl222 rfl rfl (run_nil ⟨rfl, rfl, rfl, rfl⟩)))) (
    run_nil (h3 _ ?_)))))))))
  clear h3 K3
  refine ok_cond rfl (fun c4 => ?_) (fun c4 => ?_)
  · refine ok_seq fun K5 h5 => ok_region rfl (q_as _ rfl (run_nil (h5 _ ?_)))
    refine ok_ret ⟨_, rfl, ?_⟩
    have : nameB s = false := by
      unfold nameB
      simp at c4 ⊢
      rcases c4 with c4 | c4
      · intro h1 h2; omega
      · intro h1 h2 h3; rw [h3] at c4; cases c4
    rw [this]; rfl
  · refine ok_skip (h2 _ ?_)
    clear h2 K2
    simp at c4
    refine ok_seq fun K6 h6 => ?_
    refine ok_seq fun K7 h7 => ok_region rfl (q_as _ rfl (run_nil (h7 _ ?_))); clear h7 K7
    refine ok_block ?_
    refine ok_loop (fun (k : Nat) => ⟨[(0, .sv (str s)), (3, .sv (int k))], []⟩) (fun k => (s.data.toList.take k).all wordB = true) (fun k => s.size - k) 0 rfl (le_same ⟨rfl, rfl, trivial⟩) (fun k J => ?_)
    refine ok_seq fun K8 h8 => ?_
    refine ok_seq fun K9 h9 => ok_region rfl (q_mv _ rfl (q_mv _ rfl (q_lens st9 rfl (q_bin _ _ _ rfl rfl rfl (run_nil (h9 _ ?_)))))); clear h9 K9
    refine ok_cond rfl (fun c10 => ?_) (fun c10 => ?_)
    · refine ok_skip (h8 _ ?_)
      clear h8 K8
      have hk : k < s.size := by simpa using c10
      have hg := bget' hk
      generalize s.data.toList[k]'(by omega) = c at hg
      refine ok_seq fun K11 h11 => ?_
      refine ok_block ?_
      refine ok_seq fun K12 h12 => ?_
      refine ok_region rfl (q_mv _ rfl (q_mv _ rfl (q_ix st9 rfl rfl (by omega) (bget hg) (q_call (f223_ok _) cl223 rfl rfl (q_un _ _ rfl rfl (q_mv _ rfl (q_and 5 5 rfl rfl rfl rfl rfl (fun hb34 =>
          q_mv _ rfl (q_mv _ rfl (q_ix st9 rfl rfl (by omega) (bget hg) (q_call (f222_ok _) cl222 rfl rfl (q_un _ _ rfl rfl (run_nil ⟨rfl, rfl, rfl, rfl⟩)))))) (
        q_mv _ rfl (q_and 4 4 rfl rfl rfl rfl rfl (fun hb40 =>
          q_mv _ rfl (q_mv _ rfl (q_ix st9 rfl rfl (by omega) (bget hg) (q_bin _ _ _ rfl rfl rfl (run_nil ⟨rfl, rfl, rfl, rfl⟩))))) (
        run_nil (h12 _ ?_)))))))))))
      clear h12 K12
      have hw : wordB c = !((!letB c && !digB c) && decide ((c.toNat : Int) ≠ 95)) := by unfold wordB; cases letB c <;> cases digB c <;> by_cases h : (c.toNat : Int) = 95 <;> simp [h]
      refine ok_cond rfl (fun c13 => ?_) (fun c13 => ?_)
      · refine ok_seq fun K14 h14 => ok_region rfl (q_as _ rfl (run_nil (h14 _ ?_)))
        refine ok_ret ⟨_, rfl, ?_⟩
        rw [c13] at hw
        have := all_not hg hw
        simp [tupSV, nameB, this]
      · refine ok_skip (h11 _ ?_)
        clear h11 K11
        rw [c13] at hw
        exact ok_region rfl (q_mv _ rfl (q_add rfl rfl (by omega) (q_as _ rfl (run_nil (⟨k + 1, by omega, all_step hg J hw, le_same ⟨rfl, rfl, trivial⟩⟩)))))
    · refine ok_exit (h6 _ ?_)
      refine ok_seq fun K15 h15 => ok_region rfl (q_as _ rfl (run_nil (h15 _ ?_))); clear h15 K15
      refine ok_ret ⟨_, rfl, ?_⟩
      have hk : s.size ≤ k := by simpa using c10
      rw [List.take_of_length_le (by omega)] at J
      have e1 : 1 ≤ s.size := by omega
      have e2 : s.size ≤ 40 := by omega
      simp [tupSV, nameB, J, c4, e1, e2]
end Go.Ring

namespace Go.Ring
open Go Go.RowKit Go.Eager Go.Abs Go.Proofs
set_option maxRecDepth 100000
set_option linter.unusedVariables false
set_option linter.unusedSimpArgs false
theorem iget {xs : List Int} {i : Nat} {x : Int} (h : xs[i]? = some x) : (xs.map int)[i]? = some (int x) := by rw [List.getElem?_map, h]; rfl
theorem iget' {xs : List Int} {i : Nat} (h : i < xs.length) : xs[i]? = some (xs.getD i 0) := by rw [List.getD_eq_getElem?_getD, List.getElem?_eq_getElem h]; rfl
theorem f195_ok (s : ByteArray) (hs : s.size ≤ 1048576) : PFn Tryz.prog 195 [str s] (bool (nameB s)) := by
  have ls := size_list s
  refine fn_ok' (n := 27) Tryz.func195 rfl rfl rfl (Nat.le_of_ble_eq_true rfl) rfl fun w0 O => ?_
  refine ok_seq fun K1 h1 => ok_region rfl (q_as _ rfl (run_nil (h1 _ ?_))); clear h1 K1
  refine ok_seq fun K2 h2 => ?_
  have hd : ∀ h : 0 < s.size, s.data.toList[(0 : Int).toNat]? = some (s.data.toList.headD 0) := fun h => by
    have := bget' h
    cases hl : s.data.toList with
    | nil => rw [hl] at ls; simp at ls; omega
    | cons a l => simp
  have he : decide (s.data.toList = (ByteArray.mk #[]).data.toList) = decide (s.size = 0) := by rw [decide_eq_decide, ← ls, List.length_eq_zero_iff]
  refine ok_seq fun K3 h3 => ?_
  refine ok_region rfl (q_mv _ rfl (q_bin _ _ _ rfl rfl rfl (q_mv _ rfl (q_or 3 3 rfl rfl rfl rfl rfl (fun hb10 =>
      q_mv _ rfl (q_lens st9 rfl (q_bin _ _ _ rfl rfl rfl (run_nil ⟨rfl, rfl, rfl, rfl⟩)))) (
    q_mv _ rfl (q_or 3 3 rfl rfl rfl rfl rfl (fun hb15 =>
      q_mv _ rfl (q_ix st9 rfl rfl (by omega) (bget (hd (by rw [he] at hb15; simp only [Bool.or_eq_false_iff, decide_eq_false_iff_not] at hb15; omega))) (q_call (f239_ok _) cl239 rfl rfl (run_nil ⟨rfl, rfl, rfl, rfl⟩)))) (
    run_nil (h3 _ ?_))))))))
  clear h3 K3
  refine ok_cond rfl (fun c4 => ?_) (fun c4 => ?_)
  · refine ok_seq fun K5 h5 => ok_region rfl (q_as _ rfl (run_nil (h5 _ ?_)))
    refine ok_ret ⟨_, rfl, ?_⟩
    have : nameB s = false := by
      unfold nameB
      rw [he] at c4
      simp only [Bool.or_eq_true, decide_eq_true_eq] at c4
      rcases c4 with (c4 | c4) | c4
      · rw [decide_eq_false (show ¬ 1 ≤ s.size by omega)]; rfl
      · rw [decide_eq_false (show ¬ s.size ≤ 40 by omega)]; simp
      · rw [c4]; simp
    rw [this]; rfl
  · refine ok_skip (h2 _ ?_)
    rw [he] at c4
    simp only [Bool.or_eq_false_iff, decide_eq_false_iff_not] at c4
    refine ok_seq fun K6 h6 => ?_
    refine ok_seq fun K7 h7 => ok_region rfl (q_mv _ rfl (q_lens st9 rfl (q_mv _ rfl (run_nil (h7 _ ?_))))); clear h7 K7
    refine ok_block ?_
    refine ok_loop (fun (k : Nat) => ⟨[(0, .sv (str s)), (17, .sv (int s.size)), (18, .sv (int k))], []⟩) (fun k => (s.data.toList.take k).all wordB = true) (fun k => s.size - k) 0 rfl (le_same ⟨rfl, rfl, rfl, trivial⟩) (fun k J => ?_)
    refine ok_seq fun K8 h8 => ok_region rfl (q_bin _ _ _ rfl rfl rfl (run_nil (h8 _ ?_))); clear h8 K8
    refine ok_seq fun K9 h9 => ?_
    refine ok_cond rfl (fun c10 => ?_) (fun c10 => ?_)
    · refine ok_skip (h9 _ ?_)
      have hk : k < s.size := by simpa using c10
      have hg := bget' hk
      generalize s.data.toList[k]'(by omega) = c at hg
      refine ok_seq fun K11 h11 => ?_
      refine ok_block ?_
      refine ok_seq fun K12 h12 => ok_region rfl (q_mv _ rfl (q_as _ rfl (run_nil (h12 _ ?_)))); clear h12 K12
      refine ok_seq fun K13 h13 => ok_region rfl (q_mv _ rfl (q_mv _ rfl (q_ix st9 rfl rfl (by omega) (bget hg) (q_call (f240_ok _) cl240 rfl rfl (q_un _ _ rfl rfl (run_nil (h13 _ ?_))))))); clear h13 K13
      refine ok_cond rfl (fun c14 => ?_) (fun c14 => ?_)
      · refine ok_seq fun K15 h15 => ok_region rfl (q_as _ rfl (run_nil (h15 _ ?_)))
        refine ok_ret ⟨_, rfl, ?_⟩
        have := all_not hg (p := wordB) (by simpa using c14)
        simp [tupSV, nameB, this]
      · refine ok_skip (h11 _ ?_)
        exact ok_region rfl (q_add rfl rfl (by omega) (q_mv _ rfl (run_nil (⟨k + 1, by omega, all_step hg J (by simpa using c14), le_same ⟨rfl, rfl, rfl, trivial⟩⟩))))
    · refine ok_exit (h6 _ ?_)
      refine ok_seq fun K16 h16 => ok_region rfl (q_as _ rfl (run_nil (h16 _ ?_))); clear h16 K16
      refine ok_ret ⟨_, rfl, ?_⟩
      have hk : s.size ≤ k := by simpa using c10
      rw [List.take_of_length_le (by omega)] at J
      have e1 : 1 ≤ s.size := by omega
      have e2 : s.size ≤ 40 := by omega
      rw [show nameB s = true by unfold nameB; rw [decide_eq_true e1, decide_eq_true e2, c4.2, J]; rfl]; rfl
/-- The numbers rise. -/
def Ris (xs : List Int) : Prop := ∀ i, 0 < i → i < xs.length → xs.getD (i - 1) 0 < xs.getD i 0
open Classical in
noncomputable def risB (xs : List Int) : Bool := decide (Ris xs)
theorem risB_true {xs : List Int} (h : Ris xs) : risB xs = true := by simp [risB, h]
theorem risB_false {xs : List Int} (h : ¬ Ris xs) : risB xs = false := by simp [risB, h]
theorem f199_ok (xs : List Int) (hx : xs.length ≤ 1048576) : PFn Tryz.prog 199 [ints xs] (bool (risB xs && decide (xs.length ≤ 1000))) := by
  refine fn_ok' (n := 27) Tryz.func199 rfl rfl rfl (Nat.le_of_ble_eq_true rfl) rfl fun w0 O => ?_
  refine ok_seq fun K1 h1 => ok_region rfl (q_as _ rfl (run_nil (h1 _ ?_))); clear h1 K1
  refine ok_seq fun K2 h2 => ?_
  have hl : (xs.map int).length = xs.length := by simp
  refine ok_seq fun K3 h3 => ok_region rfl (q_mv _ rfl (q_len eS40 rfl (q_mv _ rfl (run_nil (h3 _ ?_))))); clear h3 K3
  rw [hl]
  refine ok_block ?_
  refine ok_loop (fun (k : Nat) => ⟨[(0, .sv (ints xs)), (5, .sv (int xs.length)), (6, .sv (int k))], []⟩) (fun k => ∀ i, 0 < i → i < k → xs.getD (i - 1) 0 < xs.getD i 0) (fun k => xs.length - k) 0 (fun i h1 h2 => by omega) (le_same ⟨rfl, rfl, rfl, trivial⟩) (fun k J => ?_)
  refine ok_seq fun K4 h4 => ok_region rfl (q_bin _ _ _ rfl rfl rfl (run_nil (h4 _ ?_))); clear h4 K4
  refine ok_seq fun K5 h5 => ?_
  refine ok_cond rfl (fun c6 => ?_) (fun c6 => ?_)
  · refine ok_skip (h5 _ ?_)
    have hk : k < xs.length := by simpa using c6
    refine ok_seq fun K7 h7 => ?_
    refine ok_block ?_
    refine ok_seq fun K8 h8 => ok_region rfl (q_mv _ rfl (q_as _ rfl (run_nil (h8 _ ?_)))); clear h8 K8
    refine ok_seq fun K9 h9 => ?_
    refine ok_region_d [0, 0, 0, 0, 0, 0, 0, 1, 0, 0, 0, 1, 0, 0] #[[], [0], [0, 1], [0, 1, 2], [0, 1, 2], [0, 1, 2, 4], [0, 1, 2, 3, 4, 5], [0, 1, 2, 3, 4, 5, 6], [0, 1, 2], [0, 1, 2], [0, 1, 2, 8, 9], [0, 1, 2, 8, 9, 10], [0, 1, 2, 3, 4, 5, 6, 7, 8, 9, 10, 11], [0, 1, 2, 3, 4, 5, 6, 7, 8, 9, 10, 11, 12]] [0, 1, 2, 3, 4, 5, 6, 7, 8, 9, 10, 11, 12, 13] (by kernel_rfl) (by kernel_rfl) rfl rfl (
      q_mv _ rfl (q_bin _ _ _ rfl rfl rfl (q_mv _ rfl (q_and 10 10 rfl rfl rfl rfl rfl (fun hb22 =>
        q_mv _ rfl (q_mv _ rfl (q_sub rfl rfl (by omega) (q_ia (s := int (xs.getD (k - 1) 0)) el40 rfl rfl (by have := of_decide_eq_true hb22; omega) (by rw [show ((k : Int) - 1).toNat = k - 1 by omega]; exact iget (iget' (by omega))) (q_ld _ ag3 rfl rfl (q_mv _ rfl (q_mv _ rfl (q_ia (s := int (xs.getD k 0)) el40 rfl rfl (by omega) (iget (iget' hk)) (
        q_ld _ ag3 rfl rfl (q_bin _ _ _ rfl rfl rfl (run_nil ⟨rfl, rfl, rfl, rfl⟩))))))))))) (
      run_nil (h9 _ ?_))))))
    clear h9 K9
    refine ok_cond rfl (fun c10 => ?_) (fun c10 => ?_)
    · refine ok_seq fun K11 h11 => ok_region rfl (q_as _ rfl (run_nil (h11 _ ?_)))
      refine ok_ret ⟨_, rfl, ?_⟩
      simp only [Bool.and_eq_true, decide_eq_true_eq] at c10
      rw [risB_false fun h => by have := h k (by omega) hk; omega]; rfl
    · refine ok_skip (h7 _ ?_)
      refine ok_region rfl (q_add rfl rfl (by omega) (q_mv _ rfl (run_nil (⟨k + 1, by omega, fun i h1 h2 => ?_, le_same ⟨rfl, rfl, rfl, trivial⟩⟩))))
      rcases Nat.lt_or_ge i k with h | h
      · exact J i h1 h
      · obtain rfl : i = k := by omega
        simp only [Bool.and_eq_false_iff, decide_eq_false_iff_not] at c10
        omega
  · refine ok_exit (h2 _ ?_)
    have hk : xs.length ≤ k := by simpa using c6
    refine ok_seq fun K12 h12 => ok_region rfl (q_mv _ rfl (q_len eS40 rfl (q_bin _ _ _ rfl rfl rfl (q_as _ rfl (run_nil (h12 _ ?_)))))); clear h12 K12
    refine ok_ret ⟨_, rfl, ?_⟩
    rw [risB_true fun i h1 h2 => J i h1 (by omega)]
    simp [tupSV]
    omega
theorem f196_ok (xs : List Int) (hx : xs.length ≤ 1048576) : PFn Tryz.prog 196 [ints xs] (bool (risB xs)) := by
  refine fn_ok' (n := 20) Tryz.func196 rfl rfl rfl (Nat.le_of_ble_eq_true rfl) rfl fun w0 O => ?_
  refine ok_seq fun K1 h1 => ok_region rfl (q_as _ rfl (run_nil (h1 _ ?_))); clear h1 K1
  refine ok_seq fun K2 h2 => ?_
  have hl : (xs.map int).length = xs.length := by simp
  refine ok_seq fun K3 h3 => ok_region rfl (q_as _ rfl (run_nil (h3 _ ?_))); clear h3 K3
  refine ok_block ?_
  refine ok_loop (fun (k : Nat) => ⟨[(0, .sv (ints xs)), (3, .sv (int k))], []⟩) (fun k => 1 ≤ k ∧ ∀ i, 0 < i → i < k → xs.getD (i - 1) 0 < xs.getD i 0) (fun k => xs.length - k) 1 ⟨Nat.le_refl _, fun i h1 h2 => by omega⟩ (le_same ⟨rfl, rfl, trivial⟩) (fun k J => ?_)
  obtain ⟨hk1, J⟩ := J
  refine ok_seq fun K4 h4 => ?_
  refine ok_seq fun K5 h5 => ok_region rfl (q_mv _ rfl (q_mv _ rfl (q_len eS40 rfl (q_bin _ _ _ rfl rfl rfl (run_nil (h5 _ ?_)))))); clear h5 K5
  refine ok_cond rfl (fun c6 => ?_) (fun c6 => ?_)
  · refine ok_skip (h4 _ ?_)
    have hk : k < xs.length := by simpa [hl] using c6
    refine ok_seq fun K7 h7 => ?_
    refine ok_block ?_
    refine ok_seq fun K8 h8 => ?_
    refine ok_region_d [0, 0, 0, 0, 1, 0, 0, 0, 1, 0] #[[], [], [1], [0, 1, 2], [0, 1, 2, 3], [], [], [5, 6], [5, 6, 7], [0, 1, 2, 3, 4, 5, 6, 7, 8]] [0, 1, 2, 3, 4, 5, 6, 7, 8, 9] (by kernel_rfl) (by kernel_rfl) rfl rfl (
      q_mv _ rfl (q_mv _ rfl (q_sub rfl rfl (by omega) (q_ia (s := int (xs.getD (k - 1) 0)) el40 rfl rfl (by omega) (by rw [show ((k : Int) - 1).toNat = k - 1 by omega]; exact iget (iget' (by omega))) (q_ld _ ag3 rfl rfl (q_mv _ rfl (q_mv _ rfl (q_ia (s := int (xs.getD k 0)) el40 rfl rfl (by omega) (iget (iget' hk)) (
      q_ld _ ag3 rfl rfl (q_bin _ _ _ rfl rfl rfl (run_nil (h8 _ ?_))))))))))))
    clear h8 K8
    refine ok_cond rfl (fun c9 => ?_) (fun c9 => ?_)
    · refine ok_seq fun K10 h10 => ok_region rfl (q_as _ rfl (run_nil (h10 _ ?_)))
      refine ok_ret ⟨_, rfl, ?_⟩
      have c := of_decide_eq_true c9
      rw [risB_false fun h => by have := h k (by omega) hk; omega]; rfl
    · refine ok_skip (h7 _ ?_)
      refine ok_region rfl (q_mv _ rfl (q_add rfl rfl (by omega) (q_as _ rfl (run_nil (⟨k + 1, by omega, ⟨by omega, fun i h1 h2 => ?_⟩, le_same ⟨rfl, rfl, trivial⟩⟩)))))
      rcases Nat.lt_or_ge i k with h | h
      · exact J i h1 h
      · obtain rfl : i = k := by omega
        have c := of_decide_eq_false c9
        omega
  · refine ok_exit (h2 _ ?_)
    have hk : xs.length ≤ k := by simpa [hl] using c6
    refine ok_seq fun K11 h11 => ok_region rfl (q_as _ rfl (run_nil (h11 _ ?_))); clear h11 K11
    refine ok_ret ⟨_, rfl, ?_⟩
    rw [risB_true fun i h1 h2 => J i h1 (by omega)]; rfl
end Go.Ring

namespace Go.Ring
open Go Go.RowKit Go.Eager Go.Abs Go.Proofs
set_option maxRecDepth 100000
set_option linter.unusedVariables false
set_option linter.unusedSimpArgs false
def NodeOk (n : RingNode) : Prop := nameB n.id = true ∧ 1 ≤ n.st ∧ n.st ≤ 3 ∧ 1 ≤ n.toks.length ∧ n.toks.length ≤ 16 ∧ Ris n.toks ∧ ∀ t ∈ n.toks, 0 ≤ t ∧ t < 2147483648
def At (r : Ring) (i : Nat) (n : RingNode) : Prop := NodeOk n ∧ (∀ p, 0 < i → r.nodes[i - 1]? = some p → cmpT p.id.data.toList n.id.data.toList < 0) ∧ ∀ j p, j < i → r.nodes[j]? = some p → ∀ t ∈ n.toks, t ∉ p.toks
def GoodR (r : Ring) : Prop := 1 ≤ r.copies ∧ r.copies ≤ 5 ∧ r.nodes.length ≤ 20 ∧ ∀ i n, r.nodes[i]? = some n → At r i n

theorem ris_le {xs : List Int} (h : Ris xs) : ∀ (j i : Nat), i ≤ j → j < xs.length → xs.getD i 0 ≤ xs.getD j 0
  | 0, i, hij, _ => by obtain rfl : i = 0 := by omega
                       exact Int.le_refl _
  | j + 1, i, hij, hj => by
    by_cases e : i = j + 1
    · subst e; exact Int.le_refl _
    · have := ris_le h j i (by omega) (by omega)
      have h2 := h (j + 1) (by omega) hj
      simp only [Nat.add_sub_cancel] at h2
      omega
theorem f141_ok (n : RingNode) (hn : SRingNode n) : PFn Tryz.prog 141 [eRingNode n] (bool (pB (NodeOk n))) := by
  obtain ⟨hn1, hn2⟩ := hn
  refine fn_ok' (n := 51) Tryz.func141 rfl rfl rfl (Nat.le_of_ble_eq_true rfl) rfl fun w0 O => ?_
  refine ok_seq fun K1 h1 => ok_region rfl (q_boxs _ rfl (Nat.zero_lt_succ _) (q_as _ rfl (run_nil (h1 _ ?_)))); clear h1 K1
  have hl : (n.toks.map int).length = n.toks.length := by simp
  refine ok_seq fun K2 h2 => ?_
  refine ok_seq fun K3 h3 => ?_
  refine ok_region rfl (q_fa _ fd45_0 rfl rfl (by decide) (q_ld _ ag9 rfl rfl (q_call (f171_ok _ hn1) cl171 rfl rfl (q_un _ _ rfl rfl (q_mv _ rfl (q_or 3 3 rfl rfl rfl rfl rfl (fun hb11 =>
      q_fa _ fd45_1 rfl rfl (by decide) (q_ld _ ag3 rfl rfl (q_bin _ _ _ rfl rfl rfl (run_nil ⟨rfl, rfl, rfl, rfl⟩)))) (
    q_mv _ rfl (q_or 3 3 rfl rfl rfl rfl rfl (fun hb16 =>
      q_fa _ fd45_1 rfl rfl (by decide) (q_ld _ ag3 rfl rfl (q_bin _ _ _ rfl rfl rfl (run_nil ⟨rfl, rfl, rfl, rfl⟩)))) (
    q_mv _ rfl (q_or 4 4 rfl rfl rfl rfl rfl (fun hb22 =>
      q_fa _ fd45_2 rfl rfl (by decide) (q_ld _ ag40 rfl rfl (q_len eS40 rfl (q_bin _ _ _ rfl rfl rfl (run_nil ⟨rfl, rfl, rfl, rfl⟩))))) (
    q_mv _ rfl (q_or 4 4 rfl rfl rfl rfl rfl (fun hb28 =>
      q_fa _ fd45_2 rfl rfl (by decide) (q_ld _ ag40 rfl rfl (q_len eS40 rfl (q_bin _ _ _ rfl rfl rfl (run_nil ⟨rfl, rfl, rfl, rfl⟩))))) (
    q_mv _ rfl (q_or 4 4 rfl rfl rfl rfl rfl (fun hb34 =>
      q_fa _ fd45_2 rfl rfl (by decide) (q_ld _ ag40 rfl rfl (q_call (f199_ok _ hn2) cl199 rfl rfl (q_un _ _ rfl rfl (run_nil ⟨rfl, rfl, rfl, rfl⟩))))) (
    run_nil (h3 _ ?_))))))))))))))))
  clear h3 K3
  refine ok_cond rfl (fun c4 => ?_) (fun c4 => ?_)
  · refine ok_seq fun K5 h5 => ok_region rfl (q_as _ rfl (run_nil (h5 _ ?_)))
    refine ok_ret ⟨_, rfl, ?_⟩
    rw [pB_false]; · rfl
    rintro ⟨a1, a2, a3, a4, a5, a6, a7⟩
    rw [a1, risB_true a6, hl] at c4
    simp only [Bool.not_true, Bool.false_or, Bool.true_and, Bool.or_eq_true, decide_eq_true_eq, Bool.not_eq_true', decide_eq_false_iff_not] at c4
    omega
  · refine ok_skip (h2 _ ?_)
    simp only [Bool.or_eq_false_iff, decide_eq_false_iff_not, Bool.not_eq_false', Bool.and_eq_true, decide_eq_true_eq, hl] at c4
    obtain ⟨⟨⟨⟨⟨a1, a2⟩, a3⟩, a4⟩, a5⟩, a6, _⟩ := c4
    have a6' : Ris n.toks := by simpa [risB] using a6
    have a4' : 1 ≤ n.toks.length := by omega
    refine ok_seq fun K6 h6 => ?_
    refine ok_region rfl (q_fa _ fd45_2 rfl rfl (by decide) (q_ld _ ag40 rfl rfl (q_ia (s := int (n.toks.getD 0 0)) el40 rfl rfl (by omega) (iget (iget' a4')) (q_ld _ ag3 rfl rfl (q_bin _ _ _ rfl rfl rfl (q_mv _ rfl (q_and 9 9 rfl rfl rfl rfl rfl (fun hb50 =>
        q_fa _ fd45_2 rfl rfl (by decide) (q_ld _ ag40 rfl rfl (q_fa _ fd45_2 rfl rfl (by decide) (q_ld _ ag40 rfl rfl (q_len eS40 rfl (q_sub rfl rfl (by omega) (q_ia (s := int (n.toks.getD (n.toks.length - 1) 0)) el40 rfl rfl (by omega) (by rw [hl, show ((n.toks.length : Int) - 1).toNat = n.toks.length - 1 by omega]; exact iget (iget' (by omega))) (
        q_ld _ ag3 rfl rfl (q_bin _ _ _ rfl rfl rfl (run_nil ⟨rfl, rfl, rfl, rfl⟩)))))))))) (
      q_as _ rfl (run_nil (h6 _ ?_))))))))))
    refine ok_ret ⟨_, rfl, ?_⟩
    have e : (decide (0 ≤ n.toks.getD 0 0) && decide (n.toks.getD (n.toks.length - 1) 0 < 2147483648)) = pB (NodeOk n) := by
      rw [Bool.eq_iff_iff]
      simp only [Bool.and_eq_true, decide_eq_true_eq, pB]
      constructor
      · rintro ⟨b1, b2⟩
        refine ⟨a1, by omega, by omega, a4', by omega, a6', fun t ht => ?_⟩
        obtain ⟨i, hi⟩ := List.getElem?_of_mem ht
        have hlt := (List.getElem?_eq_some_iff.1 hi).1
        have e1 : n.toks.getD i 0 = t := by rw [List.getD_eq_getElem?_getD, hi]; rfl
        have := ris_le a6' i 0 (by omega) hlt
        have := ris_le a6' (n.toks.length - 1) i (by omega) (by omega)
        omega
      · rintro ⟨_, _, _, _, _, _, a7⟩
        have g : ∀ i, i < n.toks.length → n.toks.getD i 0 ∈ n.toks := fun i hi => List.mem_of_getElem? (iget' hi)
        exact ⟨(a7 _ (g 0 a4')).1, (a7 _ (g _ (by omega))).2⟩
    rw [← e]; rfl
end Go.Ring

namespace Go.Ring
open Go Go.RowKit Go.Eager Go.Abs Go.Proofs
set_option maxRecDepth 100000
set_option linter.unusedVariables false
set_option linter.unusedSimpArgs false
theorem f125_ok (xs : List Int) (x : Int) (hx : xs.length ≤ 1048576) : PFn Tryz.prog 125 [ints xs, int x] (bool (decide (x ∈ xs))) := by
  refine fn_ok' (n := 17) Tryz.func125 rfl rfl rfl (Nat.le_of_ble_eq_true rfl) rfl fun w0 O => ?_
  refine ok_seq fun K0 h0 => ok_region rfl (q_as _ rfl (run_nil (h0 _ ?_))); clear h0 K0
  refine ok_seq fun K1 h1 => ?_
  refine ok_seq fun K2 h2 => ok_region rfl (q_mv _ rfl (q_len eS40 rfl (q_mv _ rfl (run_nil (h2 _ ?_))))); clear h2 K2
  rw [List.length_map]
  refine ok_block ?_
  refine ok_loop (fun (k : Nat) => ⟨[(0, .sv (ints xs)), (1, .sv (int x)), (7, .sv (ints xs)), (8, .sv (int xs.length)), (9, .sv (int k))], []⟩) (fun k => x ∉ xs.take k) (fun k => xs.length - k) 0 (by simp) (le_same ⟨rfl, rfl, rfl, rfl, rfl, trivial⟩) (fun k J => ?_)
  refine ok_seq fun K3 h3 => ok_region rfl (q_bin _ _ _ rfl rfl rfl (run_nil (h3 _ ?_))); clear h3 K3
  refine ok_seq fun K4 h4 => ok_cond rfl (fun c1 => ok_skip (h4 _ ?_)) (fun c1 => ok_exit (h1 _ ?_)) <;> clear h4 K4
  · have hk : k < xs.length := by simpa using c1
    refine ok_seq fun K5 h5 => ok_block ?_
    refine ok_seq fun K6 h6 => ok_region rfl (q_ia (s := int (xs.getD k 0)) el40 rfl rfl (by omega) (iget (iget' hk)) (q_ld _ ag3 rfl rfl (q_as _ rfl (run_nil (h6 _ ?_))))); clear h6 K6
    refine ok_seq fun K6 h6 => ok_region rfl (q_mv _ rfl (q_mv _ rfl (q_bin _ _ _ rfl rfl rfl (run_nil (h6 _ ?_))))); clear h6 K6
    refine ok_cond rfl (fun c2 => ?_) (fun c2 => ok_skip (h5 _ ?_))
    · refine ok_seq fun K6 h6 => ok_region rfl (q_as _ rfl (run_nil (h6 _ ?_))); clear h6 K6
      refine ok_ret ⟨_, rfl, ?_⟩
      have : x ∈ xs := by rw [← of_decide_eq_true c2]; exact List.mem_of_getElem? (iget' hk)
      simp [tupSV, this]
    · clear h5 K5
      refine ok_region rfl (q_add rfl rfl (by omega) (q_mv _ rfl (run_nil ?_)))
      have hne := of_decide_eq_false c2
      refine ⟨k + 1, by omega, ?_, le_same ⟨rfl, rfl, rfl, rfl, rfl, trivial⟩⟩
      rw [List.take_add_one, iget' hk, List.mem_append, not_or]
      exact ⟨J, by simpa using Ne.symm hne⟩
  · refine ok_seq fun K6 h6 => ok_region rfl (q_as _ rfl (run_nil (h6 _ ?_))); clear h6 K6
    refine ok_ret ⟨_, rfl, ?_⟩
    have hk : xs.length ≤ k := by simpa using c1
    rw [List.take_of_length_le hk] at J
    simp [tupSV, J]
theorem f68_ok (r : Ring) (hr : SRing r) : PFn Tryz.prog 68 [eRing r] (bool (pB (GoodR r))) := by
  obtain ⟨hr1, hr2⟩ := hr
  have hsm : ∀ {i : Nat} {n : RingNode}, r.nodes[i]? = some n → SRingNode n := fun h => hr2 _ (List.mem_of_getElem? h)
  have hl : (r.nodes.map eRingNode).length = r.nodes.length := by simp
  refine fn_ok' (n := 74) Tryz.func68 rfl rfl rfl (Nat.le_of_ble_eq_true rfl) rfl fun w0 O => ?_
  refine ok_seq fun K1 h1 => ok_region rfl (q_boxs _ rfl (Nat.zero_lt_succ _) (q_as _ rfl (run_nil (h1 _ ?_)))); clear h1 K1
  refine ok_seq fun K2 h2 => ?_
  refine ok_seq fun K3 h3 => ?_
  refine ok_region rfl (q_fa _ fd31_0 rfl rfl (by decide) (q_ld _ ag3 rfl rfl (q_bin _ _ _ rfl rfl rfl (q_mv _ rfl (q_or 3 3 rfl rfl rfl rfl rfl (fun hb16 =>
      q_fa _ fd31_0 rfl rfl (by decide) (q_ld _ ag3 rfl rfl (q_bin _ _ _ rfl rfl rfl (run_nil ⟨rfl, rfl, rfl, rfl⟩)))) (
    q_mv _ rfl (q_or 4 4 rfl rfl rfl rfl rfl (fun hb22 =>
      q_fa _ fd31_1 rfl rfl (by decide) (q_ld _ ag29 rfl rfl (q_len eS29 rfl (q_bin _ _ _ rfl rfl rfl (run_nil ⟨rfl, rfl, rfl, rfl⟩))))) (
    run_nil (h3 _ ?_)))))))))
  clear h3 K3
  refine ok_cond rfl (fun c4 => ?_) (fun c4 => ?_)
  · refine ok_seq fun K5 h5 => ok_region rfl (q_as _ rfl (run_nil (h5 _ ?_)))
    refine ok_ret ⟨_, rfl, ?_⟩
    rw [pB_false]; · rfl
    rintro ⟨a1, a2, a3, _⟩
    simp only [Bool.or_eq_true, decide_eq_true_eq, hl] at c4
    omega
  · refine ok_skip (h2 _ ?_)
    simp only [Bool.or_eq_false_iff, decide_eq_false_iff_not, hl] at c4
    obtain ⟨⟨a1, a2⟩, a3⟩ := c4
    refine ok_seq fun K6 h6 => ?_
    refine ok_seq fun K7 h7 => ok_region rfl (q_fa _ fd31_1 rfl rfl (by decide) (q_ld _ ag29 rfl rfl (q_len eS29 rfl (q_mv _ rfl (run_nil (h7 _ ?_)))))); clear h7 K7
    rw [hl]
    refine ok_block ?_
    refine ok_loop (fun (k : Nat) => ⟨[(1, .sv (.ptr (eRing r))), (24, .sv (.sl 3 (r.nodes.map eRingNode))), (25, .sv (int r.nodes.length)), (26, .sv (int k))], []⟩) (fun k => ∀ i n, i < k → r.nodes[i]? = some n → At r i n) (fun k => r.nodes.length - k) 0 (fun i n h => by omega) (le_same ⟨rfl, rfl, rfl, rfl, trivial⟩) (fun k J => ?_)
    refine ok_seq fun K8 h8 => ok_region rfl (q_bin _ _ _ rfl rfl rfl (run_nil (h8 _ ?_))); clear h8 K8
    refine ok_seq fun K9 h9 => ?_
    refine ok_cond rfl (fun c10 => ?_) (fun c10 => ?_)
    · refine ok_skip (h9 _ ?_)
      have hk : k < r.nodes.length := by simpa using c10
      obtain ⟨n, hn⟩ : ∃ n, r.nodes[k]? = some n := ⟨_, List.getElem?_eq_getElem hk⟩
      obtain ⟨p, hp⟩ : ∃ p, 0 < k → r.nodes[k - 1]? = some p := ⟨r.nodes[k - 1]'(by omega), fun _ => List.getElem?_eq_getElem (by omega)⟩
      refine ok_seq fun K11 h11 => ?_
      refine ok_block ?_
      refine ok_seq fun K12 h12 => ok_region rfl (q_mv _ rfl (q_ia el29 rfl rfl (by omega) (mget hn) (q_lds _ ag45 rfl sz45 (q_alloc _ ze45 rfl rfl rfl rfl (q_as _ rfl (q_sts _ rfl rfl rfl sz45 (Nat.le_of_ble_eq_true rfl) rfl (run_nil (h12 _ ?_)))))))); clear h12 K12
      refine ok_seq fun K13 h13 => ?_
      refine ok_seq fun K14 h14 => ?_
      have hsn := hsm hn
      refine ok_region_i (by kernel_rfl) (by kernel_rfl) rfl (
        q_ldbs ag45 rfl rfl sz45 rfl rfl (q_call (f141_ok n hsn) cl141 rfl rfl (q_un _ _ rfl rfl (q_mv _ rfl (q_or 15 4 rfl rfl rfl rfl rfl (fun hb50 =>
          q_mv _ rfl (q_bin _ _ _ rfl rfl rfl (q_mv _ rfl (q_and 11 11 rfl rfl rfl rfl rfl (fun hb49 =>
            q_fa _ fd31_1 rfl rfl (by decide) (q_ld _ ag29 rfl rfl (q_mv _ rfl (q_sub rfl rfl (by omega) (q_ia (s := eRingNode p) el29 rfl rfl (by have := of_decide_eq_true hb49; omega) (by rw [show ((k : Int) - 1).toNat = k - 1 by omega]; exact mget (hp (by have := of_decide_eq_true hb49; omega))) (q_fa _ fd45_0 rfl rfl (by decide) (
            q_ld _ ag9 rfl rfl (q_fap fd45_0 rfl (by decide) (q_ldb _ ag9 rfl rfl rfl (q_call (f66_ok p.id n.id (hsm (hp (by have := of_decide_eq_true hb49; omega))).1 hsn.1) cl66 rfl rfl (q_bin _ _ _ rfl rfl rfl (run_nil ⟨rfl, rfl, rfl, rfl⟩)))))))))))) (
          run_nil ⟨rfl, rfl, rfl, rfl⟩))))) (
        run_nil (h14 _ ?_)))))))
      clear h14 K14
      refine ok_cond rfl (fun c15 => ?_) (fun c15 => ?_)
      · refine ok_seq fun K16 h16 => ok_region rfl (q_as _ rfl (run_nil (h16 _ ?_)))
        refine ok_ret ⟨_, rfl, ?_⟩
        rw [pB_false]; · rfl
        rintro ⟨_, _, _, a4⟩
        obtain ⟨b1, b2, b3⟩ := a4 k n hn
        rw [pB_true b1] at c15
        simp only [Bool.not_true, Bool.false_or, Bool.and_eq_true, decide_eq_true_eq] at c15
        have := b2 p (by omega) (hp (by omega))
        omega
      · refine ok_skip (h13 _ ?_)
        simp only [Bool.or_eq_false_iff, Bool.not_eq_false', Bool.and_eq_false_iff, decide_eq_false_iff_not] at c15
        obtain ⟨b1, b2⟩ := c15
        have b1' : NodeOk n := by simpa [pB] using b1
        have b2' : ∀ q, 0 < k → r.nodes[k - 1]? = some q → cmpT q.id.data.toList n.id.data.toList < 0 := by
          intro q h0 hq
          rw [hp h0] at hq
          cases hq
          omega
        have e : ((r.nodes.map eRingNode).drop (0 : Int).toNat).take ((k : Int) - 0).toNat = (r.nodes.take k).map eRingNode := by simp [List.map_take]
        have e2 : (((r.nodes.take k).map eRingNode).length : Int) = k := by simp; omega
        refine ok_seq fun K17 h17 => ?_
        refine ok_region rfl (q_fa _ fd31_1 rfl rfl (by decide) (q_ld _ ag29 rfl rfl (q_mv _ rfl (q_sl _ _ el29 rfl (.inl ⟨rfl, rfl⟩) (.inr ⟨_, _, rfl, rfl⟩) (by omega) (by omega) (by rw [hl]; omega) (
          q_len eS29 rfl (q_mv _ rfl (run_nil (h17 _ ?_))))))))
        clear h17 K17
        rw [e, e2]
        refine ok_block ?_
        refine ok_loop (fun (j : Nat) => ⟨[(1, .sv (.ptr (eRing r))), (4, .ptr 4 0), (24, .sv (.sl 3 (r.nodes.map eRingNode))), (25, .sv (int r.nodes.length)), (26, .sv (int k)), (54, .sv (.sl 3 ((r.nodes.take k).map eRingNode))), (55, .sv (int k)), (56, .sv (int j))], [(4, .box [.sv (str n.id), .sv (int n.st), .sv (ints n.toks)])]⟩)
          (fun j => ∀ i q, i < j → r.nodes[i]? = some q → ∀ t ∈ n.toks, t ∉ q.toks) (fun j => k - j) 0 (fun i q h => by omega) (le_sub ⟨rfl, rfl, rfl, rfl, rfl, rfl, rfl, rfl, trivial⟩ ⟨rfl, trivial⟩) (fun j J2 => ?_)
        refine ok_seq fun K18 h18 => ok_region rfl (q_bin _ _ _ rfl rfl rfl (run_nil (h18 _ ?_))); clear h18 K18
        refine ok_seq fun K19 h19 => ?_
        refine ok_cond rfl (fun c20 => ?_) (fun c20 => ?_)
        · refine ok_skip (h19 _ ?_)
          have hj : j < k := by simpa using c20
          obtain ⟨q, hq⟩ : ∃ q, r.nodes[j]? = some q := ⟨_, List.getElem?_eq_getElem (by omega)⟩
          have hq' : (r.nodes.take k)[j]? = some q := by rw [List.getElem?_take, if_pos hj]; exact hq
          have hsq := hsm hq
          have hlt : (n.toks.map int).length = n.toks.length := by simp
          refine ok_seq fun K21 h21 => ?_
          refine ok_block ?_
          refine ok_seq fun K22 h22 => ok_region rfl (q_ia el29 rfl rfl (by omega) (mget hq') (q_lds _ ag45 rfl sz45 (q_alloc _ ze45 rfl rfl rfl rfl (q_sts _ rfl rfl rfl sz45 (Nat.le_of_ble_eq_true rfl) rfl (run_nil (h22 _ ?_)))))); clear h22 K22
          refine ok_seq fun K23 h23 => ok_region rfl (q_fap fd45_2 rfl (by decide) (q_ldb _ ag40 rfl rfl rfl (q_len eS40 rfl (q_mv _ rfl (run_nil (h23 _ ?_)))))); clear h23 K23
          rw [hlt]
          refine ok_block ?_
          refine ok_loop (fun (m : Nat) => ⟨[(1, .sv (.ptr (eRing r))), (4, .ptr 4 0), (6, .ptr 6 0), (24, .sv (.sl 3 (r.nodes.map eRingNode))), (25, .sv (int r.nodes.length)), (26, .sv (int k)), (54, .sv (.sl 3 ((r.nodes.take k).map eRingNode))), (55, .sv (int k)), (56, .sv (int j)), (61, .sv (ints n.toks)), (62, .sv (int n.toks.length)), (63, .sv (int m))], [(4, .box [.sv (str n.id), .sv (int n.st), .sv (ints n.toks)]), (6, .box [.sv (str q.id), .sv (int q.st), .sv (ints q.toks)])]⟩)
            (fun m => ∀ i, i < m → i < n.toks.length → n.toks.getD i 0 ∉ q.toks) (fun m => n.toks.length - m) 0 (fun i h => by omega) (le_sub ⟨rfl, rfl, rfl, rfl, rfl, rfl, rfl, rfl, rfl, rfl, rfl, rfl, trivial⟩ ⟨rfl, rfl, trivial⟩) (fun m J3 => ?_)
          refine ok_seq fun K24 h24 => ok_region rfl (q_bin _ _ _ rfl rfl rfl (run_nil (h24 _ ?_))); clear h24 K24
          refine ok_seq fun K25 h25 => ?_
          refine ok_cond rfl (fun c26 => ?_) (fun c26 => ?_)
          · refine ok_skip (h25 _ ?_)
            have hm : m < n.toks.length := by simpa using c26
            have hnt := hsn.2
            refine ok_seq fun K27 h27 => ?_
            refine ok_block ?_
            refine ok_seq fun K28 h28 => ok_region rfl (q_ia (s := int (n.toks.getD m 0)) el40 rfl rfl (by omega) (iget (iget' hm)) (q_ld _ ag3 rfl rfl (q_as _ rfl (run_nil (h28 _ ?_))))); clear h28 K28
            refine ok_seq fun K29 h29 => ok_region rfl (q_fap fd45_2 rfl (by decide) (q_ldb _ ag40 rfl rfl rfl (q_mv _ rfl (q_call (f125_ok q.toks (n.toks.getD m 0) hsq.2) cl125 rfl rfl (run_nil (h29 _ ?_)))))); clear h29 K29
            refine ok_cond rfl (fun c30 => ?_) (fun c30 => ?_)
            · refine ok_seq fun K31 h31 => ok_region rfl (q_as _ rfl (run_nil (h31 _ ?_)))
              refine ok_ret ⟨_, rfl, ?_⟩
              rw [pB_false]; · rfl
              rintro ⟨_, _, _, a4⟩
              exact (a4 k n hn).2.2 j q hj hq _ (List.mem_of_getElem? (iget' hm)) (of_decide_eq_true c30)
            · refine ok_skip (h27 _ ?_)
              refine ok_region rfl (q_add rfl rfl (by omega) (q_mv _ rfl (run_nil (⟨m + 1, by omega, fun i h1 h2 => ?_, le_sub ⟨rfl, rfl, rfl, rfl, rfl, rfl, rfl, rfl, rfl, rfl, rfl, rfl, trivial⟩ ⟨rfl, rfl, trivial⟩⟩))))
              rcases Nat.lt_or_ge i m with h | h
              · exact J3 i h h2
              · obtain rfl : i = m := by omega
                exact of_decide_eq_false c30
          · refine ok_exit (h21 _ ?_)
            have hm : n.toks.length ≤ m := by simpa using c26
            refine ok_region rfl (q_add rfl rfl (by omega) (q_mv _ rfl (run_nil (⟨j + 1, by omega, fun i q' h1 hq1 t ht => ?_, le_sub ⟨rfl, rfl, rfl, rfl, rfl, rfl, rfl, rfl, trivial⟩ ⟨rfl, trivial⟩⟩))))
            rcases Nat.lt_or_ge i j with h | h
            · exact J2 i q' h hq1 t ht
            · obtain rfl : i = j := by omega
              rw [hq] at hq1; cases hq1
              obtain ⟨x, hx⟩ := List.getElem?_of_mem ht
              have hxl := (List.getElem?_eq_some_iff.1 hx).1
              have e3 : n.toks.getD x 0 = t := by rw [List.getD_eq_getElem?_getD, hx]; rfl
              rw [← e3]; exact J3 x (by omega) hxl
        · refine ok_exit (h11 _ ?_)
          have hj : k ≤ j := by simpa using c20
          refine ok_region rfl (q_add rfl rfl (by omega) (q_mv _ rfl (run_nil (⟨k + 1, by omega, fun i n' h1 hn' => ?_, le_sub ⟨rfl, rfl, rfl, rfl, trivial⟩ trivial⟩))))
          rcases Nat.lt_or_ge i k with h | h
          · exact J i n' h hn'
          · obtain rfl : i = k := by omega
            rw [hn] at hn'; cases hn'
            exact ⟨b1', b2', fun i q h1 hq => J2 i q (by omega) hq⟩
    · refine ok_exit (h6 _ ?_)
      have hk : r.nodes.length ≤ k := by simpa using c10
      refine ok_seq fun K32 h32 => ok_region rfl (q_as _ rfl (run_nil (h32 _ ?_))); clear h32 K32
      refine ok_ret ⟨_, rfl, ?_⟩
      rw [pB_true]; · rfl
      exact ⟨by omega, by omega, by omega, fun i n hn => J i n (by have := (List.getElem?_eq_some_iff.1 hn).1; omega) hn⟩
end Go.Ring

/- Times, values, labels, samples: what both programs ask of them. No condition. -/
namespace Go.Ring
open Go Go.RowKit Go.Eager Go.Abs Go.Proofs
set_option maxRecDepth 100000
set_option linter.unusedVariables false
set_option linter.unusedSimpArgs false
def TimeOk (t : Int) : Prop := 0 ≤ t ∧ t ≤ 1000000000000
def prB (c : UInt8) : Bool := !(decide ((c.toNat : Int) < 32) || decide (126 < (c.toNat : Int)))
def printedB (s : ByteArray) : Bool := s.data.toList.all prB
def valueB (s : ByteArray) : Bool := decide (1 ≤ s.size) && decide (s.size ≤ 100) && printedB s
def cmpB (a b : ByteArray) : Int := cmpT a.data.toList b.data.toList
def LabelAt (l : List Label) (i : Nat) (x : Label) : Prop := nameB x.name = true ∧ valueB x.value = true ∧ ∀ p, 0 < i → l[i - 1]? = some p → cmpB p.name x.name < 0
def LabelsOk (l : List Label) : Prop := l.length ≤ 20 ∧ ∀ i x, l[i]? = some x → LabelAt l i x
def SampleAt (l : List Sample) (i : Nat) (x : Sample) : Prop := TimeOk x.time ∧ ∀ p, 0 < i → l[i - 1]? = some p → p.time < x.time
def SamplesOk (l : List Sample) : Prop := l.length ≤ 2000 ∧ ∀ i x, l[i]? = some x → SampleAt l i x
theorem ne_empty (s : ByteArray) : (!decide (s.data.toList = (⟨#[]⟩ : ByteArray).data.toList)) = decide (1 ≤ s.size) := by
  have h := size_list s
  rw [← h]
  cases s.data.toList with
  | nil => rfl
  | cons a l => simp
theorem cmpB_less (a b : ByteArray) : Op.bytesLess a.data.toList b.data.toList = decide (cmpB a b < 0) := cmpT_less _ _
theorem at_step {α : Type} {l : List α} {P : Nat → α → Prop} {k : Nat} {x : α} (J : ∀ i y, i < k → l[i]? = some y → P i y) (hx : l[k]? = some x) (h : P k x) : ∀ i y, i < k + 1 → l[i]? = some y → P i y := by
  intro i y hi hy
  rcases Nat.lt_or_ge i k with h1 | h1
  · exact J i y h1 hy
  · obtain rfl : i = k := by omega
    rw [hx] at hy; cases hy; exact h
theorem at_all {α : Type} {l : List α} {P : Nat → α → Prop} {k : Nat} (J : ∀ i y, i < k → l[i]? = some y → P i y) (hk : l.length ≤ k) : ∀ i y, l[i]? = some y → P i y := fun i y hy => J i y (by have := slt hy; omega) hy
/-- The element ahead of k, if there is one. -/
theorem prev {α : Type} {l : List α} {k : Nat} (hk : k < l.length) : ∃ p, 0 < k → l[k - 1]? = some p := by
  rcases Nat.eq_zero_or_pos k with h | h
  · exact ⟨l[k], fun h' => by omega⟩
  · exact ⟨l[k - 1]'(by omega), fun _ => List.getElem?_eq_getElem (by omega)⟩
theorem pget {α : Type} {f : α → SV} {l : List α} {k : Nat} {p : α} (hp : 0 < k → l[k - 1]? = some p) (h : 0 < k) : (l.map f)[((k : Int) - 1).toNat]? = some (f p) := by
  rw [show ((k : Int) - 1).toNat = k - 1 by omega]; exact mget (hp h)
theorem f78_ok (t : Int) : PFn Tryz.prog 78 [int t] (bool (pB (TimeOk t))) := by
  refine fn_ok' (n := 9) Tryz.func78 rfl rfl rfl (Nat.le_of_ble_eq_true rfl) rfl fun w0 O => ?_
  refine ok_seq fun K1 h1 => ok_region rfl (q_as _ rfl (run_nil (h1 _ ?_))); clear h1 K1
  refine ok_seq fun K2 h2 => ?_
  refine ok_region rfl (q_mv _ rfl (q_bin _ _ _ rfl rfl rfl (q_mv _ rfl (q_and 2 2 rfl rfl rfl rfl rfl (fun hb8 =>
      q_mv _ rfl (q_bin _ _ _ rfl rfl rfl (run_nil ⟨rfl, rfl, rfl, rfl⟩))) (
    q_as _ rfl (run_nil (h2 _ ?_)))))))
  clear h2 K2
  refine ok_ret ⟨_, rfl, ?_⟩
  unfold TimeOk
  by_cases h1 : 0 ≤ t <;> by_cases h2 : t ≤ 1000000000000 <;> simp [tupSV, pB, h1, h2]
theorem f85_ok (t : Int) : PFn Tryz.prog 85 [int t] (bool (pB (TimeOk t))) := by
  refine fn_ok' (n := 9) Tryz.func85 rfl rfl rfl (Nat.le_of_ble_eq_true rfl) rfl fun w0 O => ?_
  refine ok_seq fun K1 h1 => ok_region rfl (q_as _ rfl (run_nil (h1 _ ?_))); clear h1 K1
  refine ok_seq fun K2 h2 => ?_
  refine ok_region rfl (q_mv _ rfl (q_bin _ _ _ rfl rfl rfl (q_mv _ rfl (q_and 2 2 rfl rfl rfl rfl rfl (fun hb8 =>
      q_mv _ rfl (q_bin _ _ _ rfl rfl rfl (run_nil ⟨rfl, rfl, rfl, rfl⟩))) (
    q_as _ rfl (run_nil (h2 _ ?_)))))))
  clear h2 K2
  refine ok_ret ⟨_, rfl, ?_⟩
  unfold TimeOk
  by_cases h1 : 0 ≤ t <;> by_cases h2 : t ≤ 1000000000000 <;> simp [tupSV, pB, h1, h2]
theorem f172_ok (s : ByteArray) (hs : s.size ≤ 1048576) : PFn Tryz.prog 172 [str s] (bool (printedB s)) := by
  refine fn_ok' (n := 20) Tryz.func172 rfl rfl rfl (Nat.le_of_ble_eq_true rfl) rfl fun w0 O => ?_
  refine ok_seq fun K1 h1 => ok_region rfl (q_as _ rfl (run_nil (h1 _ ?_))); clear h1 K1
  refine ok_seq fun K2 h2 => ?_
  refine ok_seq fun K3 h3 => ok_region rfl (q_as _ rfl (run_nil (h3 _ ?_))); clear h3 K3
  refine ok_block ?_
  refine ok_loop (fun (k : Nat) => ⟨[(0, .sv (str s)), (3, .sv (int k))], []⟩) (fun k => (s.data.toList.take k).all prB = true) (fun k => s.size - k) 0 rfl (le_same ⟨rfl, rfl, trivial⟩) (fun k J => ?_)
  refine ok_seq fun K4 h4 => ?_
  refine ok_seq fun K5 h5 => ok_region rfl (q_mv _ rfl (q_mv _ rfl (q_lens st9 rfl (q_bin _ _ _ rfl rfl rfl (run_nil (h5 _ ?_)))))); clear h5 K5
  refine ok_cond rfl (fun c6 => ?_) (fun c6 => ?_)
  · refine ok_skip (h4 _ ?_)
    have hk : k < s.size := by simpa using c6
    obtain ⟨c, hc⟩ : ∃ c, s.data.toList[k]? = some c := ⟨_, bget' hk⟩
    refine ok_seq fun K7 h7 => ?_
    refine ok_block ?_
    refine ok_seq fun K8 h8 => ?_
    refine ok_region rfl (q_mv _ rfl (q_mv _ rfl (q_ix st9 rfl rfl (by omega) (bget hc) (q_bin _ _ _ rfl rfl rfl (q_mv _ rfl (q_or 4 4 rfl rfl rfl rfl rfl (fun hb19 =>
        q_mv _ rfl (q_mv _ rfl (q_ix st9 rfl rfl (by omega) (bget hc) (q_bin _ _ _ rfl rfl rfl (run_nil ⟨rfl, rfl, rfl, rfl⟩))))) (
      run_nil (h8 _ ?_))))))))
    clear h8 K8
    refine ok_cond rfl (fun c9 => ?_) (fun c9 => ?_)
    · refine ok_seq fun K10 h10 => ?_
      refine ok_region rfl (q_as _ rfl (run_nil (h10 _ ?_)))
      clear h10 K10
      refine ok_ret ⟨_, rfl, ?_⟩
      have : printedB s = false := all_not hc (by simp only [prB]; rw [show (decide ((c.toNat : Int) < 32) || decide (126 < (c.toNat : Int))) = true from c9]; rfl)
      rw [this]; rfl
    · refine ok_skip (h7 _ ?_)
      refine ok_region rfl (q_mv _ rfl (q_add rfl rfl (by omega) (q_as _ rfl (run_nil (⟨k + 1, by omega, all_step hc J (by simp only [prB]; rw [show (decide ((c.toNat : Int) < 32) || decide (126 < (c.toNat : Int))) = false from c9]; rfl), le_same ⟨rfl, rfl, trivial⟩⟩)))))
  · refine ok_exit (h2 _ ?_)
    refine ok_seq fun K11 h11 => ok_region rfl (q_as _ rfl (run_nil (h11 _ ?_))); clear h11 K11
    refine ok_ret ⟨_, rfl, ?_⟩
    have hk : s.size ≤ k := by simpa using c6
    rw [List.take_of_length_le (by rw [size_list]; exact hk)] at J
    rw [show printedB s = true from J]; rfl
theorem f227_ok (s : ByteArray) (hs : s.size ≤ 1048576) (m : Int) : PFn Tryz.prog 227 [str s, int m] (bool (decide ((s.size : Int) ≤ m) && printedB s)) := by
  refine fn_ok' (n := 26) Tryz.func227 rfl rfl rfl (Nat.le_of_ble_eq_true rfl) rfl fun w0 O => ?_
  refine ok_seq fun K1 h1 => ok_region rfl (q_as _ rfl (run_nil (h1 _ ?_))); clear h1 K1
  refine ok_seq fun K2 h2 => ?_
  refine ok_seq fun K3 h3 => ok_region rfl (q_mv _ rfl (q_lens st9 rfl (q_mv _ rfl (q_bin _ _ _ rfl rfl rfl (run_nil (h3 _ ?_)))))); clear h3 K3
  refine ok_cond rfl (fun c4 => ?_) (fun c4 => ?_)
  · refine ok_seq fun K5 h5 => ?_
    refine ok_region rfl (q_as _ rfl (run_nil (h5 _ ?_)))
    clear h5 K5
    refine ok_ret ⟨_, rfl, ?_⟩
    have c := of_decide_eq_true c4
    rw [decide_eq_false (by omega)]; rfl
  · refine ok_skip (h2 _ ?_)
    refine ok_seq fun K6 h6 => ?_
    refine ok_seq fun K7 h7 => ok_region rfl (q_mv _ rfl (q_lens st9 rfl (q_mv _ rfl (run_nil (h7 _ ?_))))); clear h7 K7
    refine ok_block ?_
    refine ok_loop (fun (k : Nat) => ⟨[(0, .sv (str s)), (11, .sv (int s.size)), (12, .sv (int k))], []⟩) (fun k => (s.data.toList.take k).all prB = true) (fun k => s.size - k) 0 rfl (le_same ⟨rfl, rfl, rfl, trivial⟩) (fun k J => ?_)
    refine ok_seq fun K8 h8 => ok_region rfl (q_bin _ _ _ rfl rfl rfl (run_nil (h8 _ ?_))); clear h8 K8
    refine ok_seq fun K9 h9 => ?_
    refine ok_cond rfl (fun c10 => ?_) (fun c10 => ?_)
    · refine ok_skip (h9 _ ?_)
      have hk : k < s.size := by simpa using c10
      obtain ⟨c, hc⟩ : ∃ c, s.data.toList[k]? = some c := ⟨_, bget' hk⟩
      refine ok_seq fun K11 h11 => ?_
      refine ok_block ?_
      refine ok_seq fun K12 h12 => ok_region rfl (q_mv _ rfl (q_as _ rfl (run_nil (h12 _ ?_)))); clear h12 K12
      refine ok_seq fun K13 h13 => ?_
      refine ok_region rfl (q_mv _ rfl (q_mv _ rfl (q_ix st9 rfl rfl (by omega) (bget hc) (q_bin _ _ _ rfl rfl rfl (q_mv _ rfl (q_or 4 4 rfl rfl rfl rfl rfl (fun hb24 =>
          q_mv _ rfl (q_mv _ rfl (q_ix st9 rfl rfl (by omega) (bget hc) (q_bin _ _ _ rfl rfl rfl (run_nil ⟨rfl, rfl, rfl, rfl⟩))))) (
        run_nil (h13 _ ?_))))))))
      clear h13 K13
      refine ok_cond rfl (fun c14 => ?_) (fun c14 => ?_)
      · refine ok_seq fun K15 h15 => ?_
        refine ok_region rfl (q_as _ rfl (run_nil (h15 _ ?_)))
        clear h15 K15
        refine ok_ret ⟨_, rfl, ?_⟩
        have : printedB s = false := all_not hc (by simp only [prB]; rw [show (decide ((c.toNat : Int) < 32) || decide (126 < (c.toNat : Int))) = true from c14]; rfl)
        rw [this, Bool.and_false]; rfl
      · refine ok_skip (h11 _ ?_)
        refine ok_region rfl (q_add rfl rfl (by omega) (q_mv _ rfl (run_nil (⟨k + 1, by omega, all_step hc J (by simp only [prB]; rw [show (decide ((c.toNat : Int) < 32) || decide (126 < (c.toNat : Int))) = false from c14]; rfl), le_same ⟨rfl, rfl, rfl, trivial⟩⟩))))
    · refine ok_exit (h6 _ ?_)
      refine ok_seq fun K16 h16 => ok_region rfl (q_as _ rfl (run_nil (h16 _ ?_))); clear h16 K16
      refine ok_ret ⟨_, rfl, ?_⟩
      have hk : s.size ≤ k := by simpa using c10
      rw [List.take_of_length_le (by rw [size_list]; exact hk)] at J
      have c := of_decide_eq_false c4
      rw [show printedB s = true from J, decide_eq_true (by omega)]; rfl
theorem f203_ok (s : ByteArray) (hs : s.size ≤ 1048576) : PFn Tryz.prog 203 [str s] (bool (valueB s)) := by
  refine fn_ok' (n := 15) Tryz.func203 rfl rfl rfl (Nat.le_of_ble_eq_true rfl) rfl fun w0 O => ?_
  refine ok_seq fun K1 h1 => ok_region rfl (q_as _ rfl (run_nil (h1 _ ?_))); clear h1 K1
  refine ok_seq fun K2 h2 => ?_
  refine ok_region rfl (q_mv _ rfl (q_lens st9 rfl (q_bin _ _ _ rfl rfl rfl (q_mv _ rfl (q_and 3 3 rfl rfl rfl rfl rfl (fun hb10 =>
      q_mv _ rfl (q_lens st9 rfl (q_bin _ _ _ rfl rfl rfl (run_nil ⟨rfl, rfl, rfl, rfl⟩)))) (
    q_mv _ rfl (q_and 2 2 rfl rfl rfl rfl rfl (fun hb14 =>
      q_mv _ rfl (q_call (f172_ok s hs) cl172 rfl rfl (run_nil ⟨rfl, rfl, rfl, rfl⟩))) (
    q_as _ rfl (run_nil (h2 _ ?_))))))))))
  clear h2 K2
  refine ok_ret ⟨_, rfl, ?_⟩
  simp only [tupSV, valueB]
  rw [show decide ((s.size : Int) ≥ 1) = decide (1 ≤ s.size) by rw [decide_eq_decide]; omega, show decide ((s.size : Int) ≤ 100) = decide (s.size ≤ 100) by rw [decide_eq_decide]; omega]
theorem f211_ok (s : ByteArray) (hs : s.size ≤ 1048576) : PFn Tryz.prog 211 [str s] (bool (valueB s)) := by
  refine fn_ok' (n := 9) Tryz.func211 rfl rfl rfl (Nat.le_of_ble_eq_true rfl) rfl fun w0 O => ?_
  refine ok_seq fun K1 h1 => ok_region rfl (q_as _ rfl (run_nil (h1 _ ?_))); clear h1 K1
  refine ok_seq fun K2 h2 => ?_
  refine ok_region rfl (q_mv _ rfl (q_bin _ _ _ rfl rfl rfl (q_mv _ rfl (q_and 2 2 rfl rfl rfl rfl rfl (fun hb8 =>
      q_mv _ rfl (q_call (f227_ok s hs 100) cl227 rfl rfl (run_nil ⟨rfl, rfl, rfl, rfl⟩))) (
    q_as _ rfl (run_nil (h2 _ ?_)))))))
  clear h2 K2
  refine ok_ret ⟨_, rfl, ?_⟩
  simp only [tupSV, valueB]
  rw [show decide ((s.size : Int) ≤ 100) = decide (s.size ≤ 100) by rw [decide_eq_decide]; omega, Bool.and_assoc]
  exact congrArg (fun b => SV.raw (.bool (b && (decide (s.size ≤ 100) && printedB s)))) (ne_empty s)
theorem f148_ok (l : List Label) (hl : l.length ≤ 1048576 ∧ ∀ y ∈ l, SLabel y) : PFn Tryz.prog 148 [eLabelS l] (bool (pB (LabelsOk l))) := by
  obtain ⟨hl1, hl2⟩ := hl
  refine fn_ok' (n := 42) Tryz.func148 rfl rfl rfl (Nat.le_of_ble_eq_true rfl) rfl fun w0 O => ?_
  refine ok_seq fun K1 h1 => ok_region rfl (q_as _ rfl (run_nil (h1 _ ?_))); clear h1 K1
  refine ok_seq fun K2 h2 => ?_
  refine ok_seq fun K3 h3 => ok_region rfl (q_mv _ rfl (q_len eS78 rfl (q_bin _ _ _ rfl rfl rfl (run_nil (h3 _ ?_))))); clear h3 K3
  refine ok_cond rfl (fun c4 => ?_) (fun c4 => ?_)
  · refine ok_seq fun K5 h5 => ?_
    refine ok_region rfl (q_as _ rfl (run_nil (h5 _ ?_)))
    clear h5 K5
    refine ok_ret ⟨_, rfl, ?_⟩
    have c := of_decide_eq_true c4
    rw [List.length_map] at c
    rw [pB_false (fun h => by have := h.1; omega)]; rfl
  · refine ok_skip (h2 _ ?_)
    have hl3 := of_decide_eq_false c4
    refine ok_seq fun K6 h6 => ?_
    refine ok_seq fun K7 h7 => ok_region rfl (q_mv _ rfl (q_len eS78 rfl (q_mv _ rfl (run_nil (h7 _ ?_))))); clear h7 K7
    rw [List.length_map] at *
    refine ok_block ?_
    refine ok_loop (fun (k : Nat) => ⟨[(0, .sv (eLabelS l)), (8, .sv (eLabelS l)), (9, .sv (int l.length)), (10, .sv (int k))], []⟩) (fun k => ∀ i y, i < k → l[i]? = some y → LabelAt l i y) (fun k => l.length - k) 0 (fun i y h => by omega) (le_same ⟨rfl, rfl, rfl, rfl, trivial⟩) (fun k J => ?_)
    refine ok_seq fun K8 h8 => ok_region rfl (q_bin _ _ _ rfl rfl rfl (run_nil (h8 _ ?_))); clear h8 K8
    refine ok_seq fun K9 h9 => ?_
    refine ok_cond rfl (fun c10 => ?_) (fun c10 => ?_)
    · refine ok_skip (h9 _ ?_)
      have hk : k < l.length := by simpa using c10
      obtain ⟨u, hu⟩ := sget hk
      obtain ⟨p, hp⟩ := prev hk
      refine ok_seq fun K11 h11 => ?_
      refine ok_block ?_
      refine ok_seq fun K12 h12 => ok_region rfl (q_mv _ rfl (q_ia el78 rfl rfl (by omega) (mget hu) (q_lds _ ag190 rfl sz190 (q_alloc _ ze190 rfl rfl rfl rfl (q_as _ rfl (q_sts _ rfl rfl rfl sz190 (Nat.le_of_ble_eq_true rfl) rfl (run_nil (h12 _ ?_)))))))); clear h12 K12
      refine ok_seq fun K13 h13 => ?_
      refine ok_region_i (by kernel_rfl) (by kernel_rfl) rfl (
        q_fap fd190_0 rfl (by decide) (q_ldb _ ag9 rfl rfl rfl (q_call (f171_ok u.name (hl2 u (smem hu)).1) cl171 rfl rfl (q_un _ _ rfl rfl (q_mv _ rfl (q_or 4 4 rfl rfl rfl rfl rfl (fun hb24 =>
          q_fap fd190_1 rfl (by decide) (q_ldb _ ag9 rfl rfl rfl (q_call (f203_ok u.value (hl2 u (smem hu)).2) cl203 rfl rfl (q_un _ _ rfl rfl (run_nil ⟨rfl, rfl, rfl, rfl⟩))))) (
        q_mv _ rfl (q_or 14 4 rfl rfl rfl rfl rfl (fun hb40 =>
          q_mv _ rfl (q_bin _ _ _ rfl rfl rfl (q_mv _ rfl (q_and 10 10 rfl rfl rfl rfl rfl (fun hb39 =>
            q_mv _ rfl (q_mv _ rfl (q_sub rfl rfl (by omega) (q_ia el78 rfl rfl (by have := of_decide_eq_true hb39; omega) (pget hp (by have := of_decide_eq_true hb39; omega)) (q_fa _ fd190_0 rfl rfl (by decide) (q_ld _ ag9 rfl rfl (q_fap fd190_0 rfl (by decide) (
            q_ldb _ ag9 rfl rfl rfl (q_call (f66_ok p.name u.name (hl2 p (smem (hp (by have := of_decide_eq_true hb39; omega)))).1 (hl2 u (smem hu)).1) cl66 rfl rfl (q_bin _ _ _ rfl rfl rfl (run_nil ⟨rfl, rfl, rfl, rfl⟩))))))))))) (
          run_nil ⟨rfl, rfl, rfl, rfl⟩))))) (
        run_nil (h13 _ ?_))))))))))
      clear h13 K13
      refine ok_cond rfl (fun c14 => ?_) (fun c14 => ?_)
      · refine ok_seq fun K15 h15 => ?_
        refine ok_region rfl (q_as _ rfl (run_nil (h15 _ ?_)))
        clear h15 K15
        refine ok_ret ⟨_, rfl, ?_⟩
        rw [pB_false]; · rfl
        rintro ⟨_, h⟩
        obtain ⟨d1, d2, d3⟩ := h k u hu
        rw [d1, d2] at c14
        simp only [Bool.not_true, Bool.false_or, Bool.and_eq_true, decide_eq_true_eq] at c14
        have := d3 p (by omega) (hp (by omega))
        unfold cmpB at this; omega
      · refine ok_skip (h11 _ ?_)
        refine ok_region rfl (q_add rfl rfl (by omega) (q_mv _ rfl (run_nil (⟨k + 1, by omega, ?_, le_sub ⟨rfl, rfl, rfl, rfl, trivial⟩ trivial⟩))))
        refine at_step J hu ?_
        simp only [Bool.or_eq_false_iff, Bool.not_eq_false', Bool.and_eq_false_iff, decide_eq_false_iff_not, decide_eq_true_eq] at c14
        obtain ⟨⟨d1, d2⟩, d3⟩ := c14
        refine ⟨d1, d2, fun q h0 hq => ?_⟩
        rw [hp h0] at hq; cases hq
        unfold cmpB; omega
    · refine ok_exit (h6 _ ?_)
      refine ok_seq fun K16 h16 => ok_region rfl (q_as _ rfl (run_nil (h16 _ ?_))); clear h16 K16
      refine ok_ret ⟨_, rfl, ?_⟩
      have hk : l.length ≤ k := by simpa using c10
      rw [pB_true ⟨by omega, at_all J hk⟩]; rfl
theorem f158_ok (l : List Label) (hl : l.length ≤ 1048576 ∧ ∀ y ∈ l, SLabel y) : PFn Tryz.prog 158 [eLabelS l] (bool (pB (LabelsOk l))) := by
  obtain ⟨hl1, hl2⟩ := hl
  refine fn_ok' (n := 41) Tryz.func158 rfl rfl rfl (Nat.le_of_ble_eq_true rfl) rfl fun w0 O => ?_
  refine ok_seq fun K1 h1 => ok_region rfl (q_as _ rfl (run_nil (h1 _ ?_))); clear h1 K1
  refine ok_seq fun K2 h2 => ?_
  refine ok_seq fun K3 h3 => ok_region rfl (q_mv _ rfl (q_len eS78 rfl (q_bin _ _ _ rfl rfl rfl (run_nil (h3 _ ?_))))); clear h3 K3
  refine ok_cond rfl (fun c4 => ?_) (fun c4 => ?_)
  · refine ok_seq fun K5 h5 => ?_
    refine ok_region rfl (q_as _ rfl (run_nil (h5 _ ?_)))
    clear h5 K5
    refine ok_ret ⟨_, rfl, ?_⟩
    have c := of_decide_eq_true c4
    rw [List.length_map] at c
    rw [pB_false (fun h => by have := h.1; omega)]; rfl
  · refine ok_skip (h2 _ ?_)
    have hl3 := of_decide_eq_false c4
    refine ok_seq fun K6 h6 => ?_
    refine ok_seq fun K7 h7 => ok_region rfl (q_mv _ rfl (q_len eS78 rfl (q_mv _ rfl (run_nil (h7 _ ?_))))); clear h7 K7
    rw [List.length_map] at *
    refine ok_block ?_
    refine ok_loop (fun (k : Nat) => ⟨[(0, .sv (eLabelS l)), (8, .sv (eLabelS l)), (9, .sv (int l.length)), (10, .sv (int k))], []⟩) (fun k => ∀ i y, i < k → l[i]? = some y → LabelAt l i y) (fun k => l.length - k) 0 (fun i y h => by omega) (le_same ⟨rfl, rfl, rfl, rfl, trivial⟩) (fun k J => ?_)
    refine ok_seq fun K8 h8 => ok_region rfl (q_bin _ _ _ rfl rfl rfl (run_nil (h8 _ ?_))); clear h8 K8
    refine ok_seq fun K9 h9 => ?_
    refine ok_cond rfl (fun c10 => ?_) (fun c10 => ?_)
    · refine ok_skip (h9 _ ?_)
      have hk : k < l.length := by simpa using c10
      obtain ⟨u, hu⟩ := sget hk
      obtain ⟨p, hp⟩ := prev hk
      refine ok_seq fun K11 h11 => ?_
      refine ok_block ?_
      refine ok_seq fun K12 h12 => ok_region rfl (q_mv _ rfl (q_ia el78 rfl rfl (by omega) (mget hu) (q_lds _ ag190 rfl sz190 (q_alloc _ ze190 rfl rfl rfl rfl (q_as _ rfl (q_sts _ rfl rfl rfl sz190 (Nat.le_of_ble_eq_true rfl) rfl (run_nil (h12 _ ?_)))))))); clear h12 K12
      refine ok_seq fun K13 h13 => ?_
      refine ok_region_i (by kernel_rfl) (by kernel_rfl) rfl (
        q_fap fd190_0 rfl (by decide) (q_ldb _ ag9 rfl rfl rfl (q_call (f195_ok u.name (hl2 u (smem hu)).1) cl195 rfl rfl (q_un _ _ rfl rfl (q_mv _ rfl (q_or 4 4 rfl rfl rfl rfl rfl (fun hb24 =>
          q_fap fd190_1 rfl (by decide) (q_ldb _ ag9 rfl rfl rfl (q_call (f211_ok u.value (hl2 u (smem hu)).2) cl211 rfl rfl (q_un _ _ rfl rfl (run_nil ⟨rfl, rfl, rfl, rfl⟩))))) (
        q_mv _ rfl (q_or 13 4 rfl rfl rfl rfl rfl (fun hb39 =>
          q_mv _ rfl (q_bin _ _ _ rfl rfl rfl (q_mv _ rfl (q_and 9 9 rfl rfl rfl rfl rfl (fun hb38 =>
            q_mv _ rfl (q_mv _ rfl (q_sub rfl rfl (by omega) (q_ia el78 rfl rfl (by have := of_decide_eq_true hb38; omega) (pget hp (by have := of_decide_eq_true hb38; omega)) (q_fa _ fd190_0 rfl rfl (by decide) (q_ld _ ag9 rfl rfl (q_fap fd190_0 rfl (by decide) (
            q_ldb _ ag9 rfl rfl rfl (q_bin _ _ _ rfl rfl rfl (run_nil ⟨rfl, rfl, rfl, rfl⟩)))))))))) (
          run_nil ⟨rfl, rfl, rfl, rfl⟩))))) (
        run_nil (h13 _ ?_))))))))))
      clear h13 K13
      refine ok_cond rfl (fun c14 => ?_) (fun c14 => ?_)
      · refine ok_seq fun K15 h15 => ?_
        refine ok_region rfl (q_as _ rfl (run_nil (h15 _ ?_)))
        clear h15 K15
        refine ok_ret ⟨_, rfl, ?_⟩
        rw [pB_false]; · rfl
        rintro ⟨_, h⟩
        obtain ⟨d1, d2, d3⟩ := h k u hu
        rw [d1, d2] at c14
        simp only [Bool.not_true, Bool.false_or, Bool.and_eq_true, decide_eq_true_eq, cmpB_less, Bool.not_eq_true', decide_eq_false_iff_not] at c14
        have := d3 p (by omega) (hp (by omega))
        omega
      · refine ok_skip (h11 _ ?_)
        refine ok_region rfl (q_add rfl rfl (by omega) (q_mv _ rfl (run_nil (⟨k + 1, by omega, ?_, le_sub ⟨rfl, rfl, rfl, rfl, trivial⟩ trivial⟩))))
        refine at_step J hu ?_
        simp only [Bool.or_eq_false_iff, Bool.not_eq_false', Bool.and_eq_false_iff, decide_eq_false_iff_not, decide_eq_true_eq, cmpB_less] at c14
        obtain ⟨⟨d1, d2⟩, d3⟩ := c14
        refine ⟨d1, d2, fun q h0 hq => ?_⟩
        rw [hp h0] at hq; cases hq
        rcases d3 with d3 | d3
        · omega
        · exact d3
    · refine ok_exit (h6 _ ?_)
      refine ok_seq fun K16 h16 => ok_region rfl (q_as _ rfl (run_nil (h16 _ ?_))); clear h16 K16
      refine ok_ret ⟨_, rfl, ?_⟩
      have hk : l.length ≤ k := by simpa using c10
      rw [pB_true ⟨by omega, at_all J hk⟩]; rfl
theorem f175_ok (l : List Sample) (hl : l.length ≤ 1048576) : PFn Tryz.prog 175 [eSampleS l] (bool (pB (SamplesOk l))) := by
  refine fn_ok' (n := 35) Tryz.func175 rfl rfl rfl (Nat.le_of_ble_eq_true rfl) rfl fun w0 O => ?_
  refine ok_seq fun K1 h1 => ok_region rfl (q_as _ rfl (run_nil (h1 _ ?_))); clear h1 K1
  refine ok_seq fun K2 h2 => ?_
  refine ok_seq fun K3 h3 => ok_region rfl (q_mv _ rfl (q_len eS123 rfl (q_mv _ rfl (run_nil (h3 _ ?_))))); clear h3 K3
  rw [List.length_map] at *
  refine ok_block ?_
  refine ok_loop (fun (k : Nat) => ⟨[(0, .sv (eSampleS l)), (5, .sv (eSampleS l)), (6, .sv (int l.length)), (7, .sv (int k))], []⟩) (fun k => ∀ i y, i < k → l[i]? = some y → SampleAt l i y) (fun k => l.length - k) 0 (fun i y h => by omega) (le_same ⟨rfl, rfl, rfl, rfl, trivial⟩) (fun k J => ?_)
  refine ok_seq fun K4 h4 => ok_region rfl (q_bin _ _ _ rfl rfl rfl (run_nil (h4 _ ?_))); clear h4 K4
  refine ok_seq fun K5 h5 => ?_
  refine ok_cond rfl (fun c6 => ?_) (fun c6 => ?_)
  · refine ok_skip (h5 _ ?_)
    have hk : k < l.length := by simpa using c6
    obtain ⟨u, hu⟩ := sget hk
    obtain ⟨p, hp⟩ := prev hk
    refine ok_seq fun K7 h7 => ?_
    refine ok_block ?_
    refine ok_seq fun K8 h8 => ok_region rfl (q_mv _ rfl (q_ia el123 rfl rfl (by omega) (mget hu) (q_lds _ ag122 rfl sz122 (q_alloc _ ze122 rfl rfl rfl rfl (q_as _ rfl (q_sts _ rfl rfl rfl sz122 (Nat.le_of_ble_eq_true rfl) rfl (run_nil (h8 _ ?_)))))))); clear h8 K8
    refine ok_seq fun K9 h9 => ?_
    refine ok_region_i (by kernel_rfl) (by kernel_rfl) rfl (
      q_fap fd122_0 rfl (by decide) (q_ldb _ ag3 rfl rfl rfl (q_call (f78_ok u.time) cl78 rfl rfl (q_un _ _ rfl rfl (q_mv _ rfl (q_or 13 4 rfl rfl rfl rfl rfl (fun hb30 =>
        q_mv _ rfl (q_bin _ _ _ rfl rfl rfl (q_mv _ rfl (q_and 9 9 rfl rfl rfl rfl rfl (fun hb29 =>
          q_mv _ rfl (q_mv _ rfl (q_sub rfl rfl (by omega) (q_ia el123 rfl rfl (by have := of_decide_eq_true hb29; omega) (pget hp (by have := of_decide_eq_true hb29; omega)) (q_fa _ fd122_0 rfl rfl (by decide) (q_ld _ ag3 rfl rfl (q_fap fd122_0 rfl (by decide) (
          q_ldb _ ag3 rfl rfl rfl (q_bin _ _ _ rfl rfl rfl (run_nil ⟨rfl, rfl, rfl, rfl⟩)))))))))) (
        run_nil ⟨rfl, rfl, rfl, rfl⟩))))) (
      run_nil (h9 _ ?_))))))))
    clear h9 K9
    refine ok_cond rfl (fun c10 => ?_) (fun c10 => ?_)
    · refine ok_seq fun K11 h11 => ?_
      refine ok_region rfl (q_as _ rfl (run_nil (h11 _ ?_)))
      clear h11 K11
      refine ok_ret ⟨_, rfl, ?_⟩
      rw [pB_false]; · rfl
      rintro ⟨_, h⟩
      obtain ⟨d1, d3⟩ := h k u hu
      rw [pB_true d1] at c10
      simp only [Bool.not_true, Bool.false_or, Bool.and_eq_true, decide_eq_true_eq] at c10
      have := d3 p (by omega) (hp (by omega))
      omega
    · refine ok_skip (h7 _ ?_)
      refine ok_region rfl (q_add rfl rfl (by omega) (q_mv _ rfl (run_nil (⟨k + 1, by omega, ?_, le_sub ⟨rfl, rfl, rfl, rfl, trivial⟩ trivial⟩))))
      refine at_step J hu ?_
      simp only [Bool.or_eq_false_iff, Bool.not_eq_false', Bool.and_eq_false_iff, decide_eq_false_iff_not] at c10
      obtain ⟨d1, d3⟩ := c10
      refine ⟨of_pB d1, fun q h0 hq => ?_⟩
      rw [hp h0] at hq; cases hq
      omega
  · refine ok_exit (h2 _ ?_)
    refine ok_seq fun K12 h12 => ok_region rfl (q_mv _ rfl (q_len eS123 rfl (q_bin _ _ _ rfl rfl rfl (q_as _ rfl (run_nil (h12 _ ?_)))))); clear h12 K12
    refine ok_ret ⟨_, rfl, ?_⟩
    have hk : l.length ≤ k := by simpa using c6
    rw [List.length_map]
    by_cases h : l.length ≤ 2000
    · rw [pB_true ⟨h, at_all J hk⟩, decide_eq_true (by omega)]; rfl
    · rw [pB_false (fun h' => h h'.1), decide_eq_false (by omega)]; rfl
theorem f168_ok (l : List Sample) (hl : l.length ≤ 1048576) : PFn Tryz.prog 168 [eSampleS l] (bool (pB (SamplesOk l))) := by
  refine fn_ok' (n := 35) Tryz.func168 rfl rfl rfl (Nat.le_of_ble_eq_true rfl) rfl fun w0 O => ?_
  refine ok_seq fun K1 h1 => ok_region rfl (q_as _ rfl (run_nil (h1 _ ?_))); clear h1 K1
  refine ok_seq fun K2 h2 => ?_
  refine ok_seq fun K3 h3 => ok_region rfl (q_mv _ rfl (q_len eS123 rfl (q_bin _ _ _ rfl rfl rfl (run_nil (h3 _ ?_))))); clear h3 K3
  refine ok_cond rfl (fun c4 => ?_) (fun c4 => ?_)
  · refine ok_seq fun K5 h5 => ?_
    refine ok_region rfl (q_as _ rfl (run_nil (h5 _ ?_)))
    clear h5 K5
    refine ok_ret ⟨_, rfl, ?_⟩
    have c := of_decide_eq_true c4
    rw [List.length_map] at c
    rw [pB_false (fun h => by have := h.1; omega)]; rfl
  · refine ok_skip (h2 _ ?_)
    have hl3 := of_decide_eq_false c4
    refine ok_seq fun K6 h6 => ?_
    refine ok_seq fun K7 h7 => ok_region rfl (q_mv _ rfl (q_len eS123 rfl (q_mv _ rfl (run_nil (h7 _ ?_))))); clear h7 K7
    rw [List.length_map] at *
    refine ok_block ?_
    refine ok_loop (fun (k : Nat) => ⟨[(0, .sv (eSampleS l)), (8, .sv (eSampleS l)), (9, .sv (int l.length)), (10, .sv (int k))], []⟩) (fun k => ∀ i y, i < k → l[i]? = some y → SampleAt l i y) (fun k => l.length - k) 0 (fun i y h => by omega) (le_same ⟨rfl, rfl, rfl, rfl, trivial⟩) (fun k J => ?_)
    refine ok_seq fun K8 h8 => ok_region rfl (q_bin _ _ _ rfl rfl rfl (run_nil (h8 _ ?_))); clear h8 K8
    refine ok_seq fun K9 h9 => ?_
    refine ok_cond rfl (fun c10 => ?_) (fun c10 => ?_)
    · refine ok_skip (h9 _ ?_)
      have hk : k < l.length := by simpa using c10
      obtain ⟨u, hu⟩ := sget hk
      obtain ⟨p, hp⟩ := prev hk
      refine ok_seq fun K11 h11 => ?_
      refine ok_block ?_
      refine ok_seq fun K12 h12 => ok_region rfl (q_mv _ rfl (q_ia el123 rfl rfl (by omega) (mget hu) (q_lds _ ag122 rfl sz122 (q_alloc _ ze122 rfl rfl rfl rfl (q_as _ rfl (q_sts _ rfl rfl rfl sz122 (Nat.le_of_ble_eq_true rfl) rfl (run_nil (h12 _ ?_)))))))); clear h12 K12
      refine ok_seq fun K13 h13 => ?_
      refine ok_region_i (by kernel_rfl) (by kernel_rfl) rfl (
        q_fap fd122_0 rfl (by decide) (q_ldb _ ag3 rfl rfl rfl (q_call (f85_ok u.time) cl85 rfl rfl (q_un _ _ rfl rfl (q_mv _ rfl (q_or 13 4 rfl rfl rfl rfl rfl (fun hb33 =>
          q_mv _ rfl (q_bin _ _ _ rfl rfl rfl (q_mv _ rfl (q_and 9 9 rfl rfl rfl rfl rfl (fun hb32 =>
            q_mv _ rfl (q_mv _ rfl (q_sub rfl rfl (by omega) (q_ia el123 rfl rfl (by have := of_decide_eq_true hb32; omega) (pget hp (by have := of_decide_eq_true hb32; omega)) (q_fa _ fd122_0 rfl rfl (by decide) (q_ld _ ag3 rfl rfl (q_fap fd122_0 rfl (by decide) (
            q_ldb _ ag3 rfl rfl rfl (q_bin _ _ _ rfl rfl rfl (run_nil ⟨rfl, rfl, rfl, rfl⟩)))))))))) (
          run_nil ⟨rfl, rfl, rfl, rfl⟩))))) (
        run_nil (h13 _ ?_))))))))
      clear h13 K13
      refine ok_cond rfl (fun c14 => ?_) (fun c14 => ?_)
      · refine ok_seq fun K15 h15 => ?_
        refine ok_region rfl (q_as _ rfl (run_nil (h15 _ ?_)))
        clear h15 K15
        refine ok_ret ⟨_, rfl, ?_⟩
        rw [pB_false]; · rfl
        rintro ⟨_, h⟩
        obtain ⟨d1, d3⟩ := h k u hu
        rw [pB_true d1] at c14
        simp only [Bool.not_true, Bool.false_or, Bool.and_eq_true, decide_eq_true_eq] at c14
        have := d3 p (by omega) (hp (by omega))
        omega
      · refine ok_skip (h11 _ ?_)
        refine ok_region rfl (q_add rfl rfl (by omega) (q_mv _ rfl (run_nil (⟨k + 1, by omega, ?_, le_sub ⟨rfl, rfl, rfl, rfl, trivial⟩ trivial⟩))))
        refine at_step J hu ?_
        simp only [Bool.or_eq_false_iff, Bool.not_eq_false', Bool.and_eq_false_iff, decide_eq_false_iff_not] at c14
        obtain ⟨d1, d3⟩ := c14
        refine ⟨of_pB d1, fun q h0 hq => ?_⟩
        rw [hp h0] at hq; cases hq
        omega
    · refine ok_exit (h6 _ ?_)
      refine ok_seq fun K16 h16 => ok_region rfl (q_as _ rfl (run_nil (h16 _ ?_))); clear h16 K16
      refine ok_ret ⟨_, rfl, ?_⟩
      have hk : l.length ≤ k := by simpa using c10
      rw [pB_true ⟨by omega, at_all J hk⟩]; rfl
end Go.Ring
