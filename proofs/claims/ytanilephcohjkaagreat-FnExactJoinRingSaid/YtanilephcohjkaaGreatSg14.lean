/- Parts of the proof, laid together: P4 P5. No condition. -/
import Derived.Test.YtanilephcohjkaaGreatSg13
/- A node joined to a cluster: the program. No condition beyond the sizes. -/
set_option maxRecDepth 100000
set_option linter.unusedVariables false
set_option linter.unusedSimpArgs false
namespace Go.Ring
open Go Go.RowKit Go.Eager Go.Abs Go.Proofs
theorem cls3 {w0 : World} (x : Cluster) (Z1 : Nat → Prop) (v1 : Value) (Z2 : Nat → Prop) (v2 : Value) (h1 : ∀ b, Z1 b → w0.heap.size ≤ b) (h2 : ∀ b, Z2 b → w0.heap.size ≤ b) : ∀ b, Zn b (.agg [int x.ring.copies, .tr Z1 (eRingNodeS x.ring.nodes) v1, .tr Z2 (eSeriesSS x.data) v2]) → w0.heap.size ≤ b := fun b hb => by
  simp only [znA_cons, znI_raw, znI_tr, znA_nil, or_false, false_or] at hb
  exact hb.elim (h1 b) (h2 b)
set_option maxHeartbeats 4000000 in
theorem f19_t (c : Cluster) (hc : SCluster c) (hw : sumF wt c.data ≤ 1048576) (n : RingNode) (hn : SRingNode n) : PFnT Tryz.prog 19 [eCluster c, eRingNode n] (eCluster (resJ c n)) := by
  refine fnp_ok (n := 60) Tryz.func19 rfl rfl rfl (Nat.le_of_ble_eq_true rfl) rfl fun w0 O => ?_
  have znil : ∀ b, Zn b (.agg [int 0, .tr (fun _ => False) (.sl 3 []) (.slice none 0 0), .tr (fun _ => False) (.sl 1 []) (.slice none 0 0)]) → w0.heap.size ≤ b := cls3 ⟨⟨0, []⟩, []⟩ _ _ _ _ (fun b h => h.elim) (fun b h => h.elim)
  have gnil : ∀ {x : Cluster}, x = ⟨⟨0, []⟩, []⟩ → Gd (.agg [int 0, .tr (fun _ => False) (.sl 3 []) (.slice none 0 0), .tr (fun _ => False) (.sl 1 []) (.slice none 0 0)]) (eCluster x) := fun h => by subst h; exact gc_Cluster ⟨⟨0, []⟩, []⟩ fun b h => h.elim
  refine ok_seq fun K1 h1 => ok_region rfl (q_boxo (cells := [.sv (int c.ring.copies), .sv (eRingNodeS c.ring.nodes), .sv (eSeriesSS c.data)]) _ rfl (.inl ⟨_, rfl⟩) rfl rfl rfl (q_boxo (cells := [.sv (str n.id), .sv (int n.st), .sv (ints n.toks)]) _ rfl (.inl ⟨_, rfl⟩) rfl rfl rfl (q_alloc _ ze34 rfl rfl rfl rfl (run_nil (h1 _ ?_)))))
  refine ok_seq fun K2 h2 => ?_
  refine ok_seq fun K3 h3 => ?_
  refine ok_region rfl (q_ldbs (r := [int c.ring.copies, eRingNodeS c.ring.nodes, eSeriesSS c.data]) ag34 rfl rfl sz34 rfl rfl (q_call (f56_ok c hc) cl56 rfl rfl (q_un _ _ rfl rfl (q_mv _ rfl (q_or 3 3 rfl rfl rfl rfl rfl (fun hb22 =>
      q_fap fd45_1 rfl (by decide) (q_ldb (.sv (int n.st)) ag3 rfl rfl rfl (q_bin _ _ _ rfl rfl rfl (run_nil ⟨rfl, rfl, rfl, rfl⟩)))) (
    run_nil (h3 _ ?_)))))))
  refine ok_cond rfl (fun c4 => ?_) (fun c4 => ?_)
  · have e : resJ c n = ⟨⟨0, []⟩, []⟩ := by
      unfold resJ
      rw [if_neg]
      rintro ⟨g1, g2, _⟩
      rw [g1] at c4
      simp [g2] at c4
    refine ok_seq fun K5 h5 => ok_region rfl (q_bldz [] [int 0, .tr (fun _ => False) (.sl 3 []) (.slice none 0 0), .tr (fun _ => False) (.sl 1 []) (.slice none 0 0)] bz34z ⟨raw_z _ _, nil_tr 3, nil_tr 1, trivial⟩ rfl rfl rfl (q_sts _ rfl rfl rfl sz34 (Nat.le_of_ble_eq_true rfl) rfl (run_nil (h5 _ ?_))))
    exact ok_ret ⟨_, ⟨_, _, res_cells (l := [int 0, .tr (fun _ => False) (.sl 3 []) (.slice none 0 0), .tr (fun _ => False) (.sl 1 []) (.slice none 0 0)]) rfl rfl ag34 sz34 rfl, rfl, rfl⟩, gnil e, znil⟩
  · rw [Bool.or_eq_false_iff] at c4
    have g1 : pB (ClusterOk c) = true := by simpa using c4.1
    have g2 : n.st = 1 := by simpa using c4.2
    have hk := of_pB g1
    have hd := datOk hc hw hk
    have hl := hk.2.1
    have hnl := hk.1.2.2.1
    have hdl := (dat_ok hk).1
    have hp := lowN_le n.id c.ring.nodes
    have hp2 := jn_len2 (n := n) hk
    have hc' := jnC_S (n := n) hc hk hn
    have hd' := jnC_D (n := n) hd
    have hat := jnC_at (n := n) hk
    have hiff := jnC_ok (n := n) hk
    refine ok_skip (h2 _ ?_)
    by_cases h0 : c.ring.nodes = []
    · have h00 : c.data = [] := by rw [h0] at hl; exact List.eq_nil_of_length_eq_zero hl
      obtain ⟨⟨cp, ns⟩, ds⟩ := c
      simp only at h0 h00
      subst h0 h00
      refine ok_seq fun K5 h5 => ok_region rfl (q_ldbs (r := [int cp, eRingNodeS [], eSeriesSS []]) ag34 rfl rfl sz34 rfl rfl (q_callr (f57_e ⟨⟨cp, []⟩, []⟩ rfl rfl) cl57 rfl (fun r0 hr0 hz0 ha0 => ?_)))
      obtain ⟨a, ha, rfl⟩ := hr0
      refine q_sts _ rfl rfl rfl sz34 (Nat.le_of_ble_eq_true rfl) rfl (run_nil (h5 _ ?_))
      refine ok_seq fun K6 h6 => ok_region rfl (q_fap fd45_2 rfl (by decide) (q_ldb (.sv (ints n.toks)) ag40 rfl rfl rfl (q_callr (f70_t n.toks hn.2) cl70 rfl (fun r1 hr1 hz1 ha1 => ?_))))
      obtain ⟨Zt, vt, rfl⟩ := gd_sl_inv hr1
      refine q_fap fd45_2 rfl (by decide) (q_st _ sz40 rfl rfl (Nat.le_of_ble_eq_true rfl) rfl ⟨_, rfl, rfl⟩ rfl (run_nil (h6 _ ?_)))
      refine ok_seq fun K7 h7 => ok_region rfl (q_fap fd34_0 rfl (by decide) (q_fap fd31_1 rfl (by decide) (q_ldb (.sv (.raw (.slice a 0 0))) ag29 rfl rfl rfl (run_le (le_emp 3 25 rfl) (q_fap fd45_0 rfl (by decide) (q_ldb (.sv (str n.id)) ag9 rfl rfl rfl (q_call (f71_ok [] (by simp) List.Pairwise.nil n.id) cl71 rfl rfl (q_mv _ rfl (q_ext _ rfl rfl (q_ext _ rfl rfl (q_as _ rfl (q_as _ rfl (run_nil (h7 _ ?_))))))))))))))
      refine ok_seq fun K8 h8 => ?_
      refine ok_seq fun K9 h9 => ok_region rfl (q_mv _ rfl (run_nil (h9 _ ?_)))
      refine ok_cond rfl (fun c10 => ?_) (fun c10 => ?_)
      · exact absurd c10 (by simp [fndN])
      refine ok_skip (h8 _ ?_)
      refine ok_seq fun K11 h11 => ok_region rfl (q_fap fd34_0 rfl (by decide) (q_fap fd31_1 rfl (by decide) (q_ldb (.sv (.raw (.slice a 0 0))) ag29 rfl rfl rfl (q_mv (int 0) rfl (q_ldbs (r := [str n.id, int n.st, .tr Zt (ints n.toks) vt]) ag45 rfl rfl sz45 rfl rfl (
        q_lito1 _ (.agg [str n.id, int n.st, .tr Zt (ints n.toks) vt]) el29 ze45 (by decide) (by decide) rfl rfl rfl (.inl ⟨_, rfl⟩) rfl (q_insE insE74 cl74 ha rfl rfl rfl rfl (.inl ⟨_, rfl⟩) rfl rfl (fun T1 => q_fap fd34_0 rfl (by decide) (q_fap fd31_1 rfl (by decide) (q_sto sz29 rfl rfl (by show 0 + 0 + 1 < 3; omega) rfl rfl rfl (run_nil (h11 _ ?_))))))))))))
      refine ok_seq fun K12 h12 => ok_region rfl (q_fap fd34_1 rfl (by decide) (q_ldb (.sv (.raw (.slice none 0 0))) ag32 rfl rfl rfl (q_mv (int 0) rfl (
        q_lito1 _ (.raw (.slice none 0 0)) el32 ze63 (by decide) (by decide) rfl rfl rfl (.inr rfl) rfl (q_insE insE75 cl75 (.inl rfl) rfl rfl rfl rfl (.inr rfl) rfl rfl (fun T2 => q_fap fd34_1 rfl (by decide) (q_sto sz32 rfl rfl (by show 0 + 2 < 3; omega) rfl rfl rfl (run_nil (h12 _ ?_)))))))))
      have zt : ∀ b, Zt b → w0.heap.size ≤ b := fun b hb => hz1 b (.tr Zt _ vt hb)
      have J1 : Cps w0 [.agg [str n.id, int n.st, .tr Zt (ints n.toks) vt]] ((jnC ⟨⟨cp, []⟩, []⟩ n).ring.nodes.map eRingNode) := (Cps.nil w0).snoc (gc_RingNode n) (fun y hy => by simp at hy) fun b hb => by
        simp only [znA_cons, znI_raw, znI_tr, znA_nil, or_false, false_or] at hb
        exact zt b hb
      have J2 : Cps w0 [.tr (fun _ => False) (.sl 2 []) (.slice none 0 0)] ((jnC ⟨⟨cp, []⟩, []⟩ n).data.map eSeriesS) := (Cps.nil w0).snoc (s := eSeriesS []) (.tr _ _ _ _) (fun y hy => by simp at hy) fun b hb => (zn_tr hb).elim
      have X12 : ∀ y ∈ ([.tr (fun _ => False) (.sl 2 []) (.slice none 0 0)] : List SV), ∀ x ∈ ([.agg [str n.id, int n.st, .tr Zt (ints n.toks) vt]] : List SV), ∀ b, Zn b x → ¬ Zn b y := fun y hy x hx b hb hb' => by
        simp at hy; subst hy; exact zn_tr hb'
      refine Ok.le (le_rownil (r := [.raw (.slice none 0 0)]) 46 0 2 rfl rfl) ?_
      refine Ok.le (le_sub (t' := [(2, .ptr 2 0), (4, .ptr 4 0), (5, .sv (int ((lowN n.id (⟨⟨cp, []⟩, []⟩ : Cluster).ring.nodes : Nat) : Int)))]) (h' := [(46, .row 1 T2 [.tr (fun _ => False) (.sl 2 []) (.slice none 0 0)]), (39, .row 3 T1 [.agg [str n.id, int n.st, .tr Zt (ints n.toks) vt]]), (2, .box [.sv (int cp), .own 39, .own 46]), (4, .box [.sv (int 0), .sv (.raw (.slice none 0 0)), .sv (.raw (.slice none 0 0))])]) ⟨rfl, rfl, rfl, trivial⟩ ⟨rfl, rfl, rfl, rfl, trivial⟩) ?_
      generalize hcc : (⟨⟨cp, []⟩, []⟩ : Cluster) = c at *
      have hcp : cp = c.ring.copies := by rw [← hcc]
      subst hcp
      refine ok_treedb (k := 39) (n := 3) (ss := (jnC c n).ring.nodes.map eRingNode) 2 1 rfl rfl rfl J1.len J1.gd J1.ap (fun r hr b hb => .inl (J1.nw r hr b hb)) (fun Z5 v5 hZ5 hR5 hS5 hC5 => ?_)
      refine ok_treedb (k := 46) (n := 1) (ss := (jnC c n).data.map eSeriesS) 2 2 rfl rfl rfl J2.len J2.gd J2.ap (fun r hr b hb => .inl (J2.nw r hr b hb)) (fun Z6 v6 hZ6 hR6 hS6 hC6 => ?_)
      have z5 : ∀ b, Z5 b → w0.heap.size ≤ b := fun b hb => (hZ5 b hb).elim id fun h => h.elim
      have z6 : ∀ b, Z6 b → w0.heap.size ≤ b := fun b hb => (hZ6 b hb).elim id fun h => h.elim
      have d56 : ∀ b, Z5 b → ¬ Z6 b := fun b h5 h6 => by
        obtain ⟨y, hy, hb⟩ := hC6 2 _ 1 _ rfl rfl b (.tr Z5 _ v5 h5) h6
        obtain ⟨x, hx, hb'⟩ := hR5 46 1 _ _ rfl y hy b hb h5
        exact X12 y hy x hx b hb' hb
      refine ok_seq fun K14 h14 => ?_
      refine ok_seq fun K15 h15 => ok_region rfl (q_ldbs (r := [int c.ring.copies, .tr Z5 (eRingNodeS (jnC c n).ring.nodes) v5, .tr Z6 (eSeriesSS (jnC c n).data) v6]) ag34 rfl rfl sz34 rfl rfl (q_callp (f56_ok (jnC c n) hc') cl56 ⟨.inr (.inl ⟨_, rfl, gc_Cluster (jnC c n) d56⟩), trivial⟩ (q_un _ _ rfl rfl (run_nil (h15 _ ?_)))))
      refine ok_cond rfl (fun c16 => ?_) (fun c16 => ?_)
      · have e : resJ c n = ⟨⟨0, []⟩, []⟩ := by
          unfold resJ
          rw [if_neg]
          rintro ⟨_, _, g3⟩
          rw [pB_true (hiff.2 (of_pB g3))] at c16
          simp at c16
        refine ok_seq fun K5 h5 => ok_region rfl (q_bldz [] [int 0, .tr (fun _ => False) (.sl 3 []) (.slice none 0 0), .tr (fun _ => False) (.sl 1 []) (.slice none 0 0)] bz34z ⟨raw_z _ _, nil_tr 3, nil_tr 1, trivial⟩ rfl rfl rfl (q_sts _ rfl rfl rfl sz34 (Nat.le_of_ble_eq_true rfl) rfl (run_nil (h5 _ ?_))))
        exact ok_ret ⟨_, ⟨_, _, res_cells (l := [int 0, .tr (fun _ => False) (.sl 3 []) (.slice none 0 0), .tr (fun _ => False) (.sl 1 []) (.slice none 0 0)]) rfl rfl ag34 sz34 rfl, rfl, rfl⟩, gnil e, znil⟩
      · have hk' : ClusterOk (jnC c n) := of_pB (by simpa using c16)
        have e : resJ c n = ⟨(jnC c n).ring, (jnC c n).data.set (lowN n.id c.ring.nodes) (repR (jnC c n) (lowN n.id c.ring.nodes) [])⟩ := by
          unfold resJ
          rw [if_pos ⟨g1, g2, pB_true (hiff.1 hk')⟩]
        refine ok_skip (h14 _ ?_)
        have hlt := slt hat
        refine ok_seq fun K17 h17 => ok_region_i (by kernel_rfl) (by kernel_rfl) rfl (q_fap fd34_1 rfl (by decide) (q_ldb (.sv (.tr Z6 (eSeriesSS (jnC c n).data) v6)) ag32 rfl rfl rfl (q_mv (int (lowN n.id c.ring.nodes)) rfl (q_ldbs (r := [int c.ring.copies, .tr Z5 (eRingNodeS (jnC c n).ring.nodes) v5, .tr Z6 (eSeriesSS (jnC c n).data) v6]) ag34 rfl rfl sz34 rfl rfl (q_mv (int (lowN n.id c.ring.nodes)) rfl (
          q_callg [] (f58_t (jnC c n) hc' hk' hd' (lowN n.id c.ring.nodes) [] hat) cl58 ⟨.inr (.inl ⟨_, rfl, gc_Cluster (jnC c n) d56⟩), .inl rfl, trivial⟩ (fun r1 hr1 hf1 ha1 => ?_)))))))
        obtain ⟨Z3, v3, rfl⟩ := gd_sl_inv hr1
        have d53 : ∀ b, Z5 b → ¬ Z3 b := fun b h5 h3 => ha1.1 55 _ b rfl (by simp only [znA_cons, znI_raw, znI_tr, znA_nil, or_false, false_or]; exact .inl h5) (.tr Z3 _ v3 h3)
        have d63 : ∀ b, Z6 b → ¬ Z3 b := fun b h6 h3 => ha1.1 55 _ b rfl (by simp only [znA_cons, znI_raw, znI_tr, znA_nil, or_false, false_or]; exact .inr h6) (.tr Z3 _ v3 h3)
        have hne3 : (jnC c n).data.map eSeriesS ≠ [] := fun h => by rw [List.map_eq_nil_iff.1 h] at hlt; simp at hlt
        refine run_le (le_sub (t' := [(57, .sv (.tr Z3 (eSeriesS (repR (jnC c n) (lowN n.id c.ring.nodes) [])) v3)), (54, .sv (int (lowN n.id c.ring.nodes))), (53, .sv (.tr Z6 (eSeriesSS (jnC c n).data) v6)), (2, .ptr 2 0), (4, .ptr 4 0)]) (h' := [(2, .box [.sv (int c.ring.copies), .sv (.tr Z5 (eRingNodeS (jnC c n).ring.nodes) v5), .sv (.tr Z6 (eSeriesSS (jnC c n).data) v6)]), (4, .box [.sv (int 0), .sv (.raw (.slice none 0 0)), .sv (.raw (.slice none 0 0))])]) ⟨rfl, rfl, rfl, rfl, rfl, trivial⟩ ⟨rfl, rfl, trivial⟩) ?_
        refine run_otrsb 53 2 2 102 rfl rfl rfl hne3 (fun b hb => .inl (z6 b hb)) (by decide) rfl rfl ⟨asL_tr d63, asL_raw _ _, trivial, trivial, trivial⟩ ⟨fun lv h => ?_, fun lv h => ?_, trivial⟩ (fun T5 rs5 hO5 => ?_)
        · simp only [List.set_cons_succ, List.set_cons_zero, List.mem_cons, List.not_mem_nil, or_false] at h
          rcases h with rfl | rfl | rfl
          · exact asL_raw _ _
          · exact asL_tr fun b h6 h5 => d56 b h5 h6
          · trivial
        · simp only [List.mem_cons, List.not_mem_nil, or_false] at h
          rcases h with rfl | rfl | rfl <;> exact asL_raw _ _
        have hl5 : rs5.length = (jnC c n).data.length := by rw [hO5.len, List.length_map]
        obtain ⟨old, hold⟩ := sget (l := rs5) (i := lowN n.id c.ring.nodes) (by omega)
        have J5 := (hO5.cps z6).set (i := lowN n.id c.ring.nodes) hr1 (fun j y hj hy b hb hb' => d63 b (hO5.zn y (smem hy) b hb) (zn_tr hb')) hf1
        rw [← List.map_set] at J5
        have X5 : ∀ y ∈ rs5.set (lowN n.id c.ring.nodes) (.tr Z3 (eSeriesS (repR (jnC c n) (lowN n.id c.ring.nodes) [])) v3), ∀ b, Zn b y → ¬ Z5 b := fun y hy b hb h => by
          obtain ⟨j, hj⟩ := List.getElem?_of_mem hy
          rcases set_getG hj with ⟨_, rfl⟩ | ⟨_, h2⟩
          · exact d53 b h (zn_tr hb)
          · exact d56 b h (hO5.zn y (smem h2) b hb)
        refine q_iao el32 rfl rfl rfl (by omega) (by show lowN n.id c.ring.nodes < rs5.length; omega) (q_ste sz63 rfl rfl hold rfl (.inr rfl) rfl (run_nil (h17 _ ?_)))
        refine ok_treedb (k := 102) (n := 1) (ss := ((jnC c n).data.set (lowN n.id c.ring.nodes) (repR (jnC c n) (lowN n.id c.ring.nodes) [])).map eSeriesS) 2 2 rfl rfl rfl J5.len J5.gd J5.ap (fun r hr b hb => .inl (J5.nw r hr b hb)) (fun Z7 v7 hZ7 hR7 hS7 hC7 => ?_)
        have d57 : ∀ b, Z5 b → ¬ Z7 b := fun b h5 h7 => by
          obtain ⟨y, hy, hb⟩ := hC7 2 _ 1 _ rfl rfl b (.tr Z5 _ v5 h5) h7
          exact X5 y hy b hb h5
        have z7 : ∀ b, Z7 b → w0.heap.size ≤ b := fun b hb => (hZ7 b hb).elim id fun h => h.elim
        refine ok_seq fun K18 h18 => ok_region rfl (q_ldbs (r := [int c.ring.copies, .tr Z5 (eRingNodeS (jnC c n).ring.nodes) v5, .tr Z7 (eSeriesSS ((jnC c n).data.set (lowN n.id c.ring.nodes) (repR (jnC c n) (lowN n.id c.ring.nodes) []))) v7]) ag34 rfl rfl sz34 rfl rfl (q_sts _ rfl rfl rfl sz34 (Nat.le_of_ble_eq_true rfl) rfl (run_nil (h18 _ ?_))))
        exact ok_ret ⟨_, ⟨_, _, res_cells (l := [int c.ring.copies, .tr Z5 (eRingNodeS (jnC c n).ring.nodes) v5, .tr Z7 (eSeriesSS ((jnC c n).data.set (lowN n.id c.ring.nodes) (repR (jnC c n) (lowN n.id c.ring.nodes) []))) v7]) rfl rfl ag34 sz34 rfl, rfl, rfl⟩, by rw [e]; exact gc_Cluster ⟨(jnC c n).ring, (jnC c n).data.set (lowN n.id c.ring.nodes) (repR (jnC c n) (lowN n.id c.ring.nodes) [])⟩ d57, cls3 ⟨(jnC c n).ring, (jnC c n).data.set (lowN n.id c.ring.nodes) (repR (jnC c n) (lowN n.id c.ring.nodes) [])⟩ _ _ _ _ z5 z7⟩
    · have h00 : c.data ≠ [] := fun h => h0 (List.eq_nil_of_length_eq_zero (by rw [← hl, h]; rfl))
      have hne1 : c.ring.nodes.map eRingNode ≠ [] := fun h => h0 (List.map_eq_nil_iff.1 h)
      have hne2 : c.data.map eSeriesS ≠ [] := fun h => h00 (List.map_eq_nil_iff.1 h)
      refine ok_seq fun K5 h5 => ok_region rfl (q_ldbs (r := [int c.ring.copies, eRingNodeS c.ring.nodes, eSeriesSS c.data]) ag34 rfl rfl sz34 rfl rfl (q_callr (f57_t c hc) cl57 rfl (fun r0 hr0 hz0 ha0 => ?_)))
      obtain ⟨Z1, v1, Z2, v2, rfl, d12⟩ := gi_Cluster hr0
      have z1 : ∀ b, Z1 b → w0.heap.size ≤ b := fun b hb => hz0 b (by simp only [znA_cons, znI_raw, znI_tr, znA_nil, or_false, false_or]; exact .inl hb)
      have z2 : ∀ b, Z2 b → w0.heap.size ≤ b := fun b hb => hz0 b (by simp only [znA_cons, znI_raw, znI_tr, znA_nil, or_false, false_or]; exact .inr hb)
      refine q_sts _ rfl rfl rfl sz34 (Nat.le_of_ble_eq_true rfl) rfl (run_nil (h5 _ ?_))
      refine ok_seq fun K6 h6 => ok_region rfl (q_fap fd45_2 rfl (by decide) (q_ldb (.sv (ints n.toks)) ag40 rfl rfl rfl (q_callrb (f70_t n.toks hn.2) cl70 rfl (fun r1 hr1 hz1 ha1 hb1 => ?_))))
      obtain ⟨Zt, vt, rfl⟩ := gd_sl_inv hr1
      have zt : ∀ b, Zt b → w0.heap.size ≤ b := fun b hb => hz1 b (.tr Zt _ vt hb)
      have d1t : ∀ b, Z1 b → ¬ Zt b := fun b hb h => hb1 2 _ 1 _ b rfl rfl (.tr Z1 _ v1 hb) (.tr Zt _ vt h)
      have d2t : ∀ b, Z2 b → ¬ Zt b := fun b hb h => hb1 2 _ 2 _ b rfl rfl (.tr Z2 _ v2 hb) (.tr Zt _ vt h)
      refine q_fap fd45_2 rfl (by decide) (q_st _ sz40 rfl rfl (Nat.le_of_ble_eq_true rfl) rfl ⟨_, rfl, rfl⟩ rfl (run_nil (h6 _ ?_)))
      refine ok_seq fun K7 h7 => ok_region rfl (q_fap fd34_0 rfl (by decide) (q_fap fd31_1 rfl (by decide) (q_ldb (.sv (.tr Z1 (eRingNodeS c.ring.nodes) v1)) ag29 rfl rfl rfl (q_fap fd45_0 rfl (by decide) (q_ldb (.sv (str n.id)) ag9 rfl rfl rfl (q_callg [] ((f71_ok c.ring.nodes (by omega) (srtN_of hk.1) n.id).toR (fun b hb => by simp only [znT_cons, znT_nil, znI_raw, or_false, false_or] at hb)) cl71 ⟨.inr (.inl ⟨_, rfl, .tr _ _ _ _⟩), .inl rfl, .inl rfl, trivial⟩ (fun r2 hr2 hz2 ha2 => ?_)))))))
      subst hr2
      refine q_mv _ rfl (q_ext _ rfl rfl (q_ext _ rfl rfl (q_as _ rfl (q_as _ rfl (run_nil (h7 _ ?_))))))
      refine ok_seq fun K8 h8 => ?_
      refine ok_seq fun K9 h9 => ok_region rfl (q_mv _ rfl (run_nil (h9 _ ?_)))
      refine ok_cond rfl (fun c10 => ?_) (fun c10 => ?_)
      · have e : resJ c n = ⟨⟨0, []⟩, []⟩ := by
          unfold resJ
          rw [if_neg]
          rintro ⟨_, _, g3⟩
          exact fnd_bad c10 (of_pB g3)
        refine ok_seq fun K5 h5 => ok_region rfl (q_bldz [] [int 0, .tr (fun _ => False) (.sl 3 []) (.slice none 0 0), .tr (fun _ => False) (.sl 1 []) (.slice none 0 0)] bz34z ⟨raw_z _ _, nil_tr 3, nil_tr 1, trivial⟩ rfl rfl rfl (q_sts _ rfl rfl rfl sz34 (Nat.le_of_ble_eq_true rfl) rfl (run_nil (h5 _ ?_))))
        exact ok_ret ⟨_, ⟨_, _, res_cells (l := [int 0, .tr (fun _ => False) (.sl 3 []) (.slice none 0 0), .tr (fun _ => False) (.sl 1 []) (.slice none 0 0)]) rfl rfl ag34 sz34 rfl, rfl, rfl⟩, gnil e, znil⟩
      refine ok_skip (h8 _ ?_)
      refine Ok.le (le_sub (t' := [(2, .ptr 2 0), (3, .ptr 3 0), (4, .ptr 4 0), (5, .sv (int (lowN n.id c.ring.nodes)))]) (h' := [(2, .box [.sv (int c.ring.copies), .sv (.tr Z1 (eRingNodeS c.ring.nodes) v1), .sv (.tr Z2 (eSeriesSS c.data) v2)]), (3, .box [.sv (str n.id), .sv (int n.st), .sv (.tr Zt (ints n.toks) vt)]), (4, .box [.sv (int 0), .sv (.raw (.slice none 0 0)), .sv (.raw (.slice none 0 0))])]) ⟨rfl, rfl, rfl, rfl, trivial⟩ ⟨rfl, rfl, rfl, trivial⟩) ?_
      refine ok_otrb 2 1 100 rfl rfl hne1 (fun b hb => .inl (z1 b hb)) (by decide) rfl rfl ⟨trivial, trivial, trivial, asL_raw _ _, trivial⟩ ⟨fun lv h => ?_, fun lv h => ?_, fun lv h => ?_, trivial⟩ (fun T1 rs1 hO1 => ?_)
      · simp only [List.set_cons_succ, List.set_cons_zero, List.mem_cons, List.not_mem_nil, or_false] at h
        rcases h with rfl | rfl | rfl
        · exact asL_raw _ _
        · trivial
        · exact asL_tr d12
      · simp only [List.mem_cons, List.not_mem_nil, or_false] at h
        rcases h with rfl | rfl | rfl
        · exact asL_raw _ _
        · exact asL_raw _ _
        · exact asL_tr d1t
      · simp only [List.mem_cons, List.not_mem_nil, or_false] at h
        rcases h with rfl | rfl | rfl <;> exact asL_raw _ _
      refine Ok.le (le_sub (t' := [(2, .ptr 2 0), (3, .ptr 3 0), (4, .ptr 4 0), (5, .sv (int (lowN n.id c.ring.nodes)))]) (h' := [(2, .box [.sv (int c.ring.copies), .own 100, .sv (.tr Z2 (eSeriesSS c.data) v2)]), (3, .box [.sv (str n.id), .sv (int n.st), .sv (.tr Zt (ints n.toks) vt)]), (4, .box [.sv (int 0), .sv (.raw (.slice none 0 0)), .sv (.raw (.slice none 0 0))]), (100, .row 3 T1 rs1)]) ⟨rfl, rfl, rfl, rfl, trivial⟩ ⟨rfl, rfl, rfl, rfl, trivial⟩) ?_
      refine ok_otrb 2 2 101 rfl rfl hne2 (fun b hb => .inl (z2 b hb)) (by decide) rfl rfl ⟨trivial, trivial, trivial, asL_raw _ _, trivial⟩ ⟨fun lv h => ?_, fun lv h => ?_, fun lv h => ?_, fun r hr => ?_, trivial⟩ (fun T2 rs2 hO2 => ?_)
      · simp only [List.set_cons_succ, List.set_cons_zero, List.mem_cons, List.not_mem_nil, or_false] at h
        rcases h with rfl | rfl | rfl
        · exact asL_raw _ _
        · trivial
        · trivial
      · simp only [List.mem_cons, List.not_mem_nil, or_false] at h
        rcases h with rfl | rfl | rfl
        · exact asL_raw _ _
        · exact asL_raw _ _
        · exact asL_tr d2t
      · simp only [List.mem_cons, List.not_mem_nil, or_false] at h
        rcases h with rfl | rfl | rfl <;> exact asL_raw _ _
      · obtain ⟨i, hi⟩ := List.getElem?_of_mem hr
        have hlt := slt hi
        exact ⟨(hO1.gd i r _ hi (List.getElem?_eq_getElem (by rw [← hO1.len]; exact hlt))).zd, fun b h2 h1 => d12 b (hO1.zn r hr b h1) h2⟩
      have hl1 : rs1.length = c.ring.nodes.length := by rw [hO1.len, List.length_map]
      have hl2 : rs2.length = c.data.length := by rw [hO2.len, List.length_map]
      have ag1 : ∀ q ∈ rs1, (∃ c, q = .agg c) ∨ q.one = true := fun q hq => by
        obtain ⟨i, hi⟩ := List.getElem?_of_mem hq
        obtain ⟨x, hx⟩ := sget (l := c.ring.nodes) (i := i) (by have := slt hi; omega)
        obtain ⟨Z0, v0, rfl⟩ := gi_RingNode (hO1.gd i q _ hi (mget (f := eRingNode) hx))
        exact .inl ⟨_, rfl⟩
      have ag2 : ∀ q ∈ rs2, (∃ c, q = .agg c) ∨ q.one = true := fun q hq => by
        obtain ⟨i, hi⟩ := List.getElem?_of_mem hq
        obtain ⟨x, hx⟩ := sget (l := c.data) (i := i) (by have := slt hi; omega)
        obtain ⟨Z0, v0, rfl⟩ := gd_sl_inv (hO2.gd i q _ hi (mget (f := eSeriesS) hx))
        exact .inr rfl
      refine ok_seq fun K11 h11 => ok_region rfl (q_fap fd34_0 rfl (by decide) (q_fap fd31_1 rfl (by decide) (q_ldb (.own 100) ag29 rfl rfl rfl (q_mv (int (lowN n.id c.ring.nodes)) rfl (q_ldbs (r := [str n.id, int n.st, .tr Zt (ints n.toks) vt]) ag45 rfl rfl sz45 rfl rfl (
        q_lito1 _ (.agg [str n.id, int n.st, .tr Zt (ints n.toks) vt]) el29 ze45 (by decide) (by decide) rfl rfl rfl (.inl ⟨_, rfl⟩) rfl (q_insT (k := 100) (k2 := 38) (r := rs1) (p := lowN n.id c.ring.nodes) ins74 cl74 rfl rfl rfl rfl rfl (by decide) (by omega) ag1 (.inl ⟨_, rfl⟩) (by show (rs1.length + 1) * 48 ≤ 140737488355328; omega) (by show rs1.length + 1 ≤ maxLen; unfold maxLen; omega) rfl rfl (fun T3 => q_fap fd34_0 rfl (by decide) (q_fap fd31_1 rfl (by decide) (q_sto sz29 rfl rfl (by show 0 + 0 + 1 < 3; omega) rfl rfl rfl (run_nil (h11 _ ?_))))))))))))
      refine ok_seq fun K12 h12 => ok_region rfl (q_fap fd34_1 rfl (by decide) (q_ldb (.own 101) ag32 rfl rfl rfl (q_mv (int (lowN n.id c.ring.nodes)) rfl (
        q_lito1 _ (.raw (.slice none 0 0)) el32 ze63 (by decide) (by decide) rfl rfl rfl (.inr rfl) rfl (q_insT (k := 101) (k2 := 45) (r := rs2) (p := lowN n.id c.ring.nodes) ins75 cl75 rfl rfl rfl rfl rfl (by decide) (by omega) ag2 (.inr rfl) (by show (rs2.length + 1) * 24 ≤ 140737488355328; omega) (by show rs2.length + 1 ≤ maxLen; unfold maxLen; omega) rfl rfl (fun T4 => q_fap fd34_1 rfl (by decide) (q_sto sz32 rfl rfl (by show 0 + 2 < 3; omega) rfl rfl rfl (run_nil (h12 _ ?_)))))))))
      have J1 : Cps w0 (Go.Abs.insAt rs1 (lowN n.id c.ring.nodes) (.agg [str n.id, int n.st, .tr Zt (ints n.toks) vt])) ((jnC c n).ring.nodes.map eRingNode) := by
        have := (hO1.cps z1).insAt (i := lowN n.id c.ring.nodes) (by omega) (gc_RingNode n (Z2 := Zt) (v2 := vt)) (fun x hx b hb hb' => by
          simp only [znA_cons, znI_raw, znI_tr, znA_nil, or_false, false_or] at hb'
          exact d1t b (hO1.zn x hx b hb) hb') (fun b hb => by
          simp only [znA_cons, znI_raw, znI_tr, znA_nil, or_false, false_or] at hb
          exact zt b hb)
        rw [← insAt_map] at this
        exact this
      have J2 : Cps w0 (Go.Abs.insAt rs2 (lowN n.id c.ring.nodes) (.tr (fun _ => False) (.sl 2 []) (.slice none 0 0))) ((jnC c n).data.map eSeriesS) := by
        have := (hO2.cps z2).insAt (i := lowN n.id c.ring.nodes) (r := .tr (fun _ => False) (.sl 2 []) (.slice none 0 0)) (s := eSeriesS []) (by omega) (.tr _ _ _ _) (fun x hx b hb hb' => zn_tr hb') (fun b hb => (zn_tr hb).elim)
        rw [← insAt_map] at this
        exact this
      have X12 : ∀ y ∈ Go.Abs.insAt rs2 (lowN n.id c.ring.nodes) (.tr (fun _ => False) (.sl 2 []) (.slice none 0 0)), ∀ x ∈ Go.Abs.insAt rs1 (lowN n.id c.ring.nodes) (.agg [str n.id, int n.st, .tr Zt (ints n.toks) vt]), ∀ b, Zn b x → ¬ Zn b y := fun y hy x hx b hb hb' => by
        rcases insAt_mem hy with hy | rfl
        · have hb2 := hO2.zn y hy b hb'
          rcases insAt_mem hx with hx | rfl
          · exact d12 b (hO1.zn x hx b hb) hb2
          · simp only [znA_cons, znI_raw, znI_tr, znA_nil, or_false, false_or] at hb
            exact d2t b hb2 hb
        · exact zn_tr hb'
      have hnilat : (Go.Abs.insAt rs2 (lowN n.id c.ring.nodes) (.raw (.slice none 0 0)))[lowN n.id c.ring.nodes]? = some (.raw (.slice none 0 0)) := by rw [insAt_get _ _ _ (by omega), if_neg (by omega), if_pos rfl]
      refine Ok.le (le_rownil (r := Go.Abs.insAt rs2 (lowN n.id c.ring.nodes) (.raw (.slice none 0 0))) 46 (lowN n.id c.ring.nodes) 2 rfl hnilat) ?_
      rw [set_insAt _ _ _ _ (by omega)]
      refine Ok.le (le_sub (t' := [(2, .ptr 2 0), (4, .ptr 4 0), (5, .sv (int (lowN n.id c.ring.nodes)))]) (h' := [(46, .row 1 T4 (Go.Abs.insAt rs2 (lowN n.id c.ring.nodes) (.tr (fun _ => False) (.sl 2 []) (.slice none 0 0)))), (39, .row 3 T3 (Go.Abs.insAt rs1 (lowN n.id c.ring.nodes) (.agg [str n.id, int n.st, .tr Zt (ints n.toks) vt]))), (2, .box [.sv (int c.ring.copies), .own 39, .own 46]), (4, .box [.sv (int 0), .sv (.raw (.slice none 0 0)), .sv (.raw (.slice none 0 0))])]) ⟨rfl, rfl, rfl, trivial⟩ ⟨rfl, rfl, rfl, rfl, trivial⟩) ?_
      refine ok_treedb (k := 39) (n := 3) (ss := (jnC c n).ring.nodes.map eRingNode) 2 1 rfl rfl rfl J1.len J1.gd J1.ap (fun r hr b hb => .inl (J1.nw r hr b hb)) (fun Z5 v5 hZ5 hR5 hS5 hC5 => ?_)
      refine ok_treedb (k := 46) (n := 1) (ss := (jnC c n).data.map eSeriesS) 2 2 rfl rfl rfl J2.len J2.gd J2.ap (fun r hr b hb => .inl (J2.nw r hr b hb)) (fun Z6 v6 hZ6 hR6 hS6 hC6 => ?_)
      have z5 : ∀ b, Z5 b → w0.heap.size ≤ b := fun b hb => (hZ5 b hb).elim id fun h => h.elim
      have z6 : ∀ b, Z6 b → w0.heap.size ≤ b := fun b hb => (hZ6 b hb).elim id fun h => h.elim
      have d56 : ∀ b, Z5 b → ¬ Z6 b := fun b h5 h6 => by
        obtain ⟨y, hy, hb⟩ := hC6 2 _ 1 _ rfl rfl b (.tr Z5 _ v5 h5) h6
        obtain ⟨x, hx, hb'⟩ := hR5 46 1 _ _ rfl y hy b hb h5
        exact X12 y hy x hx b hb' hb
      refine ok_seq fun K14 h14 => ?_
      refine ok_seq fun K15 h15 => ok_region rfl (q_ldbs (r := [int c.ring.copies, .tr Z5 (eRingNodeS (jnC c n).ring.nodes) v5, .tr Z6 (eSeriesSS (jnC c n).data) v6]) ag34 rfl rfl sz34 rfl rfl (q_callp (f56_ok (jnC c n) hc') cl56 ⟨.inr (.inl ⟨_, rfl, gc_Cluster (jnC c n) d56⟩), trivial⟩ (q_un _ _ rfl rfl (run_nil (h15 _ ?_)))))
      refine ok_cond rfl (fun c16 => ?_) (fun c16 => ?_)
      · have e : resJ c n = ⟨⟨0, []⟩, []⟩ := by
          unfold resJ
          rw [if_neg]
          rintro ⟨_, _, g3⟩
          rw [pB_true (hiff.2 (of_pB g3))] at c16
          simp at c16
        refine ok_seq fun K5 h5 => ok_region rfl (q_bldz [] [int 0, .tr (fun _ => False) (.sl 3 []) (.slice none 0 0), .tr (fun _ => False) (.sl 1 []) (.slice none 0 0)] bz34z ⟨raw_z _ _, nil_tr 3, nil_tr 1, trivial⟩ rfl rfl rfl (q_sts _ rfl rfl rfl sz34 (Nat.le_of_ble_eq_true rfl) rfl (run_nil (h5 _ ?_))))
        exact ok_ret ⟨_, ⟨_, _, res_cells (l := [int 0, .tr (fun _ => False) (.sl 3 []) (.slice none 0 0), .tr (fun _ => False) (.sl 1 []) (.slice none 0 0)]) rfl rfl ag34 sz34 rfl, rfl, rfl⟩, gnil e, znil⟩
      · have hk' : ClusterOk (jnC c n) := of_pB (by simpa using c16)
        have e : resJ c n = ⟨(jnC c n).ring, (jnC c n).data.set (lowN n.id c.ring.nodes) (repR (jnC c n) (lowN n.id c.ring.nodes) [])⟩ := by
          unfold resJ
          rw [if_pos ⟨g1, g2, pB_true (hiff.1 hk')⟩]
        refine ok_skip (h14 _ ?_)
        have hlt := slt hat
        refine ok_seq fun K17 h17 => ok_region_i (by kernel_rfl) (by kernel_rfl) rfl (q_fap fd34_1 rfl (by decide) (q_ldb (.sv (.tr Z6 (eSeriesSS (jnC c n).data) v6)) ag32 rfl rfl rfl (q_mv (int (lowN n.id c.ring.nodes)) rfl (q_ldbs (r := [int c.ring.copies, .tr Z5 (eRingNodeS (jnC c n).ring.nodes) v5, .tr Z6 (eSeriesSS (jnC c n).data) v6]) ag34 rfl rfl sz34 rfl rfl (q_mv (int (lowN n.id c.ring.nodes)) rfl (
          q_callg [] (f58_t (jnC c n) hc' hk' hd' (lowN n.id c.ring.nodes) [] hat) cl58 ⟨.inr (.inl ⟨_, rfl, gc_Cluster (jnC c n) d56⟩), .inl rfl, trivial⟩ (fun r1 hr1 hf1 ha1 => ?_)))))))
        obtain ⟨Z3, v3, rfl⟩ := gd_sl_inv hr1
        have d53 : ∀ b, Z5 b → ¬ Z3 b := fun b h5 h3 => ha1.1 55 _ b rfl (by simp only [znA_cons, znI_raw, znI_tr, znA_nil, or_false, false_or]; exact .inl h5) (.tr Z3 _ v3 h3)
        have d63 : ∀ b, Z6 b → ¬ Z3 b := fun b h6 h3 => ha1.1 55 _ b rfl (by simp only [znA_cons, znI_raw, znI_tr, znA_nil, or_false, false_or]; exact .inr h6) (.tr Z3 _ v3 h3)
        have hne3 : (jnC c n).data.map eSeriesS ≠ [] := fun h => by rw [List.map_eq_nil_iff.1 h] at hlt; simp at hlt
        refine run_le (le_sub (t' := [(57, .sv (.tr Z3 (eSeriesS (repR (jnC c n) (lowN n.id c.ring.nodes) [])) v3)), (54, .sv (int (lowN n.id c.ring.nodes))), (53, .sv (.tr Z6 (eSeriesSS (jnC c n).data) v6)), (2, .ptr 2 0), (4, .ptr 4 0)]) (h' := [(2, .box [.sv (int c.ring.copies), .sv (.tr Z5 (eRingNodeS (jnC c n).ring.nodes) v5), .sv (.tr Z6 (eSeriesSS (jnC c n).data) v6)]), (4, .box [.sv (int 0), .sv (.raw (.slice none 0 0)), .sv (.raw (.slice none 0 0))])]) ⟨rfl, rfl, rfl, rfl, rfl, trivial⟩ ⟨rfl, rfl, trivial⟩) ?_
        refine run_otrsb 53 2 2 102 rfl rfl rfl hne3 (fun b hb => .inl (z6 b hb)) (by decide) rfl rfl ⟨asL_tr d63, asL_raw _ _, trivial, trivial, trivial⟩ ⟨fun lv h => ?_, fun lv h => ?_, trivial⟩ (fun T5 rs5 hO5 => ?_)
        · simp only [List.set_cons_succ, List.set_cons_zero, List.mem_cons, List.not_mem_nil, or_false] at h
          rcases h with rfl | rfl | rfl
          · exact asL_raw _ _
          · exact asL_tr fun b h6 h5 => d56 b h5 h6
          · trivial
        · simp only [List.mem_cons, List.not_mem_nil, or_false] at h
          rcases h with rfl | rfl | rfl <;> exact asL_raw _ _
        have hl5 : rs5.length = (jnC c n).data.length := by rw [hO5.len, List.length_map]
        obtain ⟨old, hold⟩ := sget (l := rs5) (i := lowN n.id c.ring.nodes) (by omega)
        have J5 := (hO5.cps z6).set (i := lowN n.id c.ring.nodes) hr1 (fun j y hj hy b hb hb' => d63 b (hO5.zn y (smem hy) b hb) (zn_tr hb')) hf1
        rw [← List.map_set] at J5
        have X5 : ∀ y ∈ rs5.set (lowN n.id c.ring.nodes) (.tr Z3 (eSeriesS (repR (jnC c n) (lowN n.id c.ring.nodes) [])) v3), ∀ b, Zn b y → ¬ Z5 b := fun y hy b hb h => by
          obtain ⟨j, hj⟩ := List.getElem?_of_mem hy
          rcases set_getG hj with ⟨_, rfl⟩ | ⟨_, h2⟩
          · exact d53 b h (zn_tr hb)
          · exact d56 b h (hO5.zn y (smem h2) b hb)
        refine q_iao el32 rfl rfl rfl (by omega) (by show lowN n.id c.ring.nodes < rs5.length; omega) (q_ste sz63 rfl rfl hold rfl (.inr rfl) rfl (run_nil (h17 _ ?_)))
        refine ok_treedb (k := 102) (n := 1) (ss := ((jnC c n).data.set (lowN n.id c.ring.nodes) (repR (jnC c n) (lowN n.id c.ring.nodes) [])).map eSeriesS) 2 2 rfl rfl rfl J5.len J5.gd J5.ap (fun r hr b hb => .inl (J5.nw r hr b hb)) (fun Z7 v7 hZ7 hR7 hS7 hC7 => ?_)
        have d57 : ∀ b, Z5 b → ¬ Z7 b := fun b h5 h7 => by
          obtain ⟨y, hy, hb⟩ := hC7 2 _ 1 _ rfl rfl b (.tr Z5 _ v5 h5) h7
          exact X5 y hy b hb h5
        have z7 : ∀ b, Z7 b → w0.heap.size ≤ b := fun b hb => (hZ7 b hb).elim id fun h => h.elim
        refine ok_seq fun K18 h18 => ok_region rfl (q_ldbs (r := [int c.ring.copies, .tr Z5 (eRingNodeS (jnC c n).ring.nodes) v5, .tr Z7 (eSeriesSS ((jnC c n).data.set (lowN n.id c.ring.nodes) (repR (jnC c n) (lowN n.id c.ring.nodes) []))) v7]) ag34 rfl rfl sz34 rfl rfl (q_sts _ rfl rfl rfl sz34 (Nat.le_of_ble_eq_true rfl) rfl (run_nil (h18 _ ?_))))
        exact ok_ret ⟨_, ⟨_, _, res_cells (l := [int c.ring.copies, .tr Z5 (eRingNodeS (jnC c n).ring.nodes) v5, .tr Z7 (eSeriesSS ((jnC c n).data.set (lowN n.id c.ring.nodes) (repR (jnC c n) (lowN n.id c.ring.nodes) []))) v7]) rfl rfl ag34 sz34 rfl, rfl, rfl⟩, by rw [e]; exact gc_Cluster ⟨(jnC c n).ring, (jnC c n).data.set (lowN n.id c.ring.nodes) (repR (jnC c n) (lowN n.id c.ring.nodes) [])⟩ d57, cls3 ⟨(jnC c n).ring, (jnC c n).data.set (lowN n.id c.ring.nodes) (repR (jnC c n) (lowN n.id c.ring.nodes) [])⟩ _ _ _ _ z5 z7⟩
end Go.Ring

/- A node joined to a cluster: the reference. No condition beyond the sizes. -/
set_option maxRecDepth 100000
set_option linter.unusedVariables false
set_option linter.unusedSimpArgs false
namespace Go.Ring
open Go Go.RowKit Go.Eager Go.Abs Go.Proofs
@[reducible] def zNode : SV := .agg ([Value.string ⟨#[]⟩, Value.int .i64 0, Value.slice none 0 0].map .raw)
theorem bz45 : Tryz.prog.built 45 [] = some [Value.string ⟨#[]⟩, Value.int .i64 0, Value.slice none 0 0].toArray := by kernel_rfl
theorem cpy_mem {α : Type} {rs : List α} {p : Nat} {z : α} (hp : p ≤ rs.length) : ∀ y ∈ rs, y ∈ cpy (rs ++ [z]) (p + 1) p := fun y hy => by
  have hl1 : (rs ++ [z]).length = rs.length + 1 := by simp
  obtain ⟨j, hj⟩ := List.getElem?_of_mem hy
  have hjl := slt hj
  have hm : (((rs ++ [z]).drop p).take ((rs ++ [z]).length - (p + 1))).length = rs.length - p := by rw [List.length_take, List.length_drop, hl1]; omega
  by_cases h1 : j < p
  · refine List.mem_of_getElem? (i := j) ?_
    rw [cpy_get _ _ _ (by omega), if_neg (by omega), List.getElem?_append_left hjl]; exact hj
  · refine List.mem_of_getElem? (i := j + 1) ?_
    rw [cpy_get _ _ _ (by omega), hm, if_pos ⟨by omega, by omega⟩, show p + (j + 1 - (p + 1)) = j by omega, List.getElem?_append_left hjl]; exact hj
set_option maxHeartbeats 8000000 in
theorem f17_ok (c : Cluster) (hc : SCluster c) (hw : sumF wt c.data ≤ 1048576) (n : RingNode) (hn : SRingNode n) : PFn Tryz.prog 17 [eCluster c, eRingNode n] (eCluster (resJ c n)) := by
  refine fnr_ok (n := 97) Tryz.func17 rfl rfl rfl (Nat.le_of_ble_eq_true rfl) rfl fun w0 O => ?_
  refine ok_seq fun K1 h1 => ok_region rfl (q_boxo (cells := [.sv (int c.ring.copies), .sv (eRingNodeS c.ring.nodes), .sv (eSeriesSS c.data)]) _ rfl (.inl ⟨_, rfl⟩) rfl rfl rfl (q_boxs _ rfl (Nat.zero_lt_succ _) (q_alloc _ ze34 rfl rfl rfl rfl (run_nil (h1 _ ?_)))))
  refine ok_seq fun K2 h2 => ?_
  refine ok_seq fun K3 h3 => ?_
  refine ok_region rfl (q_ldbs (r := [int c.ring.copies, eRingNodeS c.ring.nodes, eSeriesSS c.data]) ag34 rfl rfl sz34 rfl rfl (q_call (f43_ok c hc) cl43 rfl rfl (q_un _ _ rfl rfl (q_mv _ rfl (q_or 3 3 rfl rfl rfl rfl rfl (fun hb22 =>
      q_fa _ fd45_1 rfl rfl (by decide) (q_ld (int n.st) ag3 rfl rfl (q_bin _ _ _ rfl rfl rfl (run_nil ⟨rfl, rfl, rfl, rfl⟩)))) (
    run_nil (h3 _ ?_)))))))
  refine ok_cond rfl (fun c4 => ?_) (fun c4 => ?_)
  · have e : resJ c n = ⟨⟨0, []⟩, []⟩ := by
      unfold resJ
      rw [if_neg]
      rintro ⟨g1, g2, _⟩
      rw [g1] at c4
      simp [g2] at c4
    refine ok_seq fun K5 h5 => ok_region rfl (q_bldz [] [int 0, .sl 3 [], .sl 1 []] bz34z ⟨raw_z _ _, nil_sl 3, nil_sl 1, trivial⟩ rfl rfl rfl (q_sts _ rfl rfl rfl sz34 (Nat.le_of_ble_eq_true rfl) rfl (run_nil (h5 _ ?_))))
    exact ok_ret (ret_cell (l := [int 0, .sl 3 [], .sl 1 []]) rfl rfl ag34 sz34 rfl (by rw [e]; rfl))
  · rw [Bool.or_eq_false_iff] at c4
    have g1 : pB (ClusterOk c) = true := by simpa using c4.1
    have g2 : n.st = 1 := by simpa using c4.2
    have hk := of_pB g1
    have hd := datOk hc hw hk
    have hl := hk.2.1
    have hnl := hk.1.2.2.1
    have hdl := (dat_ok hk).1
    have hp := lowN_le n.id c.ring.nodes
    have hp2 := jn_len2 (n := n) hk
    have hc' := jnC_S (n := n) hc hk hn
    have hd' := jnC_D (n := n) hd
    have hat := jnC_at (n := n) hk
    have hiff := jnC_ok (n := n) hk
    refine ok_skip (h2 _ ?_)
    by_cases h0 : c.ring.nodes = []
    · have h00 : c.data = [] := by rw [h0] at hl; exact List.eq_nil_of_length_eq_zero hl
      have hp0 : lowN n.id c.ring.nodes = 0 := by rw [h0]; rfl
      have en : (jnC c n).ring.nodes = [n] := by show Go.Abs.insAt _ _ _ = _; rw [h0]; rfl
      have ed : (jnC c n).data = [[]] := by show Go.Abs.insAt _ _ _ = _; rw [hp0, h00]; rfl
      refine ok_seq fun K5 h5 => ok_region rfl (q_ldbs (r := [int c.ring.copies, eRingNodeS c.ring.nodes, eSeriesSS c.data]) ag34 rfl rfl sz34 rfl rfl (q_callr (f52_e c h0 h00) cl52 rfl (fun r0 hr0 hz0 ha0 => ?_)))
      subst hr0
      refine q_sts _ rfl rfl rfl sz34 (Nat.le_of_ble_eq_true rfl) rfl (run_nil (h5 _ ?_))
      refine ok_seq fun K7 h7 => ok_region rfl (q_as _ rfl (run_nil (h7 _ ?_)))
      refine ok_seq fun K6 h6 => ?_
      refine ok_block ?_
      refine ok_loop (fun (k : Nat) => ⟨[(2, .ptr 2 0), (3, .sv (.ptr (eRingNode n))), (4, .ptr 4 0), (5, .sv (int 0))], [(2, .box [.sv (int c.ring.copies), .sv (.raw (.slice none 0 0)), .sv (.raw (.slice none 0 0))]), (4, .box [.sv (int 0), .sv (.raw (.slice none 0 0)), .sv (.raw (.slice none 0 0))])]⟩) (fun k => True) (fun k => k) 0 trivial (le_sub ⟨rfl, rfl, rfl, rfl, trivial⟩ ⟨rfl, rfl, trivial⟩) (fun k J => ?_)
      refine ok_seq fun K9 h9 => ?_
      refine ok_seq fun K8 h8 => ok_region_i (by kernel_rfl) (by kernel_rfl) rfl (q_mv _ rfl (q_fap fd34_0 rfl (by decide) (q_fap fd31_1 rfl (by decide) (q_ldb (.sv (.raw (.slice none 0 0))) ag29 rfl rfl rfl (run_le (le_emp 3 20 rfl) (q_len eS29 rfl (q_bin _ _ _ rfl rfl rfl (q_mv _ rfl (q_and (b2 := false) 11 11 rfl rfl rfl rfl rfl (fun hb => absurd hb (by simp)) (run_nil (h8 _ ?_)))))))))))
      refine ok_cond rfl (fun c10 => ?_) (fun c10 => ?_)
      · exact absurd c10 (by simp)
      refine ok_exit (h6 _ ?_)
      refine ok_seq fun K11 h11 => ok_region rfl (q_fap fd34_0 rfl (by decide) (q_fap fd31_1 rfl (by decide) (q_ldb (.sv (.raw (.slice none 0 0))) ag29 rfl rfl rfl (q_bldr [] [.string ⟨#[]⟩, .int .i64 0, .slice none 0 0] rfl bz45 rfl (q_lit1 _ zNode el29 ze45 (by decide) (by decide) rfl (.inl ⟨_, rfl⟩) rfl (q_app0 _ el29 (by decide) ze45 rfl by45 rfl rfl rfl rfl (by simp) (by intro s hs; simp at hs; subst hs; exact .inl ⟨_, rfl⟩) (by decide) (by decide) (
        q_fap fd34_0 rfl (by decide) (q_fap fd31_1 rfl (by decide) (q_sto sz29 rfl rfl (by show 0 + 0 + 1 < 3; omega) rfl rfl rfl (run_nil (h11 _ ?_)))))))))))
      refine ok_seq fun K12 h12 => ok_region_i (by kernel_rfl) (by kernel_rfl) rfl (q_fap fd34_0 rfl (by decide) (q_fap fd31_1 rfl (by decide) (q_ldb (.own 43) ag29 rfl rfl rfl (q_mv (int 0) rfl (q_add rfl rfl (by omega) (q_slo el29 rfl rfl (by decide) rfl (by decide) (by decide) (q_fap fd34_0 rfl (by decide) (q_fap fd31_1 rfl (by decide) (q_ldb (.own 43) ag29 rfl rfl rfl (q_mv (int 0) rfl (
        q_slo el29 rfl rfl (by decide) rfl (by decide) (by decide) (q_copyn el29 rfl rfl rfl (by decide) (by decide) (fun q hq => by simp at hq; subst hq; exact .inl ⟨_, rfl⟩) (run_nil (h12 _ ?_))))))))))))))
      refine ok_seq fun K13 h13 => ok_region_i (by kernel_rfl) (by kernel_rfl) rfl (q_fap fd34_0 rfl (by decide) (q_fap fd31_1 rfl (by decide) (q_ldb (.own 43) ag29 rfl rfl rfl (q_mv (int 0) rfl (q_lds _ ag45 rfl sz45 (q_callr (f67_t n hn) cl67 rfl (fun r1 hr1 hz1 ha1 => ?_)))))))
      obtain ⟨Zt, vt, rfl⟩ := gi_RingNode hr1
      have zt : ∀ b, Zt b → w0.heap.size ≤ b := fun b hb => hz1 b (by simp only [znA_cons, znI_raw, znI_tr, znA_nil, or_false, false_or]; exact hb)
      refine q_iao el29 rfl rfl rfl (by decide) (by decide) (q_ste sz45 rfl rfl rfl rfl (.inl ⟨_, rfl⟩) rfl (run_nil (h13 _ ?_)))
      refine ok_seq fun K14 h14 => ok_region rfl (q_fap fd34_1 rfl (by decide) (q_ldb (.sv (.raw (.slice none 0 0))) ag32 rfl rfl rfl (q_lit1 _ (.raw (.slice none 0 0)) el32 ze63 (by decide) (by decide) rfl (.inr rfl) rfl (q_app0 _ el32 (by decide) ze63 rfl by63 rfl rfl rfl rfl (by simp) (by intro s hs; simp at hs; subst hs; exact .inr rfl) (by decide) (by decide) (
        q_fap fd34_1 rfl (by decide) (q_sto sz32 rfl rfl (by show 0 + 2 < 3; omega) rfl rfl rfl (run_nil (h14 _ ?_))))))))
      refine ok_seq fun K15 h15 => ok_region_i (by kernel_rfl) (by kernel_rfl) rfl (q_fap fd34_1 rfl (by decide) (q_ldb (.own 68) ag32 rfl rfl rfl (q_mv (int 0) rfl (q_add rfl rfl (by omega) (q_slo el32 rfl rfl (by decide) rfl (by decide) (by decide) (q_fap fd34_1 rfl (by decide) (q_ldb (.own 68) ag32 rfl rfl rfl (q_mv (int 0) rfl (
        q_slo el32 rfl rfl (by decide) rfl (by decide) (by decide) (q_copyn el32 rfl rfl rfl (by decide) (by decide) (fun q hq => by simp at hq; subst hq; exact .inr rfl) (run_nil (h15 _ ?_))))))))))))
      refine ok_seq fun K16 h16 => ok_region rfl (q_fap fd34_1 rfl (by decide) (q_ldb (.own 68) ag32 rfl rfl rfl (q_mv (int 0) rfl (q_iao el32 rfl rfl rfl (by decide) (by decide) (q_ste sz63 rfl rfl rfl rfl (.inr rfl) rfl (run_nil (h16 _ ?_)))))))
      have J1 : Cps w0 [.agg [str n.id, int n.st, .tr Zt (ints n.toks) vt]] ((jnC c n).ring.nodes.map eRingNode) := by
        rw [en]
        exact (Cps.nil w0).snoc (gc_RingNode n) (fun y hy => by simp at hy) fun b hb => by
          simp only [znA_cons, znI_raw, znI_tr, znA_nil, or_false, false_or] at hb
          exact zt b hb
      have J2 : Cps w0 [.tr (fun _ => False) (.sl 2 []) (.slice none 0 0)] ((jnC c n).data.map eSeriesS) := by
        rw [ed]
        exact (Cps.nil w0).snoc (s := eSeriesS []) (.tr _ _ _ _) (fun y hy => by simp at hy) fun b hb => (zn_tr hb).elim
      have X12 : ∀ y ∈ ([.tr (fun _ => False) (.sl 2 []) (.slice none 0 0)] : List SV), ∀ x ∈ ([.agg [str n.id, int n.st, .tr Zt (ints n.toks) vt]] : List SV), ∀ b, Zn b x → ¬ Zn b y := fun y hy x hx b hb hb' => by
        simp at hy; subst hy; exact zn_tr hb'
      refine Ok.le (le_rownil (r := [.raw (.slice none 0 0)]) 68 0 2 rfl rfl) ?_
      refine Ok.le (le_sub (t' := [(2, .ptr 2 0), (4, .ptr 4 0), (5, .sv (int ((lowN n.id c.ring.nodes : Nat) : Int)))]) (h' := [(68, .row 1 63 [.tr (fun _ => False) (.sl 2 []) (.slice none 0 0)]), (43, .row 3 45 [.agg [str n.id, int n.st, .tr Zt (ints n.toks) vt]]), (2, .box [.sv (int c.ring.copies), .own 43, .own 68]), (4, .box [.sv (int 0), .sv (.raw (.slice none 0 0)), .sv (.raw (.slice none 0 0))])]) ⟨rfl, rfl, by rw [hp0]; rfl, trivial⟩ ⟨rfl, rfl, rfl, rfl, trivial⟩) ?_
      refine ok_treedb (k := 43) (n := 3) (ss := (jnC c n).ring.nodes.map eRingNode) 2 1 rfl rfl rfl J1.len J1.gd J1.ap (fun r hr b hb => .inl (J1.nw r hr b hb)) (fun Z5 v5 hZ5 hR5 hS5 hC5 => ?_)
      refine ok_treedb (k := 68) (n := 1) (ss := (jnC c n).data.map eSeriesS) 2 2 rfl rfl rfl J2.len J2.gd J2.ap (fun r hr b hb => .inl (J2.nw r hr b hb)) (fun Z6 v6 hZ6 hR6 hS6 hC6 => ?_)
      have z5 : ∀ b, Z5 b → w0.heap.size ≤ b := fun b hb => (hZ5 b hb).elim id fun h => h.elim
      have z6 : ∀ b, Z6 b → w0.heap.size ≤ b := fun b hb => (hZ6 b hb).elim id fun h => h.elim
      have d56 : ∀ b, Z5 b → ¬ Z6 b := fun b h5 h6 => by
        obtain ⟨y, hy, hb⟩ := hC6 2 _ 1 _ rfl rfl b (.tr Z5 _ v5 h5) h6
        obtain ⟨x, hx, hb'⟩ := hR5 68 1 _ _ rfl y hy b hb h5
        exact X12 y hy x hx b hb' hb
      refine ok_seq fun K14 h14 => ?_
      refine ok_seq fun K15 h15 => ok_region rfl (q_fap fd34_0 rfl (by decide) (q_ldbs (r := [int c.ring.copies, .tr Z5 (eRingNodeS (jnC c n).ring.nodes) v5]) ag31 rfl rfl sz31 rfl rfl (q_callp (f68_ok (jnC c n).ring hc'.1) cl68 ⟨.inr (.inl ⟨_, rfl, gc_Ring (jnC c n).ring⟩), trivial⟩ (q_un _ _ rfl rfl (run_nil (h15 _ ?_))))))
      refine ok_cond rfl (fun c16 => ?_) (fun c16 => ?_)
      · have e : resJ c n = ⟨⟨0, []⟩, []⟩ := by
          unfold resJ
          rw [if_neg]
          rintro ⟨_, _, g3⟩
          rw [g3] at c16
          simp at c16
        refine ok_seq fun K5 h5 => ok_region rfl (q_bldz [] [int 0, .sl 3 [], .sl 1 []] bz34z ⟨raw_z _ _, nil_sl 3, nil_sl 1, trivial⟩ rfl rfl rfl (q_sts _ rfl rfl rfl sz34 (Nat.le_of_ble_eq_true rfl) rfl (run_nil (h5 _ ?_))))
        exact ok_ret (ret_cell (l := [int 0, .sl 3 [], .sl 1 []]) rfl rfl ag34 sz34 rfl (by rw [e]; rfl))
      · have hk' : ClusterOk (jnC c n) := hiff.2 (of_pB (by simpa using c16))
        have e : resJ c n = ⟨(jnC c n).ring, (jnC c n).data.set (lowN n.id c.ring.nodes) (repR (jnC c n) (lowN n.id c.ring.nodes) [])⟩ := by
          unfold resJ
          rw [if_pos ⟨g1, g2, pB_true (hiff.1 hk')⟩]
        refine ok_skip (h14 _ ?_)
        have hlt := slt hat
        refine ok_seq fun K17 h17 => ok_region_i (by kernel_rfl) (by kernel_rfl) rfl (q_fap fd34_1 rfl (by decide) (q_ldb (.sv (.tr Z6 (eSeriesSS (jnC c n).data) v6)) ag32 rfl rfl rfl (q_mv (int (lowN n.id c.ring.nodes)) rfl (q_ldbs (r := [int c.ring.copies, .tr Z5 (eRingNodeS (jnC c n).ring.nodes) v5, .tr Z6 (eSeriesSS (jnC c n).data) v6]) ag34 rfl rfl sz34 rfl rfl (q_mv (int (lowN n.id c.ring.nodes)) rfl (
          q_callg [] (f53_t (jnC c n) hc' hk' hd' (lowN n.id c.ring.nodes) [] hat) cl53 ⟨.inr (.inl ⟨_, rfl, gc_Cluster (jnC c n) d56⟩), .inl rfl, trivial⟩ (fun r1 hr1 hf1 ha1 => ?_)))))))
        obtain ⟨Z3, v3, rfl⟩ := gd_sl_inv hr1
        have d53 : ∀ b, Z5 b → ¬ Z3 b := fun b h5 h3 => ha1.1 92 _ b rfl (by simp only [znA_cons, znI_raw, znI_tr, znA_nil, or_false, false_or]; exact .inl h5) (.tr Z3 _ v3 h3)
        have d63 : ∀ b, Z6 b → ¬ Z3 b := fun b h6 h3 => ha1.1 92 _ b rfl (by simp only [znA_cons, znI_raw, znI_tr, znA_nil, or_false, false_or]; exact .inr h6) (.tr Z3 _ v3 h3)
        have hne3 : (jnC c n).data.map eSeriesS ≠ [] := fun h => by rw [List.map_eq_nil_iff.1 h] at hlt; simp at hlt
        refine run_le (le_sub (t' := [(94, .sv (.tr Z3 (eSeriesS (repR (jnC c n) (lowN n.id c.ring.nodes) [])) v3)), (91, .sv (int (lowN n.id c.ring.nodes))), (90, .sv (.tr Z6 (eSeriesSS (jnC c n).data) v6)), (2, .ptr 2 0), (4, .ptr 4 0)]) (h' := [(2, .box [.sv (int c.ring.copies), .sv (.tr Z5 (eRingNodeS (jnC c n).ring.nodes) v5), .sv (.tr Z6 (eSeriesSS (jnC c n).data) v6)]), (4, .box [.sv (int 0), .sv (.raw (.slice none 0 0)), .sv (.raw (.slice none 0 0))])]) ⟨rfl, rfl, rfl, rfl, rfl, trivial⟩ ⟨rfl, rfl, trivial⟩) ?_
        refine run_otrsb 90 2 2 102 rfl rfl rfl hne3 (fun b hb => .inl (z6 b hb)) (by decide) rfl rfl ⟨asL_tr d63, asL_raw _ _, trivial, trivial, trivial⟩ ⟨fun lv h => ?_, fun lv h => ?_, trivial⟩ (fun T5 rs5 hO5 => ?_)
        · simp only [List.set_cons_succ, List.set_cons_zero, List.mem_cons, List.not_mem_nil, or_false] at h
          rcases h with rfl | rfl | rfl
          · exact asL_raw _ _
          · exact asL_tr fun b h6 h5 => d56 b h5 h6
          · trivial
        · simp only [List.mem_cons, List.not_mem_nil, or_false] at h
          rcases h with rfl | rfl | rfl <;> exact asL_raw _ _
        have hl5 : rs5.length = (jnC c n).data.length := by rw [hO5.len, List.length_map]
        obtain ⟨old, hold⟩ := sget (l := rs5) (i := lowN n.id c.ring.nodes) (by omega)
        have J5 := (hO5.cps z6).set (i := lowN n.id c.ring.nodes) hr1 (fun j y hj hy b hb hb' => d63 b (hO5.zn y (smem hy) b hb) (zn_tr hb')) hf1
        rw [← List.map_set] at J5
        have X5 : ∀ y ∈ rs5.set (lowN n.id c.ring.nodes) (.tr Z3 (eSeriesS (repR (jnC c n) (lowN n.id c.ring.nodes) [])) v3), ∀ b, Zn b y → ¬ Z5 b := fun y hy b hb h => by
          obtain ⟨j, hj⟩ := List.getElem?_of_mem hy
          rcases set_getG hj with ⟨_, rfl⟩ | ⟨_, h2⟩
          · exact d53 b h (zn_tr hb)
          · exact d56 b h (hO5.zn y (smem h2) b hb)
        refine q_iao el32 rfl rfl rfl (by omega) (by show lowN n.id c.ring.nodes < rs5.length; omega) (q_ste sz63 rfl rfl hold rfl (.inr rfl) rfl (run_nil (h17 _ ?_)))
        refine ok_treedb (k := 102) (n := 1) (ss := ((jnC c n).data.set (lowN n.id c.ring.nodes) (repR (jnC c n) (lowN n.id c.ring.nodes) [])).map eSeriesS) 2 2 rfl rfl rfl J5.len J5.gd J5.ap (fun r hr b hb => .inl (J5.nw r hr b hb)) (fun Z7 v7 hZ7 hR7 hS7 hC7 => ?_)
        have d57 : ∀ b, Z5 b → ¬ Z7 b := fun b h5 h7 => by
          obtain ⟨y, hy, hb⟩ := hC7 2 _ 1 _ rfl rfl b (.tr Z5 _ v5 h5) h7
          exact X5 y hy b hb h5
        have z7 : ∀ b, Z7 b → w0.heap.size ≤ b := fun b hb => (hZ7 b hb).elim id fun h => h.elim
        refine Ok.le (le_boxgd 2 1 rfl rfl (.tr Z5 3 _ v5)) ?_
        refine Ok.le (le_boxgd 2 2 rfl rfl (.tr Z7 1 _ v7)) ?_
        refine ok_seq fun K18 h18 => ok_region rfl (q_ldbs (r := [int c.ring.copies, eRingNodeS (jnC c n).ring.nodes, eSeriesSS ((jnC c n).data.set (lowN n.id c.ring.nodes) (repR (jnC c n) (lowN n.id c.ring.nodes) []))]) ag34 rfl rfl sz34 rfl rfl (q_sts _ rfl rfl rfl sz34 (Nat.le_of_ble_eq_true rfl) rfl (run_nil (h18 _ ?_))))
        exact ok_ret (ret_cell (l := [int c.ring.copies, eRingNodeS (jnC c n).ring.nodes, eSeriesSS ((jnC c n).data.set (lowN n.id c.ring.nodes) (repR (jnC c n) (lowN n.id c.ring.nodes) []))]) rfl rfl ag34 sz34 rfl (by rw [e]; rfl))
    · have h00 : c.data ≠ [] := fun h => h0 (List.eq_nil_of_length_eq_zero (by rw [← hl, h]; rfl))
      have hne1 : c.ring.nodes.map eRingNode ≠ [] := fun h => h0 (List.map_eq_nil_iff.1 h)
      have hne2 : c.data.map eSeriesS ≠ [] := fun h => h00 (List.map_eq_nil_iff.1 h)
      refine ok_seq fun K5 h5 => ok_region rfl (q_ldbs (r := [int c.ring.copies, eRingNodeS c.ring.nodes, eSeriesSS c.data]) ag34 rfl rfl sz34 rfl rfl (q_callg [3] (f52_t c hc) cl52 ⟨.inl rfl, trivial⟩ (fun r0 hr0 hz0 ha0 => ?_)))
      obtain ⟨Z1, v1, Z2, v2, rfl, d12⟩ := gi_Cluster hr0
      have z1 : ∀ b, Z1 b → w0.heap.size ≤ b := fun b hb => hz0 b (by simp only [znA_cons, znI_raw, znI_tr, znA_nil, or_false, false_or]; exact .inl hb)
      have z2 : ∀ b, Z2 b → w0.heap.size ≤ b := fun b hb => hz0 b (by simp only [znA_cons, znI_raw, znI_tr, znA_nil, or_false, false_or]; exact .inr hb)
      refine q_sts _ rfl rfl rfl sz34 (Nat.le_of_ble_eq_true rfl) rfl (run_nil (h5 _ ?_))
      refine ok_seq fun K7 h7 => ok_region rfl (q_as _ rfl (run_nil (h7 _ ?_)))
      refine ok_seq fun K6 h6 => ?_
      refine Ok.le (le_sub (t' := [(2, .ptr 2 0), (3, .av (fun b => Zn b (.agg [int c.ring.copies, .tr Z1 (eRingNodeS c.ring.nodes) v1, .tr Z2 (eSeriesSS c.data) v2])) (.ptr (eRingNode n))), (4, .ptr 4 0), (5, .sv (int 0))]) (h' := [(2, .box [.sv (int c.ring.copies), .sv (.tr Z1 (eRingNodeS c.ring.nodes) v1), .sv (.tr Z2 (eSeriesSS c.data) v2)]), (4, .box [.sv (int 0), .sv (.raw (.slice none 0 0)), .sv (.raw (.slice none 0 0))])]) ⟨rfl, rfl, rfl, rfl, trivial⟩ ⟨rfl, rfl, trivial⟩) ?_
      refine ok_otrb 2 1 100 rfl rfl hne1 (fun b hb => .inl (z1 b hb)) (by decide) rfl rfl ⟨trivial, fun b hb => by simp only [znA_cons, znI_raw, znI_tr, znA_nil, or_false, false_or]; exact .inl hb, trivial, asL_raw _ _, trivial⟩ ⟨fun lv h => ?_, fun lv h => ?_, trivial⟩ (fun T1 rs1 hO1 => ?_)
      · simp only [List.set_cons_succ, List.set_cons_zero, List.mem_cons, List.not_mem_nil, or_false] at h
        rcases h with rfl | rfl | rfl
        · exact asL_raw _ _
        · trivial
        · exact asL_tr d12
      · simp only [List.mem_cons, List.not_mem_nil, or_false] at h
        rcases h with rfl | rfl | rfl <;> exact asL_raw _ _
      refine Ok.le (le_sub (t' := [(2, .ptr 2 0), (3, .av (fun b => Zn b (.agg [int c.ring.copies, .tr Z1 (eRingNodeS c.ring.nodes) v1, .tr Z2 (eSeriesSS c.data) v2])) (.ptr (eRingNode n))), (4, .ptr 4 0), (5, .sv (int 0))]) (h' := [(2, .box [.sv (int c.ring.copies), .own 100, .sv (.tr Z2 (eSeriesSS c.data) v2)]), (4, .box [.sv (int 0), .sv (.raw (.slice none 0 0)), .sv (.raw (.slice none 0 0))]), (100, .row 3 T1 rs1)]) ⟨rfl, rfl, rfl, rfl, trivial⟩ ⟨rfl, rfl, rfl, trivial⟩) ?_
      refine ok_otrb 2 2 101 rfl rfl hne2 (fun b hb => .inl (z2 b hb)) (by decide) rfl rfl ⟨trivial, fun b hb => by simp only [znA_cons, znI_raw, znI_tr, znA_nil, or_false, false_or]; exact .inr hb, trivial, asL_raw _ _, trivial⟩ ⟨fun lv h => ?_, fun lv h => ?_, fun r hr => ?_, trivial⟩ (fun T2 rs2 hO2 => ?_)
      · simp only [List.set_cons_succ, List.set_cons_zero, List.mem_cons, List.not_mem_nil, or_false] at h
        rcases h with rfl | rfl | rfl
        · exact asL_raw _ _
        · trivial
        · trivial
      · simp only [List.mem_cons, List.not_mem_nil, or_false] at h
        rcases h with rfl | rfl | rfl <;> exact asL_raw _ _
      · obtain ⟨i, hi⟩ := List.getElem?_of_mem hr
        have hlt := slt hi
        exact ⟨(hO1.gd i r _ hi (List.getElem?_eq_getElem (by rw [← hO1.len]; exact hlt))).zd, fun b h2 h1 => d12 b (hO1.zn r hr b h1) h2⟩
      refine Ok.le le_unav ?_
      have hl1 : rs1.length = c.ring.nodes.length := by rw [hO1.len, List.length_map]
      have hl2 : rs2.length = c.data.length := by rw [hO2.len, List.length_map]
      have ag1 : ∀ q ∈ rs1, (∃ c, q = .agg c) ∨ q.one = true := fun q hq => by
        obtain ⟨i, hi⟩ := List.getElem?_of_mem hq
        obtain ⟨x, hx⟩ := sget (l := c.ring.nodes) (i := i) (by have := slt hi; omega)
        obtain ⟨Z0, v0, rfl⟩ := gi_RingNode (hO1.gd i q _ hi (mget (f := eRingNode) hx))
        exact .inl ⟨_, rfl⟩
      have ag2 : ∀ q ∈ rs2, (∃ c, q = .agg c) ∨ q.one = true := fun q hq => by
        obtain ⟨i, hi⟩ := List.getElem?_of_mem hq
        obtain ⟨x, hx⟩ := sget (l := c.data) (i := i) (by have := slt hi; omega)
        obtain ⟨Z0, v0, rfl⟩ := gd_sl_inv (hO2.gd i q _ hi (mget (f := eSeriesS) hx))
        exact .inr rfl
      refine ok_block ?_
      refine ok_loop (fun (k : Nat) => ⟨[(2, .ptr 2 0), (3, .sv (.ptr (eRingNode n))), (4, .ptr 4 0), (5, .sv (int k))], [(2, .box [.sv (int c.ring.copies), .own 100, .own 101]), (4, .box [.sv (int 0), .sv (.raw (.slice none 0 0)), .sv (.raw (.slice none 0 0))]), (100, .row 3 T1 rs1), (101, .row 1 T2 rs2)]⟩) (fun k => k ≤ c.ring.nodes.length ∧ ∀ i x, i < k → c.ring.nodes[i]? = some x → ltN x.id n.id) (fun k => c.ring.nodes.length - k) 0 ⟨Nat.zero_le _, fun i x h => by omega⟩ (le_sub ⟨rfl, rfl, rfl, rfl, trivial⟩ ⟨rfl, rfl, rfl, rfl, trivial⟩) (fun k J => ?_)
      obtain ⟨j1, j2⟩ := J
      obtain ⟨u, hu⟩ : ∃ u : RingNode, k < c.ring.nodes.length → c.ring.nodes[k]? = some u := by
        rcases Nat.lt_or_ge k c.ring.nodes.length with h | h
        · obtain ⟨v, hv⟩ := sget h; exact ⟨v, fun _ => hv⟩
        · exact ⟨n, fun h' => by omega⟩
      obtain ⟨Zu, vu, hru⟩ : ∃ (Zu : Nat → Prop) (vu : Value), k < c.ring.nodes.length → rs1[k]? = some (.agg [str u.id, int u.st, .tr Zu (ints u.toks) vu]) := by
        rcases Nat.lt_or_ge k c.ring.nodes.length with h | h
        · obtain ⟨r, hr⟩ := sget (l := rs1) (i := k) (by omega)
          obtain ⟨Z0, v0, rfl⟩ := gi_RingNode (hO1.gd k r _ hr (mget (f := eRingNode) (hu h)))
          exact ⟨Z0, v0, fun _ => hr⟩
        · exact ⟨fun _ => False, .slice none 0 0, fun h' => by omega⟩
      have hbk : ∀ {b : Bool}, decide ((k : Int) < (rs1.length : Int)) = b → (b = true ↔ k < c.ring.nodes.length) := fun h => by rw [← h, decide_eq_true_eq, hl1]; omega
      refine ok_seq fun K9 h9 => ?_
      refine ok_seq fun K8 h8 => ok_region_i (by kernel_rfl) (by kernel_rfl) rfl (q_mv _ rfl (q_fap fd34_0 rfl (by decide) (q_fap fd31_1 rfl (by decide) (q_ldb (.own 100) ag29 rfl rfl rfl (q_leno eS29 rfl rfl (q_bin _ _ _ rfl rfl rfl (q_mv _ rfl (q_and 11 11 rfl rfl rfl rfl rfl (fun hb =>
          q_fap fd34_0 rfl (by decide) (q_fap fd31_1 rfl (by decide) (q_ldb (.own 100) ag29 rfl rfl rfl (q_mv _ rfl (q_iao el29 rfl rfl rfl (by omega) (by show k < rs1.length; rw [hl1]; exact (hbk rfl).1 hb) (q_fae fd45_0 rfl (by decide) (q_ldef (str u.id) ag9 rfl rfl (hru ((hbk rfl).1 hb)) rfl (q_fa _ fd45_0 rfl rfl (by decide) (q_ld (str n.id) ag9 rfl rfl (q_call (f66_ok u.id n.id ((hc.1.2 u (smem (hu ((hbk rfl).1 hb)))).1) hn.1) cl66 rfl rfl (q_bin _ _ _ rfl rfl rfl (run_nil ⟨rfl, rfl, rfl, rfl⟩)))))))))))) (
        run_nil (h8 _ ?_))))))))))
      refine ok_cond rfl (fun c10 => ?_) (fun c10 => ?_)
      · simp only [Bool.and_eq_true] at c10
        have hkl := (hbk rfl).1 c10.1
        have hlt : ltN u.id n.id := of_decide_eq_true c10.2
        refine ok_skip (h9 _ ?_)
        refine ok_block ?_
        refine ok_last fun K10 h10 => ok_region rfl (q_mv _ rfl (q_add rfl rfl (by omega) (q_as _ rfl (run_nil (h10 _ ⟨k + 1, by omega, ⟨hkl, fun i x hi hx => ?_⟩, le_sub ⟨rfl, rfl, rfl, rfl, trivial⟩ ⟨rfl, rfl, rfl, rfl, trivial⟩⟩)))))
        rcases Nat.lt_or_ge i k with h | h
        · exact j2 i x h hx
        · obtain rfl : i = k := by omega
          rw [hu hkl] at hx; cases hx; exact hlt
      have hkp : lowN n.id c.ring.nodes = k := lowN_eq n.id _ k j1 j2 fun x hx hlt => by
        have hkl := slt hx
        rw [hu hkl] at hx; cases hx
        have e1 : (decide ((k : Int) < (rs1.length : Int)) && decide (cmpT u.id.data.toList n.id.data.toList < 0)) = true := by
          rw [Bool.and_eq_true]; exact ⟨(hbk rfl).2 hkl, decide_eq_true hlt⟩
        rw [c10] at e1; cases e1
      refine ok_exit (h6 _ ?_)
      rw [← hkp]
      generalize hpp : lowN n.id c.ring.nodes = p at *
      have hlz : (rs1 ++ [zNode]).length = rs1.length + 1 := by simp
      have hlz2 : (rs2 ++ [(.raw (.slice none 0 0) : SV)]).length = rs2.length + 1 := by simp
      refine ok_seq fun K11 h11 => ok_region rfl (q_fap fd34_0 rfl (by decide) (q_fap fd31_1 rfl (by decide) (q_ldb (.own 100) ag29 rfl rfl rfl (q_bldr [] [.string ⟨#[]⟩, .int .i64 0, .slice none 0 0] rfl bz45 rfl (q_lit1 _ zNode el29 ze45 (by decide) (by decide) rfl (.inl ⟨_, rfl⟩) rfl (q_appT (q := [zNode]) _ el29 ze45 rfl by45 rfl rfl rfl rfl rfl (by simp) (by intro s hs; simp at hs; subst hs; exact .inl ⟨_, rfl⟩) (by show rs1.length + 1 ≤ maxLen; unfold maxLen; omega) (by show (rs1.length + 1) * 48 ≤ _; omega) (fun T3 =>
        q_fap fd34_0 rfl (by decide) (q_fap fd31_1 rfl (by decide) (q_sto sz29 rfl rfl (by show 0 + 0 + 1 < 3; omega) rfl rfl rfl (run_nil (h11 _ ?_)))))))))))
      refine ok_seq fun K12 h12 => ok_region_i (by kernel_rfl) (by kernel_rfl) rfl (q_fap fd34_0 rfl (by decide) (q_fap fd31_1 rfl (by decide) (q_ldb (.own 43) ag29 rfl rfl rfl (q_mv (int p) rfl (q_add rfl rfl (by omega) (q_slo el29 rfl rfl (by show 0 < (rs1 ++ [zNode]).length; omega) rfl (by omega) (by show ((p : Nat) : Int) + 1 ≤ ((rs1 ++ [zNode]).length : Int); omega) (q_fap fd34_0 rfl (by decide) (q_fap fd31_1 rfl (by decide) (q_ldb (.own 43) ag29 rfl rfl rfl (q_mv (int p) rfl (
        q_slo el29 rfl rfl (by show 0 < (rs1 ++ [zNode]).length; omega) rfl (by omega) (by show ((p : Nat) : Int) ≤ ((rs1 ++ [zNode]).length : Int); omega) (q_copyn el29 rfl rfl rfl (by show p + 1 ≤ (rs1 ++ [zNode]).length; omega) (by show p ≤ (rs1 ++ [zNode]).length; omega) (fun q hq => by
          rcases List.mem_append.1 hq with h | h
          · exact ag1 q h
          · simp at h; subst h; exact .inl ⟨_, rfl⟩) (run_nil (h12 _ ?_))))))))))))))
      have hlc : (cpy (rs1 ++ [zNode]) (p + 1) p).length = rs1.length + 1 := by rw [cpy_len _ _ _ (by omega), hlz]
      obtain ⟨old, hold⟩ := sget (l := cpy (rs1 ++ [zNode]) (p + 1) p) (i := p) (by omega)
      refine ok_seq fun K13 h13 => ok_region_i (by kernel_rfl) (by kernel_rfl) rfl (q_fap fd34_0 rfl (by decide) (q_fap fd31_1 rfl (by decide) (q_ldb (.own 43) ag29 rfl rfl rfl (q_mv (int p) rfl (q_lds _ ag45 rfl sz45 (q_callr (f67_t n hn) cl67 rfl (fun r1 hr1 hz1 ha1 => ?_)))))))
      obtain ⟨Zt, vt, rfl⟩ := gi_RingNode hr1
      have zt : ∀ b, Zt b → w0.heap.size ≤ b := fun b hb => hz1 b (by simp only [znA_cons, znI_raw, znI_tr, znA_nil, or_false, false_or]; exact hb)
      have znt : ∀ b, Zt b → Zn b (.agg [str n.id, int n.st, .tr Zt (ints n.toks) vt]) := fun b hb => by simp only [znA_cons, znI_raw, znI_tr, znA_nil, or_false, false_or]; exact hb
      have x1t : ∀ x ∈ rs1, ∀ b, Zn b x → ¬ Zt b := fun x hx b hb h => ha1.2 43 3 _ _ x b rfl (cpy_mem (by omega) x hx) hb (znt b h)
      have x2t : ∀ x ∈ rs2, ∀ b, Zn b x → ¬ Zt b := fun x hx b hb h => ha1.2 101 1 _ _ x b rfl hx hb (znt b h)
      refine q_iao el29 rfl rfl rfl (by omega) (by show p < (cpy (rs1 ++ [zNode]) (p + 1) p).length; omega) (q_ste sz45 rfl rfl hold rfl (.inl ⟨_, rfl⟩) rfl (run_nil (h13 _ ?_)))
      refine ok_seq fun K14 h14 => ok_region rfl (q_fap fd34_1 rfl (by decide) (q_ldb (.own 101) ag32 rfl rfl rfl (q_lit1 _ (.raw (.slice none 0 0)) el32 ze63 (by decide) (by decide) rfl (.inr rfl) rfl (q_appT (q := [.raw (.slice none 0 0)]) _ el32 ze63 rfl by63 rfl rfl rfl rfl rfl (by simp) (by intro s hs; simp at hs; subst hs; exact .inr rfl) (by show rs2.length + 1 ≤ maxLen; unfold maxLen; omega) (by show (rs2.length + 1) * 24 ≤ _; omega) (fun T4 =>
        q_fap fd34_1 rfl (by decide) (q_sto sz32 rfl rfl (by show 0 + 2 < 3; omega) rfl rfl rfl (run_nil (h14 _ ?_))))))))
      refine ok_seq fun K15 h15 => ok_region_i (by kernel_rfl) (by kernel_rfl) rfl (q_fap fd34_1 rfl (by decide) (q_ldb (.own 68) ag32 rfl rfl rfl (q_mv (int p) rfl (q_add rfl rfl (by omega) (q_slo el32 rfl rfl (by show 0 < (rs2 ++ [(.raw (.slice none 0 0) : SV)]).length; omega) rfl (by omega) (by show ((p : Nat) : Int) + 1 ≤ ((rs2 ++ [(.raw (.slice none 0 0) : SV)]).length : Int); omega) (q_fap fd34_1 rfl (by decide) (q_ldb (.own 68) ag32 rfl rfl rfl (q_mv (int p) rfl (
        q_slo el32 rfl rfl (by show 0 < (rs2 ++ [(.raw (.slice none 0 0) : SV)]).length; omega) rfl (by omega) (by show ((p : Nat) : Int) ≤ ((rs2 ++ [(.raw (.slice none 0 0) : SV)]).length : Int); omega) (q_copyn el32 rfl rfl rfl (by show p + 1 ≤ (rs2 ++ [(.raw (.slice none 0 0) : SV)]).length; omega) (by show p ≤ (rs2 ++ [(.raw (.slice none 0 0) : SV)]).length; omega) (fun q hq => by
          rcases List.mem_append.1 hq with h | h
          · exact ag2 q h
          · simp at h; subst h; exact .inr rfl) (run_nil (h15 _ ?_))))))))))))
      have hlc2 : (cpy (rs2 ++ [(.raw (.slice none 0 0) : SV)]) (p + 1) p).length = rs2.length + 1 := by rw [cpy_len _ _ _ (by omega), hlz2]
      obtain ⟨old2, hold2⟩ := sget (l := cpy (rs2 ++ [(.raw (.slice none 0 0) : SV)]) (p + 1) p) (i := p) (by omega)
      refine ok_seq fun K16 h16 => ok_region rfl (q_fap fd34_1 rfl (by decide) (q_ldb (.own 68) ag32 rfl rfl rfl (q_mv (int p) rfl (q_iao el32 rfl rfl rfl (by omega) (by show p < (cpy (rs2 ++ [(.raw (.slice none 0 0) : SV)]) (p + 1) p).length; omega) (q_ste sz63 rfl rfl hold2 rfl (.inr rfl) rfl (run_nil (h16 _ ?_)))))))
      refine Ok.le (le_sub (t' := [(2, .ptr 2 0), (4, .ptr 4 0), (5, .sv (int p))]) (h' := [(68, .row 1 T4 ((cpy (rs2 ++ [(.raw (.slice none 0 0) : SV)]) (p + 1) p).set p (.raw (.slice none 0 0)))), (43, .row 3 T3 ((cpy (rs1 ++ [zNode]) (p + 1) p).set p (.agg [str n.id, int n.st, .tr Zt (ints n.toks) vt]))), (2, .box [.sv (int c.ring.copies), .own 43, .own 68]), (4, .box [.sv (int 0), .sv (.raw (.slice none 0 0)), .sv (.raw (.slice none 0 0))])]) ⟨rfl, rfl, rfl, trivial⟩ ⟨rfl, rfl, rfl, rfl, trivial⟩) ?_
      rw [cpy_ins rs1 p zNode _ (by omega), cpy_ins rs2 p _ _ (by omega)]
      have J1 : Cps w0 (Go.Abs.insAt rs1 p (.agg [str n.id, int n.st, .tr Zt (ints n.toks) vt])) ((jnC c n).ring.nodes.map eRingNode) := by
        have := (hO1.cps z1).insAt (i := p) (by omega) (gc_RingNode n (Z2 := Zt) (v2 := vt)) (fun x hx b hb hb' => by
          simp only [znA_cons, znI_raw, znI_tr, znA_nil, or_false, false_or] at hb'
          exact x1t x hx b hb hb') (fun b hb => by
          simp only [znA_cons, znI_raw, znI_tr, znA_nil, or_false, false_or] at hb
          exact zt b hb)
        rw [← insAt_map] at this
        rw [show (jnC c n).ring.nodes = Go.Abs.insAt c.ring.nodes p n by rw [← hpp]; rfl]
        exact this
      have J2 : Cps w0 (Go.Abs.insAt rs2 p (.tr (fun _ => False) (.sl 2 []) (.slice none 0 0))) ((jnC c n).data.map eSeriesS) := by
        have := (hO2.cps z2).insAt (i := p) (r := .tr (fun _ => False) (.sl 2 []) (.slice none 0 0)) (s := eSeriesS []) (by omega) (.tr _ _ _ _) (fun x hx b hb hb' => zn_tr hb') (fun b hb => (zn_tr hb).elim)
        rw [← insAt_map] at this
        rw [show (jnC c n).data = Go.Abs.insAt c.data p [] by rw [← hpp]; rfl]
        exact this
      have X12 : ∀ y ∈ Go.Abs.insAt rs2 p (.tr (fun _ => False) (.sl 2 []) (.slice none 0 0)), ∀ x ∈ Go.Abs.insAt rs1 p (.agg [str n.id, int n.st, .tr Zt (ints n.toks) vt]), ∀ b, Zn b x → ¬ Zn b y := fun y hy x hx b hb hb' => by
        rcases insAt_mem hy with hy | rfl
        · rcases insAt_mem hx with hx | rfl
          · exact d12 b (hO1.zn x hx b hb) (hO2.zn y hy b hb')
          · simp only [znA_cons, znI_raw, znI_tr, znA_nil, or_false, false_or] at hb
            exact x2t y hy b hb' hb
        · exact zn_tr hb'
      have hnilat : (Go.Abs.insAt rs2 p (.raw (.slice none 0 0)))[p]? = some (.raw (.slice none 0 0)) := by rw [insAt_get _ _ _ (by omega), if_neg (by omega), if_pos rfl]
      refine Ok.le (le_rownil (r := Go.Abs.insAt rs2 p (.raw (.slice none 0 0))) 68 p 2 rfl hnilat) ?_
      rw [set_insAt _ _ _ _ (by omega)]
      refine Ok.le (le_sub (t' := [(2, .ptr 2 0), (4, .ptr 4 0), (5, .sv (int p))]) (h' := [(68, .row 1 T4 (Go.Abs.insAt rs2 p (.tr (fun _ => False) (.sl 2 []) (.slice none 0 0)))), (43, .row 3 T3 (Go.Abs.insAt rs1 p (.agg [str n.id, int n.st, .tr Zt (ints n.toks) vt]))), (2, .box [.sv (int c.ring.copies), .own 43, .own 68]), (4, .box [.sv (int 0), .sv (.raw (.slice none 0 0)), .sv (.raw (.slice none 0 0))])]) ⟨rfl, rfl, rfl, trivial⟩ ⟨rfl, rfl, rfl, rfl, trivial⟩) ?_
      subst hpp
      refine ok_treedb (k := 43) (n := 3) (ss := (jnC c n).ring.nodes.map eRingNode) 2 1 rfl rfl rfl J1.len J1.gd J1.ap (fun r hr b hb => .inl (J1.nw r hr b hb)) (fun Z5 v5 hZ5 hR5 hS5 hC5 => ?_)
      refine ok_treedb (k := 68) (n := 1) (ss := (jnC c n).data.map eSeriesS) 2 2 rfl rfl rfl J2.len J2.gd J2.ap (fun r hr b hb => .inl (J2.nw r hr b hb)) (fun Z6 v6 hZ6 hR6 hS6 hC6 => ?_)
      have z5 : ∀ b, Z5 b → w0.heap.size ≤ b := fun b hb => (hZ5 b hb).elim id fun h => h.elim
      have z6 : ∀ b, Z6 b → w0.heap.size ≤ b := fun b hb => (hZ6 b hb).elim id fun h => h.elim
      have d56 : ∀ b, Z5 b → ¬ Z6 b := fun b h5 h6 => by
        obtain ⟨y, hy, hb⟩ := hC6 2 _ 1 _ rfl rfl b (.tr Z5 _ v5 h5) h6
        obtain ⟨x, hx, hb'⟩ := hR5 68 1 _ _ rfl y hy b hb h5
        exact X12 y hy x hx b hb' hb
      refine ok_seq fun K14 h14 => ?_
      refine ok_seq fun K15 h15 => ok_region rfl (q_fap fd34_0 rfl (by decide) (q_ldbs (r := [int c.ring.copies, .tr Z5 (eRingNodeS (jnC c n).ring.nodes) v5]) ag31 rfl rfl sz31 rfl rfl (q_callp (f68_ok (jnC c n).ring hc'.1) cl68 ⟨.inr (.inl ⟨_, rfl, gc_Ring (jnC c n).ring⟩), trivial⟩ (q_un _ _ rfl rfl (run_nil (h15 _ ?_))))))
      refine ok_cond rfl (fun c16 => ?_) (fun c16 => ?_)
      · have e : resJ c n = ⟨⟨0, []⟩, []⟩ := by
          unfold resJ
          rw [if_neg]
          rintro ⟨_, _, g3⟩
          rw [g3] at c16
          simp at c16
        refine ok_seq fun K5 h5 => ok_region rfl (q_bldz [] [int 0, .sl 3 [], .sl 1 []] bz34z ⟨raw_z _ _, nil_sl 3, nil_sl 1, trivial⟩ rfl rfl rfl (q_sts _ rfl rfl rfl sz34 (Nat.le_of_ble_eq_true rfl) rfl (run_nil (h5 _ ?_))))
        exact ok_ret (ret_cell (l := [int 0, .sl 3 [], .sl 1 []]) rfl rfl ag34 sz34 rfl (by rw [e]; rfl))
      · have hk' : ClusterOk (jnC c n) := hiff.2 (of_pB (by simpa using c16))
        have e : resJ c n = ⟨(jnC c n).ring, (jnC c n).data.set (lowN n.id c.ring.nodes) (repR (jnC c n) (lowN n.id c.ring.nodes) [])⟩ := by
          unfold resJ
          rw [if_pos ⟨g1, g2, pB_true (hiff.1 hk')⟩]
        refine ok_skip (h14 _ ?_)
        have hlt := slt hat
        refine ok_seq fun K17 h17 => ok_region_i (by kernel_rfl) (by kernel_rfl) rfl (q_fap fd34_1 rfl (by decide) (q_ldb (.sv (.tr Z6 (eSeriesSS (jnC c n).data) v6)) ag32 rfl rfl rfl (q_mv (int (lowN n.id c.ring.nodes)) rfl (q_ldbs (r := [int c.ring.copies, .tr Z5 (eRingNodeS (jnC c n).ring.nodes) v5, .tr Z6 (eSeriesSS (jnC c n).data) v6]) ag34 rfl rfl sz34 rfl rfl (q_mv (int (lowN n.id c.ring.nodes)) rfl (
          q_callg [] (f53_t (jnC c n) hc' hk' hd' (lowN n.id c.ring.nodes) [] hat) cl53 ⟨.inr (.inl ⟨_, rfl, gc_Cluster (jnC c n) d56⟩), .inl rfl, trivial⟩ (fun r1 hr1 hf1 ha1 => ?_)))))))
        obtain ⟨Z3, v3, rfl⟩ := gd_sl_inv hr1
        have d53 : ∀ b, Z5 b → ¬ Z3 b := fun b h5 h3 => ha1.1 92 _ b rfl (by simp only [znA_cons, znI_raw, znI_tr, znA_nil, or_false, false_or]; exact .inl h5) (.tr Z3 _ v3 h3)
        have d63 : ∀ b, Z6 b → ¬ Z3 b := fun b h6 h3 => ha1.1 92 _ b rfl (by simp only [znA_cons, znI_raw, znI_tr, znA_nil, or_false, false_or]; exact .inr h6) (.tr Z3 _ v3 h3)
        have hne3 : (jnC c n).data.map eSeriesS ≠ [] := fun h => by rw [List.map_eq_nil_iff.1 h] at hlt; simp at hlt
        refine run_le (le_sub (t' := [(94, .sv (.tr Z3 (eSeriesS (repR (jnC c n) (lowN n.id c.ring.nodes) [])) v3)), (91, .sv (int (lowN n.id c.ring.nodes))), (90, .sv (.tr Z6 (eSeriesSS (jnC c n).data) v6)), (2, .ptr 2 0), (4, .ptr 4 0)]) (h' := [(2, .box [.sv (int c.ring.copies), .sv (.tr Z5 (eRingNodeS (jnC c n).ring.nodes) v5), .sv (.tr Z6 (eSeriesSS (jnC c n).data) v6)]), (4, .box [.sv (int 0), .sv (.raw (.slice none 0 0)), .sv (.raw (.slice none 0 0))])]) ⟨rfl, rfl, rfl, rfl, rfl, trivial⟩ ⟨rfl, rfl, trivial⟩) ?_
        refine run_otrsb 90 2 2 102 rfl rfl rfl hne3 (fun b hb => .inl (z6 b hb)) (by decide) rfl rfl ⟨asL_tr d63, asL_raw _ _, trivial, trivial, trivial⟩ ⟨fun lv h => ?_, fun lv h => ?_, trivial⟩ (fun T5 rs5 hO5 => ?_)
        · simp only [List.set_cons_succ, List.set_cons_zero, List.mem_cons, List.not_mem_nil, or_false] at h
          rcases h with rfl | rfl | rfl
          · exact asL_raw _ _
          · exact asL_tr fun b h6 h5 => d56 b h5 h6
          · trivial
        · simp only [List.mem_cons, List.not_mem_nil, or_false] at h
          rcases h with rfl | rfl | rfl <;> exact asL_raw _ _
        have hl5 : rs5.length = (jnC c n).data.length := by rw [hO5.len, List.length_map]
        obtain ⟨old, hold⟩ := sget (l := rs5) (i := lowN n.id c.ring.nodes) (by omega)
        have J5 := (hO5.cps z6).set (i := lowN n.id c.ring.nodes) hr1 (fun j y hj hy b hb hb' => d63 b (hO5.zn y (smem hy) b hb) (zn_tr hb')) hf1
        rw [← List.map_set] at J5
        have X5 : ∀ y ∈ rs5.set (lowN n.id c.ring.nodes) (.tr Z3 (eSeriesS (repR (jnC c n) (lowN n.id c.ring.nodes) [])) v3), ∀ b, Zn b y → ¬ Z5 b := fun y hy b hb h => by
          obtain ⟨j, hj⟩ := List.getElem?_of_mem hy
          rcases set_getG hj with ⟨_, rfl⟩ | ⟨_, h2⟩
          · exact d53 b h (zn_tr hb)
          · exact d56 b h (hO5.zn y (smem h2) b hb)
        refine q_iao el32 rfl rfl rfl (by omega) (by show lowN n.id c.ring.nodes < rs5.length; omega) (q_ste sz63 rfl rfl hold rfl (.inr rfl) rfl (run_nil (h17 _ ?_)))
        refine ok_treedb (k := 102) (n := 1) (ss := ((jnC c n).data.set (lowN n.id c.ring.nodes) (repR (jnC c n) (lowN n.id c.ring.nodes) [])).map eSeriesS) 2 2 rfl rfl rfl J5.len J5.gd J5.ap (fun r hr b hb => .inl (J5.nw r hr b hb)) (fun Z7 v7 hZ7 hR7 hS7 hC7 => ?_)
        have d57 : ∀ b, Z5 b → ¬ Z7 b := fun b h5 h7 => by
          obtain ⟨y, hy, hb⟩ := hC7 2 _ 1 _ rfl rfl b (.tr Z5 _ v5 h5) h7
          exact X5 y hy b hb h5
        have z7 : ∀ b, Z7 b → w0.heap.size ≤ b := fun b hb => (hZ7 b hb).elim id fun h => h.elim
        refine Ok.le (le_boxgd 2 1 rfl rfl (.tr Z5 3 _ v5)) ?_
        refine Ok.le (le_boxgd 2 2 rfl rfl (.tr Z7 1 _ v7)) ?_
        refine ok_seq fun K18 h18 => ok_region rfl (q_ldbs (r := [int c.ring.copies, eRingNodeS (jnC c n).ring.nodes, eSeriesSS ((jnC c n).data.set (lowN n.id c.ring.nodes) (repR (jnC c n) (lowN n.id c.ring.nodes) []))]) ag34 rfl rfl sz34 rfl rfl (q_sts _ rfl rfl rfl sz34 (Nat.le_of_ble_eq_true rfl) rfl (run_nil (h18 _ ?_))))
        exact ok_ret (ret_cell (l := [int c.ring.copies, eRingNodeS (jnC c n).ring.nodes, eSeriesSS ((jnC c n).data.set (lowN n.id c.ring.nodes) (repR (jnC c n) (lowN n.id c.ring.nodes) []))]) rfl rfl ag34 sz34 rfl (by rw [e]; rfl))
theorem repR_S2 {c : Cluster} (hc : SCluster c) (hk : ClusterOk c) (hd : DatOk c.data) {i : Nat} {d : List Series} (hi : c.data[i]? = some d) : SeriesOk (repR c i d) ∧ ∀ y ∈ repR c i d, SSeries y := by
  unfold repR
  split
  · rename_i h
    have hs := of_pB h
    have hnd := hd.n d (smem hi)
    obtain ⟨a1, _, _⟩ := allU_inv (ns := c.ring.nodes) hd
    have hn : Nice (repG c i d) := hnd.jn (a1.filter _)
    exact ⟨hs, fun y hy => ⟨hn.b y hy, by have := (ser_small hs).2 y hy; omega⟩⟩
  · exact ⟨(dat_ok hk).2 d (smem hi), (hc.2.2 d (smem hi)).2⟩
end Go.Ring
