/- How a cluster is read: the program. No condition beyond the sizes. -/
import Derived.Test.YtanilephcohjkaaGreatK1
set_option maxRecDepth 100000
set_option linter.unusedVariables false
set_option linter.unusedSimpArgs false
namespace Go.Ring
open Go Go.RowKit Go.Eager Go.Abs Go.Proofs
/-- A copy and a truth value. -/
def TupB (r s : SV) (b : Bool) : Prop := ∃ g, r = .tup [g, bool b] ∧ Gd g s
theorem zn_tupB {b : Nat} {g : SV} {x : Bool} (h : Zn b (.tup [g, bool x])) : Zn b g := by
  rcases znT_cons.1 h with h | h
  · exact h
  · rcases znT_cons.1 h with h | h
    · exact (zn_raw h).elim
    · exact (znT_nil.1 h).elim
theorem f34_t (c : Cluster) (hc : SCluster c) (hw : sumF wt c.data ≤ 1048576) (ms : List Matcher) (hn : ms.length ≤ 1048576 ∧ ∀ m ∈ ms, SMatcher m) (f t : Int) : PFnR Tryz.prog 34 [eCluster c, eMatcherS ms, int f, int t] (fun r => TupB r (eSeriesS (resRR c ms f t).1) (resRR c ms f t).2) := by
  refine fnp_ok (n := 54) Tryz.func34 rfl rfl rfl (Nat.le_of_ble_eq_true rfl) rfl fun w0 O => ?_
  have hcl := hc.2.1
  refine ok_seq fun K1 h1 => ok_region rfl (q_boxs _ rfl (Nat.zero_lt_succ _) (q_as _ rfl (q_as _ rfl (run_nil (h1 _ ?_))))); clear h1 K1
  refine ok_seq fun K2 h2 => ?_
  refine ok_seq fun K3 h3 => ?_
  refine ok_region rfl (q_lds _ ag34 rfl sz34 (q_call (f56_ok c hc) cl56 rfl rfl (q_un _ _ rfl rfl (q_mv _ rfl (q_or 3 3 rfl rfl rfl rfl rfl (fun hb22 =>
      q_mv _ rfl (q_call (f99_ok ms hn.1 hn.2) cl99 rfl rfl (q_un _ _ rfl rfl (run_nil ⟨rfl, rfl, rfl, rfl⟩)))) (
    run_nil (h3 _ ?_)))))))
  clear h3 K3
  refine ok_cond rfl (fun c4 => ?_) (fun c4 => ?_)
  · have e : resRR c ms f t = ([], false) := by
      unfold resRR
      rw [if_neg]
      rintro ⟨g1, g2, _⟩
      rw [g1, g2] at c4
      exact absurd c4 (by decide)
    refine ok_seq fun K5 h5 => ?_
    refine ok_region rfl (q_as _ rfl (q_as _ rfl (run_nil (h5 _ ?_))))
    clear h5 K5
    refine Ok.le (le_sub (t' := [(8, .sv (.raw (.slice none 0 0))), (9, .sv (bool false))]) (h' := []) ⟨rfl, rfl, trivial⟩ trivial) ?_
    refine ok_nilT 2 ?_
    rw [e]
    exact ok_ret ⟨_, ⟨_, _, rfl, ⟨_, _, rfl, rfl, rfl⟩, rfl⟩, ⟨_, rfl, .tr _ _ _ _⟩, fun b hb => (zn_tr (zn_tupB hb)).elim⟩
  · rw [Bool.or_eq_false_iff] at c4
    have g1 : pB (ClusterOk c) = true := by simpa using c4.1
    have g2 : gmsB ms = true := by simpa using c4.2
    have hk := of_pB g1
    have hl := hk.2.1
    have hd := datOk hc hw hk
    obtain ⟨a1, a2, a3⟩ := allU_inv (ns := c.ring.nodes) hd
    have hss := lb_ss a1.b a2
    have hsl : (selL ms f t (allU c.ring.nodes c.data)).length ≤ 1048576 ∧ ∀ y ∈ selL ms f t (allU c.ring.nodes c.data), SSeries y := selL_S hss
    refine ok_skip (h2 _ ?_)
    refine ok_seq fun K6 h6 => ok_region rfl (q_as _ rfl (run_nil (h6 _ ?_))); clear h6 K6
    refine ok_nilT 2 ?_
    refine ok_seq fun K7 h7 => ?_
    refine ok_seq fun K8 h8 => ok_region rfl (q_fa _ fd34_1 rfl rfl (by decide) (q_ld _ ag32 rfl rfl (q_len eS32 rfl (q_mv _ rfl (run_nil (h8 _ ?_)))))); clear h8 K8
    rw [List.length_map]
    refine ok_block ?_
    refine ok_loop (fun (s : Nat × SV) => ⟨[(1, .sv (eMatcherS ms)), (2, .sv (int f)), (3, .sv (int t)), (4, .sv (.ptr (eCluster c))), (10, .sv s.2), (23, .sv (eSeriesSS c.data)), (24, .sv (int c.data.length)), (25, .sv (int s.1))], []⟩) (fun s => Gd s.2 (eSeriesS (allU c.ring.nodes (c.data.take s.1))) ∧ ∀ b, Zn b s.2 → w0.heap.size ≤ b) (fun s => c.data.length - s.1) (0, .tr (fun _ => False) (.sl 2 []) (.slice none 0 0)) ⟨by rw [List.take_zero]; unfold allU; rw [upsL_nil]; exact .tr _ _ _ _, fun b hb => (zn_tr hb).elim⟩ (le_same ⟨rfl, rfl, rfl, rfl, rfl, rfl, rfl, rfl, trivial⟩) (fun s J => ?_)
    obtain ⟨k, r⟩ := s
    obtain ⟨jg, jz⟩ := J
    simp only at jg jz
    refine ok_seq fun K9 h9 => ok_region rfl (q_bin _ _ _ rfl rfl rfl (run_nil (h9 _ ?_))); clear h9 K9
    refine ok_seq fun K10 h10 => ?_
    refine ok_cond rfl (fun c11 => ?_) (fun c11 => ?_)
    · refine ok_skip (h10 _ ?_)
      have hkk : k < c.data.length := by simpa using c11
      obtain ⟨d, hdk⟩ := sget hkk
      obtain ⟨n, hnn⟩ := sget (l := c.ring.nodes) (i := k) (by omega)
      obtain ⟨e1, e2, e3, e4⟩ := allU_at hd hnn hdk
      refine ok_seq_join (fun (r' : SV) => ⟨[(1, .sv (eMatcherS ms)), (2, .sv (int f)), (3, .sv (int t)), (4, .sv (.ptr (eCluster c))), (10, .sv r'), (23, .sv (eSeriesSS c.data)), (24, .sv (int c.data.length)), (25, .sv (int k))], []⟩) (fun r' => Gd r' (eSeriesS (allU c.ring.nodes (c.data.take (k + 1)))) ∧ ∀ b, Zn b r' → w0.heap.size ≤ b) ?_ (fun r' J' => ?_)
      · refine ok_block ?_
        refine ok_seq fun K8 h8 => ok_region rfl (q_mv _ rfl (q_ia el32 rfl rfl (by omega) (mget hdk) (q_ld _ ag63 rfl rfl (q_as _ rfl (q_as _ rfl (run_nil (h8 _ ?_))))))); clear h8 K8
        refine ok_seq fun K9 h9 => ok_region rfl (q_fas fd34_0 rfl (by decide) (Nat.le_of_ble_eq_true rfl) rfl (q_fa _ fd31_1 rfl rfl (by decide) (q_ld _ ag29 rfl rfl (q_mv _ rfl (q_ia el29 rfl rfl (by omega) (mget (f := eRingNode) hnn) (q_fa _ fd45_1 rfl rfl (by decide) (q_ld (int n.st) ag3 rfl rfl (q_bin _ _ _ rfl rfl rfl (run_nil (h9 _ ?_)))))))))); clear h9 K9
        refine ok_cond rfl (fun c10 => ?_) (fun c10 => ?_)
        · have hst : n.st ≠ 2 := by simpa using c10
          rw [if_pos hst] at e1
          refine ok_last fun K11 h11 => ok_region rfl (q_mv r rfl (q_mv _ rfl (q_callg [] (f88_t _ _ e2 e3 e4) cl88 ⟨.inr (.inl ⟨_, rfl, jg⟩), .inl rfl, trivial⟩ (fun r2 hr2 hz2 ha2 => ?_))))
          rw [← e1] at hr2
          refine q_as _ rfl (run_nil (h11 _ ⟨r2, ⟨hr2, hz2⟩, le_sub ⟨rfl, rfl, rfl, rfl, rfl, rfl, rfl, rfl, trivial⟩ trivial⟩))
        · have hst : ¬ n.st ≠ 2 := by simpa using c10
          rw [if_neg hst] at e1
          exact ok_skip ⟨r, ⟨by rw [e1]; exact jg, jz⟩, le_sub ⟨rfl, rfl, rfl, rfl, rfl, rfl, rfl, rfl, trivial⟩ trivial⟩
      · refine ok_last fun K14 h14 => ok_region rfl (q_add rfl rfl (by omega) (q_mv _ rfl (run_nil (h14 _ ⟨(k + 1, r'), by simp only; omega, J', le_sub ⟨rfl, rfl, rfl, rfl, rfl, rfl, rfl, rfl, trivial⟩ trivial⟩))))
    · rw [List.take_of_length_le (by have : ¬ ((k : Int) < c.data.length) := by simpa using c11
                                     omega)] at jg
      refine ok_exit (h7 _ ?_)
      refine ok_seq fun K15 h15 => ok_region rfl (q_mv r rfl (q_mv _ rfl (q_mv _ rfl (q_mv _ rfl (q_callg [] (f100_t (allU c.ring.nodes c.data) hss ms hn.1 hn.2 (fun y hy n => val_size (a3 y hy) n) f t) cl100 ⟨.inr (.inl ⟨_, rfl, jg⟩), .inl rfl, .inl rfl, .inl rfl, trivial⟩ (fun r2 hr2 hz2 ha2 => ?_))))))
      obtain ⟨Z, v, rfl⟩ := gd_sl_inv hr2
      refine q_as _ rfl (run_nil (h15 _ ?_)); clear h15 K15
      refine ok_seq fun K16 h16 => ?_
      refine ok_seq fun K17 h17 => ok_region rfl (q_mv _ rfl (q_callp (f89_ok _ hsl) cl89 ⟨.inr (.inl ⟨_, rfl, .tr _ _ _ _⟩), trivial⟩ (q_un _ _ rfl rfl (run_nil (h17 _ ?_))))); clear h17 K17
      refine ok_cond rfl (fun c18 => ?_) (fun c18 => ?_)
      · have e : resRR c ms f t = ([], false) := by
          unfold resRR
          rw [if_neg]
          rintro ⟨_, _, g3⟩
          rw [g3] at c18
          exact absurd c18 (by decide)
        refine ok_seq fun K5 h5 => ?_
        refine ok_region rfl (q_as _ rfl (q_as _ rfl (run_nil (h5 _ ?_))))
        clear h5 K5
        refine Ok.le (le_sub (t' := [(8, .sv (.raw (.slice none 0 0))), (9, .sv (bool false))]) (h' := []) ⟨rfl, rfl, trivial⟩ trivial) ?_
        refine ok_nilT 2 ?_
        rw [e]
        exact ok_ret ⟨_, ⟨_, _, rfl, ⟨_, _, rfl, rfl, rfl⟩, rfl⟩, ⟨_, rfl, .tr _ _ _ _⟩, fun b hb => (zn_tr (zn_tupB hb)).elim⟩
      · have e : resRR c ms f t = (selL ms f t (allU c.ring.nodes c.data), pB (CanR c.ring)) := by
          unfold resRR
          rw [if_pos ⟨g1, g2, by simpa using c18⟩]
        refine ok_skip (h16 _ ?_)
        refine ok_seq fun K20 h20 => ok_region rfl (q_mv (.tr Z (.sl 2 ((selL ms f t (allU c.ring.nodes c.data)).map eSeries)) v) rfl (q_fas fd34_0 rfl (by decide) (Nat.le_of_ble_eq_true rfl) rfl (q_lds _ ag31 rfl sz31 (q_call (f101_ok c.ring hc.1) cl101 rfl rfl (q_as _ rfl (q_as _ rfl (run_nil (h20 _ ?_)))))))); clear h20 K20
        rw [e]
        exact ok_ret ⟨_, ⟨_, _, rfl, ⟨_, _, rfl, rfl, rfl⟩, rfl⟩, ⟨_, rfl, .tr _ _ _ _⟩, fun b hb => hz2 b (zn_tupB hb)⟩
end Go.Ring
