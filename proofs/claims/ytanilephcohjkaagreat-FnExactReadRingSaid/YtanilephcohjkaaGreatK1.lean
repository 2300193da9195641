/- All that a cluster's nodes have, joined; how a cluster is read. No condition beyond the sizes. -/
import Derived.Test.YtanilephcohjkaaGreatJ6
import Derived.Test.YtanilephcohjkaaGreatG18
import Derived.Test.YtanilephcohjkaaGreatG8
import Derived.Test.YtanilephcohjkaaGreatB4
set_option maxRecDepth 100000
set_option linter.unusedVariables false
set_option linter.unusedSimpArgs false
namespace Go.Ring
open Go Go.RowKit Go.Eager Go.Abs Go.Proofs
/-- What the nodes have that have not failed. -/
def upsL : List RingNode → List (List Series) → List (List Series)
  | n :: ns, d :: ds => if n.st ≠ 2 then d :: upsL ns ds else upsL ns ds
  | _, _ => []
theorem upsL_step : ∀ {ns : List RingNode} {ds : List (List Series)} {k : Nat} {n : RingNode} {d : List Series}, ns[k]? = some n → ds[k]? = some d → upsL ns (ds.take (k + 1)) = upsL ns (ds.take k) ++ (if n.st ≠ 2 then [d] else [])
  | [], _, k, n, d, h, _ => by simp at h
  | _ :: _, [], k, n, d, _, h => by simp at h
  | m :: ns, e :: ds, 0, n, d, h1, h2 => by
    simp only [List.getElem?_cons_zero, Option.some.injEq] at h1 h2
    subst h1; subst h2
    simp only [List.take_succ_cons, List.take_zero, upsL]
    split <;> rfl
  | m :: ns, e :: ds, k + 1, n, d, h1, h2 => by
    have ih := upsL_step (ns := ns) (ds := ds) (k := k) (n := n) (d := d) (by simpa using h1) (by simpa using h2)
    rw [List.take_succ_cons, List.take_succ_cons]
    simp only [upsL]
    rw [ih]
    by_cases c : m.st ≠ 2
    · rw [if_pos c, if_pos c, List.cons_append]
    · rw [if_neg c, if_neg c]
theorem upsL_nil (ns : List RingNode) : upsL ns [] = [] := by cases ns <;> rfl
theorem upsL_mem : ∀ {ns : List RingNode} {ds : List (List Series)} {x : List Series}, x ∈ upsL ns ds → x ∈ ds
  | [], _, x, h => by simp [upsL] at h
  | _ :: _, [], x, h => by simp [upsL] at h
  | m :: ns, e :: ds, x, h => by
    simp only [upsL] at h
    split at h
    · rcases List.mem_cons.1 h with rfl | h
      · exact List.mem_cons_self ..
      · exact List.mem_cons_of_mem _ (upsL_mem h)
    · exact List.mem_cons_of_mem _ (upsL_mem h)
theorem upsL_sum (c : List Series → Nat) : ∀ (ns : List RingNode) (ds : List (List Series)), sumF c (upsL ns ds) ≤ sumF c ds
  | [], ds => by simp [upsL, sumF]
  | _ :: _, [] => by simp [upsL, sumF]
  | m :: ns, e :: ds => by
    have ih := upsL_sum c ns ds
    simp only [upsL]
    split <;> simp only [sumF] <;> omega
theorem jnAll_snoc (ls : List (List Series)) (d a : List Series) : jnAll (ls ++ [d]) a = jn (jnAll ls a) d := by
  unfold jnAll; rw [List.foldl_append]; rfl
/-- What is known of the nodes' series. -/
structure DatOk (ds : List (List Series)) : Prop where
  n : ∀ d ∈ ds, Nice d
  w : sumF wt ds ≤ 1048576
  l : ∀ d ∈ ds, ∀ s ∈ d, LabelsOk s.labels
theorem nice_of {l : List Series} (h : SeriesOk l) (hs : ∀ y ∈ l, SSeries y) : Nice l := ⟨ser_srt h, ser_sm h, ss_lb hs⟩
theorem zSeriesSS_gw (l : List (List Series)) : GW (zSeriesSS l) (sumF wt l) := gw_le (szSl_gw zSeriesS_gw l) (by omega)
theorem zLabelS_nn (x : List Int) : GW (zIntS x) 0 := gw_le (take_gw x.length) (Nat.zero_le _)
theorem zRingNode_gw (x : RingNode) : GW (zRingNode x) 0 := gw_le (stp_gw (take_gw x.id.size) (zLabelS_nn x.toks)) (Nat.zero_le _)
theorem zRing_gw (x : Ring) : GW (zRing x) 0 := gw_le (szSl_gw zRingNode_gw x.nodes) (Nat.zero_le _)
theorem zCluster_wt {c : Cluster} {n : Int} (h : 0 ≤ zCluster c n) (hn : n ≤ 1048576) : sumF wt c.data ≤ 1048576 := by
  have h1 := (stp_gw (zRing_gw c.ring) (zSeriesSS_gw c.data)) n (by exact h)
  have h2 : zCluster c n = stp (zRing c.ring) (zSeriesSS c.data) n := rfl
  omega
theorem datOk {c : Cluster} (hc : SCluster c) (hw : sumF wt c.data ≤ 1048576) (hk : ClusterOk c) : DatOk c.data := by
  have ok : ∀ d ∈ c.data, SeriesOk d := fun d hd => by
    obtain ⟨i, hi⟩ := List.getElem?_of_mem hd
    exact hk.2.2 i d hi
  exact ⟨fun d hd => nice_of (ok d hd) (hc.2.2 d hd).2, hw, fun d hd s hs => ((ser_iff.1 (ok d hd)).2.1 s hs).1⟩
theorem jn_lab {P : List Label → Prop} : ∀ {b a : List Series}, (∀ s ∈ a, P s.labels) → (∀ s ∈ b, P s.labels) → ∀ s ∈ jn a b, P s.labels
  | [], a, ha, _ => ha
  | u :: b, a, ha, hb => by
    refine jn_lab (b := b) (a := insJ a u) (fun s hs => ?_) fun s hs => hb s (List.mem_cons_of_mem _ hs)
    rcases insJ_mem hs with hs | rfl | ⟨x, hx, rfl, _⟩
    · exact ha s hs
    · exact hb _ (List.mem_cons_self ..)
    · exact ha x hx
theorem jnAll_lab {P : List Label → Prop} : ∀ {ls : List (List Series)} {a : List Series}, (∀ s ∈ a, P s.labels) → (∀ l ∈ ls, ∀ s ∈ l, P s.labels) → ∀ s ∈ jnAll ls a, P s.labels
  | [], a, ha, _ => ha
  | l :: ls, a, ha, h => jnAll_lab (ls := ls) (a := jn a l) (jn_lab ha (h l (List.mem_cons_self ..))) fun x hx => h x (List.mem_cons_of_mem _ hx)
/-- All that the nodes have. -/
def allU (ns : List RingNode) (ds : List (List Series)) : List Series := jnAll (upsL ns ds) []
theorem allU_inv {ns : List RingNode} {ds : List (List Series)} (h : DatOk ds) : Nice (allU ns ds) ∧ wt (allU ns ds) ≤ 1048576 ∧ ∀ s ∈ allU ns ds, LabelsOk s.labels := by
  have h1 := fun l (hl : l ∈ upsL ns ds) => h.n l (upsL_mem hl)
  refine ⟨jnAll_nice nice_nil h1, ?_, jnAll_lab (fun s hs => by simp at hs) fun l hl => h.l l (upsL_mem hl)⟩
  have := jnAll_wt (ls := upsL ns ds) nice_nil h1
  have h2 := upsL_sum wt ns ds
  have h3 := h.w
  unfold allU
  simp only [wt] at this
  omega
theorem datOk_take {ds : List (List Series)} (h : DatOk ds) (k : Nat) : DatOk (ds.take k) :=
  ⟨fun d hd => h.n d (List.mem_of_mem_take hd), Nat.le_trans (sumF_take_le wt ds k) h.w, fun d hd => h.l d (List.mem_of_mem_take hd)⟩
/-- One more. -/
theorem allU_at {ns : List RingNode} {ds : List (List Series)} (h : DatOk ds) {k : Nat} {n : RingNode} {d : List Series} (hn : ns[k]? = some n) (hd : ds[k]? = some d) :
    allU ns (ds.take (k + 1)) = (if n.st ≠ 2 then jn (allU ns (ds.take k)) d else allU ns (ds.take k)) ∧ Nice (allU ns (ds.take k)) ∧ Nice d ∧ wt (allU ns (ds.take k)) + wt d ≤ 1048576 := by
  have h1 := fun l (hl : l ∈ upsL ns (ds.take k)) => (datOk_take h k).n l (upsL_mem hl)
  refine ⟨?_, (allU_inv (datOk_take h k)).1, h.n d (smem hd), ?_⟩
  · unfold allU
    rw [upsL_step hn hd]
    split
    · rw [jnAll_snoc]
    · rw [List.append_nil]
  · have h2 := jnAll_wt (ls := upsL ns (ds.take k)) nice_nil h1
    have h3 := upsL_sum wt ns (ds.take k)
    have h4 := sumF_take wt hd
    have h5 := sumF_take_le wt ds (k + 1)
    have h6 := h.w
    unfold allU
    simp only [wt] at h2
    omega
theorem f126_ok (a b : List Series) (na : Nice a) (nb : Nice b) (hw : wt a + wt b ≤ 1048576) : PFn Tryz.prog 126 [eSeriesS a, eSeriesS b] (eSeriesS (jn a b)) := PFnR.toP (f126_t a b na nb hw)
theorem f95_ok (c : Cluster) (hc : SCluster c) (hl : c.data.length = c.ring.nodes.length) (hd : DatOk c.data) : PFn Tryz.prog 95 [eCluster c] (eSeriesS (allU c.ring.nodes c.data)) := by
  refine fn_ok' (n := 27) Tryz.func95 rfl rfl rfl (Nat.le_of_ble_eq_true rfl) rfl fun w0 O => ?_
  have hcl := hc.2.1
  refine ok_seq fun K1 h1 => ok_region rfl (q_boxs _ rfl (Nat.zero_lt_succ _) (q_as _ rfl (run_nil (h1 _ ?_)))); clear h1 K1
  refine ok_seq fun K2 h2 => ok_region rfl (q_as _ rfl (run_nil (h2 _ ?_))); clear h2 K2
  refine Ok.le (le_nil 2 3 rfl) ?_
  refine ok_seq fun K3 h3 => ?_
  refine ok_seq fun K4 h4 => ok_region rfl (q_fa _ fd34_1 rfl rfl (by decide) (q_ld _ ag32 rfl rfl (q_len eS32 rfl (q_mv _ rfl (run_nil (h4 _ ?_)))))); clear h4 K4
  rw [List.length_map]
  refine ok_block ?_
  refine ok_loop (fun (k : Nat) => ⟨[(1, .sv (.ptr (eCluster c))), (3, .sv (eSeriesS (allU c.ring.nodes (c.data.take k)))), (7, .sv (eSeriesSS c.data)), (8, .sv (int c.data.length)), (9, .sv (int k))], []⟩) (fun k => True) (fun k => c.data.length - k) 0 trivial (le_same ⟨rfl, (by rw [List.take_zero]; unfold allU; rw [upsL_nil]; rfl), rfl, rfl, rfl, trivial⟩) (fun k J => ?_)
  refine ok_seq fun K5 h5 => ok_region rfl (q_bin _ _ _ rfl rfl rfl (run_nil (h5 _ ?_))); clear h5 K5
  refine ok_seq fun K6 h6 => ?_
  refine ok_cond rfl (fun c7 => ?_) (fun c7 => ?_)
  · refine ok_skip (h6 _ ?_)
    have hkk : k < c.data.length := by simpa using c7
    obtain ⟨d, hdk⟩ := sget hkk
    obtain ⟨n, hn⟩ := sget (l := c.ring.nodes) (i := k) (by omega)
    obtain ⟨e1, e2, e3, e4⟩ := allU_at hd hn hdk
    refine ok_seq_join (fun (L : List Series) => ⟨[(1, .sv (.ptr (eCluster c))), (3, .sv (eSeriesS L)), (7, .sv (eSeriesSS c.data)), (8, .sv (int c.data.length)), (9, .sv (int k))], []⟩) (fun L => L = allU c.ring.nodes (c.data.take (k + 1))) ?_ (fun L hL => ?_)
    · refine ok_block ?_
      refine ok_seq fun K8 h8 => ok_region rfl (q_mv _ rfl (q_ia el32 rfl rfl (by omega) (mget hdk) (q_ld _ ag63 rfl rfl (q_as _ rfl (q_as _ rfl (run_nil (h8 _ ?_))))))); clear h8 K8
      refine ok_seq fun K9 h9 => ok_region rfl (q_fas fd34_0 rfl (by decide) (Nat.le_of_ble_eq_true rfl) rfl (q_fa _ fd31_1 rfl rfl (by decide) (q_ld _ ag29 rfl rfl (q_mv _ rfl (q_ia el29 rfl rfl (by omega) (mget (f := eRingNode) hn) (q_fa _ fd45_1 rfl rfl (by decide) (q_ld (int n.st) ag3 rfl rfl (q_bin _ _ _ rfl rfl rfl (run_nil (h9 _ ?_)))))))))); clear h9 K9
      refine ok_cond rfl (fun c10 => ?_) (fun c10 => ?_)
      · have hst : n.st ≠ 2 := by simpa using c10
        rw [if_pos hst] at e1
        refine ok_last fun K11 h11 => ok_region rfl (q_mv _ rfl (q_mv _ rfl (q_call (f126_ok _ _ e2 e3 e4) cl126 rfl rfl (q_as _ rfl (run_nil (h11 _ ⟨_, e1.symm, le_sub ⟨rfl, rfl, rfl, rfl, rfl, trivial⟩ trivial⟩))))))
      · have hst : ¬ n.st ≠ 2 := by simpa using c10
        rw [if_neg hst] at e1
        exact ok_skip ⟨_, e1.symm, le_sub ⟨rfl, rfl, rfl, rfl, rfl, trivial⟩ trivial⟩
    · subst hL
      refine ok_last fun K14 h14 => ok_region rfl (q_add rfl rfl (by omega) (q_mv _ rfl (run_nil (h14 _ ⟨k + 1, by omega, trivial, le_sub ⟨rfl, rfl, rfl, rfl, rfl, trivial⟩ trivial⟩))))
  · rw [List.take_of_length_le (by have : ¬ ((k : Int) < c.data.length) := by simpa using c7
                                   omega)]
    refine ok_exit (h3 _ ?_)
    refine ok_seq fun K15 h15 => ok_region rfl (q_mv _ rfl (q_as _ rfl (run_nil (h15 _ ?_)))); clear h15 K15
    exact ok_ret ⟨_, rfl, rfl⟩
/-- What is read of a cluster, and whether it may be. -/
noncomputable def resRR (c : Cluster) (ms : List Matcher) (f t : Int) : List Series × Bool :=
  if pB (ClusterOk c) = true ∧ gmsB ms = true ∧ pB (SeriesOk (selL ms f t (allU c.ring.nodes c.data))) = true then (selL ms f t (allU c.ring.nodes c.data), pB (CanR c.ring)) else ([], false)
theorem f32_ok (c : Cluster) (hc : SCluster c) (hw : sumF wt c.data ≤ 1048576) (ms : List Matcher) (hn : ms.length ≤ 1048576 ∧ ∀ m ∈ ms, SMatcher m) (f t : Int) : PFn Tryz.prog 32 [eCluster c, eMatcherS ms, int f, int t] (.tup [eSeriesS (resRR c ms f t).1, bool (resRR c ms f t).2]) := by
  refine fn_ok' (n := 32) Tryz.func32 rfl rfl rfl (Nat.le_of_ble_eq_true rfl) rfl fun w0 O => ?_
  refine ok_seq fun K1 h1 => ok_region rfl (q_boxs _ rfl (Nat.zero_lt_succ _) (q_as _ rfl (q_as _ rfl (run_nil (h1 _ ?_))))); clear h1 K1
  refine ok_seq fun K2 h2 => ?_
  refine ok_seq fun K3 h3 => ?_
  refine ok_region rfl (q_lds _ ag34 rfl sz34 (q_call (f43_ok c hc) cl43 rfl rfl (q_un _ _ rfl rfl (q_mv _ rfl (q_or 3 3 rfl rfl rfl rfl rfl (fun hb22 =>
      q_mv _ rfl (q_call (f93_ok ms hn.1 hn.2) cl93 rfl rfl (q_un _ _ rfl rfl (run_nil ⟨rfl, rfl, rfl, rfl⟩)))) (
    run_nil (h3 _ ?_)))))))
  clear h3 K3
  refine ok_cond rfl (fun c4 => ?_) (fun c4 => ?_)
  · have e : resRR c ms f t = ([], false) := by
      unfold resRR
      rw [if_neg]
      rintro ⟨g1, g2, _⟩
      rw [g1, g2] at c4
      exact absurd c4 (by decide)
    refine ok_seq fun K5 h5 => ?_
    refine ok_region rfl (q_as _ rfl (q_as _ rfl (run_nil (h5 _ ?_))))
    clear h5 K5
    refine Ok.le (le_nil 2 8 rfl) ?_
    rw [e]
    exact ok_ret ⟨_, rfl, rfl⟩
  · rw [Bool.or_eq_false_iff] at c4
    have g1 : pB (ClusterOk c) = true := by simpa using c4.1
    have g2 : gmsB ms = true := by simpa using c4.2
    have hk := of_pB g1
    have hd := datOk hc hw hk
    obtain ⟨a1, a2, a3⟩ := allU_inv (ns := c.ring.nodes) hd
    have hss := lb_ss a1.b a2
    refine ok_skip (h2 _ ?_)
    refine ok_seq fun K6 h6 => ok_region rfl (q_lds _ ag34 rfl sz34 (q_call (f95_ok c hc hk.2.1 hd) cl95 rfl rfl (q_mv _ rfl (q_mv _ rfl (q_mv _ rfl (q_call (f94_ok (allU c.ring.nodes c.data) hss ms hn.1 hn.2 (gms_all g2) (fun y hy n => Nat.le_trans (val_size (a3 y hy) n) (by omega)) f t) cl94 rfl rfl (q_as _ rfl (run_nil (h6 _ ?_))))))))); clear h6 K6
    have hsl : (selL ms f t (allU c.ring.nodes c.data)).length ≤ 1048576 ∧ ∀ y ∈ selL ms f t (allU c.ring.nodes c.data), SSeries y := selL_S hss
    refine ok_seq fun K16 h16 => ?_
    refine ok_seq fun K17 h17 => ok_region rfl (q_mv _ rfl (q_call (f96_ok _ hsl) cl96 rfl rfl (q_un _ _ rfl rfl (run_nil (h17 _ ?_))))); clear h17 K17
    refine ok_cond rfl (fun c18 => ?_) (fun c18 => ?_)
    · have e : resRR c ms f t = ([], false) := by
        unfold resRR
        rw [if_neg]
        rintro ⟨_, _, g3⟩
        rw [g3] at c18
        exact absurd c18 (by decide)
      refine ok_seq fun K5 h5 => ?_
      refine ok_region rfl (q_as _ rfl (q_as _ rfl (run_nil (h5 _ ?_))))
      clear h5 K5
      refine Ok.le (le_nil 2 8 rfl) ?_
      rw [e]
      exact ok_ret ⟨_, rfl, rfl⟩
    · have e : resRR c ms f t = (selL ms f t (allU c.ring.nodes c.data), pB (0 < c.ring.nodes.length ∧ ReadR c.ring)) := by
        unfold resRR
        rw [if_pos ⟨g1, g2, by simpa using c18⟩]
        congr 1
        exact pB_iff ⟨fun h => h.2, fun h => ⟨hk.1, h⟩⟩
      refine ok_skip (h16 _ ?_)
      refine ok_seq fun K20 h20 => ok_region rfl (q_mv _ rfl (q_fas fd34_0 rfl (by decide) (Nat.le_of_ble_eq_true rfl) rfl (q_lds _ ag31 rfl sz31 (q_call (f97_ok c.ring hc.1 hk.1) cl97 rfl rfl (q_as _ rfl (q_as _ rfl (run_nil (h20 _ ?_)))))))); clear h20 K20
      rw [e]
      exact ok_ret ⟨_, rfl, rfl⟩
end Go.Ring
