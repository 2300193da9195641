/- Series joined: the program. No condition beyond the sizes. -/
import Derived.Test.YtanilephcohjkaaGreatJ4
import Derived.Test.YtanilephcohjkaaGreatI1
set_option maxRecDepth 100000
set_option linter.unusedVariables false
set_option linter.unusedSimpArgs false
namespace Go.Ring
open Go Go.RowKit Go.Eager Go.Abs Go.Proofs
/-- What is known of the series joined so far. -/
theorem accJ_inv {a b : List Series} (na : Nice a) (nb : Nice b) (hw : wt a + wt b ≤ 1048576) {k : Nat} {u : Series} (hu : b[k]? = some u) :
    Nice (jn a (b.take k)) ∧ wt (jn a (b.take k)) + (u.samples.length + 1) ≤ 1048576 := by
  have nk : Nice (b.take k) := ⟨List.Pairwise.sublist (List.take_sublist k b) nb.s, fun y hy => nb.m y (List.mem_of_mem_take hy), fun y hy => nb.b y (List.mem_of_mem_take hy)⟩
  refine ⟨na.jn nk, ?_⟩
  have h3 := jn_wt na nk
  have h4 := wt_take_le b (k + 1)
  have h5 : wt (b.take (k + 1)) = wt (b.take k) + (u.samples.length + 1) := by
    rw [List.take_add_one, hu, Option.toList_some, wt_app]; simp [wt]
  omega
theorem wt_mem2 : ∀ {l : List Series} {x : Series} {n m : Nat}, x ∈ l → wt l + (n + 1) ≤ m → x.samples.length + n ≤ m
  | [], x, n, m, h, _ => by simp at h
  | y :: l, x, n, m, h, hw => by
    simp only [wt] at hw
    rcases List.mem_cons.1 h with rfl | h
    · omega
    · exact wt_mem2 (l := l) h (by omega)
/-- One series' copy among others: its rows' copies changed. -/
theorem cps_mg {w0 : World} {rs : List SV} {acc : List Series} {p : Nat} {x : Series} {q : List Sample} (J : Cps w0 rs (acc.map eSeries)) (hx : acc[p]? = some x) {Z0 Z1 : Nat → Prop} {v0 v1 : Value} (hr : rs[p]? = some (.agg [.tr Z0 (eLabelS x.labels) v0, .tr Z1 (eSampleS x.samples) v1]))
    {Z3 : Nat → Prop} {v3 : Value} (hz : ∀ b, Z3 b → w0.heap.size ≤ b) (ha : ∀ y ∈ rs, ∀ b, Zn b y → ¬ Z3 b) :
    Cps w0 (rs.set p (.agg ([.tr Z0 (eLabelS x.labels) v0, .tr Z1 (eSampleS x.samples) v1].set 1 (.tr Z3 (eSampleS q) v3)))) ((acc.set p ⟨x.labels, q⟩).map eSeries) := by
  have e : (acc.set p ⟨x.labels, q⟩).map eSeries = (acc.map eSeries).set p (eSeries ⟨x.labels, q⟩) := by rw [List.map_set]
  have hmem := List.mem_of_getElem? hr
  have hz0 : ∀ b, Z0 b → Zn b (.agg [.tr Z0 (eLabelS x.labels) v0, .tr Z1 (eSampleS x.samples) v1]) := fun b h => .agg _ _ (List.mem_cons_self ..) (.tr Z0 _ v0 h)
  rw [e]
  refine J.set (gc_Series ⟨x.labels, q⟩ fun b h h' => ha _ hmem b (hz0 b h) h') (fun j y hj hy b hb hb' => ?_) (fun b hb => ?_)
  · simp only [List.set_cons_succ, List.set_cons_zero, znA_cons, znI_raw, znI_tr, znA_nil, or_false, false_or] at hb'
    rcases hb' with h | h
    · exact hj (J.ap j p b _ _ hy hr hb (hz0 b h))
    · exact ha y (List.mem_of_getElem? hy) b hb h
  · simp only [List.set_cons_succ, List.set_cons_zero, znA_cons, znI_raw, znI_tr, znA_nil, or_false, false_or] at hb
    rcases hb with h | h
    · exact J.nw _ hmem b (hz0 b h)
    · exact hz b h
/-- Copies are structs. -/
theorem cps_agg {w0 : World} {rs : List SV} {l : List Series} (J : Cps w0 rs (l.map eSeries)) : ∀ q ∈ rs, (∃ c, q = .agg c) ∨ q.one = true := fun q hq => by
  obtain ⟨i, hi⟩ := List.getElem?_of_mem hq
  obtain ⟨x, hx⟩ := sget (l := l) (i := i) (by have := slt hi; have h2 := J.len; rw [List.length_map] at h2; omega)
  obtain ⟨Z0, v0, Z1, v1, rfl, _⟩ := gi_Series (J.gd i q _ hi (mget (f := eSeries) hx))
  exact .inl ⟨_, rfl⟩
theorem f88_t (a b : List Series) (na : Nice a) (nb : Nice b) (hw : wt a + wt b ≤ 1048576) : PFnT Tryz.prog 88 [eSeriesS a, eSeriesS b] (eSeriesS (jn a b)) := by
  refine fnp_ok (n := 51) Tryz.func88 rfl rfl rfl (Nat.le_of_ble_eq_true rfl) rfl fun w0 O => ?_
  have hbl := wt_len b
  have ha := na.b
  have hb := nb.b
  refine ok_seq fun K1 h1 => ok_region rfl (q_as _ rfl (run_nil (h1 _ ?_))); clear h1 K1
  refine ok_seq fun K2 h2 => ok_region rfl (q_mv _ rfl (q_callot (f133_o a (lb_ss ha (by omega))) cl133 ⟨.inl rfl, trivial⟩ rfl rfl (fun rs0 hC0 hA0 => q_ao _ rfl (run_nil (h2 _ ?_))))); clear h2 K2
  refine ok_seq fun K3 h3 => ?_
  refine ok_seq fun K4 h4 => ok_region rfl (q_mv _ rfl (q_len eS63 rfl (q_mv _ rfl (run_nil (h4 _ ?_))))); clear h4 K4
  rw [List.length_map]
  refine ok_block ?_
  refine ok_loop (fun (s : Nat × List SV) => ⟨[(5, .own 5), (12, .sv (eSeriesS b)), (13, .sv (int b.length)), (14, .sv (int s.1))], [(5, .row 2 125 s.2)]⟩) (fun s => Cps w0 s.2 ((jn a (b.take s.1)).map eSeries)) (fun s => b.length - s.1) (0, rs0) hC0 (le_rek 5 11 ⟨rfl, rfl, rfl, rfl, trivial⟩ ⟨rfl, trivial⟩ rfl rfl rfl rfl ⟨rfl, trivial⟩) (fun s J => ?_)
  obtain ⟨k, rs⟩ := s
  simp only at J
  refine ok_seq fun K5 h5 => ok_region rfl (q_bin _ _ _ rfl rfl rfl (run_nil (h5 _ ?_))); clear h5 K5
  refine ok_seq fun K6 h6 => ?_
  refine ok_cond rfl (fun c7 => ?_) (fun c7 => ?_)
  · refine ok_skip (h6 _ ?_)
    have hk : k < b.length := by simpa using c7
    obtain ⟨u, hu⟩ := sget hk
    obtain ⟨n1, i3⟩ := accJ_inv na nb hw hu
    have nu := hb u (smem hu)
    have hst := jn_step (a := a) hu
    have hsu := nb.m u (smem hu)
    generalize hacc : jn a (b.take k) = acc at *
    have i1 := srtL_iff.1 n1.s
    have i2 := n1.b
    have hss := lb_ss i2 (by omega)
    have hwl := wt_len acc
    have hus : u.samples.length ≤ 1048576 := by omega
    have hrl : rs.length = acc.length := by rw [J.len, List.length_map]
    have hp := lowI_le u.labels acc
    have hpp : ((lowI u.labels acc : Nat) : Int).toNat = lowI u.labels acc := rfl
    refine ok_seq_join (fun (rs' : List SV) => ⟨[(5, .own 5), (12, .sv (eSeriesS b)), (13, .sv (int b.length)), (14, .sv (int k))], [(5, .row 2 125 rs')]⟩) (fun rs' => Cps w0 rs' ((insJ acc u).map eSeries)) ?_ (fun rs' J => ?_)
    · refine ok_block ?_
      refine ok_seq fun K8 h8 => ok_region rfl (q_ia el63 rfl rfl (by omega) (mget (f := eSeries) hu) (q_lds _ ag125 rfl sz125 (q_alloc _ ze125 rfl rfl rfl rfl (q_sts _ rfl rfl rfl sz125 (Nat.le_of_ble_eq_true rfl) rfl (run_nil (h8 _ ?_)))))); clear h8 K8
      refine ok_seq fun K9 h9 => ?_
      refine ok_region rfl (q_mo _ rfl (q_fap fd125_0 rfl (by decide) (q_ldb (.sv (eLabelS u.labels)) ag78 rfl rfl rfl (q_call (PFn.row1 (rs := rs) (f163_ok acc hss u.labels nu i1) J.len J.gd) cl163 rfl rfl (q_mv _ rfl (q_ext _ rfl rfl (q_ext _ rfl rfl (q_as _ rfl (
        q_as _ rfl (run_nil (h9 _ ?_)))))))))))
      clear h9 K9
      refine ok_seq fun K10 h10 => ok_region rfl (q_mv _ rfl (run_nil (h10 _ ?_))); clear h10 K10
      refine ok_cond rfl (fun c11 => ?_) (fun c11 => ?_)
      · obtain ⟨x, hx, _⟩ := fnd_get c11
        have hlt := slt hx
        obtain ⟨r, hr⟩ := sget (l := rs) (i := lowI u.labels acc) (by omega)
        obtain ⟨Z0, v0, Z1, v1, rfl, d01⟩ := gi_Series (J.gd _ r _ hr (mget (f := eSeries) hx))
        have hsx := n1.m x (smem hx)
        have hgl := wt_mem2 (smem hx) i3
        refine ok_last fun K12 h12 => ok_region_i (by kernel_rfl) (by kernel_rfl) rfl (
          q_mo _ rfl (q_mv _ rfl (q_mo _ rfl (q_mv _ rfl (q_iao el63 rfl rfl rfl (by omega) (by show lowI u.labels acc < rs.length; omega) (q_fae fd125_1 rfl (by decide) (q_ldef (.tr Z1 (eSampleS x.samples) v1) ag123 rfl rfl hr rfl (q_fap fd125_1 rfl (by decide) (
          q_ldb (.sv (eSampleS u.samples)) ag123 rfl rfl rfl (q_callg [] (f164_t x.samples u.samples hgl hsx hsu) cl164 ⟨.inr (.inl ⟨_, rfl, .tr _ _ _ _⟩), .inl rfl, trivial⟩ (fun r3 hr3 hz3 ha3 => ?_)))))))))))
        obtain ⟨Z3, v3, rfl⟩ := gd_sl_inv hr3
        have hfin := cps_mg (q := grM x.samples u.samples) (v3 := v3) J hx hr (fun b h => hz3 b (.tr Z3 _ v3 h)) (fun y hy b hb hb' => ha3.2 5 2 125 _ y b rfl hy hb (.tr Z3 _ v3 hb'))
        rw [← insJ_fnd c11 hx] at hfin
        refine q_iao el63 rfl rfl rfl (by omega) (by show lowI u.labels acc < rs.length; omega) (q_fae fd125_1 rfl (by decide) (q_stef sz123 rfl rfl hr (by show 1 < 2; omega) rfl rfl rfl (run_nil (h12 _ ⟨_, hfin, le_sub ⟨rfl, rfl, rfl, rfl, trivial⟩ ⟨rfl, trivial⟩⟩))))
      · have hnew := insJ_new c11
        refine ok_last fun K13 h13 => ok_region_d [0, 0, 0, 1, 3, 0, 1, 3, 2, 3, 2, 0] #[[], [], [], [2], [2, 3], [], [5], [2, 3, 4, 5, 6], [2, 3, 4, 5, 6, 7], [2, 3, 4, 5, 6, 7, 8], [0, 1, 2, 3, 4, 5, 6, 7, 8, 9], [0, 1, 2, 3, 4, 5, 6, 7, 8, 9, 10]] [0, 1, 2, 3, 5, 6, 4, 7, 8, 9, 10, 11] (by kernel_rfl) (by kernel_rfl) rfl rfl (
          q_mo _ rfl (q_mv _ rfl (q_fap fd125_0 rfl (by decide) (q_ldb (.sv (eLabelS u.labels)) ag78 rfl rfl rfl (q_fap fd125_1 rfl (by decide) (q_ldb (.sv (eSampleS u.samples)) ag123 rfl rfl rfl (q_callr (f166_t u.labels nu.1) cl166 rfl (fun r0 hr0 hz0 ha0 => ?_))))))))
        obtain ⟨Z0, v0, rfl⟩ := gd_sl_inv hr0
        refine q_callr (f167_t u.samples hus) cl167 rfl (fun r1 hr1 hz1 ha1 => ?_)
        obtain ⟨Z1, v1, rfl⟩ := gd_sl_inv hr1
        have d01 : ∀ b, Z0 b → ¬ Z1 b := fun b h0 h1 => ha1.1 42 _ b rfl (.tr Z0 _ v0 h0) (.tr Z1 _ v1 h1)
        have hn : ∀ b, Zn b (.agg [.tr Z0 (eLabelS u.labels) v0, .tr Z1 (eSampleS u.samples) v1]) → w0.heap.size ≤ b := fun b hb => by
          simp only [znA_cons, znI_raw, znI_tr, znA_nil, or_false, false_or] at hb
          rcases hb with h | h
          · exact hz0 b (.tr Z0 _ v0 h)
          · exact hz1 b (.tr Z1 _ v1 h)
        have hfin := J.insAt (i := lowI u.labels acc) (by omega) (gc_Series u d01) (fun y hy b hb hb' => by
          simp only [znA_cons, znI_raw, znI_tr, znA_nil, or_false, false_or] at hb'
          rcases hb' with h | h
          · exact ha0.2 5 2 125 _ y b rfl hy hb (.tr Z0 _ v0 h)
          · exact ha1.2 5 2 125 _ y b rfl hy hb (.tr Z1 _ v1 h)) hn
        rw [← insAt_map eSeries, ← hnew] at hfin
        refine (q_bld _ (bl125 u) rfl rfl rfl (q_lito1 _ _ el63 ze125 (by decide) (by decide) rfl rfl rfl (.inl ⟨_, rfl⟩) rfl (
          q_ins (k := 5) (k2 := 47) (r := rs) (p := lowI u.labels acc) ins165 cl165 rfl rfl rfl rfl rfl (by decide) (by omega) (cps_agg J) (.inl ⟨_, rfl⟩) (by show (rs.length + 1) * 48 ≤ 140737488355328; omega) (by show rs.length + 1 ≤ maxLen; unfold maxLen; omega) rfl rfl (q_ao _ rfl (run_nil (h13 _ ⟨_, hfin, le_rek 5 48 ⟨rfl, rfl, rfl, rfl, trivial⟩ ⟨rfl, trivial⟩ rfl rfl rfl rfl ⟨rfl, trivial⟩⟩))))))
    · refine ok_last fun K14 h14 => ok_region rfl (
        q_add rfl rfl (by omega) (q_mv _ rfl (run_nil (h14 _ ⟨(k + 1, rs'), by simp only; omega, by simp only; rw [hst]; exact J, le_sub ⟨rfl, rfl, rfl, rfl, trivial⟩ ⟨rfl, trivial⟩⟩))))
  · rw [List.take_of_length_le (by have : ¬ ((k : Int) < b.length) := by simpa using c7
                                   omega)] at J
    refine ok_exit (h3 _ ?_)
    refine ok_seq fun K15 h15 => ok_region rfl (q_mo _ rfl (q_ao _ rfl (run_nil (h15 _ ?_)))); clear h15 K15
    refine ok_treed (k := 5) (n := 2) (T := 125) (rs := rs) (ss := (jn a b).map eSeries) rfl J.len J.gd J.ap (fun r hr b hb => .inl (J.nw r hr b hb)) (fun Z v hZ => ?_)
    exact ok_ret ⟨_, ⟨_, _, rfl, rfl, rfl⟩, .tr Z 2 _ v, fun b hb => (hZ b (zn_tr hb)).elim id fun h => h.elim⟩
end Go.Ring
