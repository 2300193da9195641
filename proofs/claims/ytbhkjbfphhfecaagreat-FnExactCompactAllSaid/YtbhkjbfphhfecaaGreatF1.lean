/- Copies of blocks: program and reference. No condition beyond the sizes. -/
import Derived.Test.YtbhkjbfphhfecaaGreatE4
set_option maxRecDepth 100000
set_option linter.unusedVariables false
set_option linter.unusedSimpArgs false
namespace Go.Ring
open Go Go.RowKit Go.Eager Go.Abs Go.Proofs
theorem built103 (p0 : Option Addr) (n0 c0 : Nat) (x1 : Int) (x2 : Int) : Tryz.prog.built 103 [(0, .slice p0 n0 c0), (1, .int .i64 x1), (2, .int .i64 x2)] = some #[.slice p0 n0 c0, .int .i64 x1, .int .i64 x2] := by kernel_rfl
theorem bl103 (x : Stone) {Z0 : Nat → Prop} {v0 : Value} : BL Tryz.prog 103 [.tr Z0 (eLabelS x.labels) v0, int x.from_, int x.to] := by
  intro vs hv
  match vs, hv with
  | [w0, w1, w2], hv =>
    obtain ⟨h0, h1, h2, -⟩ := hv
    obtain ⟨rfl, p0, n0, c0, e0⟩ := h0
    have e1 : w1 = _ := h1
    have e2 : w2 = _ := h2
    rw [e0]
    subst e1
    subst e2
    exact built103 p0 n0 c0 x.from_ x.to
theorem f191_t (x : List Series) (hx : x.length ≤ 1048576 ∧ ∀ y ∈ x, SSeries y) : PFnT Tryz.prog 191 [eSeriesS x] (eSeriesS x) := by
  have hle : x.length ≤ 1048576 := hx.1
  refine fnp_ok (n := 24) Tryz.func191 rfl rfl rfl (Nat.le_of_ble_eq_true rfl) rfl fun w0 O => ?_
  refine ok_seq fun K1 h1 => ok_region rfl (q_as _ rfl (run_nil (h1 _ ?_))); clear h1 K1
  refine ok_seq fun K2 h2 => ok_region rfl (q_an (n := 2) 83 (by decide) rfl rfl rfl (run_nil (h2 _ ?_))); clear h2 K2
  refine ok_seq fun K3 h3 => ?_
  refine ok_seq fun K4 h4 => ok_region rfl (q_mv _ rfl (q_len eS31 rfl (q_mv _ rfl (run_nil (h4 _ ?_))))); clear h4 K4
  rw [List.length_map]
  refine ok_block ?_
  refine ok_loop (fun (rs : List SV) => ⟨[(3, .own 3), (6, .sv (eSeriesS x)), (7, .sv (int x.length)), (8, .sv (int rs.length))], [(3, .row 2 83 rs)]⟩) (fun rs => rs.length ≤ x.length ∧ Cps w0 rs ((x.take rs.length).map eSeries)) (fun rs => x.length - rs.length) [] ⟨Nat.zero_le _, Cps.nil w0⟩ (le_sub ⟨rfl, rfl, rfl, rfl, trivial⟩ ⟨rfl, trivial⟩) (fun rs J => ?_)
  obtain ⟨j1, j2⟩ := J
  refine ok_seq fun K5 h5 => ok_region rfl (q_bin _ _ _ rfl rfl rfl (run_nil (h5 _ ?_))); clear h5 K5
  refine ok_seq fun K6 h6 => ?_
  refine ok_cond rfl (fun c7 => ?_) (fun c7 => ?_)
  · refine ok_skip (h6 _ ?_)
    have hk : rs.length < x.length := by simpa using c7
    obtain ⟨u, hu⟩ := sget hk
    refine ok_seq fun K8 h8 => ?_
    refine ok_block ?_
    refine ok_seq fun K9 h9 => ok_region rfl (q_ia el31 rfl rfl (by omega) (mget (f := eSeries) hu) (q_lds _ ag83 rfl sz83 (q_alloc _ ze83 rfl rfl rfl rfl (q_sts _ rfl rfl rfl sz83 (Nat.le_of_ble_eq_true rfl) rfl (run_nil (h9 _ ?_)))))); clear h9 K9
    refine ok_last fun K10 h10 => ok_region_d [0, 0, 1, 3, 0, 1, 3, 2, 3, 2, 0] #[[], [], [1], [1, 2], [], [4], [1, 2, 3, 4, 5], [1, 2, 3, 4, 5, 6], [1, 2, 3, 4, 5, 6, 7], [0, 1, 2, 3, 4, 5, 6, 7, 8], [0, 1, 2, 3, 4, 5, 6, 7, 8, 9]] [0, 1, 2, 4, 5, 3, 6, 7, 8, 9, 10] (by kernel_rfl) (by kernel_rfl) rfl rfl (q_mo _ rfl (q_fap fd83_0 rfl (by decide) (q_ldb _ ag80 rfl rfl rfl (q_fap fd83_1 rfl (by decide) (q_ldb _ ag81 rfl rfl rfl (q_callr (f140_t u.labels ((hx.2 u (smem hu)).1.1)) cl140 rfl (fun r0 hr0 hz0 ha0 => ?_)))))))
    obtain ⟨Z0, v0, rfl⟩ := gd_sl_inv hr0
    refine q_callr (f196_t u.samples ((hx.2 u (smem hu)).2)) cl196 rfl (fun r1 hr1 hz1 ha1 => ?_)
    obtain ⟨Z1, v1, rfl⟩ := gd_sl_inv hr1
    have d0_1 : ∀ b, Z0 b → ¬ Z1 b := fun b h1 h2 => ha1.1 15 _ b rfl (.tr Z0 _ v0 h1) (.tr Z1 _ v1 h2)
    have hfresh := j2.snoc (r := .agg [.tr Z0 (eLabelS u.labels) v0, .tr Z1 (eSampleS u.samples) v1]) (gc_Series u d0_1) (fun y hy b hb hb' => by simp only [znA_cons, znI_raw, znI_tr, znA_nil, or_false, false_or] at hb'; exact hb'.elim (fun h => (ha0.2 3 2 83 _ y b rfl hy hb (.tr Z0 _ v0 h))) (fun h => ((ha1.2 3 2 83 _ y b rfl hy hb (.tr Z1 _ v1 h))))) (fun b hb => by simp only [znA_cons, znI_raw, znI_tr, znA_nil, or_false, false_or] at hb; exact hb.elim (fun h => (hz0 b (.tr Z0 _ v0 h))) (fun h => ((hz1 b (.tr Z1 _ v1 h)))))
    rw [show (x.take rs.length).map eSeries ++ [eSeries u] = (x.take (rs ++ [(.agg [.tr Z0 (eLabelS u.labels) v0, .tr Z1 (eSampleS u.samples) v1] : SV)]).length).map eSeries by rw [List.length_append, List.length_cons, List.length_nil, List.take_add_one, hu, List.map_append]; rfl] at hfresh
    refine q_bld _ (bl83 u) rfl rfl rfl (q_lit1 _ _ el31 ze83 (by decide) (by decide) rfl (.inl ⟨_, rfl⟩) rfl (q_app _ el31 ze83 rfl by83 rfl rfl rfl rfl rfl (by simp) (by intro s hs; simp at hs; subst hs; exact .inl ⟨_, rfl⟩) (by show rs.length + 1 ≤ maxLen; unfold maxLen; omega) (by show (rs.length + 1) * 48 ≤ _; omega) (q_ao _ rfl (run_nil (h10 _ (h8 _ ?_))))))
    refine ok_last fun K11 h11 => ok_region rfl (q_add rfl rfl (by omega) (q_mv _ rfl (run_nil (h11 _ ⟨rs ++ [.agg [.tr Z0 (eLabelS u.labels) v0, .tr Z1 (eSampleS u.samples) v1]], by simp only [List.length_append, List.length_cons, List.length_nil]; omega, ⟨by simp only [List.length_append, List.length_cons, List.length_nil]; omega, hfresh⟩, ?_⟩))))
    have e : ((rs ++ [(.agg [.tr Z0 (eLabelS u.labels) v0, .tr Z1 (eSampleS u.samples) v1] : SV)]).length : Int) = (rs.length : Int) + 1 := by simp
    rw [e]
    exact le_rek 3 21 ⟨rfl, rfl, rfl, rfl, trivial⟩ ⟨rfl, trivial⟩ rfl rfl rfl rfl ⟨rfl, trivial⟩
  · have hk : rs.length = x.length := by have : ¬ ((rs.length : Int) < x.length) := by simpa using c7
                                         omega
    rw [hk, List.take_length] at j2
    refine ok_exit (h3 _ ?_)
    refine ok_seq fun K12 h12 => ok_region rfl (q_mo _ rfl (q_ao _ rfl (run_nil (h12 _ ?_)))); clear h12 K12
    refine ok_treed (k := 3) (n := 2) (T := 83) (rs := rs) (ss := x.map eSeries) rfl j2.len j2.gd j2.ap (fun r hr b hb => .inl (j2.nw r hr b hb)) (fun Z v hZ => ?_)
    exact ok_ret ⟨_, ⟨_, _, rfl, rfl, rfl⟩, .tr Z 2 _ v, fun b hb => (hZ b (zn_tr hb)).elim id fun h => h.elim⟩
theorem f141_t (x : List Series) (hx : x.length ≤ 1048576 ∧ ∀ y ∈ x, SSeries y) : PFnT Tryz.prog 141 [eSeriesS x] (eSeriesS x) := by
  have hle : x.length ≤ 1048576 := hx.1
  refine fnp_ok (n := 24) Tryz.func141 rfl rfl rfl (Nat.le_of_ble_eq_true rfl) rfl fun w0 O => ?_
  refine ok_seq fun K1 h1 => ok_region rfl (q_as _ rfl (run_nil (h1 _ ?_))); clear h1 K1
  refine ok_seq fun K2 h2 => ok_region rfl (q_an (n := 2) 83 (by decide) rfl rfl rfl (run_nil (h2 _ ?_))); clear h2 K2
  refine ok_seq fun K3 h3 => ?_
  refine ok_seq fun K4 h4 => ok_region rfl (q_mv _ rfl (q_len eS31 rfl (q_mv _ rfl (run_nil (h4 _ ?_))))); clear h4 K4
  rw [List.length_map]
  refine ok_block ?_
  refine ok_loop (fun (rs : List SV) => ⟨[(3, .own 3), (6, .sv (eSeriesS x)), (7, .sv (int x.length)), (8, .sv (int rs.length))], [(3, .row 2 83 rs)]⟩) (fun rs => rs.length ≤ x.length ∧ Cps w0 rs ((x.take rs.length).map eSeries)) (fun rs => x.length - rs.length) [] ⟨Nat.zero_le _, Cps.nil w0⟩ (le_sub ⟨rfl, rfl, rfl, rfl, trivial⟩ ⟨rfl, trivial⟩) (fun rs J => ?_)
  obtain ⟨j1, j2⟩ := J
  refine ok_seq fun K5 h5 => ok_region rfl (q_bin _ _ _ rfl rfl rfl (run_nil (h5 _ ?_))); clear h5 K5
  refine ok_seq fun K6 h6 => ?_
  refine ok_cond rfl (fun c7 => ?_) (fun c7 => ?_)
  · refine ok_skip (h6 _ ?_)
    have hk : rs.length < x.length := by simpa using c7
    obtain ⟨u, hu⟩ := sget hk
    refine ok_seq fun K8 h8 => ?_
    refine ok_block ?_
    refine ok_seq fun K9 h9 => ok_region rfl (q_ia el31 rfl rfl (by omega) (mget (f := eSeries) hu) (q_lds _ ag83 rfl sz83 (q_alloc _ ze83 rfl rfl rfl rfl (q_sts _ rfl rfl rfl sz83 (Nat.le_of_ble_eq_true rfl) rfl (run_nil (h9 _ ?_)))))); clear h9 K9
    refine ok_last fun K10 h10 => ok_region_d [0, 0, 1, 3, 0, 1, 3, 2, 3, 2, 0] #[[], [], [1], [1, 2], [], [4], [1, 2, 3, 4, 5], [1, 2, 3, 4, 5, 6], [1, 2, 3, 4, 5, 6, 7], [0, 1, 2, 3, 4, 5, 6, 7, 8], [0, 1, 2, 3, 4, 5, 6, 7, 8, 9]] [0, 1, 2, 4, 5, 3, 6, 7, 8, 9, 10] (by kernel_rfl) (by kernel_rfl) rfl rfl (q_mo _ rfl (q_fap fd83_0 rfl (by decide) (q_ldb _ ag80 rfl rfl rfl (q_fap fd83_1 rfl (by decide) (q_ldb _ ag81 rfl rfl rfl (q_callr (f78_t u.labels ((hx.2 u (smem hu)).1.1)) cl78 rfl (fun r0 hr0 hz0 ha0 => ?_)))))))
    obtain ⟨Z0, v0, rfl⟩ := gd_sl_inv hr0
    refine q_callr (f152_t u.samples ((hx.2 u (smem hu)).2)) cl152 rfl (fun r1 hr1 hz1 ha1 => ?_)
    obtain ⟨Z1, v1, rfl⟩ := gd_sl_inv hr1
    have d0_1 : ∀ b, Z0 b → ¬ Z1 b := fun b h1 h2 => ha1.1 15 _ b rfl (.tr Z0 _ v0 h1) (.tr Z1 _ v1 h2)
    have hfresh := j2.snoc (r := .agg [.tr Z0 (eLabelS u.labels) v0, .tr Z1 (eSampleS u.samples) v1]) (gc_Series u d0_1) (fun y hy b hb hb' => by simp only [znA_cons, znI_raw, znI_tr, znA_nil, or_false, false_or] at hb'; exact hb'.elim (fun h => (ha0.2 3 2 83 _ y b rfl hy hb (.tr Z0 _ v0 h))) (fun h => ((ha1.2 3 2 83 _ y b rfl hy hb (.tr Z1 _ v1 h))))) (fun b hb => by simp only [znA_cons, znI_raw, znI_tr, znA_nil, or_false, false_or] at hb; exact hb.elim (fun h => (hz0 b (.tr Z0 _ v0 h))) (fun h => ((hz1 b (.tr Z1 _ v1 h)))))
    rw [show (x.take rs.length).map eSeries ++ [eSeries u] = (x.take (rs ++ [(.agg [.tr Z0 (eLabelS u.labels) v0, .tr Z1 (eSampleS u.samples) v1] : SV)]).length).map eSeries by rw [List.length_append, List.length_cons, List.length_nil, List.take_add_one, hu, List.map_append]; rfl] at hfresh
    refine q_bld _ (bl83 u) rfl rfl rfl (q_lit1 _ _ el31 ze83 (by decide) (by decide) rfl (.inl ⟨_, rfl⟩) rfl (q_app _ el31 ze83 rfl by83 rfl rfl rfl rfl rfl (by simp) (by intro s hs; simp at hs; subst hs; exact .inl ⟨_, rfl⟩) (by show rs.length + 1 ≤ maxLen; unfold maxLen; omega) (by show (rs.length + 1) * 48 ≤ _; omega) (q_ao _ rfl (run_nil (h10 _ (h8 _ ?_))))))
    refine ok_last fun K11 h11 => ok_region rfl (q_add rfl rfl (by omega) (q_mv _ rfl (run_nil (h11 _ ⟨rs ++ [.agg [.tr Z0 (eLabelS u.labels) v0, .tr Z1 (eSampleS u.samples) v1]], by simp only [List.length_append, List.length_cons, List.length_nil]; omega, ⟨by simp only [List.length_append, List.length_cons, List.length_nil]; omega, hfresh⟩, ?_⟩))))
    have e : ((rs ++ [(.agg [.tr Z0 (eLabelS u.labels) v0, .tr Z1 (eSampleS u.samples) v1] : SV)]).length : Int) = (rs.length : Int) + 1 := by simp
    rw [e]
    exact le_rek 3 21 ⟨rfl, rfl, rfl, rfl, trivial⟩ ⟨rfl, trivial⟩ rfl rfl rfl rfl ⟨rfl, trivial⟩
  · have hk : rs.length = x.length := by have : ¬ ((rs.length : Int) < x.length) := by simpa using c7
                                         omega
    rw [hk, List.take_length] at j2
    refine ok_exit (h3 _ ?_)
    refine ok_seq fun K12 h12 => ok_region rfl (q_mo _ rfl (q_ao _ rfl (run_nil (h12 _ ?_)))); clear h12 K12
    refine ok_treed (k := 3) (n := 2) (T := 83) (rs := rs) (ss := x.map eSeries) rfl j2.len j2.gd j2.ap (fun r hr b hb => .inl (j2.nw r hr b hb)) (fun Z v hZ => ?_)
    exact ok_ret ⟨_, ⟨_, _, rfl, rfl, rfl⟩, .tr Z 2 _ v, fun b hb => (hZ b (zn_tr hb)).elim id fun h => h.elim⟩
theorem f142_t (x : List Stone) (hx : x.length ≤ 1048576 ∧ ∀ y ∈ x, SStone y) : PFnT Tryz.prog 142 [eStoneS x] (eStoneS x) := by
  have hle : x.length ≤ 1048576 := hx.1
  refine fnp_ok (n := 22) Tryz.func142 rfl rfl rfl (Nat.le_of_ble_eq_true rfl) rfl fun w0 O => ?_
  refine ok_seq fun K1 h1 => ok_region rfl (q_as _ rfl (run_nil (h1 _ ?_))); clear h1 K1
  refine ok_seq fun K2 h2 => ok_region rfl (q_an (n := 3) 103 (by decide) rfl rfl rfl (run_nil (h2 _ ?_))); clear h2 K2
  refine ok_seq fun K3 h3 => ?_
  refine ok_seq fun K4 h4 => ok_region rfl (q_mv _ rfl (q_len eS32 rfl (q_mv _ rfl (run_nil (h4 _ ?_))))); clear h4 K4
  rw [List.length_map]
  refine ok_block ?_
  refine ok_loop (fun (rs : List SV) => ⟨[(3, .own 3), (6, .sv (eStoneS x)), (7, .sv (int x.length)), (8, .sv (int rs.length))], [(3, .row 3 103 rs)]⟩) (fun rs => rs.length ≤ x.length ∧ Cps w0 rs ((x.take rs.length).map eStone)) (fun rs => x.length - rs.length) [] ⟨Nat.zero_le _, Cps.nil w0⟩ (le_sub ⟨rfl, rfl, rfl, rfl, trivial⟩ ⟨rfl, trivial⟩) (fun rs J => ?_)
  obtain ⟨j1, j2⟩ := J
  refine ok_seq fun K5 h5 => ok_region rfl (q_bin _ _ _ rfl rfl rfl (run_nil (h5 _ ?_))); clear h5 K5
  refine ok_seq fun K6 h6 => ?_
  refine ok_cond rfl (fun c7 => ?_) (fun c7 => ?_)
  · refine ok_skip (h6 _ ?_)
    have hk : rs.length < x.length := by simpa using c7
    obtain ⟨u, hu⟩ := sget hk
    refine ok_seq fun K8 h8 => ?_
    refine ok_block ?_
    refine ok_seq fun K9 h9 => ok_region rfl (q_ia el32 rfl rfl (by omega) (mget (f := eStone) hu) (q_lds _ ag103 rfl sz103 (q_alloc _ ze103 rfl rfl rfl rfl (q_sts _ rfl rfl rfl sz103 (Nat.le_of_ble_eq_true rfl) rfl (run_nil (h9 _ ?_)))))); clear h9 K9
    refine ok_seq fun K10 h10 => ok_region rfl (q_fap fd103_0 rfl (by decide) (q_ldb _ ag80 rfl rfl rfl (q_callr (f78_t u.labels ((hx.2 u (smem hu)).1)) cl78 rfl (fun r0 hr0 hz0 ha0 => ?_))))
    obtain ⟨Z0, v0, rfl⟩ := gd_sl_inv hr0
    have hfresh := j2.snoc (r := .agg [.tr Z0 (eLabelS u.labels) v0, int u.from_, int u.to]) (gc_Stone u ) (fun y hy b hb hb' => by simp only [znA_cons, znI_raw, znI_tr, znA_nil, or_false, false_or] at hb'; exact ((ha0.2 3 3 103 _ y b rfl hy hb (.tr Z0 _ v0 hb')))) (fun b hb => by simp only [znA_cons, znI_raw, znI_tr, znA_nil, or_false, false_or] at hb; exact ((hz0 b (.tr Z0 _ v0 hb))))
    rw [show (x.take rs.length).map eStone ++ [eStone u] = (x.take (rs ++ [(.agg [.tr Z0 (eLabelS u.labels) v0, int u.from_, int u.to] : SV)]).length).map eStone by rw [List.length_append, List.length_cons, List.length_nil, List.take_add_one, hu, List.map_append]; rfl] at hfresh
    refine q_fap fd103_0 rfl (by decide) (q_st _ sz80 rfl rfl (Nat.le_of_ble_eq_true rfl) rfl ⟨_, rfl, rfl⟩ rfl (run_nil (h10 _ ?_)))
    refine ok_last fun K11 h11 => ok_region rfl (q_mo _ rfl (q_ldbs ag103 rfl rfl sz103 rfl rfl (q_lit1 _ _ el32 ze103 (by decide) (by decide) rfl (.inl ⟨_, rfl⟩) rfl (q_app _ el32 ze103 rfl by103 rfl rfl rfl rfl rfl (by simp) (by intro s hs; simp at hs; subst hs; exact .inl ⟨_, rfl⟩) (by show rs.length + 1 ≤ maxLen; unfold maxLen; omega) (by show (rs.length + 1) * 40 ≤ _; omega) (q_ao _ rfl (run_nil (h11 _ (h8 _ ?_))))))))
    refine ok_last fun K12 h12 => ok_region rfl (q_add rfl rfl (by omega) (q_mv _ rfl (run_nil (h12 _ ⟨rs ++ [.agg [.tr Z0 (eLabelS u.labels) v0, int u.from_, int u.to]], by simp only [List.length_append, List.length_cons, List.length_nil]; omega, ⟨by simp only [List.length_append, List.length_cons, List.length_nil]; omega, hfresh⟩, ?_⟩))))
    have e : ((rs ++ [(.agg [.tr Z0 (eLabelS u.labels) v0, int u.from_, int u.to] : SV)]).length : Int) = (rs.length : Int) + 1 := by simp
    rw [e]
    exact le_rek 3 19 ⟨rfl, rfl, rfl, rfl, trivial⟩ ⟨rfl, trivial⟩ rfl rfl rfl rfl ⟨rfl, trivial⟩
  · have hk : rs.length = x.length := by have : ¬ ((rs.length : Int) < x.length) := by simpa using c7
                                         omega
    rw [hk, List.take_length] at j2
    refine ok_exit (h3 _ ?_)
    refine ok_seq fun K13 h13 => ok_region rfl (q_mo _ rfl (q_ao _ rfl (run_nil (h13 _ ?_)))); clear h13 K13
    refine ok_treed (k := 3) (n := 3) (T := 103) (rs := rs) (ss := x.map eStone) rfl j2.len j2.gd j2.ap (fun r hr b hb => .inl (j2.nw r hr b hb)) (fun Z v hZ => ?_)
    exact ok_ret ⟨_, ⟨_, _, rfl, rfl, rfl⟩, .tr Z 3 _ v, fun b hb => (hZ b (zn_tr hb)).elim id fun h => h.elim⟩
theorem f77_t (x : Block) (hx : SBlock x) : PFnT Tryz.prog 77 [eBlock x] (eBlock x) := by
  refine fnp_ok (n := 12) Tryz.func77 rfl rfl rfl (Nat.le_of_ble_eq_true rfl) rfl fun w0 O => ?_
  refine ok_seq fun K1 h1 => ok_region rfl (q_boxo (cells := [.sv (int x.from_), .sv (int x.to), .sv (int x.level), .sv (eSeriesS x.series), .sv (eStoneS x.stones)]) _ rfl (.inl ⟨_, rfl⟩) rfl rfl rfl (q_alloc _ ze34 rfl rfl rfl rfl (run_nil (h1 _ ?_)))); clear h1 K1
  refine ok_seq fun K2 h2 => ?_
  refine ok_region_d [0, 1, 3, 0, 1, 3, 0, 2, 0, 2] #[[], [0], [0, 1], [], [3], [0, 1, 2, 3, 4], [0, 1, 2, 3, 4], [0, 1, 2, 3, 4, 5, 6], [0, 1, 2, 3, 4, 5, 6, 7], [0, 1, 2, 3, 4, 5, 6, 7, 8]] [0, 1, 3, 4, 2, 6, 5, 7, 8, 9] (by kernel_rfl) (by kernel_rfl) rfl rfl (q_fap fd34_3 rfl (by decide) (q_ldb _ ag31 rfl rfl rfl (q_fap fd34_4 rfl (by decide) (q_ldb _ ag32 rfl rfl rfl (q_callr (f141_t x.series (hx.1)) cl141 rfl (fun r3 hr3 hz3 ha3 => ?_))))))
  obtain ⟨Z3, v3, rfl⟩ := gd_sl_inv hr3
  refine q_fap fd34_3 rfl (by decide) (q_callr (f142_t x.stones (hx.2)) cl142 rfl (fun r4 hr4 hz4 ha4 => ?_))
  obtain ⟨Z4, v4, rfl⟩ := gd_sl_inv hr4
  have d3_4 : ∀ b, Z3 b → ¬ Z4 b := fun b h1 h2 => ha4.1 5 _ b rfl (.tr Z3 _ v3 h1) (.tr Z4 _ v4 h2)
  refine q_st _ sz31 rfl rfl (Nat.le_of_ble_eq_true rfl) rfl ⟨_, rfl, rfl⟩ rfl (q_fap fd34_4 rfl (by decide) (q_st _ sz32 rfl rfl (Nat.le_of_ble_eq_true rfl) rfl ⟨_, rfl, rfl⟩ rfl (run_nil (h2 _ ?_))))
  clear h2 K2
  refine ok_seq fun K3 h3 => ok_region rfl (q_ldbs ag34 rfl rfl sz34 rfl rfl (q_sts _ rfl rfl rfl sz34 (Nat.le_of_ble_eq_true rfl) rfl (run_nil (h3 _ ?_)))); clear h3 K3
  refine ok_ret ⟨[.agg [int x.from_, int x.to, int x.level, .tr Z3 (eSeriesS x.series) v3, .tr Z4 (eStoneS x.stones) v4]], ⟨_, _, res_cells (l := [int x.from_, int x.to, int x.level, .tr Z3 (eSeriesS x.series) v3, .tr Z4 (eStoneS x.stones) v4]) rfl rfl ag34 sz34 rfl, rfl, rfl⟩, gc_Block x d3_4, fun b hb => ?_⟩
  have hb : Zn b (.agg [int x.from_, int x.to, int x.level, .tr Z3 (eSeriesS x.series) v3, .tr Z4 (eStoneS x.stones) v4]) := hb
  simp only [znA_cons, znI_raw, znI_tr, znA_nil, or_false, false_or] at hb
  rcases hb with h | h
  · exact hz3 b (.tr Z3 _ v3 h)
  · exact hz4 b (.tr Z4 _ v4 h)
theorem f100_o (x : List Block) (hx : x.length ≤ 1048576 ∧ ∀ y ∈ x, SBlock y) : PFnOT Tryz.prog 100 [eBlockS x] 5 34 (x.map eBlock) := by
  have hle : x.length ≤ 1048576 := hx.1
  refine fnot_ok (m := 19) (by omega) Tryz.func100 rfl rfl rfl (Nat.le_of_ble_eq_true rfl) rfl fun w0 O => ?_
  refine ok_seq fun K1 h1 => ok_region rfl (q_as _ rfl (run_nil (h1 _ ?_))); clear h1 K1
  refine ok_seq fun K2 h2 => ok_region rfl (q_an (n := 5) 34 (by decide) rfl rfl rfl (run_nil (h2 _ ?_))); clear h2 K2
  refine ok_seq fun K3 h3 => ?_
  refine ok_seq fun K4 h4 => ok_region rfl (q_mv _ rfl (q_len eS53 rfl (q_mv _ rfl (run_nil (h4 _ ?_))))); clear h4 K4
  rw [List.length_map]
  refine ok_block ?_
  refine ok_loop (fun (rs : List SV) => ⟨[(3, .own 3), (6, .sv (eBlockS x)), (7, .sv (int x.length)), (8, .sv (int rs.length))], [(3, .row 5 34 rs)]⟩) (fun rs => rs.length ≤ x.length ∧ Cps w0 rs ((x.take rs.length).map eBlock)) (fun rs => x.length - rs.length) [] ⟨Nat.zero_le _, Cps.nil w0⟩ (le_sub ⟨rfl, rfl, rfl, rfl, trivial⟩ ⟨rfl, trivial⟩) (fun rs J => ?_)
  obtain ⟨j1, j2⟩ := J
  refine ok_seq fun K5 h5 => ok_region rfl (q_bin _ _ _ rfl rfl rfl (run_nil (h5 _ ?_))); clear h5 K5
  refine ok_seq fun K6 h6 => ?_
  refine ok_cond rfl (fun c7 => ?_) (fun c7 => ?_)
  · refine ok_skip (h6 _ ?_)
    have hk : rs.length < x.length := by simpa using c7
    obtain ⟨u, hu⟩ := sget hk
    refine ok_seq fun K8 h8 => ?_
    refine ok_block ?_
    refine ok_seq fun K9 h9 => ok_region rfl (q_ia el53 rfl rfl (by omega) (mget (f := eBlock) hu) (q_lds _ ag34 rfl sz34 (q_alloc _ ze34 rfl rfl rfl rfl (q_sts _ rfl rfl rfl sz34 (Nat.le_of_ble_eq_true rfl) rfl (run_nil (h9 _ ?_)))))); clear h9 K9
    refine ok_last fun K10 h10 => ok_region rfl (q_mo _ rfl (q_ldbs ag34 rfl rfl sz34 rfl rfl (q_callr (f77_t u (hx.2 u (smem hu))) cl77 rfl (fun r hr hz hap => ?_))))
    have hfresh := j2.snoc hr (fun y hy b hb => hap.2 3 5 34 _ y b rfl hy hb) hz
    rw [show (x.take rs.length).map eBlock ++ [eBlock u] = (x.take (rs ++ [r]).length).map eBlock by rw [List.length_append, List.length_cons, List.length_nil, List.take_add_one, hu, List.map_append]; rfl] at hfresh
    obtain ⟨Z3, v3, Z4, v4, rfl, d3_4⟩ := gi_Block hr
    refine q_lit1 _ _ el53 ze34 (by decide) (by decide) rfl (.inl ⟨_, rfl⟩) rfl (q_app _ el53 ze34 rfl by34 rfl rfl rfl rfl rfl (by simp) (by intro s hs; simp at hs; subst hs; exact .inl ⟨_, rfl⟩) (by show rs.length + 1 ≤ maxLen; unfold maxLen; omega) (by show (rs.length + 1) * 72 ≤ _; omega) (q_ao _ rfl (run_nil (h10 _ (h8 _ ?_)))))
    refine ok_last fun K11 h11 => ok_region rfl (q_add rfl rfl (by omega) (q_mv _ rfl (run_nil (h11 _ ⟨rs ++ [.agg [int u.from_, int u.to, int u.level, .tr Z3 (eSeriesS u.series) v3, .tr Z4 (eStoneS u.stones) v4]], by simp only [List.length_append, List.length_cons, List.length_nil]; omega, ⟨by simp only [List.length_append, List.length_cons, List.length_nil]; omega, hfresh⟩, ?_⟩))))
    have e : ((rs ++ [(.agg [int u.from_, int u.to, int u.level, .tr Z3 (eSeriesS u.series) v3, .tr Z4 (eStoneS u.stones) v4] : SV)]).length : Int) = (rs.length : Int) + 1 := by simp
    rw [e]
    exact le_rek 3 16 ⟨rfl, rfl, rfl, rfl, trivial⟩ ⟨rfl, trivial⟩ rfl rfl rfl rfl ⟨rfl, trivial⟩
  · have hk : rs.length = x.length := by have : ¬ ((rs.length : Int) < x.length) := by simpa using c7
                                         omega
    rw [hk, List.take_length] at j2
    refine ok_exit (h3 _ ?_)
    refine ok_seq fun K12 h12 => ok_region rfl (q_mo _ rfl (q_ao _ rfl (run_nil (h12 _ ?_)))); clear h12 K12
    exact ok_ret ⟨3, rs, rfl, rfl, j2⟩
theorem f138_t (x : Block) (hx : SBlock x) : PFnT Tryz.prog 138 [eBlock x] (eBlock x) := by
  have hle : x.stones.length ≤ 1048576 := hx.2.1
  refine fnp_ok (n := 32) Tryz.func138 rfl rfl rfl (Nat.le_of_ble_eq_true rfl) rfl fun w0 O => ?_
  refine ok_seq fun K1 h1 => ok_region rfl (q_boxo (cells := [.sv (int x.from_), .sv (int x.to), .sv (int x.level), .sv (eSeriesS x.series), .sv (eStoneS x.stones)]) _ rfl (.inl ⟨_, rfl⟩) rfl rfl rfl (q_alloc _ ze34 rfl rfl rfl rfl (run_nil (h1 _ ?_)))); clear h1 K1
  refine ok_seq fun K2 h2 => ok_region rfl (q_fap fd34_3 rfl (by decide) (q_ldb _ ag31 rfl rfl rfl (q_callr (f191_t x.series hx.1) cl191 rfl (fun r3 hr3 hz3 ha3 => ?_))))
  obtain ⟨Z3, v3, rfl⟩ := gd_sl_inv hr3
  refine (q_fap fd34_3 rfl (by decide) (q_st _ sz31 rfl rfl (Nat.le_of_ble_eq_true rfl) rfl ⟨_, rfl, rfl⟩ rfl (run_nil (h2 _ ?_)))); clear h2 K2
  refine ok_seq fun K3 h3 => ok_region rfl (q_an (n := 3) 103 (by decide) rfl rfl rfl (run_nil (h3 _ ?_))); clear h3 K3
  refine ok_seq fun K4 h4 => ?_
  refine ok_seq fun K5 h5 => ok_region rfl (q_fap fd34_4 rfl (by decide) (q_ldb _ ag32 rfl rfl rfl (q_len eS32 rfl (q_mv _ rfl (run_nil (h5 _ ?_)))))); clear h5 K5
  rw [List.length_map]
  refine ok_block ?_
  refine ok_loop (fun (rs : List SV) => ⟨[(1, .ptr 1 0), (2, .ptr 2 0), (3, .own 3), (8, .sv (.tr Z3 (eSeriesS x.series) v3)), (11, .sv (eStoneS x.stones)), (12, .sv (int x.stones.length)), (13, .sv (int rs.length))], [(3, .row 3 103 rs), (1, .box [.sv (int x.from_), .sv (int x.to), .sv (int x.level), .sv (.tr Z3 (eSeriesS x.series) v3), .sv (eStoneS x.stones)]), (2, .box [.sv (int 0), .sv (int 0), .sv (int 0), .sv (.raw (.slice none 0 0)), .sv (.raw (.slice none 0 0))])]⟩)
    (fun rs => rs.length ≤ x.stones.length ∧ Cps w0 rs ((x.stones.take rs.length).map eStone) ∧ ∀ y ∈ rs, ∀ b, Zn b y → ¬ Z3 b) (fun rs => x.stones.length - rs.length) [] ⟨Nat.zero_le _, Cps.nil w0, fun y hy => by simp at hy⟩ (le_sub ⟨rfl, rfl, rfl, rfl, rfl, rfl, rfl, trivial⟩ ⟨rfl, rfl, rfl, trivial⟩) (fun rs J => ?_)
  obtain ⟨j1, j2, j3⟩ := J
  refine ok_seq fun K6 h6 => ok_region rfl (q_bin _ _ _ rfl rfl rfl (run_nil (h6 _ ?_))); clear h6 K6
  refine ok_seq fun K7 h7 => ?_
  refine ok_cond rfl (fun c8 => ?_) (fun c8 => ?_)
  · refine ok_skip (h7 _ ?_)
    have hk : rs.length < x.stones.length := by simpa using c8
    obtain ⟨u, hu⟩ := sget hk
    refine ok_seq fun K9 h9 => ?_
    refine ok_block ?_
    refine ok_seq fun K10 h10 => ok_region rfl (q_ia el32 rfl rfl (by omega) (mget (f := eStone) hu) (q_lds _ ag103 rfl sz103 (q_alloc _ ze103 rfl rfl rfl rfl (q_sts _ rfl rfl rfl sz103 (Nat.le_of_ble_eq_true rfl) rfl (run_nil (h10 _ ?_)))))); clear h10 K10
    refine ok_last fun K11 h11 => ok_region_d [0, 0, 1, 3, 0, 1, 0, 1, 2, 3, 2, 0] #[[], [], [1], [1, 2], [], [4], [], [6], [1, 2, 3, 4, 5, 6, 7], [1, 2, 3, 4, 5, 6, 7, 8], [0, 1, 2, 3, 4, 5, 6, 7, 8, 9], [0, 1, 2, 3, 4, 5, 6, 7, 8, 9, 10]] [0, 1, 2, 4, 5, 6, 7, 3, 8, 9, 10, 11] (by kernel_rfl) (by kernel_rfl) rfl rfl (
      q_mo _ rfl (q_fap fd103_0 rfl (by decide) (q_ldb _ ag80 rfl rfl rfl (q_fap fd103_1 rfl (by decide) (q_ldb _ ag3 rfl rfl rfl (q_fap fd103_2 rfl (by decide) (q_ldb _ ag3 rfl rfl rfl (
      q_callr (f140_t u.labels ((hx.2.2 u (smem hu)).1)) cl140 rfl (fun r0 hr0 hz0 ha0 => ?_)))))))))
    obtain ⟨Z0, v0, rfl⟩ := gd_sl_inv hr0
    have hfresh := j2.snoc (r := .agg [.tr Z0 (eLabelS u.labels) v0, int u.from_, int u.to]) (gc_Stone u) (fun y hy b hb hb' => by simp only [znA_cons, znI_raw, znI_tr, znA_nil, or_false, false_or] at hb'; exact ha0.2 3 3 103 _ y b rfl hy hb (.tr Z0 _ v0 hb')) (fun b hb => by simp only [znA_cons, znI_raw, znI_tr, znA_nil, or_false, false_or] at hb; exact hz0 b (.tr Z0 _ v0 hb))
    rw [show (x.stones.take rs.length).map eStone ++ [eStone u] = (x.stones.take (rs ++ [(.agg [.tr Z0 (eLabelS u.labels) v0, int u.from_, int u.to] : SV)]).length).map eStone by rw [List.length_append, List.length_cons, List.length_nil, List.take_add_one, hu, List.map_append]; rfl] at hfresh
    have j3' : ∀ y ∈ rs ++ [(.agg [.tr Z0 (eLabelS u.labels) v0, int u.from_, int u.to] : SV)], ∀ b, Zn b y → ¬ Z3 b := by
      intro y hy b hb hb'
      rcases List.mem_append.1 hy with hy | hy
      · exact j3 y hy b hb hb'
      · rw [List.mem_singleton] at hy
        subst hy
        simp only [znA_cons, znI_raw, znI_tr, znA_nil, or_false, false_or] at hb
        exact ha0.1 8 _ b rfl (.tr Z3 _ v3 hb') (.tr Z0 _ v0 hb)
    refine (q_bld _ (bl103 u) rfl rfl rfl (q_lit1 _ _ el32 ze103 (by decide) (by decide) rfl (.inl ⟨_, rfl⟩) rfl (q_app _ el32 ze103 rfl by103 rfl rfl rfl rfl rfl (by simp) (by intro s hs; simp at hs; subst hs; exact .inl ⟨_, rfl⟩) (by show rs.length + 1 ≤ maxLen; unfold maxLen; omega) (by show (rs.length + 1) * 40 ≤ _; omega) (q_ao _ rfl (run_nil (h11 _ (h9 _ ?_)))))))
    refine ok_last fun K12 h12 => ok_region rfl (
      q_add rfl rfl (by omega) (q_mv _ rfl (run_nil (h12 _ ⟨rs ++ [.agg [.tr Z0 (eLabelS u.labels) v0, int u.from_, int u.to]], by simp only [List.length_append, List.length_cons, List.length_nil]; omega, ⟨by simp only [List.length_append, List.length_cons, List.length_nil]; omega, hfresh, j3'⟩, ?_⟩))))
    have e : ((rs ++ [(.agg [.tr Z0 (eLabelS u.labels) v0, int u.from_, int u.to] : SV)]).length : Int) = (rs.length : Int) + 1 := by simp
    rw [e]
    exact le_rek 3 27 ⟨rfl, rfl, rfl, rfl, rfl, rfl, rfl, trivial⟩ ⟨rfl, rfl, rfl, trivial⟩ rfl rfl rfl rfl ⟨rfl, rfl, rfl, trivial⟩
  · have hk : rs.length = x.stones.length := by have : ¬ ((rs.length : Int) < x.stones.length) := by simpa using c8
                                                omega
    rw [hk, List.take_length] at j2
    refine ok_exit (h4 _ ?_)
    refine ok_treed2 (k := 3) (n := 3) (T := 103) (rs := rs) (ss := x.stones.map eStone) rfl j2.len j2.gd j2.ap (fun r hr b hb => .inl (j2.nw r hr b hb)) (fun Z4 v4 hZ4 hd4 => ?_)
    have d3_4 : ∀ b, Z3 b → ¬ Z4 b := fun b h3 h4 => by
      obtain ⟨r, hr, hb⟩ := hd4 8 _ b rfl (.tr Z3 _ v3 h3) h4
      exact j3 r hr b hb h3
    refine ok_seq fun K13 h13 => ok_region rfl (q_mv _ rfl (q_fap fd34_4 rfl (by decide) (q_st _ sz32 rfl rfl (Nat.le_of_ble_eq_true rfl) rfl ⟨_, rfl, rfl⟩ rfl (run_nil (h13 _ ?_))))); clear h13 K13
    refine ok_seq fun K14 h14 => ok_region rfl (q_ldbs ag34 rfl rfl sz34 rfl rfl (q_sts _ rfl rfl rfl sz34 (Nat.le_of_ble_eq_true rfl) rfl (run_nil (h14 _ ?_)))); clear h14 K14
    refine ok_ret ⟨[.agg [int x.from_, int x.to, int x.level, .tr Z3 (eSeriesS x.series) v3, .tr Z4 (eStoneS x.stones) v4]], ⟨_, _, res_cells (l := [int x.from_, int x.to, int x.level, .tr Z3 (eSeriesS x.series) v3, .tr Z4 (eStoneS x.stones) v4]) rfl rfl ag34 sz34 rfl, rfl, rfl⟩, gc_Block x d3_4, fun b hb => ?_⟩
    have hb : Zn b (.agg [int x.from_, int x.to, int x.level, .tr Z3 (eSeriesS x.series) v3, .tr Z4 (eStoneS x.stones) v4]) := hb
    simp only [znA_cons, znI_raw, znI_tr, znA_nil, or_false, false_or] at hb
    rcases hb with h | h
    · exact hz3 b (.tr Z3 _ v3 h)
    · exact (hZ4 b h).elim id fun h => h.elim
theorem f157_ok (x : List Block) (hx : x.length ≤ 1048576 ∧ ∀ y ∈ x, SBlock y) : PFn Tryz.prog 157 [eBlockS x] (eBlockS x) := by
  have hle : x.length ≤ 1048576 := hx.1
  refine fn_ok' (n := 19) Tryz.func157 rfl rfl rfl (Nat.le_of_ble_eq_true rfl) rfl fun w0 O => ?_
  refine ok_seq fun K1 h1 => ok_region rfl (q_as _ rfl (run_nil (h1 _ ?_))); clear h1 K1
  refine ok_seq fun K2 h2 => ok_region rfl (q_an (n := 5) 34 (by decide) rfl rfl rfl (run_nil (h2 _ ?_))); clear h2 K2
  refine ok_seq fun K3 h3 => ?_
  refine ok_seq fun K4 h4 => ok_region rfl (q_mv _ rfl (q_len eS53 rfl (q_mv _ rfl (run_nil (h4 _ ?_))))); clear h4 K4
  rw [List.length_map]
  refine ok_block ?_
  refine ok_loop (fun (k : Nat) => ⟨[(3, .own 3), (6, .sv (eBlockS x)), (7, .sv (int x.length)), (8, .sv (int k))], [(3, .row 5 34 ((x.take k).map eBlock))]⟩) (fun k => True) (fun k => x.length - k) 0 trivial (le_sub ⟨rfl, rfl, rfl, rfl, trivial⟩ ⟨rfl, trivial⟩) (fun k J => ?_)
  refine ok_seq fun K5 h5 => ok_region rfl (q_bin _ _ _ rfl rfl rfl (run_nil (h5 _ ?_))); clear h5 K5
  refine ok_seq fun K6 h6 => ?_
  refine ok_cond rfl (fun c7 => ?_) (fun c7 => ?_)
  · refine ok_skip (h6 _ ?_)
    have hk : k < x.length := by simpa using c7
    obtain ⟨u, hu⟩ := sget hk
    have hl : ((x.take k).map eBlock).length ≤ 1048576 := by rw [List.length_map, List.length_take]; omega
    have hd : (x.take (k + 1)).map eBlock = (x.take k).map eBlock ++ [eBlock u] := by rw [List.take_add_one, hu, Option.toList_some, List.map_append]; rfl
    refine ok_seq fun K8 h8 => ?_
    refine ok_block ?_
    refine ok_seq fun K9 h9 => ok_region rfl (q_ia el53 rfl rfl (by omega) (mget (f := eBlock) hu) (q_lds _ ag34 rfl sz34 (q_alloc _ ze34 rfl rfl rfl rfl (q_sts _ rfl rfl rfl sz34 (Nat.le_of_ble_eq_true rfl) rfl (run_nil (h9 _ ?_)))))); clear h9 K9
    refine ok_last fun K10 h10 => ok_region rfl (q_mo _ rfl (q_ldbs (r := [int u.from_, int u.to, int u.level, eSeriesS u.series, eStoneS u.stones]) ag34 rfl rfl sz34 rfl rfl (q_call (PFnR.toP (f138_t u (hx.2 u (smem hu)))) cl138 rfl rfl (q_lit1 _ (eBlock u) el53 ze34 (by decide) (by decide) rfl (.inl ⟨_, rfl⟩) rfl (q_app (q := [eBlock u]) _ el53 ze34 rfl by34 rfl rfl rfl rfl rfl (by simp) (by intro s hs; simp at hs; subst hs; exact .inl ⟨_, rfl⟩) (by show ((x.take k).map eBlock).length + 1 ≤ maxLen; unfold maxLen; omega) (by show (((x.take k).map eBlock).length + 1) * 72 ≤ _; omega) (q_ao _ rfl (run_nil (h10 _ (h8 _ ?_)))))))))
    rw [← hd]
    refine ok_last fun K11 h11 => ok_region rfl (q_add rfl rfl (by omega) (q_mv _ rfl (run_nil (h11 _ ⟨k + 1, by omega, trivial, le_rek 3 16 ⟨rfl, rfl, rfl, rfl, trivial⟩ ⟨rfl, trivial⟩ rfl rfl rfl rfl ⟨rfl, trivial⟩⟩))))
  · rw [List.take_of_length_le (by have : ¬ ((k : Int) < x.length) := by simpa using c7
                                   omega)]
    refine ok_exit (h3 _ ?_)
    refine ok_seq fun K12 h12 => ok_region rfl (q_mo _ rfl (q_ao _ rfl (run_nil (h12 _ ?_)))); clear h12 K12
    exact ok_ret ⟨_, rfl, rfl⟩
end Go.Ring
