/- Copies by the program's own functions. No condition. -/
import Derived.Test.YtlokejcoikddgaaU1
import Derived.Test.YtlokejcoikddgaaAbsClo
set_option maxRecDepth 100000
set_option linter.unusedVariables false
set_option linter.unusedSimpArgs false
namespace Go.Ring
open Go Go.RowKit Go.Eager Go.Abs Go.Proofs

theorem f163_t (x : List Label) (hx : x.length ≤ 1048576) : PFnT Try.prog 163 [eLabelS x] (eLabelS x) := by
  refine fnp_ok (n := 7) Try.func163 rfl rfl rfl (Nat.le_of_ble_eq_true rfl) rfl fun w0 O => ?_
  refine ok_seq fun K1 h1 => ok_region rfl (q_as _ rfl (run_nil (h1 _ ?_))); clear h1 K1
  refine ok_seq fun K2 h2 => ok_region rfl (q_an (n := 2) 127 (by decide) rfl rfl rfl (run_nil (h2 _ ?_))); clear h2 K2
  rcases x with _ | ⟨u, x⟩
  · refine ok_seq fun K3 h3 => ok_region rfl (q_mo _ rfl (q_mv _ rfl (q_appE el72 rfl rfl rfl (q_ao _ rfl (run_nil (h3 _ ?_)))))); clear h3 K3
    obtain ⟨g1, g2, g3⟩ := gd_flatL (rs := ([] : List Label).map eLabel) (fun r hr => by obtain ⟨y, _, rfl⟩ := List.mem_map.1 hr; rfl)
    refine ok_treed (k := 3) (n := 2) (T := 127) (rs := ([] : List Label).map eLabel) (ss := ([] : List Label).map eLabel) rfl rfl g1 g2 (fun r hr b hb => (g3 r hr b hb).elim) (fun Z v hZ => ?_)
    exact ok_ret ⟨_, ⟨_, _, rfl, rfl, rfl⟩, .tr Z 2 _ v, fun b hb => (hZ b (zn_tr hb)).elim id fun h => h.elim⟩
  · refine ok_seq fun K3 h3 => ok_region rfl (q_mo _ rfl (q_mv _ rfl (q_app _ el72 ze127 rfl by127 rfl rfl rfl rfl rfl (by simp) (by intro s hs; obtain ⟨y, _, rfl⟩ := List.mem_map.1 hs; exact .inl ⟨_, rfl⟩) (by simp only [List.length_map, List.length_cons, List.length_nil] at hx ⊢; unfold maxLen; omega) (by simp only [List.length_map, List.length_cons, List.length_nil] at hx ⊢; omega) (q_ao _ rfl (run_nil (h3 _ ?_)))))); clear h3 K3
    obtain ⟨g1, g2, g3⟩ := gd_flatL (rs := (u :: x).map eLabel) (fun r hr => by obtain ⟨y, _, rfl⟩ := List.mem_map.1 hr; rfl)
    refine ok_treed (k := 6) (n := 2) (T := 127) (rs := (u :: x).map eLabel) (ss := (u :: x).map eLabel) rfl rfl g1 g2 (fun r hr b hb => (g3 r hr b hb).elim) (fun Z v hZ => ?_)
    exact ok_ret ⟨_, ⟨_, _, rfl, rfl, rfl⟩, .tr Z 2 _ v, fun b hb => (hZ b (zn_tr hb)).elim id fun h => h.elim⟩
theorem f66_t (x : List Sample) (hx : x.length ≤ 1048576) : PFnT Try.prog 66 [eSampleS x] (eSampleS x) := by
  refine fnp_ok (n := 7) Try.func66 rfl rfl rfl (Nat.le_of_ble_eq_true rfl) rfl fun w0 O => ?_
  refine ok_seq fun K1 h1 => ok_region rfl (q_as _ rfl (run_nil (h1 _ ?_))); clear h1 K1
  refine ok_seq fun K2 h2 => ok_region rfl (q_an (n := 2) 110 (by decide) rfl rfl rfl (run_nil (h2 _ ?_))); clear h2 K2
  rcases x with _ | ⟨u, x⟩
  · refine ok_seq fun K3 h3 => ok_region rfl (q_mo _ rfl (q_mv _ rfl (q_appE el73 rfl rfl rfl (q_ao _ rfl (run_nil (h3 _ ?_)))))); clear h3 K3
    obtain ⟨g1, g2, g3⟩ := gd_flatL (rs := ([] : List Sample).map eSample) (fun r hr => by obtain ⟨y, _, rfl⟩ := List.mem_map.1 hr; rfl)
    refine ok_treed (k := 3) (n := 2) (T := 110) (rs := ([] : List Sample).map eSample) (ss := ([] : List Sample).map eSample) rfl rfl g1 g2 (fun r hr b hb => (g3 r hr b hb).elim) (fun Z v hZ => ?_)
    exact ok_ret ⟨_, ⟨_, _, rfl, rfl, rfl⟩, .tr Z 2 _ v, fun b hb => (hZ b (zn_tr hb)).elim id fun h => h.elim⟩
  · refine ok_seq fun K3 h3 => ok_region rfl (q_mo _ rfl (q_mv _ rfl (q_app _ el73 ze110 rfl by110 rfl rfl rfl rfl rfl (by simp) (by intro s hs; obtain ⟨y, _, rfl⟩ := List.mem_map.1 hs; exact .inl ⟨_, rfl⟩) (by simp only [List.length_map, List.length_cons, List.length_nil] at hx ⊢; unfold maxLen; omega) (by simp only [List.length_map, List.length_cons, List.length_nil] at hx ⊢; omega) (q_ao _ rfl (run_nil (h3 _ ?_)))))); clear h3 K3
    obtain ⟨g1, g2, g3⟩ := gd_flatL (rs := (u :: x).map eSample) (fun r hr => by obtain ⟨y, _, rfl⟩ := List.mem_map.1 hr; rfl)
    refine ok_treed (k := 6) (n := 2) (T := 110) (rs := (u :: x).map eSample) (ss := (u :: x).map eSample) rfl rfl g1 g2 (fun r hr b hb => (g3 r hr b hb).elim) (fun Z v hZ => ?_)
    exact ok_ret ⟨_, ⟨_, _, rfl, rfl, rfl⟩, .tr Z 2 _ v, fun b hb => (hZ b (zn_tr hb)).elim id fun h => h.elim⟩
theorem f183_t (x : List Label) (hx : x.length ≤ 1048576) : PFnT Try.prog 183 [eLabelS x] (eLabelS x) := by
  refine fnp_ok (n := 8) Try.func183 rfl rfl rfl (Nat.le_of_ble_eq_true rfl) rfl fun w0 O => ?_
  refine ok_seq fun K1 h1 => ok_region rfl (q_as _ rfl (run_nil (h1 _ ?_))); clear h1 K1
  refine ok_seq fun K2 h2 => ?_
  refine ok_seq fun K3 h3 => ok_region rfl (q_mv _ rfl (q_eqn Try.underlying72 rfl (fun b hb => run_nil (h3 _ ?_)))); clear h3 K3
  refine ok_cond rfl (fun c4 => ?_) (fun c4 => ?_)
  · have hn : x = [] := by have := hb c4; simpa using this
    subst hn
    refine ok_seq fun K5 h5 => ?_
    refine ok_region rfl (q_as _ rfl (run_nil (h5 _ ?_)))
    clear h5 K5
    exact ok_nilT 2 (ok_ret ⟨_, ⟨_, _, rfl, rfl, rfl⟩, .tr _ _ _ _, fun b hb => (zn_tr hb).elim⟩)
  · refine ok_skip (h2 _ ?_)
    rcases x with _ | ⟨u, x⟩
    · refine ok_seq fun K6 h6 => ok_region rfl (q_lito0 _ el72 ze127 (by decide) rfl rfl (q_mv _ rfl (q_appE el72 rfl rfl rfl (q_ao _ rfl (run_nil (h6 _ ?_)))))); clear h6 K6
      obtain ⟨g1, g2, g3⟩ := gd_flatL (rs := ([] : List Label).map eLabel) (fun r hr => by obtain ⟨y, _, rfl⟩ := List.mem_map.1 hr; rfl)
      refine ok_treed (k := 5) (n := 2) (T := 127) (rs := ([] : List Label).map eLabel) (ss := ([] : List Label).map eLabel) rfl rfl g1 g2 (fun r hr b hb => (g3 r hr b hb).elim) (fun Z v hZ => ?_)
      exact ok_ret ⟨_, ⟨_, _, rfl, rfl, rfl⟩, .tr Z 2 _ v, fun b hb => (hZ b (zn_tr hb)).elim id fun h => h.elim⟩
    · refine ok_seq fun K6 h6 => ok_region rfl (q_lito0 _ el72 ze127 (by decide) rfl rfl (q_mv _ rfl (q_app _ el72 ze127 rfl by127 rfl rfl rfl rfl rfl (by simp) (by intro s hs; obtain ⟨y, _, rfl⟩ := List.mem_map.1 hs; exact .inl ⟨_, rfl⟩) (by simp only [List.length_map, List.length_cons, List.length_nil] at hx ⊢; unfold maxLen; omega) (by simp only [List.length_map, List.length_cons, List.length_nil] at hx ⊢; omega) (q_ao _ rfl (run_nil (h6 _ ?_)))))); clear h6 K6
      obtain ⟨g1, g2, g3⟩ := gd_flatL (rs := (u :: x).map eLabel) (fun r hr => by obtain ⟨y, _, rfl⟩ := List.mem_map.1 hr; rfl)
      refine ok_treed (k := 7) (n := 2) (T := 127) (rs := (u :: x).map eLabel) (ss := (u :: x).map eLabel) rfl rfl g1 g2 (fun r hr b hb => (g3 r hr b hb).elim) (fun Z v hZ => ?_)
      exact ok_ret ⟨_, ⟨_, _, rfl, rfl, rfl⟩, .tr Z 2 _ v, fun b hb => (hZ b (zn_tr hb)).elim id fun h => h.elim⟩
theorem f76_t (x : List Sample) (hx : x.length ≤ 1048576) : PFnT Try.prog 76 [eSampleS x] (eSampleS x) := by
  refine fnp_ok (n := 8) Try.func76 rfl rfl rfl (Nat.le_of_ble_eq_true rfl) rfl fun w0 O => ?_
  refine ok_seq fun K1 h1 => ok_region rfl (q_as _ rfl (run_nil (h1 _ ?_))); clear h1 K1
  refine ok_seq fun K2 h2 => ?_
  refine ok_seq fun K3 h3 => ok_region rfl (q_mv _ rfl (q_eqn Try.underlying73 rfl (fun b hb => run_nil (h3 _ ?_)))); clear h3 K3
  refine ok_cond rfl (fun c4 => ?_) (fun c4 => ?_)
  · have hn : x = [] := by have := hb c4; simpa using this
    subst hn
    refine ok_seq fun K5 h5 => ?_
    refine ok_region rfl (q_as _ rfl (run_nil (h5 _ ?_)))
    clear h5 K5
    exact ok_nilT 2 (ok_ret ⟨_, ⟨_, _, rfl, rfl, rfl⟩, .tr _ _ _ _, fun b hb => (zn_tr hb).elim⟩)
  · refine ok_skip (h2 _ ?_)
    rcases x with _ | ⟨u, x⟩
    · refine ok_seq fun K6 h6 => ok_region rfl (q_lito0 _ el73 ze110 (by decide) rfl rfl (q_mv _ rfl (q_appE el73 rfl rfl rfl (q_ao _ rfl (run_nil (h6 _ ?_)))))); clear h6 K6
      obtain ⟨g1, g2, g3⟩ := gd_flatL (rs := ([] : List Sample).map eSample) (fun r hr => by obtain ⟨y, _, rfl⟩ := List.mem_map.1 hr; rfl)
      refine ok_treed (k := 5) (n := 2) (T := 110) (rs := ([] : List Sample).map eSample) (ss := ([] : List Sample).map eSample) rfl rfl g1 g2 (fun r hr b hb => (g3 r hr b hb).elim) (fun Z v hZ => ?_)
      exact ok_ret ⟨_, ⟨_, _, rfl, rfl, rfl⟩, .tr Z 2 _ v, fun b hb => (hZ b (zn_tr hb)).elim id fun h => h.elim⟩
    · refine ok_seq fun K6 h6 => ok_region rfl (q_lito0 _ el73 ze110 (by decide) rfl rfl (q_mv _ rfl (q_app _ el73 ze110 rfl by110 rfl rfl rfl rfl rfl (by simp) (by intro s hs; obtain ⟨y, _, rfl⟩ := List.mem_map.1 hs; exact .inl ⟨_, rfl⟩) (by simp only [List.length_map, List.length_cons, List.length_nil] at hx ⊢; unfold maxLen; omega) (by simp only [List.length_map, List.length_cons, List.length_nil] at hx ⊢; omega) (q_ao _ rfl (run_nil (h6 _ ?_)))))); clear h6 K6
      obtain ⟨g1, g2, g3⟩ := gd_flatL (rs := (u :: x).map eSample) (fun r hr => by obtain ⟨y, _, rfl⟩ := List.mem_map.1 hr; rfl)
      refine ok_treed (k := 7) (n := 2) (T := 110) (rs := (u :: x).map eSample) (ss := (u :: x).map eSample) rfl rfl g1 g2 (fun r hr b hb => (g3 r hr b hb).elim) (fun Z v hZ => ?_)
      exact ok_ret ⟨_, ⟨_, _, rfl, rfl, rfl⟩, .tr Z 2 _ v, fun b hb => (hZ b (zn_tr hb)).elim id fun h => h.elim⟩
theorem built75 (p0 : Option Addr) (n0 c0 : Nat) (p1 : Option Addr) (n1 c1 : Nat) : Try.prog.built 75 [(0, .slice p0 n0 c0), (1, .slice p1 n1 c1)] = some #[.slice p0 n0 c0, .slice p1 n1 c1] := by kernel_rfl
theorem bl75 (x : Series) {Z0 : Nat → Prop} {v0 : Value} {Z1 : Nat → Prop} {v1 : Value} : BL Try.prog 75 [.tr Z0 (eLabelS x.labels) v0, .tr Z1 (eSampleS x.samples) v1] := by
  intro vs hv
  match vs, hv with
  | [w0, w1], hv =>
    obtain ⟨h0, h1, -⟩ := hv
    obtain ⟨rfl, p0, n0, c0, e0⟩ := h0
    obtain ⟨rfl, p1, n1, c1, e1⟩ := h1
    rw [e0]
    rw [e1]
    exact built75 p0 n0 c0 p1 n1 c1
theorem built122 (p0 : Option Addr) (n0 c0 : Nat) (x1 : Int) (x2 : Int) : Try.prog.built 122 [(0, .slice p0 n0 c0), (1, .int .i64 x1), (2, .int .i64 x2)] = some #[.slice p0 n0 c0, .int .i64 x1, .int .i64 x2] := by kernel_rfl
theorem bl122 (x : Stone) {Z0 : Nat → Prop} {v0 : Value} : BL Try.prog 122 [.tr Z0 (eLabelS x.labels) v0, int x.from_, int x.to] := by
  intro vs hv
  match vs, hv with
  | [w0, w1, w2], hv =>
    obtain ⟨h0, h1, h2, -⟩ := hv
    obtain ⟨rfl, p0, n0, c0, e0⟩ := h0
    have e1 : w1 = _ := h1
    have e2 : w2 = _ := h2
    rw [e0]
    subst e1
    subst e2
    exact built122 p0 n0 c0 x.from_ x.to
theorem f162_t (x : List Series) (hx : x.length ≤ 1048576 ∧ ∀ y ∈ x, SSeries y) : PFnT Try.prog 162 [eSeriesS x] (eSeriesS x) := by
  have hle : x.length ≤ 1048576 := hx.1
  refine fnp_ok (n := 24) Try.func162 rfl rfl rfl (Nat.le_of_ble_eq_true rfl) rfl fun w0 O => ?_
  refine ok_seq fun K1 h1 => ok_region rfl (q_as _ rfl (run_nil (h1 _ ?_))); clear h1 K1
  refine ok_seq fun K2 h2 => ok_region rfl (q_an (n := 2) 75 (by decide) rfl rfl rfl (run_nil (h2 _ ?_))); clear h2 K2
  refine ok_seq fun K3 h3 => ?_
  refine ok_seq fun K4 h4 => ok_region rfl (q_mv _ rfl (q_len eS29 rfl (q_mv _ rfl (run_nil (h4 _ ?_))))); clear h4 K4
  rw [List.length_map]
  refine ok_block ?_
  refine ok_loop (fun (rs : List SV) => ⟨[(3, .own 3), (6, .sv (eSeriesS x)), (7, .sv (int x.length)), (8, .sv (int rs.length))], [(3, .row 2 75 rs)]⟩) (fun rs => rs.length ≤ x.length ∧ Cps w0 rs ((x.take rs.length).map eSeries)) (fun rs => x.length - rs.length) [] ⟨Nat.zero_le _, Cps.nil w0⟩ (le_sub ⟨rfl, rfl, rfl, rfl, trivial⟩ ⟨rfl, trivial⟩) (fun rs J => ?_)
  obtain ⟨j1, j2⟩ := J
  refine ok_seq fun K5 h5 => ok_region rfl (q_bin _ _ _ rfl rfl rfl (run_nil (h5 _ ?_))); clear h5 K5
  refine ok_seq fun K6 h6 => ?_
  refine ok_cond rfl (fun c7 => ?_) (fun c7 => ?_)
  · refine ok_skip (h6 _ ?_)
    have hk : rs.length < x.length := by simpa using c7
    obtain ⟨u, hu⟩ := sget hk
    refine ok_seq fun K8 h8 => ?_
    refine ok_block ?_
    refine ok_seq fun K9 h9 => ok_region rfl (q_ia el29 rfl rfl (by omega) (mget (f := eSeries) hu) (q_lds _ ag75 rfl sz75 (q_alloc _ ze75 rfl rfl rfl rfl (q_sts _ rfl rfl rfl sz75 (Nat.le_of_ble_eq_true rfl) rfl (run_nil (h9 _ ?_)))))); clear h9 K9
    refine ok_last fun K10 h10 => ok_region_d [0, 0, 1, 3, 0, 1, 3, 2, 3, 2, 0] #[[], [], [1], [1, 2], [], [4], [1, 2, 3, 4, 5], [1, 2, 3, 4, 5, 6], [1, 2, 3, 4, 5, 6, 7], [0, 1, 2, 3, 4, 5, 6, 7, 8], [0, 1, 2, 3, 4, 5, 6, 7, 8, 9]] [0, 1, 2, 4, 5, 3, 6, 7, 8, 9, 10] (by kernel_rfl) (by kernel_rfl) rfl rfl (q_mo _ rfl (q_fap fd75_0 rfl (by decide) (q_ldb _ ag72 rfl rfl rfl (q_fap fd75_1 rfl (by decide) (q_ldb _ ag73 rfl rfl rfl (q_callr (f163_t u.labels ((hx.2 u (smem hu)).1.1)) cl163 rfl (fun r0 hr0 hz0 ha0 => ?_)))))))
    obtain ⟨Z0, v0, rfl⟩ := gd_sl_inv hr0
    refine q_callr (f66_t u.samples ((hx.2 u (smem hu)).2)) cl66 rfl (fun r1 hr1 hz1 ha1 => ?_)
    obtain ⟨Z1, v1, rfl⟩ := gd_sl_inv hr1
    have d0_1 : ∀ b, Z0 b → ¬ Z1 b := fun b h1 h2 => ha1.1 15 _ b rfl (.tr Z0 _ v0 h1) (.tr Z1 _ v1 h2)
    have hfresh := j2.snoc (r := .agg [.tr Z0 (eLabelS u.labels) v0, .tr Z1 (eSampleS u.samples) v1]) (gc_Series u d0_1) (fun y hy b hb hb' => by simp only [znA_cons, znI_raw, znI_tr, znA_nil, or_false, false_or] at hb'; exact hb'.elim (fun h => (ha0.2 3 2 75 _ y b rfl hy hb (.tr Z0 _ v0 h))) (fun h => ((ha1.2 3 2 75 _ y b rfl hy hb (.tr Z1 _ v1 h))))) (fun b hb => by simp only [znA_cons, znI_raw, znI_tr, znA_nil, or_false, false_or] at hb; exact hb.elim (fun h => (hz0 b (.tr Z0 _ v0 h))) (fun h => ((hz1 b (.tr Z1 _ v1 h)))))
    rw [show (x.take rs.length).map eSeries ++ [eSeries u] = (x.take (rs ++ [(.agg [.tr Z0 (eLabelS u.labels) v0, .tr Z1 (eSampleS u.samples) v1] : SV)]).length).map eSeries by rw [List.length_append, List.length_cons, List.length_nil, List.take_add_one, hu, List.map_append]; rfl] at hfresh
    refine q_bld _ (bl75 u) rfl rfl rfl (q_lit1 _ _ el29 ze75 (by decide) (by decide) rfl (.inl ⟨_, rfl⟩) rfl (q_app _ el29 ze75 rfl by75 rfl rfl rfl rfl rfl (by simp) (by intro s hs; simp at hs; subst hs; exact .inl ⟨_, rfl⟩) (by show rs.length + 1 ≤ maxLen; unfold maxLen; omega) (by show (rs.length + 1) * 48 ≤ _; omega) (q_ao _ rfl (run_nil (h10 _ (h8 _ ?_))))))
    refine ok_last fun K11 h11 => ok_region rfl (q_add rfl rfl (by omega) (q_mv _ rfl (run_nil (h11 _ ⟨rs ++ [.agg [.tr Z0 (eLabelS u.labels) v0, .tr Z1 (eSampleS u.samples) v1]], by simp only [List.length_append, List.length_cons, List.length_nil]; omega, ⟨by simp only [List.length_append, List.length_cons, List.length_nil]; omega, hfresh⟩, ?_⟩))))
    have e : ((rs ++ [(.agg [.tr Z0 (eLabelS u.labels) v0, .tr Z1 (eSampleS u.samples) v1] : SV)]).length : Int) = (rs.length : Int) + 1 := by simp
    rw [e]
    exact le_rek 3 21 ⟨rfl, rfl, rfl, rfl, trivial⟩ ⟨rfl, trivial⟩ rfl rfl rfl rfl ⟨rfl, trivial⟩
  · have hk : rs.length = x.length := by have : ¬ ((rs.length : Int) < x.length) := by simpa using c7
                                         omega
    rw [hk, List.take_length] at j2
    refine ok_exit (h3 _ ?_)
    refine ok_seq fun K12 h12 => ok_region rfl (q_mo _ rfl (q_ao _ rfl (run_nil (h12 _ ?_)))); clear h12 K12
    refine ok_treed (k := 3) (n := 2) (T := 75) (rs := rs) (ss := x.map eSeries) rfl j2.len j2.gd j2.ap (fun r hr b hb => .inl (j2.nw r hr b hb)) (fun Z v hZ => ?_)
    exact ok_ret ⟨_, ⟨_, _, rfl, rfl, rfl⟩, .tr Z 2 _ v, fun b hb => (hZ b (zn_tr hb)).elim id fun h => h.elim⟩
theorem f164_t (x : List Series) (hx : x.length ≤ 1048576 ∧ ∀ y ∈ x, SSeries y) : PFnT Try.prog 164 [eSeriesS x] (eSeriesS x) := by
  have hle : x.length ≤ 1048576 := hx.1
  refine fnp_ok (n := 24) Try.func164 rfl rfl rfl (Nat.le_of_ble_eq_true rfl) rfl fun w0 O => ?_
  refine ok_seq fun K1 h1 => ok_region rfl (q_as _ rfl (run_nil (h1 _ ?_))); clear h1 K1
  refine ok_seq fun K2 h2 => ok_region rfl (q_an (n := 2) 75 (by decide) rfl rfl rfl (run_nil (h2 _ ?_))); clear h2 K2
  refine ok_seq fun K3 h3 => ?_
  refine ok_seq fun K4 h4 => ok_region rfl (q_mv _ rfl (q_len eS29 rfl (q_mv _ rfl (run_nil (h4 _ ?_))))); clear h4 K4
  rw [List.length_map]
  refine ok_block ?_
  refine ok_loop (fun (rs : List SV) => ⟨[(3, .own 3), (6, .sv (eSeriesS x)), (7, .sv (int x.length)), (8, .sv (int rs.length))], [(3, .row 2 75 rs)]⟩) (fun rs => rs.length ≤ x.length ∧ Cps w0 rs ((x.take rs.length).map eSeries)) (fun rs => x.length - rs.length) [] ⟨Nat.zero_le _, Cps.nil w0⟩ (le_sub ⟨rfl, rfl, rfl, rfl, trivial⟩ ⟨rfl, trivial⟩) (fun rs J => ?_)
  obtain ⟨j1, j2⟩ := J
  refine ok_seq fun K5 h5 => ok_region rfl (q_bin _ _ _ rfl rfl rfl (run_nil (h5 _ ?_))); clear h5 K5
  refine ok_seq fun K6 h6 => ?_
  refine ok_cond rfl (fun c7 => ?_) (fun c7 => ?_)
  · refine ok_skip (h6 _ ?_)
    have hk : rs.length < x.length := by simpa using c7
    obtain ⟨u, hu⟩ := sget hk
    refine ok_seq fun K8 h8 => ?_
    refine ok_block ?_
    refine ok_seq fun K9 h9 => ok_region rfl (q_ia el29 rfl rfl (by omega) (mget (f := eSeries) hu) (q_lds _ ag75 rfl sz75 (q_alloc _ ze75 rfl rfl rfl rfl (q_sts _ rfl rfl rfl sz75 (Nat.le_of_ble_eq_true rfl) rfl (run_nil (h9 _ ?_)))))); clear h9 K9
    refine ok_last fun K10 h10 => ok_region_d [0, 0, 1, 3, 0, 1, 3, 2, 3, 2, 0] #[[], [], [1], [1, 2], [], [4], [1, 2, 3, 4, 5], [1, 2, 3, 4, 5, 6], [1, 2, 3, 4, 5, 6, 7], [0, 1, 2, 3, 4, 5, 6, 7, 8], [0, 1, 2, 3, 4, 5, 6, 7, 8, 9]] [0, 1, 2, 4, 5, 3, 6, 7, 8, 9, 10] (by kernel_rfl) (by kernel_rfl) rfl rfl (q_mo _ rfl (q_fap fd75_0 rfl (by decide) (q_ldb _ ag72 rfl rfl rfl (q_fap fd75_1 rfl (by decide) (q_ldb _ ag73 rfl rfl rfl (q_callr (f183_t u.labels ((hx.2 u (smem hu)).1.1)) cl183 rfl (fun r0 hr0 hz0 ha0 => ?_)))))))
    obtain ⟨Z0, v0, rfl⟩ := gd_sl_inv hr0
    refine q_callr (f76_t u.samples ((hx.2 u (smem hu)).2)) cl76 rfl (fun r1 hr1 hz1 ha1 => ?_)
    obtain ⟨Z1, v1, rfl⟩ := gd_sl_inv hr1
    have d0_1 : ∀ b, Z0 b → ¬ Z1 b := fun b h1 h2 => ha1.1 15 _ b rfl (.tr Z0 _ v0 h1) (.tr Z1 _ v1 h2)
    have hfresh := j2.snoc (r := .agg [.tr Z0 (eLabelS u.labels) v0, .tr Z1 (eSampleS u.samples) v1]) (gc_Series u d0_1) (fun y hy b hb hb' => by simp only [znA_cons, znI_raw, znI_tr, znA_nil, or_false, false_or] at hb'; exact hb'.elim (fun h => (ha0.2 3 2 75 _ y b rfl hy hb (.tr Z0 _ v0 h))) (fun h => ((ha1.2 3 2 75 _ y b rfl hy hb (.tr Z1 _ v1 h))))) (fun b hb => by simp only [znA_cons, znI_raw, znI_tr, znA_nil, or_false, false_or] at hb; exact hb.elim (fun h => (hz0 b (.tr Z0 _ v0 h))) (fun h => ((hz1 b (.tr Z1 _ v1 h)))))
    rw [show (x.take rs.length).map eSeries ++ [eSeries u] = (x.take (rs ++ [(.agg [.tr Z0 (eLabelS u.labels) v0, .tr Z1 (eSampleS u.samples) v1] : SV)]).length).map eSeries by rw [List.length_append, List.length_cons, List.length_nil, List.take_add_one, hu, List.map_append]; rfl] at hfresh
    refine q_bld _ (bl75 u) rfl rfl rfl (q_lit1 _ _ el29 ze75 (by decide) (by decide) rfl (.inl ⟨_, rfl⟩) rfl (q_app _ el29 ze75 rfl by75 rfl rfl rfl rfl rfl (by simp) (by intro s hs; simp at hs; subst hs; exact .inl ⟨_, rfl⟩) (by show rs.length + 1 ≤ maxLen; unfold maxLen; omega) (by show (rs.length + 1) * 48 ≤ _; omega) (q_ao _ rfl (run_nil (h10 _ (h8 _ ?_))))))
    refine ok_last fun K11 h11 => ok_region rfl (q_add rfl rfl (by omega) (q_mv _ rfl (run_nil (h11 _ ⟨rs ++ [.agg [.tr Z0 (eLabelS u.labels) v0, .tr Z1 (eSampleS u.samples) v1]], by simp only [List.length_append, List.length_cons, List.length_nil]; omega, ⟨by simp only [List.length_append, List.length_cons, List.length_nil]; omega, hfresh⟩, ?_⟩))))
    have e : ((rs ++ [(.agg [.tr Z0 (eLabelS u.labels) v0, .tr Z1 (eSampleS u.samples) v1] : SV)]).length : Int) = (rs.length : Int) + 1 := by simp
    rw [e]
    exact le_rek 3 21 ⟨rfl, rfl, rfl, rfl, trivial⟩ ⟨rfl, trivial⟩ rfl rfl rfl rfl ⟨rfl, trivial⟩
  · have hk : rs.length = x.length := by have : ¬ ((rs.length : Int) < x.length) := by simpa using c7
                                         omega
    rw [hk, List.take_length] at j2
    refine ok_exit (h3 _ ?_)
    refine ok_seq fun K12 h12 => ok_region rfl (q_mo _ rfl (q_ao _ rfl (run_nil (h12 _ ?_)))); clear h12 K12
    refine ok_treed (k := 3) (n := 2) (T := 75) (rs := rs) (ss := x.map eSeries) rfl j2.len j2.gd j2.ap (fun r hr b hb => .inl (j2.nw r hr b hb)) (fun Z v hZ => ?_)
    exact ok_ret ⟨_, ⟨_, _, rfl, rfl, rfl⟩, .tr Z 2 _ v, fun b hb => (hZ b (zn_tr hb)).elim id fun h => h.elim⟩
theorem f165_t (x : List Stone) (hx : x.length ≤ 1048576 ∧ ∀ y ∈ x, SStone y) : PFnT Try.prog 165 [eStoneS x] (eStoneS x) := by
  have hle : x.length ≤ 1048576 := hx.1
  refine fnp_ok (n := 22) Try.func165 rfl rfl rfl (Nat.le_of_ble_eq_true rfl) rfl fun w0 O => ?_
  refine ok_seq fun K1 h1 => ok_region rfl (q_as _ rfl (run_nil (h1 _ ?_))); clear h1 K1
  refine ok_seq fun K2 h2 => ok_region rfl (q_an (n := 3) 122 (by decide) rfl rfl rfl (run_nil (h2 _ ?_))); clear h2 K2
  refine ok_seq fun K3 h3 => ?_
  refine ok_seq fun K4 h4 => ok_region rfl (q_mv _ rfl (q_len eS30 rfl (q_mv _ rfl (run_nil (h4 _ ?_))))); clear h4 K4
  rw [List.length_map]
  refine ok_block ?_
  refine ok_loop (fun (rs : List SV) => ⟨[(3, .own 3), (6, .sv (eStoneS x)), (7, .sv (int x.length)), (8, .sv (int rs.length))], [(3, .row 3 122 rs)]⟩) (fun rs => rs.length ≤ x.length ∧ Cps w0 rs ((x.take rs.length).map eStone)) (fun rs => x.length - rs.length) [] ⟨Nat.zero_le _, Cps.nil w0⟩ (le_sub ⟨rfl, rfl, rfl, rfl, trivial⟩ ⟨rfl, trivial⟩) (fun rs J => ?_)
  obtain ⟨j1, j2⟩ := J
  refine ok_seq fun K5 h5 => ok_region rfl (q_bin _ _ _ rfl rfl rfl (run_nil (h5 _ ?_))); clear h5 K5
  refine ok_seq fun K6 h6 => ?_
  refine ok_cond rfl (fun c7 => ?_) (fun c7 => ?_)
  · refine ok_skip (h6 _ ?_)
    have hk : rs.length < x.length := by simpa using c7
    obtain ⟨u, hu⟩ := sget hk
    refine ok_seq fun K8 h8 => ?_
    refine ok_block ?_
    refine ok_seq fun K9 h9 => ok_region rfl (q_ia el30 rfl rfl (by omega) (mget (f := eStone) hu) (q_lds _ ag122 rfl sz122 (q_alloc _ ze122 rfl rfl rfl rfl (q_sts _ rfl rfl rfl sz122 (Nat.le_of_ble_eq_true rfl) rfl (run_nil (h9 _ ?_)))))); clear h9 K9
    refine ok_seq fun K10 h10 => ok_region rfl (q_fap fd122_0 rfl (by decide) (q_ldb _ ag72 rfl rfl rfl (q_callr (f183_t u.labels ((hx.2 u (smem hu)).1)) cl183 rfl (fun r0 hr0 hz0 ha0 => ?_))))
    obtain ⟨Z0, v0, rfl⟩ := gd_sl_inv hr0
    have hfresh := j2.snoc (r := .agg [.tr Z0 (eLabelS u.labels) v0, int u.from_, int u.to]) (gc_Stone u ) (fun y hy b hb hb' => by simp only [znA_cons, znI_raw, znI_tr, znA_nil, or_false, false_or] at hb'; exact ((ha0.2 3 3 122 _ y b rfl hy hb (.tr Z0 _ v0 hb')))) (fun b hb => by simp only [znA_cons, znI_raw, znI_tr, znA_nil, or_false, false_or] at hb; exact ((hz0 b (.tr Z0 _ v0 hb))))
    rw [show (x.take rs.length).map eStone ++ [eStone u] = (x.take (rs ++ [(.agg [.tr Z0 (eLabelS u.labels) v0, int u.from_, int u.to] : SV)]).length).map eStone by rw [List.length_append, List.length_cons, List.length_nil, List.take_add_one, hu, List.map_append]; rfl] at hfresh
    refine q_fap fd122_0 rfl (by decide) (q_st _ sz72 rfl rfl (Nat.le_of_ble_eq_true rfl) rfl ⟨_, rfl, rfl⟩ rfl (run_nil (h10 _ ?_)))
    refine ok_last fun K11 h11 => ok_region rfl (q_mo _ rfl (q_ldbs ag122 rfl rfl sz122 rfl rfl (q_lit1 _ _ el30 ze122 (by decide) (by decide) rfl (.inl ⟨_, rfl⟩) rfl (q_app _ el30 ze122 rfl by122 rfl rfl rfl rfl rfl (by simp) (by intro s hs; simp at hs; subst hs; exact .inl ⟨_, rfl⟩) (by show rs.length + 1 ≤ maxLen; unfold maxLen; omega) (by show (rs.length + 1) * 40 ≤ _; omega) (q_ao _ rfl (run_nil (h11 _ (h8 _ ?_))))))))
    refine ok_last fun K12 h12 => ok_region rfl (q_add rfl rfl (by omega) (q_mv _ rfl (run_nil (h12 _ ⟨rs ++ [.agg [.tr Z0 (eLabelS u.labels) v0, int u.from_, int u.to]], by simp only [List.length_append, List.length_cons, List.length_nil]; omega, ⟨by simp only [List.length_append, List.length_cons, List.length_nil]; omega, hfresh⟩, ?_⟩))))
    have e : ((rs ++ [(.agg [.tr Z0 (eLabelS u.labels) v0, int u.from_, int u.to] : SV)]).length : Int) = (rs.length : Int) + 1 := by simp
    rw [e]
    exact le_rek 3 19 ⟨rfl, rfl, rfl, rfl, trivial⟩ ⟨rfl, trivial⟩ rfl rfl rfl rfl ⟨rfl, trivial⟩
  · have hk : rs.length = x.length := by have : ¬ ((rs.length : Int) < x.length) := by simpa using c7
                                         omega
    rw [hk, List.take_length] at j2
    refine ok_exit (h3 _ ?_)
    refine ok_seq fun K13 h13 => ok_region rfl (q_mo _ rfl (q_ao _ rfl (run_nil (h13 _ ?_)))); clear h13 K13
    refine ok_treed (k := 3) (n := 3) (T := 122) (rs := rs) (ss := x.map eStone) rfl j2.len j2.gd j2.ap (fun r hr b hb => .inl (j2.nw r hr b hb)) (fun Z v hZ => ?_)
    exact ok_ret ⟨_, ⟨_, _, rfl, rfl, rfl⟩, .tr Z 3 _ v, fun b hb => (hZ b (zn_tr hb)).elim id fun h => h.elim⟩
theorem f137_t (x : Block) (hx : SBlock x) : PFnT Try.prog 137 [eBlock x] (eBlock x) := by
  refine fnp_ok (n := 12) Try.func137 rfl rfl rfl (Nat.le_of_ble_eq_true rfl) rfl fun w0 O => ?_
  refine ok_seq fun K1 h1 => ok_region rfl (q_boxo (cells := [.sv (int x.from_), .sv (int x.to), .sv (int x.level), .sv (eSeriesS x.series), .sv (eStoneS x.stones)]) _ rfl (.inl ⟨_, rfl⟩) rfl rfl rfl (q_alloc _ ze32 rfl rfl rfl rfl (run_nil (h1 _ ?_)))); clear h1 K1
  refine ok_seq fun K2 h2 => ?_
  refine ok_region_d [0, 1, 3, 0, 1, 3, 0, 2, 0, 2] #[[], [0], [0, 1], [], [3], [0, 1, 2, 3, 4], [0, 1, 2, 3, 4], [0, 1, 2, 3, 4, 5, 6], [0, 1, 2, 3, 4, 5, 6, 7], [0, 1, 2, 3, 4, 5, 6, 7, 8]] [0, 1, 3, 4, 2, 6, 5, 7, 8, 9] (by kernel_rfl) (by kernel_rfl) rfl rfl (q_fap fd32_3 rfl (by decide) (q_ldb _ ag29 rfl rfl rfl (q_fap fd32_4 rfl (by decide) (q_ldb _ ag30 rfl rfl rfl (q_callr (f164_t x.series (hx.1)) cl164 rfl (fun r3 hr3 hz3 ha3 => ?_))))))
  obtain ⟨Z3, v3, rfl⟩ := gd_sl_inv hr3
  refine q_fap fd32_3 rfl (by decide) (q_callr (f165_t x.stones (hx.2)) cl165 rfl (fun r4 hr4 hz4 ha4 => ?_))
  obtain ⟨Z4, v4, rfl⟩ := gd_sl_inv hr4
  have d3_4 : ∀ b, Z3 b → ¬ Z4 b := fun b h1 h2 => ha4.1 5 _ b rfl (.tr Z3 _ v3 h1) (.tr Z4 _ v4 h2)
  refine q_st _ sz29 rfl rfl (Nat.le_of_ble_eq_true rfl) rfl ⟨_, rfl, rfl⟩ rfl (q_fap fd32_4 rfl (by decide) (q_st _ sz30 rfl rfl (Nat.le_of_ble_eq_true rfl) rfl ⟨_, rfl, rfl⟩ rfl (run_nil (h2 _ ?_))))
  clear h2 K2
  refine ok_seq fun K3 h3 => ok_region rfl (q_ldbs ag32 rfl rfl sz32 rfl rfl (q_sts _ rfl rfl rfl sz32 (Nat.le_of_ble_eq_true rfl) rfl (run_nil (h3 _ ?_)))); clear h3 K3
  refine ok_ret ⟨[.agg [int x.from_, int x.to, int x.level, .tr Z3 (eSeriesS x.series) v3, .tr Z4 (eStoneS x.stones) v4]], ⟨_, _, res_cells (l := [int x.from_, int x.to, int x.level, .tr Z3 (eSeriesS x.series) v3, .tr Z4 (eStoneS x.stones) v4]) rfl rfl ag32 sz32 rfl, rfl, rfl⟩, gc_Block x d3_4, fun b hb => ?_⟩
  have hb : Zn b (.agg [int x.from_, int x.to, int x.level, .tr Z3 (eSeriesS x.series) v3, .tr Z4 (eStoneS x.stones) v4]) := hb
  simp only [znA_cons, znI_raw, znI_tr, znA_nil, or_false, false_or] at hb
  rcases hb with h | h
  · exact hz3 b (.tr Z3 _ v3 h)
  · exact hz4 b (.tr Z4 _ v4 h)
theorem f85_t (x : List Block) (hx : x.length ≤ 1048576 ∧ ∀ y ∈ x, SBlock y) : PFnT Try.prog 85 [eBlockS x] (eBlockS x) := by
  have hle : x.length ≤ 1048576 := hx.1
  refine fnp_ok (n := 19) Try.func85 rfl rfl rfl (Nat.le_of_ble_eq_true rfl) rfl fun w0 O => ?_
  refine ok_seq fun K1 h1 => ok_region rfl (q_as _ rfl (run_nil (h1 _ ?_))); clear h1 K1
  refine ok_seq fun K2 h2 => ok_region rfl (q_an (n := 5) 32 (by decide) rfl rfl rfl (run_nil (h2 _ ?_))); clear h2 K2
  refine ok_seq fun K3 h3 => ?_
  refine ok_seq fun K4 h4 => ok_region rfl (q_mv _ rfl (q_len eS64 rfl (q_mv _ rfl (run_nil (h4 _ ?_))))); clear h4 K4
  rw [List.length_map]
  refine ok_block ?_
  refine ok_loop (fun (rs : List SV) => ⟨[(3, .own 3), (6, .sv (eBlockS x)), (7, .sv (int x.length)), (8, .sv (int rs.length))], [(3, .row 5 32 rs)]⟩) (fun rs => rs.length ≤ x.length ∧ Cps w0 rs ((x.take rs.length).map eBlock)) (fun rs => x.length - rs.length) [] ⟨Nat.zero_le _, Cps.nil w0⟩ (le_sub ⟨rfl, rfl, rfl, rfl, trivial⟩ ⟨rfl, trivial⟩) (fun rs J => ?_)
  obtain ⟨j1, j2⟩ := J
  refine ok_seq fun K5 h5 => ok_region rfl (q_bin _ _ _ rfl rfl rfl (run_nil (h5 _ ?_))); clear h5 K5
  refine ok_seq fun K6 h6 => ?_
  refine ok_cond rfl (fun c7 => ?_) (fun c7 => ?_)
  · refine ok_skip (h6 _ ?_)
    have hk : rs.length < x.length := by simpa using c7
    obtain ⟨u, hu⟩ := sget hk
    refine ok_seq fun K8 h8 => ?_
    refine ok_block ?_
    refine ok_seq fun K9 h9 => ok_region rfl (q_ia el64 rfl rfl (by omega) (mget (f := eBlock) hu) (q_lds _ ag32 rfl sz32 (q_alloc _ ze32 rfl rfl rfl rfl (q_sts _ rfl rfl rfl sz32 (Nat.le_of_ble_eq_true rfl) rfl (run_nil (h9 _ ?_)))))); clear h9 K9
    refine ok_last fun K10 h10 => ok_region rfl (q_mo _ rfl (q_ldbs ag32 rfl rfl sz32 rfl rfl (q_callr (f137_t u (hx.2 u (smem hu))) cl137 rfl (fun r hr hz hap => ?_))))
    have hfresh := j2.snoc hr (fun y hy b hb => hap.2 3 5 32 _ y b rfl hy hb) hz
    rw [show (x.take rs.length).map eBlock ++ [eBlock u] = (x.take (rs ++ [r]).length).map eBlock by rw [List.length_append, List.length_cons, List.length_nil, List.take_add_one, hu, List.map_append]; rfl] at hfresh
    obtain ⟨Z3, v3, Z4, v4, rfl, d3_4⟩ := gi_Block hr
    refine q_lit1 _ _ el64 ze32 (by decide) (by decide) rfl (.inl ⟨_, rfl⟩) rfl (q_app _ el64 ze32 rfl by32 rfl rfl rfl rfl rfl (by simp) (by intro s hs; simp at hs; subst hs; exact .inl ⟨_, rfl⟩) (by show rs.length + 1 ≤ maxLen; unfold maxLen; omega) (by show (rs.length + 1) * 72 ≤ _; omega) (q_ao _ rfl (run_nil (h10 _ (h8 _ ?_)))))
    refine ok_last fun K11 h11 => ok_region rfl (q_add rfl rfl (by omega) (q_mv _ rfl (run_nil (h11 _ ⟨rs ++ [.agg [int u.from_, int u.to, int u.level, .tr Z3 (eSeriesS u.series) v3, .tr Z4 (eStoneS u.stones) v4]], by simp only [List.length_append, List.length_cons, List.length_nil]; omega, ⟨by simp only [List.length_append, List.length_cons, List.length_nil]; omega, hfresh⟩, ?_⟩))))
    have e : ((rs ++ [(.agg [int u.from_, int u.to, int u.level, .tr Z3 (eSeriesS u.series) v3, .tr Z4 (eStoneS u.stones) v4] : SV)]).length : Int) = (rs.length : Int) + 1 := by simp
    rw [e]
    exact le_rek 3 16 ⟨rfl, rfl, rfl, rfl, trivial⟩ ⟨rfl, trivial⟩ rfl rfl rfl rfl ⟨rfl, trivial⟩
  · have hk : rs.length = x.length := by have : ¬ ((rs.length : Int) < x.length) := by simpa using c7
                                         omega
    rw [hk, List.take_length] at j2
    refine ok_exit (h3 _ ?_)
    refine ok_seq fun K12 h12 => ok_region rfl (q_mo _ rfl (q_ao _ rfl (run_nil (h12 _ ?_)))); clear h12 K12
    refine ok_treed (k := 3) (n := 5) (T := 32) (rs := rs) (ss := x.map eBlock) rfl j2.len j2.gd j2.ap (fun r hr b hb => .inl (j2.nw r hr b hb)) (fun Z v hZ => ?_)
    exact ok_ret ⟨_, ⟨_, _, rfl, rfl, rfl⟩, .tr Z 5 _ v, fun b hb => (hZ b (zn_tr hb)).elim id fun h => h.elim⟩
end Go.Ring
