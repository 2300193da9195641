/- Copies of samples and series, two rows of samples laid together: program and reference. No condition beyond the lengths. -/
import Derived.Test.YtanilephcohjkaaGreatB5
set_option maxRecDepth 100000
set_option linter.unusedVariables false
set_option linter.unusedSimpArgs false
namespace Go.Ring
open Go Go.RowKit Go.Eager Go.Abs Go.Proofs
theorem f167_t (x : List Sample) (hx : x.length ≤ 1048576) : PFnT Tryz.prog 167 [eSampleS x] (eSampleS x) := by
  refine fnp_ok (n := 8) Tryz.func167 rfl rfl rfl (Nat.le_of_ble_eq_true rfl) rfl fun w0 O => ?_
  refine ok_seq fun K1 h1 => ok_region rfl (q_as _ rfl (run_nil (h1 _ ?_))); clear h1 K1
  refine ok_seq fun K2 h2 => ?_
  refine ok_seq fun K3 h3 => ok_region rfl (q_mv _ rfl (q_eqn Tryz.underlying123 rfl (fun b hb => run_nil (h3 _ ?_)))); clear h3 K3
  refine ok_cond rfl (fun c4 => ?_) (fun c4 => ?_)
  · have hn : x = [] := by have := hb c4; simpa using this
    subst hn
    refine ok_seq fun K5 h5 => ?_
    refine ok_region rfl (q_as _ rfl (run_nil (h5 _ ?_)))
    clear h5 K5
    exact ok_nilT 2 (ok_ret ⟨_, ⟨_, _, rfl, rfl, rfl⟩, .tr _ _ _ _, fun b hb => (zn_tr hb).elim⟩)
  · refine ok_skip (h2 _ ?_)
    rcases x with _ | ⟨u, x⟩
    · refine ok_seq fun K6 h6 => ok_region rfl (q_lito0 _ el123 ze122 (by decide) rfl rfl (q_mv _ rfl (q_appE el123 rfl rfl rfl (q_ao _ rfl (run_nil (h6 _ ?_)))))); clear h6 K6
      obtain ⟨g1, g2, g3⟩ := gd_flatL (rs := ([] : List Sample).map eSample) (fun r hr => by obtain ⟨y, _, rfl⟩ := List.mem_map.1 hr; rfl)
      refine ok_treed (k := 5) (n := 2) (T := 122) (rs := ([] : List Sample).map eSample) (ss := ([] : List Sample).map eSample) rfl rfl g1 g2 (fun r hr b hb => (g3 r hr b hb).elim) (fun Z v hZ => ?_)
      exact ok_ret ⟨_, ⟨_, _, rfl, rfl, rfl⟩, .tr Z 2 _ v, fun b hb => (hZ b (zn_tr hb)).elim id fun h => h.elim⟩
    · refine ok_seq fun K6 h6 => ok_region rfl (q_lito0 _ el123 ze122 (by decide) rfl rfl (q_mv _ rfl (q_app _ el123 ze122 rfl by122 rfl rfl rfl rfl rfl (by simp) (by intro s hs; obtain ⟨y, _, rfl⟩ := List.mem_map.1 hs; exact .inl ⟨_, rfl⟩) (by simp only [List.length_map, List.length_cons, List.length_nil] at hx ⊢; unfold maxLen; omega) (by simp only [List.length_map, List.length_cons, List.length_nil] at hx ⊢; omega) (q_ao _ rfl (run_nil (h6 _ ?_)))))); clear h6 K6
      obtain ⟨g1, g2, g3⟩ := gd_flatL (rs := (u :: x).map eSample) (fun r hr => by obtain ⟨y, _, rfl⟩ := List.mem_map.1 hr; rfl)
      refine ok_treed (k := 7) (n := 2) (T := 122) (rs := (u :: x).map eSample) (ss := (u :: x).map eSample) rfl rfl g1 g2 (fun r hr b hb => (g3 r hr b hb).elim) (fun Z v hZ => ?_)
      exact ok_ret ⟨_, ⟨_, _, rfl, rfl, rfl⟩, .tr Z 2 _ v, fun b hb => (hZ b (zn_tr hb)).elim id fun h => h.elim⟩
theorem f193_t (x : List Sample) (hx : x.length ≤ 1048576) : PFnT Tryz.prog 193 [eSampleS x] (eSampleS x) := by
  refine fnp_ok (n := 7) Tryz.func193 rfl rfl rfl (Nat.le_of_ble_eq_true rfl) rfl fun w0 O => ?_
  refine ok_seq fun K1 h1 => ok_region rfl (q_as _ rfl (run_nil (h1 _ ?_))); clear h1 K1
  refine ok_seq fun K2 h2 => ok_region rfl (q_an (n := 2) 122 (by decide) rfl rfl rfl (run_nil (h2 _ ?_))); clear h2 K2
  rcases x with _ | ⟨u, x⟩
  · refine ok_seq fun K3 h3 => ok_region rfl (q_mo _ rfl (q_mv _ rfl (q_appE el123 rfl rfl rfl (q_ao _ rfl (run_nil (h3 _ ?_)))))); clear h3 K3
    obtain ⟨g1, g2, g3⟩ := gd_flatL (rs := ([] : List Sample).map eSample) (fun r hr => by obtain ⟨y, _, rfl⟩ := List.mem_map.1 hr; rfl)
    refine ok_treed (k := 3) (n := 2) (T := 122) (rs := ([] : List Sample).map eSample) (ss := ([] : List Sample).map eSample) rfl rfl g1 g2 (fun r hr b hb => (g3 r hr b hb).elim) (fun Z v hZ => ?_)
    exact ok_ret ⟨_, ⟨_, _, rfl, rfl, rfl⟩, .tr Z 2 _ v, fun b hb => (hZ b (zn_tr hb)).elim id fun h => h.elim⟩
  · refine ok_seq fun K3 h3 => ok_region rfl (q_mo _ rfl (q_mv _ rfl (q_app _ el123 ze122 rfl by122 rfl rfl rfl rfl rfl (by simp) (by intro s hs; obtain ⟨y, _, rfl⟩ := List.mem_map.1 hs; exact .inl ⟨_, rfl⟩) (by simp only [List.length_map, List.length_cons, List.length_nil] at hx ⊢; unfold maxLen; omega) (by simp only [List.length_map, List.length_cons, List.length_nil] at hx ⊢; omega) (q_ao _ rfl (run_nil (h3 _ ?_)))))); clear h3 K3
    obtain ⟨g1, g2, g3⟩ := gd_flatL (rs := (u :: x).map eSample) (fun r hr => by obtain ⟨y, _, rfl⟩ := List.mem_map.1 hr; rfl)
    refine ok_treed (k := 6) (n := 2) (T := 122) (rs := (u :: x).map eSample) (ss := (u :: x).map eSample) rfl rfl g1 g2 (fun r hr b hb => (g3 r hr b hb).elim) (fun Z v hZ => ?_)
    exact ok_ret ⟨_, ⟨_, _, rfl, rfl, rfl⟩, .tr Z 2 _ v, fun b hb => (hZ b (zn_tr hb)).elim id fun h => h.elim⟩
theorem f133_o (x : List Series) (hx : x.length ≤ 1048576 ∧ ∀ y ∈ x, SSeries y) : PFnOT Tryz.prog 133 [eSeriesS x] 2 125 (x.map eSeries) := by
  refine fnot_ok (m := 24) (by omega) Tryz.func133 rfl rfl rfl (Nat.le_of_ble_eq_true rfl) rfl fun w0 O => ?_
  have hxl := hx.1
  refine ok_seq fun K1 h1 => ok_region rfl (q_as _ rfl (run_nil (h1 _ ?_))); clear h1 K1
  refine ok_seq fun K2 h2 => ok_region rfl (q_an (n := 2) 125 (by decide) rfl rfl rfl (run_nil (h2 _ ?_))); clear h2 K2
  refine ok_seq fun K3 h3 => ?_
  refine ok_seq fun K4 h4 => ok_region rfl (q_mv _ rfl (q_len eS63 rfl (q_mv _ rfl (run_nil (h4 _ ?_))))); clear h4 K4
  rw [List.length_map]
  refine ok_block ?_
  refine ok_loop (fun (s : Nat × List SV) => ⟨[(3, .own 3), (6, .sv (eSeriesS x)), (7, .sv (int x.length)), (8, .sv (int s.1))], [(3, .row 2 125 s.2)]⟩) (fun s => Cps w0 s.2 ((x.take s.1).map eSeries)) (fun s => x.length - s.1) (0, []) (Cps.nil w0) (le_sub ⟨rfl, rfl, rfl, rfl, trivial⟩ ⟨rfl, trivial⟩) (fun s J => ?_)
  obtain ⟨k, rs⟩ := s
  simp only at J
  have hrl : rs.length ≤ k := by
    rw [J.len, List.length_map, List.length_take]; omega
  refine ok_seq fun K5 h5 => ok_region rfl (q_bin _ _ _ rfl rfl rfl (run_nil (h5 _ ?_))); clear h5 K5
  refine ok_seq fun K6 h6 => ?_
  refine ok_cond rfl (fun c7 => ?_) (fun c7 => ?_)
  · refine ok_skip (h6 _ ?_)
    have hk : k < x.length := by simpa using c7
    obtain ⟨u, hu⟩ := sget hk
    have nu := hx.2 u (smem hu)
    have hd : (x.take (k + 1)).map eSeries = (x.take k).map eSeries ++ [eSeries u] := by rw [List.take_add_one, hu, Option.toList_some, List.map_append]; rfl
    refine ok_seq fun K8 h8 => ?_
    refine ok_block ?_
    refine ok_seq fun K9 h9 => ok_region rfl (q_ia el63 rfl rfl (by omega) (mget (f := eSeries) hu) (q_lds _ ag125 rfl sz125 (q_alloc _ ze125 rfl rfl rfl rfl (q_sts _ rfl rfl rfl sz125 (Nat.le_of_ble_eq_true rfl) rfl (run_nil (h9 _ ?_)))))); clear h9 K9
    refine ok_last fun K10 h10 => ok_region_d [0, 0, 1, 3, 0, 1, 3, 2, 3, 2, 0] #[[], [], [1], [1, 2], [], [4], [1, 2, 3, 4, 5], [1, 2, 3, 4, 5, 6], [1, 2, 3, 4, 5, 6, 7], [0, 1, 2, 3, 4, 5, 6, 7, 8], [0, 1, 2, 3, 4, 5, 6, 7, 8, 9]] [0, 1, 2, 4, 5, 3, 6, 7, 8, 9, 10] (by kernel_rfl) (by kernel_rfl) rfl rfl (
      q_mo _ rfl (q_fap fd125_0 rfl (by decide) (q_ldb (.sv (eLabelS u.labels)) ag78 rfl rfl rfl (q_fap fd125_1 rfl (by decide) (q_ldb (.sv (eSampleS u.samples)) ag123 rfl rfl rfl (q_callr (f166_t u.labels nu.1.1) cl166 rfl (fun r0 hr0 hz0 ha0 => ?_)))))))
    obtain ⟨Z0, v0, rfl⟩ := gd_sl_inv hr0
    refine q_callr (f167_t u.samples nu.2) cl167 rfl (fun r1 hr1 hz1 ha1 => ?_)
    obtain ⟨Z1, v1, rfl⟩ := gd_sl_inv hr1
    have d01 : ∀ b, Z0 b → ¬ Z1 b := fun b h0 h1 => ha1.1 15 _ b rfl (.tr Z0 _ v0 h0) (.tr Z1 _ v1 h1)
    have hn : ∀ b, Zn b (.agg [.tr Z0 (eLabelS u.labels) v0, .tr Z1 (eSampleS u.samples) v1]) → w0.heap.size ≤ b := fun b hb => by
      simp only [znA_cons, znI_raw, znI_tr, znA_nil, or_false, false_or] at hb
      rcases hb with h | h
      · exact hz0 b (.tr Z0 _ v0 h)
      · exact hz1 b (.tr Z1 _ v1 h)
    have hfresh := J.snoc (gc_Series u d01) (fun y hy b hb hb' => by
      simp only [znA_cons, znI_raw, znI_tr, znA_nil, or_false, false_or] at hb'
      rcases hb' with h | h
      · exact ha0.2 3 2 125 _ y b rfl hy hb (.tr Z0 _ v0 h)
      · exact ha1.2 3 2 125 _ y b rfl hy hb (.tr Z1 _ v1 h)) hn
    rw [← hd] at hfresh
    refine (q_bld _ (bl125 u) rfl rfl rfl (q_lit1 _ _ el63 ze125 (by decide) (by decide) rfl (.inl ⟨_, rfl⟩) rfl (
      q_app _ el63 ze125 rfl by125 rfl rfl rfl rfl rfl (by simp) (by intro s hs; simp at hs; subst hs; exact .inl ⟨_, rfl⟩) (by show rs.length + 1 ≤ maxLen; unfold maxLen; omega) (by show (rs.length + 1) * 48 ≤ _; omega) (q_ao _ rfl (run_nil (h10 _ (h8 _ ?_)))))))
    refine ok_last fun K11 h11 => ok_region rfl (
      q_add rfl rfl (by omega) (q_mv _ rfl (run_nil (h11 _ ⟨(k + 1, _), by simp only; omega, hfresh, le_rek 3 21 ⟨rfl, rfl, rfl, rfl, trivial⟩ ⟨rfl, trivial⟩ rfl rfl rfl rfl ⟨rfl, trivial⟩⟩))))
  · rw [List.take_of_length_le (by have : ¬ ((k : Int) < x.length) := by simpa using c7
                                   omega)] at J
    refine ok_exit (h3 _ ?_)
    refine ok_seq fun K12 h12 => ok_region rfl (q_mo _ rfl (q_ao _ rfl (run_nil (h12 _ ?_)))); clear h12 K12
    exact ok_ret ⟨3, rs, rfl, rfl, J⟩
theorem f124_o (x : List Series) (hx : x.length ≤ 1048576 ∧ ∀ y ∈ x, SSeries y) : PFnOT Tryz.prog 124 [eSeriesS x] 2 125 (x.map eSeries) := by
  refine fnot_ok (m := 24) (by omega) Tryz.func124 rfl rfl rfl (Nat.le_of_ble_eq_true rfl) rfl fun w0 O => ?_
  have hxl := hx.1
  refine ok_seq fun K1 h1 => ok_region rfl (q_as _ rfl (run_nil (h1 _ ?_))); clear h1 K1
  refine ok_seq fun K2 h2 => ok_region rfl (q_an (n := 2) 125 (by decide) rfl rfl rfl (run_nil (h2 _ ?_))); clear h2 K2
  refine ok_seq fun K3 h3 => ?_
  refine ok_seq fun K4 h4 => ok_region rfl (q_mv _ rfl (q_len eS63 rfl (q_mv _ rfl (run_nil (h4 _ ?_))))); clear h4 K4
  rw [List.length_map]
  refine ok_block ?_
  refine ok_loop (fun (s : Nat × List SV) => ⟨[(3, .own 3), (6, .sv (eSeriesS x)), (7, .sv (int x.length)), (8, .sv (int s.1))], [(3, .row 2 125 s.2)]⟩) (fun s => Cps w0 s.2 ((x.take s.1).map eSeries)) (fun s => x.length - s.1) (0, []) (Cps.nil w0) (le_sub ⟨rfl, rfl, rfl, rfl, trivial⟩ ⟨rfl, trivial⟩) (fun s J => ?_)
  obtain ⟨k, rs⟩ := s
  simp only at J
  have hrl : rs.length ≤ k := by
    rw [J.len, List.length_map, List.length_take]; omega
  refine ok_seq fun K5 h5 => ok_region rfl (q_bin _ _ _ rfl rfl rfl (run_nil (h5 _ ?_))); clear h5 K5
  refine ok_seq fun K6 h6 => ?_
  refine ok_cond rfl (fun c7 => ?_) (fun c7 => ?_)
  · refine ok_skip (h6 _ ?_)
    have hk : k < x.length := by simpa using c7
    obtain ⟨u, hu⟩ := sget hk
    have nu := hx.2 u (smem hu)
    have hd : (x.take (k + 1)).map eSeries = (x.take k).map eSeries ++ [eSeries u] := by rw [List.take_add_one, hu, Option.toList_some, List.map_append]; rfl
    refine ok_seq fun K8 h8 => ?_
    refine ok_block ?_
    refine ok_seq fun K9 h9 => ok_region rfl (q_ia el63 rfl rfl (by omega) (mget (f := eSeries) hu) (q_lds _ ag125 rfl sz125 (q_alloc _ ze125 rfl rfl rfl rfl (q_sts _ rfl rfl rfl sz125 (Nat.le_of_ble_eq_true rfl) rfl (run_nil (h9 _ ?_)))))); clear h9 K9
    refine ok_last fun K10 h10 => ok_region_d [0, 0, 1, 3, 0, 1, 3, 2, 3, 2, 0] #[[], [], [1], [1, 2], [], [4], [1, 2, 3, 4, 5], [1, 2, 3, 4, 5, 6], [1, 2, 3, 4, 5, 6, 7], [0, 1, 2, 3, 4, 5, 6, 7, 8], [0, 1, 2, 3, 4, 5, 6, 7, 8, 9]] [0, 1, 2, 4, 5, 3, 6, 7, 8, 9, 10] (by kernel_rfl) (by kernel_rfl) rfl rfl (
      q_mo _ rfl (q_fap fd125_0 rfl (by decide) (q_ldb (.sv (eLabelS u.labels)) ag78 rfl rfl rfl (q_fap fd125_1 rfl (by decide) (q_ldb (.sv (eSampleS u.samples)) ag123 rfl rfl rfl (q_callr (f153_t u.labels nu.1.1) cl153 rfl (fun r0 hr0 hz0 ha0 => ?_)))))))
    obtain ⟨Z0, v0, rfl⟩ := gd_sl_inv hr0
    refine q_callr (f193_t u.samples nu.2) cl193 rfl (fun r1 hr1 hz1 ha1 => ?_)
    obtain ⟨Z1, v1, rfl⟩ := gd_sl_inv hr1
    have d01 : ∀ b, Z0 b → ¬ Z1 b := fun b h0 h1 => ha1.1 15 _ b rfl (.tr Z0 _ v0 h0) (.tr Z1 _ v1 h1)
    have hn : ∀ b, Zn b (.agg [.tr Z0 (eLabelS u.labels) v0, .tr Z1 (eSampleS u.samples) v1]) → w0.heap.size ≤ b := fun b hb => by
      simp only [znA_cons, znI_raw, znI_tr, znA_nil, or_false, false_or] at hb
      rcases hb with h | h
      · exact hz0 b (.tr Z0 _ v0 h)
      · exact hz1 b (.tr Z1 _ v1 h)
    have hfresh := J.snoc (gc_Series u d01) (fun y hy b hb hb' => by
      simp only [znA_cons, znI_raw, znI_tr, znA_nil, or_false, false_or] at hb'
      rcases hb' with h | h
      · exact ha0.2 3 2 125 _ y b rfl hy hb (.tr Z0 _ v0 h)
      · exact ha1.2 3 2 125 _ y b rfl hy hb (.tr Z1 _ v1 h)) hn
    rw [← hd] at hfresh
    refine (q_bld _ (bl125 u) rfl rfl rfl (q_lit1 _ _ el63 ze125 (by decide) (by decide) rfl (.inl ⟨_, rfl⟩) rfl (
      q_app _ el63 ze125 rfl by125 rfl rfl rfl rfl rfl (by simp) (by intro s hs; simp at hs; subst hs; exact .inl ⟨_, rfl⟩) (by show rs.length + 1 ≤ maxLen; unfold maxLen; omega) (by show (rs.length + 1) * 48 ≤ _; omega) (q_ao _ rfl (run_nil (h10 _ (h8 _ ?_)))))))
    refine ok_last fun K11 h11 => ok_region rfl (
      q_add rfl rfl (by omega) (q_mv _ rfl (run_nil (h11 _ ⟨(k + 1, _), by simp only; omega, hfresh, le_rek 3 21 ⟨rfl, rfl, rfl, rfl, trivial⟩ ⟨rfl, trivial⟩ rfl rfl rfl rfl ⟨rfl, trivial⟩⟩))))
  · rw [List.take_of_length_le (by have : ¬ ((k : Int) < x.length) := by simpa using c7
                                   omega)] at J
    refine ok_exit (h3 _ ?_)
    refine ok_seq fun K12 h12 => ok_region rfl (q_mo _ rfl (q_ao _ rfl (run_nil (h12 _ ?_)))); clear h12 K12
    exact ok_ret ⟨3, rs, rfl, rfl, J⟩
section
variable {Γ : Ctx} {ops : Array Oper} {l : List (Oper × Nat)} {t : List (Nat × LV)} {h : List (Nat × Ent)} {K : St → Prop} {c d ty : Nat} {ps : String} {af : Array Edge} {x y : Operand}
/-- All but the first. -/
theorem q_tl {α : Type} {f : α → SV} {a : α} {r : List α} {S e n : Nat} (he : elOf Γ.P S = some (e, n)) (hx : St.ev ⟨t, h⟩ x = .sv (.sl n ((a :: r).map f))) (hk : RunL Γ ops l ⟨(d, .sv (.sl n (r.map f))) :: t, h⟩ K) :
    RunL Γ ops ((⟨some d, .slice S x (some (.const (.int .i64 1))) none none, ty, ps, af, none⟩, c) :: l) ⟨t, h⟩ K := by
  refine q_sl 1 (((a :: r).map f).length : Int) he hx (.inr ⟨_, _, rfl, rfl⟩) (.inl ⟨rfl, rfl⟩) (by omega) (by rw [List.length_map, List.length_cons]; omega) (Int.le_refl _) ?_
  have e1 : (((a :: r).map f).drop (1 : Int).toNat).take ((((a :: r).map f).length : Int) - 1).toNat = r.map f := by
    rw [show (1 : Int).toNat = 1 from rfl, List.map_cons, List.drop_succ_cons, List.drop_zero, List.take_of_length_le (by simp)]
  rw [e1]; exact hk
end
theorem fst0 (l : List Sample) : ∃ x, 0 < l.length → l[0]? = some x := by
  cases l with
  | nil => exact ⟨⟨0, 0⟩, fun h => by simp at h⟩
  | cons x l => exact ⟨x, fun _ => rfl⟩
theorem zget {l : List Sample} {x : Sample} (h : 0 < l.length → l[0]? = some x) (h0 : 0 < l.length) : (l.map eSample)[(0 : Int).toNat]? = some (eSample x) := by
  rw [show (0 : Int).toNat = 0 from rfl]; exact mget (h h0)
end Go.Ring
