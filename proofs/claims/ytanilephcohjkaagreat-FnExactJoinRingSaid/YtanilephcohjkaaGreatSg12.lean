/- Parts of the proof, laid together: M1 W1 M2 M3 G12 Sp G13. No condition. -/
import Derived.Test.YtanilephcohjkaaGreatSg9
import Derived.Test.YtanilephcohjkaaGreatU1
import Derived.Test.YtanilephcohjkaaGreatEg3
import Derived.KernelRfl
import Derived.Test.YtanilephcohjkaaGreatSg5
import Derived.Test.YtanilephcohjkaaGreatEg2
import Derived.Shelf.Strings.Builder1
import Derived.Shelf.Strings.Builder2
import Derived.Shelf.Strings.OnBuilder
import Derived.Shelf.Strings.Prefix
import Derived.Shelf.Small.Wraps
import Derived.Test.YtanilephcohjkaaGreatProg
/- Copies of rows and of nodes. No condition beyond the lengths. -/
set_option maxRecDepth 100000
set_option linter.unusedVariables false
set_option linter.unusedSimpArgs false
namespace Go.Ring
open Go Go.RowKit Go.Eager Go.Abs Go.Proofs
theorem f133_t (x : List Series) (hx : x.length ≤ 1048576 ∧ ∀ y ∈ x, SSeries y) : PFnT Tryz.prog 133 [eSeriesS x] (eSeriesS x) := by
  refine fnp_ok (n := 24) Tryz.func133 rfl rfl rfl (Nat.le_of_ble_eq_true rfl) rfl fun w0 O => ?_
  have hxl := hx.1
  refine ok_seq fun K1 h1 => ok_region rfl (q_as _ rfl (run_nil (h1 _ ?_)))
  refine ok_seq fun K2 h2 => ok_region rfl (q_an (n := 2) 125 (by decide) rfl rfl rfl (run_nil (h2 _ ?_)))
  refine ok_seq fun K3 h3 => ?_
  refine ok_seq fun K4 h4 => ok_region rfl (q_mv _ rfl (q_len eS63 rfl (q_mv _ rfl (run_nil (h4 _ ?_)))))
  rw [List.length_map]
  refine ok_block ?_
  refine ok_loop (fun (s : Nat × List SV) => ⟨[(3, .own 3), (6, .sv (eSeriesS x)), (7, .sv (int x.length)), (8, .sv (int s.1))], [(3, .row 2 125 s.2)]⟩) (fun s => Cps w0 s.2 ((x.take s.1).map eSeries)) (fun s => x.length - s.1) (0, []) (Cps.nil w0) (le_sub ⟨rfl, rfl, rfl, rfl, trivial⟩ ⟨rfl, trivial⟩) (fun s J => ?_)
  obtain ⟨k, rs⟩ := s
  simp only at J
  have hrl : rs.length ≤ k := by
    rw [J.len, List.length_map, List.length_take]; omega
  refine ok_seq fun K5 h5 => ok_region rfl (q_bin _ _ _ rfl rfl rfl (run_nil (h5 _ ?_)))
  refine ok_seq fun K6 h6 => ?_
  refine ok_cond rfl (fun c7 => ?_) (fun c7 => ?_)
  · refine ok_skip (h6 _ ?_)
    have hk : k < x.length := by simpa using c7
    obtain ⟨u, hu⟩ := sget hk
    have nu := hx.2 u (smem hu)
    have hd : (x.take (k + 1)).map eSeries = (x.take k).map eSeries ++ [eSeries u] := by rw [List.take_add_one, hu, Option.toList_some, List.map_append]; rfl
    refine ok_seq fun K8 h8 => ?_
    refine ok_block ?_
    refine ok_seq fun K9 h9 => ok_region rfl (q_ia el63 rfl rfl (by omega) (mget (f := eSeries) hu) (q_lds _ ag125 rfl sz125 (q_alloc _ ze125 rfl rfl rfl rfl (q_sts _ rfl rfl rfl sz125 (Nat.le_of_ble_eq_true rfl) rfl (run_nil (h9 _ ?_))))))
    refine ok_last fun K10 h10 => ok_region_d [0, 0, 1, 3, 0, 1, 3, 2, 3, 2, 0] #[[], [], [1], [1, 2], [], [4], [1, 2, 3, 4, 5], [1, 2, 3, 4, 5, 6], [1, 2, 3, 4, 5, 6, 7], [0, 1, 2, 3, 4, 5, 6, 7, 8], [0, 1, 2, 3, 4, 5, 6, 7, 8, 9]] [0, 1, 2, 4, 5, 3, 6, 7, 8, 9, 10] (by kernel_rfl) (by kernel_rfl) rfl rfl (
      q_mo _ rfl (q_fap fd125_0 rfl (by decide) (q_ldb (.sv (eLabelS u.labels)) ag78 rfl rfl rfl (q_fap fd125_1 rfl (by decide) (q_ldb (.sv (eSampleS u.samples)) ag123 rfl rfl rfl (q_callr (f166_t u.labels nu.1.1) cl166 rfl (fun r0 hr0 hz0 ha0 => ?_)))))))
    obtain ⟨Z0, v0, rfl⟩ := gd_sl_inv hr0
    refine q_callr (f167_t u.samples nu.2) cl167 rfl (fun r1 hr1 hz1 ha1 => ?_)
    obtain ⟨Z1, v1, rfl⟩ := gd_sl_inv hr1
    have d01 : ∀ b, Z0 b → ¬ Z1 b := fun b h0 h1 => ha1.1 15 _ b rfl (.tr Z0 _ v0 h0) (.tr Z1 _ v1 h1)
    have hn : ∀ b, Zn b (.agg [.tr Z0 (eLabelS u.labels) v0, .tr Z1 (eSampleS u.samples) v1]) → w0.heap.size ≤ b := fun b hb => by
      simp only [znA_cons, znI_raw, znI_tr, znA_nil, or_false, false_or] at hb
      rcases hb with h | h
      · exact hz0 b (.tr Z0 _ v0 h)
      · exact hz1 b (.tr Z1 _ v1 h)
    have hfresh := J.snoc (gc_Series u d01) (fun y hy b hb hb' => by
      simp only [znA_cons, znI_raw, znI_tr, znA_nil, or_false, false_or] at hb'
      rcases hb' with h | h
      · exact ha0.2 3 2 125 _ y b rfl hy hb (.tr Z0 _ v0 h)
      · exact ha1.2 3 2 125 _ y b rfl hy hb (.tr Z1 _ v1 h)) hn
    rw [← hd] at hfresh
    refine (q_bld _ (bl125 u) rfl rfl rfl (q_lit1 _ _ el63 ze125 (by decide) (by decide) rfl (.inl ⟨_, rfl⟩) rfl (
      q_app _ el63 ze125 rfl by125 rfl rfl rfl rfl rfl (by simp) (by intro s hs; simp at hs; subst hs; exact .inl ⟨_, rfl⟩) (by show rs.length + 1 ≤ maxLen; unfold maxLen; omega) (by show (rs.length + 1) * 48 ≤ _; omega) (q_ao _ rfl (run_nil (h10 _ (h8 _ ?_)))))))
    refine ok_last fun K11 h11 => ok_region rfl (
      q_add rfl rfl (by omega) (q_mv _ rfl (run_nil (h11 _ ⟨(k + 1, _), by simp only; omega, hfresh, le_rek 3 21 ⟨rfl, rfl, rfl, rfl, trivial⟩ ⟨rfl, trivial⟩ rfl rfl rfl rfl ⟨rfl, trivial⟩⟩))))
  · rw [List.take_of_length_le (by have : ¬ ((k : Int) < x.length) := by simpa using c7
                                   omega)] at J
    refine ok_exit (h3 _ ?_)
    refine ok_seq fun K12 h12 => ok_region rfl (q_mo _ rfl (q_ao _ rfl (run_nil (h12 _ ?_))))
    refine ok_treed (k := 3) (n := 2) (T := 125) (rs := rs) (ss := x.map eSeries) rfl J.len J.gd J.ap (fun r hr b hb => .inl (J.nw r hr b hb)) (fun Z v hZ => ?_)
    exact ok_ret ⟨_, ⟨_, _, rfl, rfl, rfl⟩, .tr Z 2 _ v, fun b hb => (hZ b (zn_tr hb)).elim id fun h => h.elim⟩
theorem f124_t (x : List Series) (hx : x.length ≤ 1048576 ∧ ∀ y ∈ x, SSeries y) : PFnT Tryz.prog 124 [eSeriesS x] (eSeriesS x) := by
  refine fnp_ok (n := 24) Tryz.func124 rfl rfl rfl (Nat.le_of_ble_eq_true rfl) rfl fun w0 O => ?_
  have hxl := hx.1
  refine ok_seq fun K1 h1 => ok_region rfl (q_as _ rfl (run_nil (h1 _ ?_)))
  refine ok_seq fun K2 h2 => ok_region rfl (q_an (n := 2) 125 (by decide) rfl rfl rfl (run_nil (h2 _ ?_)))
  refine ok_seq fun K3 h3 => ?_
  refine ok_seq fun K4 h4 => ok_region rfl (q_mv _ rfl (q_len eS63 rfl (q_mv _ rfl (run_nil (h4 _ ?_)))))
  rw [List.length_map]
  refine ok_block ?_
  refine ok_loop (fun (s : Nat × List SV) => ⟨[(3, .own 3), (6, .sv (eSeriesS x)), (7, .sv (int x.length)), (8, .sv (int s.1))], [(3, .row 2 125 s.2)]⟩) (fun s => Cps w0 s.2 ((x.take s.1).map eSeries)) (fun s => x.length - s.1) (0, []) (Cps.nil w0) (le_sub ⟨rfl, rfl, rfl, rfl, trivial⟩ ⟨rfl, trivial⟩) (fun s J => ?_)
  obtain ⟨k, rs⟩ := s
  simp only at J
  have hrl : rs.length ≤ k := by
    rw [J.len, List.length_map, List.length_take]; omega
  refine ok_seq fun K5 h5 => ok_region rfl (q_bin _ _ _ rfl rfl rfl (run_nil (h5 _ ?_)))
  refine ok_seq fun K6 h6 => ?_
  refine ok_cond rfl (fun c7 => ?_) (fun c7 => ?_)
  · refine ok_skip (h6 _ ?_)
    have hk : k < x.length := by simpa using c7
    obtain ⟨u, hu⟩ := sget hk
    have nu := hx.2 u (smem hu)
    have hd : (x.take (k + 1)).map eSeries = (x.take k).map eSeries ++ [eSeries u] := by rw [List.take_add_one, hu, Option.toList_some, List.map_append]; rfl
    refine ok_seq fun K8 h8 => ?_
    refine ok_block ?_
    refine ok_seq fun K9 h9 => ok_region rfl (q_ia el63 rfl rfl (by omega) (mget (f := eSeries) hu) (q_lds _ ag125 rfl sz125 (q_alloc _ ze125 rfl rfl rfl rfl (q_sts _ rfl rfl rfl sz125 (Nat.le_of_ble_eq_true rfl) rfl (run_nil (h9 _ ?_))))))
    refine ok_last fun K10 h10 => ok_region_d [0, 0, 1, 3, 0, 1, 3, 2, 3, 2, 0] #[[], [], [1], [1, 2], [], [4], [1, 2, 3, 4, 5], [1, 2, 3, 4, 5, 6], [1, 2, 3, 4, 5, 6, 7], [0, 1, 2, 3, 4, 5, 6, 7, 8], [0, 1, 2, 3, 4, 5, 6, 7, 8, 9]] [0, 1, 2, 4, 5, 3, 6, 7, 8, 9, 10] (by kernel_rfl) (by kernel_rfl) rfl rfl (
      q_mo _ rfl (q_fap fd125_0 rfl (by decide) (q_ldb (.sv (eLabelS u.labels)) ag78 rfl rfl rfl (q_fap fd125_1 rfl (by decide) (q_ldb (.sv (eSampleS u.samples)) ag123 rfl rfl rfl (q_callr (f153_t u.labels nu.1.1) cl153 rfl (fun r0 hr0 hz0 ha0 => ?_)))))))
    obtain ⟨Z0, v0, rfl⟩ := gd_sl_inv hr0
    refine q_callr (f193_t u.samples nu.2) cl193 rfl (fun r1 hr1 hz1 ha1 => ?_)
    obtain ⟨Z1, v1, rfl⟩ := gd_sl_inv hr1
    have d01 : ∀ b, Z0 b → ¬ Z1 b := fun b h0 h1 => ha1.1 15 _ b rfl (.tr Z0 _ v0 h0) (.tr Z1 _ v1 h1)
    have hn : ∀ b, Zn b (.agg [.tr Z0 (eLabelS u.labels) v0, .tr Z1 (eSampleS u.samples) v1]) → w0.heap.size ≤ b := fun b hb => by
      simp only [znA_cons, znI_raw, znI_tr, znA_nil, or_false, false_or] at hb
      rcases hb with h | h
      · exact hz0 b (.tr Z0 _ v0 h)
      · exact hz1 b (.tr Z1 _ v1 h)
    have hfresh := J.snoc (gc_Series u d01) (fun y hy b hb hb' => by
      simp only [znA_cons, znI_raw, znI_tr, znA_nil, or_false, false_or] at hb'
      rcases hb' with h | h
      · exact ha0.2 3 2 125 _ y b rfl hy hb (.tr Z0 _ v0 h)
      · exact ha1.2 3 2 125 _ y b rfl hy hb (.tr Z1 _ v1 h)) hn
    rw [← hd] at hfresh
    refine (q_bld _ (bl125 u) rfl rfl rfl (q_lit1 _ _ el63 ze125 (by decide) (by decide) rfl (.inl ⟨_, rfl⟩) rfl (
      q_app _ el63 ze125 rfl by125 rfl rfl rfl rfl rfl (by simp) (by intro s hs; simp at hs; subst hs; exact .inl ⟨_, rfl⟩) (by show rs.length + 1 ≤ maxLen; unfold maxLen; omega) (by show (rs.length + 1) * 48 ≤ _; omega) (q_ao _ rfl (run_nil (h10 _ (h8 _ ?_)))))))
    refine ok_last fun K11 h11 => ok_region rfl (
      q_add rfl rfl (by omega) (q_mv _ rfl (run_nil (h11 _ ⟨(k + 1, _), by simp only; omega, hfresh, le_rek 3 21 ⟨rfl, rfl, rfl, rfl, trivial⟩ ⟨rfl, trivial⟩ rfl rfl rfl rfl ⟨rfl, trivial⟩⟩))))
  · rw [List.take_of_length_le (by have : ¬ ((k : Int) < x.length) := by simpa using c7
                                   omega)] at J
    refine ok_exit (h3 _ ?_)
    refine ok_seq fun K12 h12 => ok_region rfl (q_mo _ rfl (q_ao _ rfl (run_nil (h12 _ ?_))))
    refine ok_treed (k := 3) (n := 2) (T := 125) (rs := rs) (ss := x.map eSeries) rfl J.len J.gd J.ap (fun r hr b hb => .inl (J.nw r hr b hb)) (fun Z v hZ => ?_)
    exact ok_ret ⟨_, ⟨_, _, rfl, rfl, rfl⟩, .tr Z 2 _ v, fun b hb => (hZ b (zn_tr hb)).elim id fun h => h.elim⟩
theorem f70_t (x : List Int) (hx : x.length ≤ 1048576) : PFnT Tryz.prog 70 [ints x] (ints x) := by
  refine fnp_ok (n := 8) Tryz.func70 rfl rfl rfl (Nat.le_of_ble_eq_true rfl) rfl fun w0 O => ?_
  refine ok_seq fun K1 h1 => ok_region rfl (q_as _ rfl (run_nil (h1 _ ?_)))
  refine ok_seq fun K2 h2 => ?_
  refine ok_seq fun K3 h3 => ok_region rfl (q_mv _ rfl (q_eqn Tryz.underlying40 rfl (fun b hb => run_nil (h3 _ ?_))))
  refine ok_cond rfl (fun c4 => ?_) (fun c4 => ?_)
  · have hn : x = [] := by have := hb c4; simpa using this
    subst hn
    refine ok_seq fun K5 h5 => ?_
    refine ok_region rfl (q_as _ rfl (run_nil (h5 _ ?_)))
    exact ok_nilT 1 (ok_ret ⟨_, ⟨_, _, rfl, rfl, rfl⟩, .tr _ _ _ _, fun b hb => (zn_tr hb).elim⟩)
  · refine ok_skip (h2 _ ?_)
    rcases x with _ | ⟨u, x⟩
    · refine ok_seq fun K6 h6 => ok_region rfl (q_lito0 _ el40 ze3 (by decide) rfl rfl (q_mv _ rfl (q_appE el40 rfl rfl rfl (q_ao _ rfl (run_nil (h6 _ ?_))))))
      obtain ⟨g1, g2, g3⟩ := gd_flatL (rs := ([] : List Int).map int) (fun r hr => by obtain ⟨y, _, rfl⟩ := List.mem_map.1 hr; rfl)
      refine ok_treed (k := 5) (n := 1) (T := 3) (rs := ([] : List Int).map int) (ss := ([] : List Int).map int) rfl rfl g1 g2 (fun r hr b hb => (g3 r hr b hb).elim) (fun Z v hZ => ?_)
      exact ok_ret ⟨_, ⟨_, _, rfl, rfl, rfl⟩, .tr Z 1 _ v, fun b hb => (hZ b (zn_tr hb)).elim id fun h => h.elim⟩
    · refine ok_seq fun K6 h6 => ok_region rfl (q_lito0 _ el40 ze3 (by decide) rfl rfl (q_mv _ rfl (q_app _ el40 ze3 rfl by3 rfl rfl rfl rfl rfl (by simp) (by intro s hs; obtain ⟨y, _, rfl⟩ := List.mem_map.1 hs; exact .inr rfl) (by simp only [List.length_map, List.length_cons, List.length_nil] at hx ⊢; unfold maxLen; omega) (by simp only [List.length_map, List.length_cons, List.length_nil] at hx ⊢; omega) (q_ao _ rfl (run_nil (h6 _ ?_))))))
      obtain ⟨g1, g2, g3⟩ := gd_flatL (rs := (u :: x).map int) (fun r hr => by obtain ⟨y, _, rfl⟩ := List.mem_map.1 hr; rfl)
      refine ok_treed (k := 7) (n := 1) (T := 3) (rs := (u :: x).map int) (ss := (u :: x).map int) rfl rfl g1 g2 (fun r hr b hb => (g3 r hr b hb).elim) (fun Z v hZ => ?_)
      exact ok_ret ⟨_, ⟨_, _, rfl, rfl, rfl⟩, .tr Z 1 _ v, fun b hb => (hZ b (zn_tr hb)).elim id fun h => h.elim⟩
theorem f132_o (x : List RingNode) (hx : x.length ≤ 1048576) : PFnO Tryz.prog 132 [eRingNodeS x] 3 45 (x.map eRingNode) := by
  refine fno_ok (m := 8) (by omega) Tryz.func132 rfl rfl rfl (Nat.le_of_ble_eq_true rfl) rfl fun w0 O => ?_
  refine ok_seq fun K1 h1 => ok_region rfl (q_as _ rfl (run_nil (h1 _ ?_)))
  refine ok_seq fun K2 h2 => ?_
  refine ok_seq fun K3 h3 => ok_region rfl (q_mv _ rfl (q_eqn Tryz.underlying29 rfl (fun b hb => run_nil (h3 _ ?_))))
  refine ok_cond rfl (fun c4 => ?_) (fun c4 => ?_)
  · have hn : x = [] := by have := hb c4; simpa using this
    subst hn
    refine ok_seq fun K5 h5 => ?_
    refine ok_region rfl (q_as _ rfl (run_nil (h5 _ ?_)))
    exact ok_ret (.inr ⟨rfl, rfl⟩)
  · refine ok_skip (h2 _ ?_)
    rcases x with _ | ⟨u, x⟩
    · refine ok_seq fun K6 h6 => ok_region rfl (q_lito0 _ el29 ze45 (by decide) rfl rfl (q_mv _ rfl (q_appE el29 rfl rfl rfl (q_ao _ rfl (run_nil (h6 _ ?_))))))
      exact ok_ret (.inl ⟨_, rfl, rfl⟩)
    · refine ok_seq fun K6 h6 => ok_region rfl (q_lito0 _ el29 ze45 (by decide) rfl rfl (q_mv _ rfl (q_app _ el29 ze45 rfl by45 rfl rfl rfl rfl rfl (by simp) (by intro s hs; obtain ⟨y, _, rfl⟩ := List.mem_map.1 hs; exact .inl ⟨_, rfl⟩) (by simp only [List.length_map, List.length_cons, List.length_nil] at hx ⊢; unfold maxLen; omega) (by simp only [List.length_map, List.length_cons, List.length_nil] at hx ⊢; omega) (q_ao _ rfl (run_nil (h6 _ ?_))))))
      exact ok_ret (.inl ⟨_, rfl, rfl⟩)
theorem f67_t (x : RingNode) (hx : SRingNode x) : PFnT Tryz.prog 67 [eRingNode x] (eRingNode x) := by
  have hx2 := hx.2
  refine fnp_ok (n := 10) Tryz.func67 rfl rfl rfl (Nat.le_of_ble_eq_true rfl) rfl fun w0 O => ?_
  refine ok_seq fun K1 h1 => ok_region rfl (q_boxo (cells := [.sv (str x.id), .sv (int x.st), .sv (ints x.toks)]) _ rfl (.inl ⟨_, rfl⟩) rfl rfl rfl (q_alloc _ ze45 rfl rfl rfl rfl (run_nil (h1 _ ?_))))
  refine ok_seq fun K2 h2 => ok_region rfl (q_an (n := 1) 3 (by decide) rfl rfl rfl (run_nil (h2 _ ?_)))
  have fin : ∀ (Z : Nat → Prop) (v : Value), (∀ b, Z b → w0.heap.size ≤ b ∨ False) → ∀ b, Zn b (.agg [str x.id, int x.st, .tr Z (ints x.toks) v]) → w0.heap.size ≤ b := fun Z v hZ b hb => by
    simp only [znA_cons, znI_raw, znI_tr, znA_nil, or_false, false_or] at hb
    exact (hZ b hb).elim id fun h => h.elim
  obtain ⟨id, st, toks⟩ := x
  simp only at hx2
  rcases toks with _ | ⟨u, l⟩
  · refine ok_seq fun K3 h3 => ok_region rfl (q_mo _ rfl (q_fap fd45_2 rfl (by decide) (q_ldb (.sv (ints [])) ag40 rfl rfl rfl (q_appE el40 rfl rfl rfl ?_))))
    obtain ⟨g1, g2, g3⟩ := gd_flatL (rs := ([] : List Int).map int) (fun r hr => by obtain ⟨y, _, rfl⟩ := List.mem_map.1 hr; rfl)
    refine run_treed (k := 3) (n := 1) (T := 3) (rs := ([] : List Int).map int) (ss := ([] : List Int).map int) rfl rfl g1 g2 (fun r hr b hb => (g3 r hr b hb).elim) (fun Z v hZ => ?_)
    refine q_fap fd45_2 rfl (by decide) (q_st _ sz40 rfl rfl (Nat.le_of_ble_eq_true rfl) rfl ⟨_, rfl, rfl⟩ rfl (run_nil (h3 _ ?_)))
    refine ok_seq fun K5 h5 => ok_region rfl (q_ldbs ag45 rfl rfl sz45 rfl rfl (q_sts _ rfl rfl rfl sz45 (Nat.le_of_ble_eq_true rfl) rfl (run_nil (h5 _ ?_))))
    exact ok_ret ⟨[.agg [str id, int st, .tr Z (ints []) v]], ⟨_, _, res_cells (l := [str id, int st, .tr Z (ints []) v]) rfl rfl ag45 sz45 rfl, rfl, rfl⟩, gc_RingNode ⟨id, st, []⟩, fin Z v hZ⟩
  · refine ok_seq fun K3 h3 => ok_region rfl (q_mo _ rfl (q_fap fd45_2 rfl (by decide) (q_ldb (.sv (ints (u :: l))) ag40 rfl rfl rfl (q_app _ el40 ze3 rfl by3 rfl rfl rfl rfl rfl (by simp) (by intro s hs; obtain ⟨y, _, rfl⟩ := List.mem_map.1 hs; exact .inr rfl) (by simp only [List.length_map, List.length_cons, List.length_nil] at hx2 ⊢; unfold maxLen; omega) (by simp only [List.length_map, List.length_cons, List.length_nil] at hx2 ⊢; omega) ?_))))
    obtain ⟨g1, g2, g3⟩ := gd_flatL (rs := (u :: l).map int) (fun r hr => by obtain ⟨y, _, rfl⟩ := List.mem_map.1 hr; rfl)
    refine run_treed (k := 7) (n := 1) (T := 3) (rs := (u :: l).map int) (ss := (u :: l).map int) rfl rfl g1 g2 (fun r hr b hb => (g3 r hr b hb).elim) (fun Z v hZ => ?_)
    refine q_fap fd45_2 rfl (by decide) (q_st _ sz40 rfl rfl (Nat.le_of_ble_eq_true rfl) rfl ⟨_, rfl, rfl⟩ rfl (run_nil (h3 _ ?_)))
    refine ok_seq fun K5 h5 => ok_region rfl (q_ldbs ag45 rfl rfl sz45 rfl rfl (q_sts _ rfl rfl rfl sz45 (Nat.le_of_ble_eq_true rfl) rfl (run_nil (h5 _ ?_))))
    exact ok_ret ⟨[.agg [str id, int st, .tr Z (ints (u :: l)) v]], ⟨_, _, res_cells (l := [str id, int st, .tr Z (ints (u :: l)) v]) rfl rfl ag45 sz45 rfl, rfl, rfl⟩, gc_RingNode ⟨id, st, u :: l⟩, fin Z v hZ⟩
end Go.Ring

/- Clusters copied, marked and held (a struct in a struct: by hand). No condition. -/
set_option maxRecDepth 100000
set_option linter.unusedVariables false
set_option linter.unusedSimpArgs false
namespace Go.Ring
open Go Go.RowKit Go.Eager Go.Abs Go.Proofs
theorem gi_Cluster {x : Cluster} {r : SV} (h : Gd r (eCluster x)) : ∃ (Z1 : Nat → Prop) (v1 : Value) (Z2 : Nat → Prop) (v2 : Value), r = .agg [int x.ring.copies, .tr Z1 (eRingNodeS x.ring.nodes) v1, .tr Z2 (eSeriesSS x.data) v2] ∧ (∀ b, Z1 b → ¬ Z2 b) := by
  obtain ⟨rs, rfl, g, a⟩ := gd_agg_inv h
  obtain ⟨r0, q0, rfl, g0, g⟩ := g.inv_cons
  obtain ⟨r1, q1, rfl, g1, g⟩ := g.inv_cons
  obtain ⟨r2, q2, rfl, g2, g⟩ := g.inv_cons
  obtain rfl := g.inv_nil
  obtain rfl := gd_raw_inv g0
  obtain ⟨Z1, v1, rfl⟩ := gd_sl_inv g1
  obtain ⟨Z2, v2, rfl⟩ := gd_sl_inv g2
  exact ⟨Z1, v1, Z2, v2, rfl, fun b h1 h2 => absurd (a.sep (i := 1) (j := 2) rfl rfl (.tr _ _ _ h1) (.tr _ _ _ h2)) (by decide)⟩
theorem gc_Cluster (x : Cluster) {Z1 : Nat → Prop} {v1 : Value} {Z2 : Nat → Prop} {v2 : Value} (d1_2 : ∀ b, Z1 b → ¬ Z2 b) : Gd (.agg [int x.ring.copies, .tr Z1 (eRingNodeS x.ring.nodes) v1, .tr Z2 (eSeriesSS x.data) v2]) (eCluster x) := gd_agg ⟨.raw _, .tr _ _ _ _, .tr _ _ _ _, trivial⟩ (AL_raw (AL_tr (fun b hb hb' => by simp only [znA_cons, znI_raw, znI_tr, znA_nil, or_false, false_or] at hb'; exact d1_2 b hb hb') (AL_tr (fun b hb hb' => by simp only [znA_cons, znI_raw, znI_tr, znA_nil, or_false, false_or] at hb') trivial)))
def NCluster (x : Cluster) : Prop := NRing x.ring ∧ (x.data.length ≤ 1048576 ∧ ∀ y ∈ x.data, y.length ≤ 1048576 ∧ ∀ z ∈ y, NSeries z)
theorem nCluster_of {x : Cluster} (h : SCluster x) : NCluster x := ⟨nRing_of h.1, h.2.1, fun y hy => ⟨(h.2.2 y hy).1, fun z hz => nSeries_of ((h.2.2 y hy).2 z hz)⟩⟩
theorem f11_t (x : Cluster) (hx : SCluster x) : PFnT Tryz.prog 11 [eCluster x] (eCluster x) := by
  refine fnp_ok (n := 13) Tryz.func11 rfl rfl rfl (Nat.le_of_ble_eq_true rfl) rfl fun w0 O => ?_
  refine ok_seq fun K1 h1 => ok_region rfl (q_boxs _ rfl (Nat.zero_lt_succ _) (q_alloc _ ze34 rfl rfl rfl rfl (run_nil (h1 _ ?_))))
  refine ok_seq fun K2 h2 => ok_region rfl (q_alloc _ ze34 rfl rfl rfl rfl (run_nil (h2 _ ?_)))
  refine ok_seq fun K3 h3 => ok_region rfl (q_fas fd27_0 rfl (by decide) (Nat.le_of_ble_eq_true rfl) rfl (q_lds _ ag24 rfl sz24 (q_callr (f54_t x.ring hx.1) cl54 rfl (fun r0 hr0 hz0 ha0 => ?_))))
  obtain ⟨Z1, v1, rfl⟩ := gi_Ring hr0
  refine q_fap fd34_0 rfl (by decide) (q_sts _ rfl rfl rfl sz31 (Nat.le_of_ble_eq_true rfl) rfl (run_nil (h3 _ ?_)))
  refine ok_seq fun K4 h4 => ok_region rfl (q_fa _ fd27_1 rfl rfl (by decide) (q_ld _ ag25 rfl rfl (q_callr (f55_t x.data hx.2) cl55 rfl (fun r1 hr1 hz1 ha1 => ?_))))
  obtain ⟨Z2, v2, rfl⟩ := gd_sl_inv hr1
  have d12 : ∀ b, Z1 b → ¬ Z2 b := fun b h1 h2 => ha1.1 6 _ b rfl (.agg _ (.tr Z1 (eRingNodeS x.ring.nodes) v1) (by simp) (.tr Z1 _ v1 h1)) (.tr Z2 _ v2 h2)
  refine q_fap fd34_1 rfl (by decide) (q_st _ sz32 rfl rfl (Nat.le_of_ble_eq_true rfl) rfl ⟨_, rfl, rfl⟩ rfl (run_nil (h4 _ ?_)))
  refine ok_seq fun K5 h5 => ok_region rfl (q_ldbs ag34 rfl rfl sz34 rfl rfl (q_sts _ rfl rfl rfl sz34 (Nat.le_of_ble_eq_true rfl) rfl (run_nil (h5 _ ?_))))
  refine ok_ret ⟨[.agg [int x.ring.copies, .tr Z1 (eRingNodeS x.ring.nodes) v1, .tr Z2 (eSeriesSS x.data) v2]], ⟨_, _, res_cells (l := [int x.ring.copies, .tr Z1 (eRingNodeS x.ring.nodes) v1, .tr Z2 (eSeriesSS x.data) v2]) rfl rfl ag34 sz34 rfl, rfl, rfl⟩, gc_Cluster x d12, fun b hb => ?_⟩
  have hb : Zn b (.agg [int x.ring.copies, .tr Z1 (eRingNodeS x.ring.nodes) v1, .tr Z2 (eSeriesSS x.data) v2]) := hb
  simp only [znA_cons, znI_raw, znI_tr, znA_nil, or_false, false_or] at hb
  rcases hb with hb | hb
  · exact hz0 b (.agg _ (.tr Z1 (eRingNodeS x.ring.nodes) v1) (by simp) (.tr Z1 _ v1 hb))
  · exact hz1 b (.tr Z2 _ v2 hb)
def cmCluster (x : Cluster) : Nat := cmRing x.ring + cL (cL cSeries) x.data
def hmCluster (x : Cluster) (k : Nat) : Prop := hmRing x.ring k ∧ HL (cL cSeries) (HL cSeries hSeries) x.data (k + cmRing x.ring)
theorem f14_m (x : Cluster) (hs : NCluster x) (k : Nat) (h0 : 1 ≤ k) (hk : k + cmCluster x ≤ 1152921504606846976) : MarkC Tryz.prog 14 (eCluster x) k (fun k' s' => k' = ((k + cmCluster x : Nat) : Int) ∧ ∃ x', s' = eCluster x' ∧ hmCluster x' k ∧ cmCluster x' = cmCluster x ∧ NCluster x') := by
  have hcx : cmCluster x = cmRing x.ring + cL (cL cSeries) x.data := rfl
  obtain ⟨hn1, hn2⟩ := hs
  refine fns_ok (t := 4) (bx := 2) Tryz.func14 rfl rfl rfl (by decide) (fun w0 Z rs hG hA hZ => ?_)
  obtain ⟨Z1, v1, Z2, v2, hrs, d12⟩ := gi_Cluster (x := x) (gd_agg hG hA)
  injection hrs with hrs
  subst hrs
  refine ⟨rfl, ?_⟩
  refine ok_seq fun K1 h1 => ok_region rfl (q_boxo (cells := [.sv (int x.ring.copies), .sv (.tr Z1 (eRingNodeS x.ring.nodes) v1), .sv (.tr Z2 (eSeriesSS x.data) v2)]) _ rfl (.inl ⟨_, rfl⟩) rfl rfl rfl (q_as _ rfl (run_nil (h1 _ ?_))))
  refine ok_seq fun K2 h2 => ok_region rfl (q_fap fd34_0 rfl (by decide) (q_ldbs (r := [int x.ring.copies, .tr Z1 (eRingNodeS x.ring.nodes) v1]) ag31 rfl rfl sz31 rfl rfl (q_mv _ rfl (q_mark1 [.int .i64 x.ring.copies] [] (k := ((k : Nat) : Int)) (f61_m x.ring hn1 k h0 (by omega)) cl61 rfl rfl (fun b hb => .inr (hZ b (.agg _ (.tr Z1 (eRingNodeS x.ring.nodes) v1) (by simp) (.tr Z1 (eRingNodeS x.ring.nodes) v1 hb))))
    (fun k' s'' h => by obtain ⟨_, x', rfl, _⟩ := h; exact ⟨[.int .i64 x'.copies], eRingNodeS x'.nodes, [], rfl, rfl, rfl⟩)
    (fun _ => mkDT _) (fun s' => [(2, .box [.sv (int x.ring.copies), .sv (.tr Z1 s' v1), .sv (.tr Z2 (eSeriesSS x.data) v2)])]) (fun s' => mkDT_ok _) (fun s' => ⟨rfl, mk_box ⟨.sv (.raw _), .sv .same, .sv (.other _ _ _ (fun b h1 h2 => d12 b h2 h1)), trivial⟩, trivial⟩) (fun k' s' hR => ?_)))))
  obtain ⟨rfl, ⟨lc, ln⟩, hlg, hh1, hc1, hm1⟩ := hR
  have hlg : SV.agg [int x.ring.copies, s'] = .agg [int lc, eRingNodeS ln] := hlg
  simp only [SV.agg.injEq, List.cons.injEq, SV.raw.injEq, Value.int.injEq, true_and, and_true] at hlg
  obtain ⟨rfl, rfl⟩ := hlg
  refine q_as _ rfl (run_nil (h2 _ ?_))
  refine ok_seq fun K3 h3 => ok_region rfl (q_fap fd34_1 rfl (by decide) (q_ldb _ ag32 rfl rfl rfl (q_mv _ rfl (q_mark (k := ((k + cmRing x.ring : Nat) : Int)) (f62_m x.data hn2 (k + cmRing x.ring) (by omega) (by omega)) cl62 rfl rfl (fun b hb => .inr (hZ b (.agg _ (.tr Z2 (eSeriesSS x.data) v2) (by simp) (.tr Z2 (eSeriesSS x.data) v2 hb)))) (fun _ => mkDT _) (fun s' => [(2, .box [.sv (int x.ring.copies), .sv (.tr Z1 (eRingNodeS ln) v1), .sv (.tr Z2 s' v2)])]) (fun s' => mkDT_ok _) (fun s' => ⟨rfl, mk_box ⟨.sv (.raw _), .sv (.other _ _ _ (fun b h1 h2 => d12 b h1 h2)), .sv .same, trivial⟩, trivial⟩) (fun k' s' hR => ?_)))))
  obtain ⟨rfl, w2, rfl, hh2, hc2, hm2⟩ := hR
  refine q_as _ rfl (run_nil (h3 _ ?_))
  refine ok_seq fun K4 h4 => ok_region rfl (q_mv _ rfl (q_as _ rfl (run_nil (h4 _ ?_))))
  exact ok_ret ⟨_, [int x.ring.copies, .tr Z1 (eRingNodeS ln) v1, .tr Z2 (eSeriesSS w2) v2], [int x.ring.copies, eRingNodeS ln, eSeriesSS w2], rfl, rfl, rfl, rfl, ⟨.raw _, .tr _ _ _ _, .tr _ _ _ _, trivial⟩, (AL_raw (AL_tr (fun b hb hb' => by simp only [znA_cons, znI_raw, znI_tr, znA_nil, or_false, false_or] at hb'; exact d12 b hb hb') (AL_tr (fun b hb hb' => by simp only [znA_cons, znI_raw, znI_tr, znA_nil, or_false, false_or] at hb') trivial))), (fun b hb => by simp only [znA_cons, znI_raw, znI_tr, znA_nil, or_false, false_or] at hb; exact hZ b (by simp only [znA_cons, znI_raw, znI_tr, znA_nil, or_false, false_or]; exact hb)), by rw [hcx, Nat.add_assoc], (⟨⟨x.ring.copies, ln⟩, w2⟩ : Cluster), rfl, ⟨hh1, by rw [show cmRing (⟨x.ring.copies, ln⟩ : Ring) = cmRing x.ring from hc1]; exact hh2⟩, by show cmRing (⟨x.ring.copies, ln⟩ : Ring) + cL (cL cSeries) w2 = _; rw [hcx, hc1, hc2], hm1, hm2⟩
theorem f15_h (x : Cluster) (hs : NCluster x) (k : Nat) (h0 : 1 ≤ k) (hk : k + cmCluster x ≤ 1152921504606846976) (hh : hmCluster x k) : PFn Tryz.prog 15 [eCluster x, int k] (int ((k + cmCluster x : Nat) : Int)) := by
  have hcx : cmCluster x = cmRing x.ring + cL (cL cSeries) x.data := rfl
  obtain ⟨hn1, hn2⟩ := hs
  obtain ⟨e1, e2⟩ := hh
  refine fn_ok' (n := 18) Tryz.func15 rfl rfl rfl (Nat.le_of_ble_eq_true rfl) rfl fun w0 O => ?_
  refine ok_seq fun K1 h1 => ok_region rfl (q_boxs _ rfl (Nat.zero_lt_succ _) (q_as _ rfl (run_nil (h1 _ ?_))))
  refine ok_seq fun K2 h2 => ok_region rfl (q_fas fd34_0 rfl (by decide) (Nat.le_of_ble_eq_true rfl) rfl (q_lds _ ag31 rfl sz31 (q_mv _ rfl (q_call (f63_h x.ring hn1 k (by omega) (by omega) e1) cl63 rfl rfl (q_as _ rfl (run_nil (h2 _ ?_)))))))
  refine ok_seq fun K3 h3 => ?_
  refine ok_seq fun K4 h4 => ok_region rfl (q_mv _ rfl (q_bin _ _ _ rfl rfl rfl (run_nil (h4 _ ?_))))
  refine ok_cond rfl (fun c5 => ?_) (fun c5 => ?_)
  · have := of_decide_eq_true c5; omega
  · refine ok_skip (h3 _ ?_)
    refine ok_seq fun K6 h6 => ok_region rfl (q_fa _ fd34_1 rfl rfl (by decide) (q_ld _ ag32 rfl rfl (q_mv _ rfl (q_call (f64_h x.data hn2 (k + cmRing x.ring) (by omega) (by omega) e2) cl64 rfl rfl (q_as _ rfl (run_nil (h6 _ ?_)))))))
    refine ok_seq fun K7 h7 => ?_
    refine ok_seq fun K8 h8 => ok_region rfl (q_mv _ rfl (q_bin _ _ _ rfl rfl rfl (run_nil (h8 _ ?_))))
    refine ok_cond rfl (fun c9 => ?_) (fun c9 => ?_)
    · have := of_decide_eq_true c9; omega
    · refine ok_skip (h7 _ ?_)
      refine ok_seq fun K10 h10 => ok_region rfl (q_mv _ rfl (q_as _ rfl (run_nil (h10 _ ?_))))
      have hE : k + cmCluster x = k + cmRing x.ring + cL (cL cSeries) x.data := by rw [hcx] <;> omega
      exact ok_ret ⟨_, rfl, by first | (rw [hE]; done) | (rw [hE]; rfl)⟩
theorem kcm_Cluster (x : Cluster) : KC (cmCluster x) (zCluster x) 16 := by
  have h := kc_stp (show KC (cmRing x.ring) (zRing x.ring) 0 from kc_RingNodeS x.ring.nodes) (kc_SeriesSS x.data)
  have e : cmCluster x = cmRing x.ring + cL (cL cSeries) x.data := rfl
  exact h.mono (by rw [e]; omega)
end Go.Ring

/- A cluster's own copy: the program. No condition beyond the sizes. -/
set_option maxRecDepth 100000
set_option linter.unusedVariables false
set_option linter.unusedSimpArgs false
namespace Go.Ring
open Go Go.RowKit Go.Eager Go.Abs Go.Proofs
theorem f57_t (c : Cluster) (hc : SCluster c) : PFnT Tryz.prog 57 [eCluster c] (eCluster c) := by
  refine fnp_ok (n := 51) Tryz.func57 rfl rfl rfl (Nat.le_of_ble_eq_true rfl) rfl fun w0 O => ?_
  obtain ⟨hr, hd⟩ := hc
  have hnl := hr.1
  have hdl := hd.1
  refine ok_seq fun K1 h1 => ok_region rfl (q_boxo (cells := [.sv (int c.ring.copies), .sv (eRingNodeS c.ring.nodes), .sv (eSeriesSS c.data)]) _ rfl (.inl ⟨_, rfl⟩) rfl rfl rfl (q_alloc _ ze34 rfl rfl rfl rfl (run_nil (h1 _ ?_))))
  refine ok_seq fun K2 h2 => ok_region rfl (q_fap fd34_0 rfl (by decide) (q_fap fd31_1 rfl (by decide) (q_ldb (.sv (eRingNodeS c.ring.nodes)) ag29 rfl rfl rfl (q_callo (f132_o c.ring.nodes hnl) cl132 rfl rfl rfl (q_fap fd34_0 rfl (by decide) (q_fap fd31_1 rfl (by decide) (q_sto sz29 rfl rfl (by show 0 + 0 + 1 < 3; omega) rfl rfl rfl (run_nil (h2 _ ?_)))))))))
  refine ok_seq fun K3 h3 => ?_
  refine ok_seq fun K4 h4 => ok_region rfl (q_fap fd34_0 rfl (by decide) (q_fap fd31_1 rfl (by decide) (q_ldb (.own 10) ag29 rfl rfl rfl (q_leno eS29 rfl rfl (q_mv _ rfl (run_nil (h4 _ ?_)))))))
  rw [List.length_map]
  refine ok_block ?_
  refine ok_loop (fun (rs : List SV) => ⟨[(1, .ptr 1 0), (2, .ptr 2 0), (16, .sv (int c.ring.nodes.length)), (17, .sv (int rs.length))], [(1, .box [.sv (int c.ring.copies), .own 10, .sv (eSeriesSS c.data)]), (10, .row 3 45 (rs ++ (c.ring.nodes.drop rs.length).map eRingNode)), (2, .box [.sv (int 0), .sv (.raw (.slice none 0 0)), .sv (.raw (.slice none 0 0))])]⟩) (fun rs => rs.length ≤ c.ring.nodes.length ∧ Cps w0 rs ((c.ring.nodes.take rs.length).map eRingNode)) (fun rs => c.ring.nodes.length - rs.length) [] ⟨Nat.zero_le _, Cps.nil w0⟩ (le_sub ⟨rfl, rfl, rfl, rfl, trivial⟩ ⟨rfl, rfl, rfl, trivial⟩) (fun rs J => ?_)
  obtain ⟨jl, J⟩ := J
  refine ok_seq fun K5 h5 => ok_region rfl (q_bin _ _ _ rfl rfl rfl (run_nil (h5 _ ?_)))
  refine ok_seq fun K6 h6 => ?_
  refine ok_cond rfl (fun c7 => ?_) (fun c7 => ?_)
  · refine ok_skip (h6 _ ?_)
    have hk : rs.length < c.ring.nodes.length := by simpa using c7
    obtain ⟨u, hu⟩ := sget hk
    have nu := hr.2 u (smem hu)
    have hR : (rs ++ (c.ring.nodes.drop rs.length).map eRingNode)[rs.length]? = some (.agg [str u.id, int u.st, ints u.toks]) := by
      rw [List.getElem?_append_right (Nat.le_refl _), Nat.sub_self, List.getElem?_map, List.getElem?_drop, Nat.add_zero, hu]; rfl
    have hRl : (rs ++ (c.ring.nodes.drop rs.length).map eRingNode).length = c.ring.nodes.length := by rw [List.length_append, List.length_map, List.length_drop]; omega
    have hset : ∀ y : SV, (rs ++ (c.ring.nodes.drop rs.length).map eRingNode).set rs.length y = (rs ++ [y]) ++ (c.ring.nodes.drop (rs ++ [y]).length).map eRingNode := fun y => by
      rw [List.set_append_right _ _ (Nat.le_refl _), Nat.sub_self, drop_cons hu, List.map_cons, List.set_cons_zero, List.length_append, List.length_cons, List.length_nil, List.append_assoc]; rfl
    refine ok_seq fun K8 h8 => ?_
    refine ok_block ?_
    refine ok_seq fun K9 h9 => ok_region rfl (q_mv _ rfl (q_as _ rfl (run_nil (h9 _ ?_))))
    refine ok_last fun K10 h10 => ok_region_i (by kernel_rfl) (by kernel_rfl) rfl (
      q_fap fd34_0 rfl (by decide) (q_fap fd31_1 rfl (by decide) (q_ldb (.own 10) ag29 rfl rfl rfl (q_mv _ rfl (q_fap fd34_0 rfl (by decide) (q_fap fd31_1 rfl (by decide) (q_ldb (.own 10) ag29 rfl rfl rfl (q_mv _ rfl (
      q_iao el29 rfl rfl rfl (by omega) (by rw [show ((rs.length : Nat) : Int).toNat = rs.length from rfl, hRl]; exact hk) (q_fae fd45_2 rfl (by decide) (q_ldef (ints u.toks) ag40 rfl rfl hR rfl (q_callr (f70_t u.toks nu.2) cl70 rfl (fun r1 hr1 hz1 ha1 => ?_)))))))))))))
    obtain ⟨Z1, v1, rfl⟩ := gd_sl_inv hr1
    have hn : ∀ b, Zn b (.agg [str u.id, int u.st, .tr Z1 (ints u.toks) v1]) → w0.heap.size ≤ b := fun b hb => by
      simp only [znA_cons, znI_raw, znI_tr, znA_nil, or_false, false_or] at hb
      exact hz1 b (.tr Z1 _ v1 hb)
    have hfresh := J.snoc (gc_RingNode u) (fun y hy b hb hb' => by
      simp only [znA_cons, znI_raw, znI_tr, znA_nil, or_false, false_or] at hb'
      exact ha1.2 10 3 45 _ y b rfl (List.mem_append_left _ hy) hb (.tr Z1 _ v1 hb')) hn
    have hd2 : (c.ring.nodes.take rs.length).map eRingNode ++ [eRingNode u] = (c.ring.nodes.take (rs ++ [(.agg [str u.id, int u.st, .tr Z1 (ints u.toks) v1] : SV)]).length).map eRingNode := by
      rw [List.length_append, List.length_cons, List.length_nil, List.take_add_one, hu, List.map_append]; rfl
    rw [hd2] at hfresh
    refine q_iao el29 rfl rfl rfl (by omega) (by rw [show ((rs.length : Nat) : Int).toNat = rs.length from rfl, hRl]; exact hk) (q_fae fd45_2 rfl (by decide) (q_stef sz40 rfl rfl hR (by show 2 < 3; omega) rfl rfl rfl (run_nil (h10 _ (h8 _ ?_)))))
    refine ok_last fun K11 h11 => ok_region rfl (q_add rfl rfl (by omega) (q_mv _ rfl (run_nil (h11 _ ⟨rs ++ [.agg [str u.id, int u.st, .tr Z1 (ints u.toks) v1]], by simp only [List.length_append, List.length_cons, List.length_nil]; omega, ⟨by simp only [List.length_append, List.length_cons, List.length_nil]; omega, hfresh⟩, ?_⟩))))
    rw [← hset]
    have e : ((rs ++ [(.agg [str u.id, int u.st, .tr Z1 (ints u.toks) v1] : SV)]).length : Int) = (rs.length : Int) + 1 := by simp
    rw [e]
    exact le_sub ⟨rfl, rfl, rfl, rfl, trivial⟩ ⟨rfl, rfl, rfl, trivial⟩
  · have hk : rs.length = c.ring.nodes.length := by have : ¬ ((rs.length : Int) < c.ring.nodes.length) := by simpa using c7
                                                    omega
    rw [hk, List.take_length] at J
    have e : rs ++ (c.ring.nodes.drop rs.length).map eRingNode = rs := by rw [hk, List.drop_length]; simp
    rw [e]
    refine ok_exit (h3 _ ?_)
    refine ok_seq fun K12 h12 => ok_region rfl (q_an (n := 1) 63 (by decide) rfl rfl rfl (run_nil (h12 _ ?_)))
    refine ok_seq fun K13 h13 => ?_
    refine ok_seq fun K14 h14 => ok_region rfl (q_fap fd34_1 rfl (by decide) (q_ldb (.sv (eSeriesSS c.data)) ag32 rfl rfl rfl (q_len eS32 rfl (q_mv _ rfl (run_nil (h14 _ ?_))))))
    rw [List.length_map]
    refine ok_block ?_
    refine ok_loop (fun (s : Nat × List SV) => ⟨[(1, .ptr 1 0), (2, .ptr 2 0), (4, .own 4), (36, .sv (eSeriesSS c.data)), (37, .sv (int c.data.length)), (38, .sv (int s.1))], [(4, .row 1 63 s.2), (1, .box [.sv (int c.ring.copies), .own 10, .sv (eSeriesSS c.data)]), (10, .row 3 45 rs), (2, .box [.sv (int 0), .sv (.raw (.slice none 0 0)), .sv (.raw (.slice none 0 0))])]⟩) (fun s => Cps w0 s.2 ((c.data.take s.1).map eSeriesS) ∧ ∀ y ∈ s.2, ∀ x ∈ rs, ∀ b, Zn b x → ¬ Zn b y) (fun s => c.data.length - s.1) (0, []) ⟨Cps.nil w0, fun y hy => by simp at hy⟩ (le_sub ⟨rfl, rfl, rfl, rfl, rfl, rfl, trivial⟩ ⟨rfl, rfl, rfl, rfl, trivial⟩) (fun s J2 => ?_)
    obtain ⟨k, ds⟩ := s
    obtain ⟨J2, X2⟩ := J2
    simp only at J2 X2
    have hdsl : ds.length ≤ k := by rw [J2.len, List.length_map, List.length_take]; omega
    refine ok_seq fun K15 h15 => ok_region rfl (q_bin _ _ _ rfl rfl rfl (run_nil (h15 _ ?_)))
    refine ok_seq fun K16 h16 => ?_
    refine ok_cond rfl (fun c17 => ?_) (fun c17 => ?_)
    · refine ok_skip (h16 _ ?_)
      have hkd : k < c.data.length := by simpa using c17
      obtain ⟨u, hu⟩ := sget hkd
      have nu := hd.2 u (smem hu)
      have hd3 : (c.data.take (k + 1)).map eSeriesS = (c.data.take k).map eSeriesS ++ [eSeriesS u] := by rw [List.take_add_one, hu, Option.toList_some, List.map_append]; rfl
      refine ok_seq fun K18 h18 => ?_
      refine ok_block ?_
      refine ok_seq fun K19 h19 => ok_region rfl (q_ia el32 rfl rfl (by omega) (mget hu) (q_ld _ ag63 rfl rfl (q_as _ rfl (run_nil (h19 _ ?_)))))
      refine ok_last fun K20 h20 => ok_region rfl (q_mo _ rfl (q_mv _ rfl (q_callr (f133_t u nu) cl133 rfl (fun r1 hr1 hz1 ha1 => ?_))))
      have hfresh := J2.snoc hr1 (fun y hy b hb hb' => ha1.2 4 1 63 _ y b rfl hy hb hb') hz1
      rw [← hd3] at hfresh
      have hX : ∀ y ∈ ds ++ [r1], ∀ x ∈ rs, ∀ b, Zn b x → ¬ Zn b y := fun y hy x hx b hb hb' => by
        rcases List.mem_append.1 hy with hy | hy
        · exact X2 y hy x hx b hb hb'
        · simp at hy; subst hy; exact ha1.2 10 3 45 _ x b rfl hx hb hb'
      obtain ⟨Z1, v1, rfl⟩ := gd_sl_inv hr1
      refine q_lit1 _ _ el32 ze63 (by decide) (by decide) rfl (.inr rfl) rfl (q_app _ el32 ze63 rfl by63 rfl rfl rfl rfl rfl (by simp) (by intro s hs; simp at hs; subst hs; exact .inr rfl) (by show ds.length + 1 ≤ maxLen; unfold maxLen; omega) (by show (ds.length + 1) * 24 ≤ _; omega) (q_ao _ rfl (run_nil (h20 _ (h18 _ ?_)))))
      refine ok_last fun K21 h21 => ok_region rfl (q_add rfl rfl (by omega) (q_mv _ rfl (run_nil (h21 _ ⟨(k + 1, _), by simp only; omega, ⟨hfresh, hX⟩, le_rek 4 46 ⟨rfl, rfl, rfl, rfl, rfl, rfl, trivial⟩ ⟨rfl, rfl, rfl, rfl, trivial⟩ rfl rfl rfl rfl ⟨rfl, rfl, rfl, rfl, trivial⟩⟩))))
    · rw [List.take_of_length_le (by have : ¬ ((k : Int) < c.data.length) := by simpa using c17
                                     omega)] at J2
      refine ok_exit (h13 _ ?_)
      refine ok_treedb (k := 10) (n := 3) (T := 45) (rs := rs) (ss := c.ring.nodes.map eRingNode) 1 1 rfl rfl rfl J.len J.gd J.ap (fun r hr b hb => .inl (J.nw r hr b hb)) (fun Z1 v1 hZ1 hR1 hS1 hC1 => ?_)
      refine ok_treed3 (k := 4) (n := 1) (T := 63) (rs := ds) (ss := c.data.map eSeriesS) rfl J2.len J2.gd J2.ap (fun r hr b hb => .inl (J2.nw r hr b hb)) (fun Z2 v2 hZ2 hR2 hS2 hC2 => ?_)
      have d12 : ∀ b, Z1 b → ¬ Z2 b := fun b h1 h2 => by
        obtain ⟨y, hy, hb⟩ := hC2 1 _ 1 _ rfl rfl b (.tr Z1 _ v1 h1) h2
        obtain ⟨x, hx, hb'⟩ := hR1 4 1 63 ds rfl y hy b hb h1
        exact X2 y hy x hx b hb' hb
      refine ok_seq fun K22 h22 => ok_region rfl (q_mv _ rfl (q_fap fd34_1 rfl (by decide) (q_st _ sz32 rfl rfl (Nat.le_of_ble_eq_true rfl) rfl ⟨_, rfl, rfl⟩ rfl (run_nil (h22 _ ?_)))))
      refine ok_seq fun K23 h23 => ok_region rfl (q_ldbs ag34 rfl rfl sz34 rfl rfl (q_sts _ rfl rfl rfl sz34 (Nat.le_of_ble_eq_true rfl) rfl (run_nil (h23 _ ?_))))
      refine ok_ret ⟨[.agg [int c.ring.copies, .tr Z1 (eRingNodeS c.ring.nodes) v1, .tr Z2 (eSeriesSS c.data) v2]], ⟨_, _, res_cells (l := [int c.ring.copies, .tr Z1 (eRingNodeS c.ring.nodes) v1, .tr Z2 (eSeriesSS c.data) v2]) rfl rfl ag34 sz34 rfl, rfl, rfl⟩, gc_Cluster c d12, fun b hb => ?_⟩
      have hb : Zn b (.agg [int c.ring.copies, .tr Z1 (eRingNodeS c.ring.nodes) v1, .tr Z2 (eSeriesSS c.data) v2]) := hb
      simp only [znA_cons, znI_raw, znI_tr, znA_nil, or_false, false_or] at hb
      rcases hb with hb | hb
      · exact (hZ1 b hb).elim id fun h => h.elim
      · exact (hZ2 b hb).elim id fun h => h.elim
end Go.Ring

/- A cluster's own copy: the reference. No condition beyond the sizes. -/
set_option maxRecDepth 100000
set_option linter.unusedVariables false
set_option linter.unusedSimpArgs false
namespace Go.Ring
open Go Go.RowKit Go.Eager Go.Abs Go.Proofs
theorem built31 (x : Int) : Tryz.prog.built 31 [(0, .int .i64 x)] = some #[.int .i64 x, .slice none 0 0] := by kernel_rfl
theorem built34 (x : Int) : Tryz.prog.built 34 [(0, .agg #[.int .i64 x, .slice none 0 0])] = some #[.int .i64 x, .slice none 0 0, .slice none 0 0] := by kernel_rfl
theorem f52_t (c : Cluster) (hc : SCluster c) : PFnT Tryz.prog 52 [eCluster c] (eCluster c) := by
  refine fnp_ok (n := 47) Tryz.func52 rfl rfl rfl (Nat.le_of_ble_eq_true rfl) rfl fun w0 O => ?_
  obtain ⟨hr, hd⟩ := hc
  have hnl := hr.1
  have hdl := hd.1
  refine ok_seq fun K1 h1 => ok_region rfl (q_boxs _ rfl (Nat.zero_lt_succ _) (q_alloc _ ze34 rfl rfl rfl rfl (run_nil (h1 _ ?_))))
  refine ok_seq fun K2 h2 => ok_region rfl (q_fas fd34_0 rfl (by decide) (Nat.le_of_ble_eq_true rfl) rfl (q_fa _ fd31_0 rfl rfl (by decide) (q_ld (int c.ring.copies) ag3 rfl rfl (q_bldr [(0, .int .i64 c.ring.copies)] [.int .i64 c.ring.copies, .slice none 0 0] rfl (built31 _) rfl (q_bld1a [.int .i64 c.ring.copies, .slice none 0 0] [.int .i64 c.ring.copies, .slice none 0 0, .slice none 0 0] rfl (built34 _) rfl (q_alloc _ ze34 rfl rfl rfl rfl (q_sts _ rfl rfl rfl sz34 (Nat.le_of_ble_eq_true rfl) rfl (run_nil (h2 _ ?_)))))))))
  refine ok_seq fun K3 h3 => ?_
  refine ok_seq fun K4 h4 => ok_region rfl (q_fas fd34_0 rfl (by decide) (Nat.le_of_ble_eq_true rfl) rfl (q_fa _ fd31_1 rfl rfl (by decide) (q_ld _ ag29 rfl rfl (q_len eS29 rfl (q_mv _ rfl (run_nil (h4 _ ?_)))))))
  rw [List.length_map]
  refine Ok.le (le_openb 3 1 1001 3 45 rfl rfl (by decide) rfl rfl) ?_
  refine ok_block ?_
  refine ok_loop (fun (s : Nat × List SV) => ⟨[(1, .sv (.ptr (eCluster c))), (2, .ptr 2 0), (3, .ptr 3 0), (15, .sv (eRingNodeS c.ring.nodes)), (16, .sv (int c.ring.nodes.length)), (17, .sv (int s.1))], [(1001, .row 3 45 s.2), (3, .box [.sv (int c.ring.copies), .own 1001, .sv (.raw (.slice none 0 0))]), (2, .box [.sv (int 0), .sv (.raw (.slice none 0 0)), .sv (.raw (.slice none 0 0))])]⟩) (fun s => Cps w0 s.2 ((c.ring.nodes.take s.1).map eRingNode)) (fun s => c.ring.nodes.length - s.1) (0, []) (Cps.nil w0) (le_sub ⟨rfl, rfl, rfl, rfl, rfl, rfl, trivial⟩ ⟨rfl, rfl, rfl, trivial⟩) (fun s J => ?_)
  obtain ⟨k, rs⟩ := s
  simp only at J
  have hrsl : rs.length ≤ k := by rw [J.len, List.length_map, List.length_take]; omega
  refine ok_seq fun K5 h5 => ok_region rfl (q_bin _ _ _ rfl rfl rfl (run_nil (h5 _ ?_)))
  refine ok_seq fun K6 h6 => ?_
  refine ok_cond rfl (fun c7 => ?_) (fun c7 => ?_)
  · refine ok_skip (h6 _ ?_)
    have hk : k < c.ring.nodes.length := by simpa using c7
    obtain ⟨u, hu⟩ := sget hk
    have nu := hr.2 u (smem hu)
    have hd3 : (c.ring.nodes.take (k + 1)).map eRingNode = (c.ring.nodes.take k).map eRingNode ++ [eRingNode u] := by rw [List.take_add_one, hu, Option.toList_some, List.map_append]; rfl
    refine ok_seq fun K8 h8 => ?_
    refine ok_block ?_
    refine ok_seq fun K9 h9 => ok_region rfl (q_ia el29 rfl rfl (by omega) (mget (f := eRingNode) hu) (q_lds _ ag45 rfl sz45 (q_alloc _ ze45 rfl rfl rfl rfl (q_sts _ rfl rfl rfl sz45 (Nat.le_of_ble_eq_true rfl) rfl (run_nil (h9 _ ?_))))))
    refine ok_last fun K10 h10 => ok_region_d [0, 0, 1, 1, 3, 3, 2, 0, 0, 2] #[[], [0], [0, 1], [], [3], [3, 4], [0, 1, 2, 3, 4, 5], [0, 1, 2, 3, 4, 5, 6], [0, 1, 2, 3, 4, 5, 6, 7], [0, 1, 2, 3, 4, 5, 6, 7, 8]] [0, 1, 2, 3, 4, 5, 6, 7, 8, 9] (by kernel_rfl) (by kernel_rfl) rfl rfl (
      q_fap fd34_0 rfl (by decide) (q_fap fd31_1 rfl (by decide) (q_ldb (.own 1001) ag29 rfl rfl rfl (q_ldbs (r := [str u.id, int u.st, ints u.toks]) ag45 rfl rfl sz45 rfl rfl (q_callr (f67_t u nu) cl67 rfl (fun r1 hr1 hz1 ha1 => ?_))))))
    have hfresh := J.snoc hr1 (fun y hy b hb hb' => ha1.2 1001 3 45 _ y b rfl hy hb hb') hz1
    rw [← hd3] at hfresh
    obtain ⟨Z1, v1, rfl⟩ := gi_RingNode hr1
    refine q_lit1 _ _ el29 ze45 (by decide) (by decide) rfl (.inl ⟨_, rfl⟩) rfl (q_app _ el29 ze45 rfl by45 rfl rfl rfl rfl rfl (by simp) (by intro s hs; simp at hs; subst hs; exact .inl ⟨_, rfl⟩) (by show rs.length + 1 ≤ maxLen; unfold maxLen; omega) (by show (rs.length + 1) * 48 ≤ _; omega) (
      q_fap fd34_0 rfl (by decide) (q_fap fd31_1 rfl (by decide) (q_sto sz29 rfl rfl (by show 0 + 0 + 1 < 3; omega) rfl rfl rfl (run_nil (h10 _ (h8 _ ?_)))))))
    refine Ok.le (le_rn 1001 27 rfl rfl rfl) ?_
    refine ok_last fun K11 h11 => ok_region rfl (q_add rfl rfl (by omega) (q_mv _ rfl (run_nil (h11 _ ⟨(k + 1, _), by simp only; omega, hfresh, le_sub ⟨rfl, rfl, rfl, rfl, rfl, rfl, trivial⟩ ⟨rfl, rfl, rfl, trivial⟩⟩))))
  · rw [List.take_of_length_le (by have : ¬ ((k : Int) < c.ring.nodes.length) := by simpa using c7
                                   omega)] at J
    refine ok_exit (h3 _ ?_)
    refine ok_seq fun K13 h13 => ?_
    refine ok_seq fun K14 h14 => ok_region rfl (q_fa _ fd34_1 rfl rfl (by decide) (q_ld _ ag32 rfl rfl (q_len eS32 rfl (q_mv _ rfl (run_nil (h14 _ ?_))))))
    rw [List.length_map]
    refine Ok.le (le_openb 3 2 1002 1 63 rfl rfl (by decide) rfl rfl) ?_
    refine ok_block ?_
    refine ok_loop (fun (s : Nat × List SV) => ⟨[(1, .sv (.ptr (eCluster c))), (2, .ptr 2 0), (3, .ptr 3 0), (32, .sv (eSeriesSS c.data)), (33, .sv (int c.data.length)), (34, .sv (int s.1))], [(1002, .row 1 63 s.2), (1001, .row 3 45 rs), (3, .box [.sv (int c.ring.copies), .own 1001, .own 1002]), (2, .box [.sv (int 0), .sv (.raw (.slice none 0 0)), .sv (.raw (.slice none 0 0))])]⟩) (fun s => Cps w0 s.2 ((c.data.take s.1).map eSeriesS) ∧ ∀ y ∈ s.2, ∀ x ∈ rs, ∀ b, Zn b x → ¬ Zn b y) (fun s => c.data.length - s.1) (0, []) ⟨Cps.nil w0, fun y hy => by simp at hy⟩ (le_sub ⟨rfl, rfl, rfl, rfl, rfl, rfl, trivial⟩ ⟨rfl, rfl, rfl, rfl, trivial⟩) (fun s J2 => ?_)
    obtain ⟨k2, ds⟩ := s
    obtain ⟨J2, X2⟩ := J2
    simp only at J2 X2
    have hdsl : ds.length ≤ k2 := by rw [J2.len, List.length_map, List.length_take]; omega
    refine ok_seq fun K15 h15 => ok_region rfl (q_bin _ _ _ rfl rfl rfl (run_nil (h15 _ ?_)))
    refine ok_seq fun K16 h16 => ?_
    refine ok_cond rfl (fun c17 => ?_) (fun c17 => ?_)
    · refine ok_skip (h16 _ ?_)
      have hkd : k2 < c.data.length := by simpa using c17
      obtain ⟨u, hu⟩ := sget hkd
      have nu := hd.2 u (smem hu)
      have hd3 : (c.data.take (k2 + 1)).map eSeriesS = (c.data.take k2).map eSeriesS ++ [eSeriesS u] := by rw [List.take_add_one, hu, Option.toList_some, List.map_append]; rfl
      refine ok_seq fun K18 h18 => ?_
      refine ok_block ?_
      refine ok_seq fun K19 h19 => ok_region rfl (q_ia el32 rfl rfl (by omega) (mget hu) (q_ld _ ag63 rfl rfl (q_as _ rfl (run_nil (h19 _ ?_)))))
      refine ok_last fun K20 h20 => ok_region_d [0, 1, 0, 3, 3, 2, 0, 2] #[[], [0], [], [2], [2, 3], [0, 1, 2, 3, 4], [0, 1, 2, 3, 4, 5], [0, 1, 2, 3, 4, 5, 6]] [0, 1, 2, 3, 4, 5, 6, 7] (by kernel_rfl) (by kernel_rfl) rfl rfl (
        q_fap fd34_1 rfl (by decide) (q_ldb (.own 1002) ag32 rfl rfl rfl (q_mv _ rfl (q_callr (f124_t u nu) cl124 rfl (fun r1 hr1 hz1 ha1 => ?_)))))
      have hfresh := J2.snoc hr1 (fun y hy b hb hb' => ha1.2 1002 1 63 _ y b rfl hy hb hb') hz1
      rw [← hd3] at hfresh
      have hX : ∀ y ∈ ds ++ [r1], ∀ x ∈ rs, ∀ b, Zn b x → ¬ Zn b y := fun y hy x hx b hb hb' => by
        rcases List.mem_append.1 hy with hy | hy
        · exact X2 y hy x hx b hb hb'
        · simp at hy; subst hy; exact ha1.2 1001 3 45 _ x b rfl hx hb hb'
      obtain ⟨Z1, v1, rfl⟩ := gd_sl_inv hr1
      refine q_lit1 _ _ el32 ze63 (by decide) (by decide) rfl (.inr rfl) rfl (q_app _ el32 ze63 rfl by63 rfl rfl rfl rfl rfl (by simp) (by intro s hs; simp at hs; subst hs; exact .inr rfl) (by show ds.length + 1 ≤ maxLen; unfold maxLen; omega) (by show (ds.length + 1) * 24 ≤ _; omega) (
        q_fap fd34_1 rfl (by decide) (q_sto sz32 rfl rfl (by show 0 + 2 < 3; omega) rfl rfl rfl (run_nil (h20 _ (h18 _ ?_))))))
      refine Ok.le (le_rn 1002 43 rfl rfl rfl) ?_
      refine ok_last fun K21 h21 => ok_region rfl (q_add rfl rfl (by omega) (q_mv _ rfl (run_nil (h21 _ ⟨(k2 + 1, _), by simp only; omega, ⟨hfresh, hX⟩, le_sub ⟨rfl, rfl, rfl, rfl, rfl, rfl, trivial⟩ ⟨rfl, rfl, rfl, rfl, trivial⟩⟩))))
    · rw [List.take_of_length_le (by have : ¬ ((k2 : Int) < c.data.length) := by simpa using c17
                                     omega)] at J2
      refine ok_exit (h13 _ ?_)
      refine ok_treedb (k := 1001) (n := 3) (T := 45) (rs := rs) (ss := c.ring.nodes.map eRingNode) 3 1 rfl rfl rfl J.len J.gd J.ap (fun r hr b hb => .inl (J.nw r hr b hb)) (fun Z1 v1 hZ1 hR1 hS1 hC1 => ?_)
      refine ok_treedb (k := 1002) (n := 1) (T := 63) (rs := ds) (ss := c.data.map eSeriesS) 3 2 rfl rfl rfl J2.len J2.gd J2.ap (fun r hr b hb => .inl (J2.nw r hr b hb)) (fun Z2 v2 hZ2 hR2 hS2 hC2 => ?_)
      have d12 : ∀ b, Z1 b → ¬ Z2 b := fun b h1 h2 => by
        obtain ⟨y, hy, hb⟩ := hC2 3 _ 1 _ rfl rfl b (.tr Z1 _ v1 h1) h2
        obtain ⟨x, hx, hb'⟩ := hR1 1002 1 63 ds rfl y hy b hb h1
        exact X2 y hy x hx b hb' hb
      refine ok_seq fun K23 h23 => ok_region rfl (q_ldbs ag34 rfl rfl sz34 rfl rfl (q_sts _ rfl rfl rfl sz34 (Nat.le_of_ble_eq_true rfl) rfl (run_nil (h23 _ ?_))))
      refine ok_ret ⟨[.agg [int c.ring.copies, .tr Z1 (eRingNodeS c.ring.nodes) v1, .tr Z2 (eSeriesSS c.data) v2]], ⟨_, _, res_cells (l := [int c.ring.copies, .tr Z1 (eRingNodeS c.ring.nodes) v1, .tr Z2 (eSeriesSS c.data) v2]) rfl rfl ag34 sz34 rfl, rfl, rfl⟩, gc_Cluster c d12, fun b hb => ?_⟩
      have hb : Zn b (.agg [int c.ring.copies, .tr Z1 (eRingNodeS c.ring.nodes) v1, .tr Z2 (eSeriesSS c.data) v2]) := hb
      simp only [znA_cons, znI_raw, znI_tr, znA_nil, or_false, false_or] at hb
      rcases hb with hb | hb
      · exact (hZ1 b hb).elim id fun h => h.elim
      · exact (hZ2 b hb).elim id fun h => h.elim
end Go.Ring

/- A text's bytes mixed to a number. No condition. -/
namespace Go.Ring
open Go Go.RowKit Go.Eager Go.Abs Go.Proofs
set_option maxRecDepth 100000
set_option linter.unusedVariables false
set_option linter.unusedSimpArgs false
theorem wrap64r (n : Int) : 0 ≤ IntKind.u64.wrap n ∧ IntKind.u64.wrap n ≤ 18446744073709551615 := by
  have h : IntKind.u64.wrap n = n % 18446744073709551616 := by unfold IntKind.wrap; rfl
  rw [h]; omega
def mixS (h : Int) (b : UInt8) : Int :=
  bits .xor .u64 (IntKind.u64.wrap (bits .xor .u64 h (b.toNat : Int) * 1099511628211)) (IntKind.u64.wrap (bits .xor .u64 h (b.toNat : Int) * 1099511628211) / 2 ^ 29)
theorem mixS_in (h : Int) (b : UInt8) : 0 ≤ mixS h b ∧ mixS h b ≤ 18446744073709551615 := wrap64r _
def mixL : List UInt8 → Int → Int
  | [], h => h
  | b :: l, h => mixL l (mixS h b)
theorem mixL_in : ∀ (l : List UInt8) (h : Int), 0 ≤ h → h ≤ 18446744073709551615 → 0 ≤ mixL l h ∧ mixL l h ≤ 18446744073709551615
  | [], h, h0, h1 => ⟨h0, h1⟩
  | b :: l, h, _, _ => mixL_in l _ (mixS_in h b).1 (mixS_in h b).2
theorem mixL_step {l : List UInt8} {k : Nat} {b : UInt8} (hb : l[k]? = some b) (h : Int) : mixL (l.drop k) h = mixL (l.drop (k + 1)) (mixS h b) := by
  obtain ⟨hlt, he⟩ := List.getElem?_eq_some_iff.1 hb
  rw [List.drop_eq_getElem_cons hlt, he]; rfl
theorem mixL_end {l : List UInt8} {k : Nat} (hk : l.length ≤ k) (h : Int) : mixL (l.drop k) h = h := by rw [List.drop_of_length_le hk]; rfl
def mixI (l : List UInt8) : Int := mixL l 1469598103 / 2
@[reducible] def bytesV (l : List UInt8) : SV := .sl 1 (l.map byt)
@[reducible] def u64 (x : Int) : SV := .raw (.int .u64 x)
theorem half2 {n : Int} (h0 : 0 ≤ n) (h1 : n ≤ 18446744073709551615) : vBin .quo (.int .u64 n) (.int .u64 2) = some (.int .u64 (n / 2)) := by
  have h : IntKind.u64.wrap (n.tdiv 2) = n / 2 := by rw [Int.tdiv_eq_ediv_of_nonneg h0]; exact IntWalk.u64_in _ (by omega)
  simp [vBin, vInt, h]
theorem f204_ok (l : List UInt8) (hl : l.length ≤ 9223372036854775807) : PFn Tryz.prog 204 [bytesV l] (int (mixI l)) := by
  refine fn_ok' (n := 26) Tryz.func204 rfl rfl rfl (Nat.le_of_ble_eq_true rfl) rfl fun w0 O => ?_
  refine ok_seq fun K1 h1 => ok_region rfl (q_as _ rfl (run_nil (h1 _ ?_)))
  refine ok_seq fun K2 h2 => ok_region rfl (q_as _ rfl (run_nil (h2 _ ?_)))
  refine ok_seq fun K3 h3 => ?_
  refine ok_seq fun K4 h4 => ok_region rfl (q_mv _ rfl (q_len eS73 rfl (q_mv _ rfl (run_nil (h4 _ ?_)))))
  rw [List.length_map]
  refine ok_block ?_
  refine ok_loop (fun (s : Nat × Int) => ⟨[(3, .sv (u64 s.2)), (6, .sv (bytesV l)), (7, .sv (int l.length)), (8, .sv (int s.1))], []⟩) (fun s => 0 ≤ s.2 ∧ s.2 ≤ 18446744073709551615 ∧ mixL l 1469598103 = mixL (l.drop s.1) s.2) (fun s => l.length - s.1) (0, 1469598103) ⟨by decide, by decide, rfl⟩ (le_same ⟨rfl, rfl, rfl, rfl, trivial⟩) (fun s J => ?_)
  obtain ⟨k, hv⟩ := s
  obtain ⟨j1, j2, j3⟩ := J
  simp only at j1 j2 j3
  refine ok_seq fun K5 h5 => ok_region rfl (q_bin _ _ _ rfl rfl rfl (run_nil (h5 _ ?_)))
  refine ok_seq fun K6 h6 => ?_
  refine ok_cond rfl (fun c7 => ?_) (fun c7 => ?_)
  · refine ok_skip (h6 _ ?_)
    have hk : k < l.length := by simpa using c7
    obtain ⟨u, hu⟩ := sget hk
    rw [mixL_step hu] at j3
    refine ok_seq fun K8 h8 => ?_
    refine ok_block ?_
    refine ok_seq fun K9 h9 => ok_region rfl (q_ia (s := byt u) el73 rfl rfl (by omega) (mget hu) (q_ld _ ag5 rfl rfl (q_as _ rfl (run_nil (h9 _ ?_)))))
    refine ok_seq fun K10 h10 => ok_region rfl (q_mv _ rfl (q_mv _ rfl (q_cv aS5 ik142 rfl (IntWalk.u64_in _ (by have := u.toNat_lt; omega)) (q_bin _ _ _ rfl rfl rfl (q_as _ rfl (run_nil (h10 _ ?_)))))))
    refine ok_seq fun K11 h11 => ok_region rfl (q_mv _ rfl (q_bin _ _ _ rfl rfl rfl (q_as _ rfl (run_nil (h11 _ ?_)))))
    refine ok_last fun K12 h12 => ok_region rfl (
      q_mv _ rfl (q_mv _ rfl (q_bin _ _ _ rfl rfl rfl (q_bin _ _ _ rfl rfl rfl (q_as _ rfl (run_nil (h12 _ (h8 _ ?_))))))))
    refine ok_last fun K13 h13 => ok_region rfl (
      q_add rfl rfl (by omega) (q_mv _ rfl (run_nil (h13 _ (⟨(k + 1, mixS hv u), by simp only; omega, ⟨(mixS_in hv u).1, (mixS_in hv u).2, j3⟩, le_same ⟨rfl, rfl, rfl, rfl, trivial⟩⟩)))))
  · refine ok_exit (h3 _ ?_)
    refine ok_seq fun K14 h14 => ok_region rfl (q_mv _ rfl (q_bin (.int .u64 hv) (.int .u64 2) (.int .u64 (hv / 2)) rfl rfl (half2 j1 j2) (q_cv aS142 ik3 rfl (IntWalk.i64_in _ (by omega)) (q_as _ rfl (run_nil (h14 _ ?_))))))
    refine ok_ret ⟨_, rfl, ?_⟩
    rw [mixL_end (by simpa using c7)] at j3
    rw [mixI, j3]; rfl
theorem f212_ok (l : List UInt8) (hl : l.length ≤ 9223372036854775807) : PFn Tryz.prog 212 [bytesV l] (int (mixI l)) := by
  refine fn_ok' (n := 26) Tryz.func212 rfl rfl rfl (Nat.le_of_ble_eq_true rfl) rfl fun w0 O => ?_
  refine ok_seq fun K1 h1 => ok_region rfl (q_as _ rfl (run_nil (h1 _ ?_)))
  refine ok_seq fun K2 h2 => ok_region rfl (q_as _ rfl (run_nil (h2 _ ?_)))
  refine ok_seq fun K3 h3 => ?_
  refine ok_seq fun K4 h4 => ok_region rfl (q_mv _ rfl (q_len eS73 rfl (q_mv _ rfl (run_nil (h4 _ ?_)))))
  rw [List.length_map]
  refine ok_block ?_
  refine ok_loop (fun (s : Nat × Int) => ⟨[(3, .sv (u64 s.2)), (6, .sv (bytesV l)), (7, .sv (int l.length)), (8, .sv (int s.1))], []⟩) (fun s => 0 ≤ s.2 ∧ s.2 ≤ 18446744073709551615 ∧ mixL l 1469598103 = mixL (l.drop s.1) s.2) (fun s => l.length - s.1) (0, 1469598103) ⟨by decide, by decide, rfl⟩ (le_same ⟨rfl, rfl, rfl, rfl, trivial⟩) (fun s J => ?_)
  obtain ⟨k, hv⟩ := s
  obtain ⟨j1, j2, j3⟩ := J
  simp only at j1 j2 j3
  refine ok_seq fun K5 h5 => ok_region rfl (q_bin _ _ _ rfl rfl rfl (run_nil (h5 _ ?_)))
  refine ok_seq fun K6 h6 => ?_
  refine ok_cond rfl (fun c7 => ?_) (fun c7 => ?_)
  · refine ok_skip (h6 _ ?_)
    have hk : k < l.length := by simpa using c7
    obtain ⟨u, hu⟩ := sget hk
    rw [mixL_step hu] at j3
    refine ok_seq fun K8 h8 => ?_
    refine ok_block ?_
    refine ok_seq fun K9 h9 => ok_region rfl (q_ia (s := byt u) el73 rfl rfl (by omega) (mget hu) (q_ld _ ag5 rfl rfl (q_as _ rfl (run_nil (h9 _ ?_)))))
    refine ok_seq fun K10 h10 => ok_region rfl (q_mv _ rfl (q_mv _ rfl (q_cv aS5 ik142 rfl (IntWalk.u64_in _ (by have := u.toNat_lt; omega)) (q_bin _ _ _ rfl rfl rfl (q_as _ rfl (run_nil (h10 _ ?_)))))))
    refine ok_seq fun K11 h11 => ok_region rfl (q_mv _ rfl (q_bin _ _ _ rfl rfl rfl (q_as _ rfl (run_nil (h11 _ ?_)))))
    refine ok_last fun K12 h12 => ok_region rfl (
      q_mv _ rfl (q_mv _ rfl (q_bin _ _ _ rfl rfl rfl (q_bin _ _ _ rfl rfl rfl (q_as _ rfl (run_nil (h12 _ (h8 _ ?_))))))))
    refine ok_last fun K13 h13 => ok_region rfl (
      q_add rfl rfl (by omega) (q_mv _ rfl (run_nil (h13 _ (⟨(k + 1, mixS hv u), by simp only; omega, ⟨(mixS_in hv u).1, (mixS_in hv u).2, j3⟩, le_same ⟨rfl, rfl, rfl, rfl, trivial⟩⟩)))))
  · refine ok_exit (h3 _ ?_)
    refine ok_seq fun K14 h14 => ok_region rfl (q_mv _ rfl (q_bin (.int .u64 hv) (.int .u64 1) (.int .u64 (hv / 2)) rfl rfl (shr1 rfl) (q_cv aS142 ik3 rfl (IntWalk.i64_in _ (by omega)) (q_as _ rfl (run_nil (h14 _ ?_))))))
    refine ok_ret ⟨_, rfl, ?_⟩
    rw [mixL_end (by simpa using c7)] at j3
    rw [mixI, j3]; rfl
end Go.Ring

/- The library's strings.Join at this program: the shelf's layings, in plain words. No condition. -/
namespace Go.Proofs
open Go.Shelf
def Tryz.lays156_ren : Go.Shelf.Ren := ⟨fun | 156 => 255 | 165 => 270 | 166 => 271 | 169 => 272 | 240 => 279 | 241 => 280 | 276 => 283 | 277 => 284 | n => n, fun | 31 => 156 | 9 => 9 | 3 => 3 | 4 => 4 | 0 => 0 | 20 => 20 | 72 => 270 | 76 => 274 | 70 => 268 | 37 => 73 | 75 => 273 | 127 => 289 | 164 => 291 | 5 => 5 | 80 => 236 | n => n, fun | n => n⟩
theorem Tryz.lays156 : Go.Proofs.Lays.n156 Tryz.prog Tryz.lays156_ren := {
  mixed := by kernel_rfl
  f156 := Tryz.func255.trans (congrArg some (by kernel_rfl))
  f165 := Tryz.func270.trans (congrArg some (by kernel_rfl))
  f166 := Tryz.func271.trans (congrArg some (by kernel_rfl))
  f169 := Tryz.func272.trans (congrArg some (by kernel_rfl))
  f240 := Tryz.func279.trans (congrArg some (by kernel_rfl))
  f241 := Tryz.func280.trans (congrArg some (by kernel_rfl))
  f276 := Tryz.func283.trans (congrArg some (by kernel_rfl))
  f277 := Tryz.func284.trans (congrArg some (by kernel_rfl))
  t0 := Tryz.underlying0
  a0 := Tryz.isAgg0
  z0 := Tryz.sizeOf0
  v0 := Tryz.zeroValue0
  t3 := Tryz.underlying3
  a3 := Tryz.isAgg3
  z3 := Tryz.sizeOf3
  v3 := Tryz.zeroValue3
  t4 := Tryz.underlying4
  a4 := Tryz.isAgg4
  z4 := Tryz.sizeOf4
  v4 := Tryz.zeroValue4
  t9 := Tryz.underlying9
  a9 := Tryz.isAgg9
  z9 := Tryz.sizeOf9
  v9 := Tryz.zeroValue9
  t20 := Tryz.underlying20
  a20 := Tryz.isAgg20
  z20 := Tryz.sizeOf20
  v20 := Tryz.zeroValue20
  t31 := Tryz.underlying156
  a31 := Tryz.isAgg156
  z31 := Tryz.sizeOf156
  v31 := Tryz.zeroValue156
  t37 := Tryz.underlying73
  a37 := Tryz.isAgg73
  z37 := Tryz.sizeOf73
  v37 := Tryz.zeroValue73
  t70 := Tryz.underlying268
  a70 := Tryz.isAgg268
  z70 := Tryz.sizeOf268
  v70 := Tryz.zeroValue268
  t72 := Tryz.underlying270
  a72 := Tryz.isAgg270
  z72 := Tryz.sizeOf270
  v72 := Tryz.zeroValue270
  t75 := Tryz.underlying273
  a75 := Tryz.isAgg273
  z75 := Tryz.sizeOf273
  v75 := Tryz.zeroValue273
  t76 := Tryz.underlying274
  a76 := Tryz.isAgg274
  z76 := Tryz.sizeOf274
  v76 := Tryz.zeroValue274
  t127 := Tryz.underlying289
  a127 := Tryz.isAgg289
  z127 := Tryz.sizeOf289
  v127 := Tryz.zeroValue289
  t164 := Tryz.underlying291
  a164 := Tryz.isAgg291
  z164 := Tryz.sizeOf291
  v164 := Tryz.zeroValue291 }
theorem Tryz.Builder_Extra_156 : Builder.Extra Tryz.prog Tryz.lays156_ren := {
  sizeBuilder := by kernel_rfl
  liesBuilder := by kernel_rfl
  t5 := Tryz.underlying5
  a5 := Tryz.isAgg5
  z5 := Tryz.sizeOf5
  v5 := Tryz.zeroValue5
  infoByte := by kernel_rfl
  cellsByte := by kernel_rfl
  sizeByte := by kernel_rfl
  neB5 := by decide }
end Go.Proofs

/- A value in quotes, labels' text. No condition. -/
namespace Go.Ring
open Go Go.RowKit Go.Eager Go.Abs Go.Proofs
set_option maxRecDepth 100000
set_option linter.unusedVariables false
set_option linter.unusedSimpArgs false
@[reducible] def bs (l : List UInt8) : ByteArray := ⟨l.toArray⟩
theorem bs_size (l : List UInt8) : (bs l).size = l.length := by show l.toArray.size = _; simp
theorem bs_of (s : ByteArray) : bs s.data.toList = s := by simp [bs]
theorem len_of (s : ByteArray) : s.data.toList.length = s.size := by simp
theorem bs_app (a b : List UInt8) : bs a ++ bs b = bs (a ++ b) := by
  apply ByteArray.ext; simp [ByteArray.data_append]
theorem catB {a b : List UInt8} (h : a.length + b.length ≤ 9223372036854775807) : vBin .add (.string (bs a)) (.string (bs b)) = some (.string (bs (a ++ b))) := by
  simp only [vBin, vStr, bs_size]
  rw [if_pos h, bs_app]
def qEsc (b : UInt8) : List UInt8 := if (b.toNat : Int) = 34 ∨ (b.toNat : Int) = 92 then [92, b] else [b]
def qBytes (s : List UInt8) : List UInt8 := 34 :: s.flatMap qEsc ++ [34]
def quoteB (s : ByteArray) : List UInt8 := qBytes s.data.toList
theorem qEsc_len (b : UInt8) : (qEsc b).length ≤ 2 := by unfold qEsc; split <;> simp
theorem qFlat_len : ∀ s : List UInt8, (s.flatMap qEsc).length ≤ 2 * s.length
  | [] => by simp
  | b :: s => by
    have := qFlat_len s
    have := qEsc_len b
    simp only [List.flatMap_cons, List.length_append, List.length_cons]; omega
theorem quote_len (s : ByteArray) : (quoteB s).length ≤ 2 * s.size + 2 := by
  have := qFlat_len s.data.toList
  rw [len_of] at this
  simp only [quoteB, qBytes, List.length_cons, List.length_append, List.length_nil, List.cons_append]; omega
def partL (x : Label) : List UInt8 := x.name.data.toList ++ [61] ++ quoteB x.value
def tailL (l : List Label) : List UInt8 := l.flatMap fun x => 44 :: partL x
def joinL : List Label → List UInt8
  | [] => []
  | x :: l => partL x ++ tailL l
def textL (l : List Label) : List UInt8 := [123] ++ joinL l ++ [125]
def accL (l : List Label) (k : Nat) : List UInt8 := [123] ++ joinL (l.take k)
theorem part_len {x : Label} (h : SLabel x) : (partL x).length ≤ 3145735 := by
  obtain ⟨h1, h2⟩ := h
  have := quote_len x.value
  have := len_of x.name
  unfold partL
  simp only [List.length_append, List.length_cons, List.length_nil]; omega
theorem tail_len : ∀ l : List Label, (∀ y ∈ l, SLabel y) → (tailL l).length ≤ 3145736 * l.length
  | [], _ => by simp [tailL]
  | x :: l, h => by
    have := tail_len l (fun y hy => h y (List.mem_cons_of_mem _ hy))
    have := part_len (h x List.mem_cons_self)
    unfold tailL at *
    simp only [List.flatMap_cons, List.length_append, List.length_cons]; omega
theorem join_len : ∀ l : List Label, (∀ y ∈ l, SLabel y) → (joinL l).length ≤ 3145736 * l.length
  | [], _ => by simp [joinL]
  | x :: l, h => by
    have := tail_len l (fun y hy => h y (List.mem_cons_of_mem _ hy))
    have := part_len (h x List.mem_cons_self)
    simp only [joinL, List.length_append, List.length_cons]; omega
theorem acc_len {l : List Label} (hl : l.length ≤ 1048576) (h : ∀ y ∈ l, SLabel y) (k : Nat) : (accL l k).length ≤ 4000000000000 := by
  have := join_len (l.take k) (fun y hy => h y (List.mem_of_mem_take hy))
  have : (l.take k).length ≤ l.length := by simp; omega
  unfold accL
  simp only [List.length_append, List.length_cons, List.length_nil]; omega
theorem join_snoc : ∀ (l : List Label) (x : Label), joinL (l ++ [x]) = if l = [] then partL x else joinL l ++ (44 :: partL x)
  | [], x => by simp [joinL, tailL]
  | y :: l, x => by simp [joinL, tailL]
theorem acc_step {l : List Label} {k : Nat} {x : Label} (h : l[k]? = some x) : accL l (k + 1) = if k = 0 then [123] ++ partL x else accL l k ++ (44 :: partL x) := by
  have hlt := slt h
  unfold accL
  rw [List.take_add_one, h, Option.toList_some, join_snoc]
  by_cases hk : k = 0
  · subst hk; simp
  · have : l.take k ≠ [] := by intro hn; have := congrArg List.length hn; rw [List.length_take, List.length_nil] at this; omega
    rw [if_neg this, if_neg hk]; simp
theorem acc_all {l : List Label} {k : Nat} (h : l.length ≤ k) : accL l k ++ [125] = textL l := by unfold accL textL; rw [List.take_of_length_le h]
theorem join_lib (l : List Label) : Lib.join (l.map partL) [44] = joinL l := by
  cases l with
  | nil => rfl
  | cons x l =>
    rw [List.map_cons, Lib.join_cons, joinL]
    congr 1
    induction l with
    | nil => rfl
    | cons y l ih => simp only [List.map_cons, tailL, List.flatMap_cons, Lib.joinTail, List.flatten_cons] at ih ⊢; rw [ih]; rfl
theorem text_len {l : List Label} (hl : l.length ≤ 1048576) (h : ∀ y ∈ l, SLabel y) : (textL l).length ≤ 4000000000001 := by
  rw [← acc_all (Nat.le_refl l.length)]
  have := acc_len hl h l.length
  simp only [List.length_append, List.length_cons, List.length_nil]; omega
def preQ (s : ByteArray) (k : Nat) : List UInt8 := 34 :: (s.data.toList.take k).flatMap qEsc
theorem preQ_zero (s : ByteArray) : preQ s 0 = [34] := by simp [preQ]
theorem preQ_step {s : ByteArray} {k : Nat} {b : UInt8} (h : s.data.toList[k]? = some b) : preQ s (k + 1) = preQ s k ++ qEsc b := by
  unfold preQ; rw [List.take_add_one, h, Option.toList_some, List.flatMap_append]; simp
theorem preQ_all {s : ByteArray} {k : Nat} (h : s.size ≤ k) : preQ s k ++ [34] = quoteB s := by
  unfold preQ quoteB qBytes; rw [List.take_of_length_le (by rw [len_of]; exact h)]
theorem preQ_len (s : ByteArray) (k : Nat) : (preQ s k).length ≤ 2 * s.size + 1 := by
  have h1 := qFlat_len (s.data.toList.take k)
  have h2 : (s.data.toList.take k).length ≤ s.size := by rw [List.length_take, len_of]; omega
  simp only [preQ, List.length_cons]; omega
theorem esc_yes {b : UInt8} (h : (decide ((b.toNat : Int) = 34) || decide ((b.toNat : Int) = 92)) = true) (p : List UInt8) : p ++ [92] ++ [b] = p ++ qEsc b := by
  unfold qEsc; rw [if_pos (by simpa using h)]; simp
theorem esc_no {b : UInt8} (h : ¬ (decide ((b.toNat : Int) = 34) || decide ((b.toNat : Int) = 92)) = true) (p : List UInt8) : p ++ [b] = p ++ qEsc b := by
  unfold qEsc; rw [if_neg (by simpa using h)]
theorem f264_ok (s : ByteArray) (hs : s.size ≤ 1048576) : PFn Tryz.prog 264 [str s] (str (bs (quoteB s))) := by
  refine fn_ok' (n := 35) Tryz.func264 rfl rfl rfl (Nat.le_of_ble_eq_true rfl) rfl fun w0 O => ?_
  refine ok_seq fun K1 h1 => ok_region rfl (q_as _ rfl (run_nil (h1 _ ?_)))
  refine ok_seq fun K2 h2 => ok_region rfl (q_lito1 _ (byt 34) el73 ze5 (by decide) (by decide) rfl rfl rfl (.inr rfl) rfl (q_ao _ rfl (run_nil (h2 _ ?_))))
  refine ok_seq fun K3 h3 => ?_
  refine ok_seq fun K4 h4 => ok_region rfl (q_as _ rfl (run_nil (h4 _ ?_)))
  refine ok_block ?_
  refine ok_loop (fun (k : Nat) => ⟨[(0, .sv (str s)), (3, .own 5), (4, .sv (int k))], [(5, .row 1 5 ((preQ s k).map byteSV))]⟩) (fun k => True) (fun k => s.size - k) 0 trivial (by rw [preQ_zero]; exact le_sub ⟨rfl, rfl, rfl, trivial⟩ ⟨rfl, trivial⟩) (fun k J => ?_)
  refine ok_seq fun K5 h5 => ?_
  refine ok_seq fun K6 h6 => ok_region rfl (q_mv _ rfl (q_mv _ rfl (q_lens st9 rfl (q_bin _ _ _ rfl rfl rfl (run_nil (h6 _ ?_))))))
  refine ok_cond rfl (fun c7 => ?_) (fun c7 => ?_)
  · have hk : k < s.size := by simpa using c7
    have hb := bget' hk
    generalize s.data.toList[k]'(by simpa using hk) = b at hb
    have hp := preQ_len s k
    refine ok_skip (h5 _ ?_)
    refine ok_seq fun K8 h8 => ?_
    refine ok_block ?_
    refine ok_seq_join (fun (p : List UInt8) => ⟨[(0, .sv (str s)), (3, .own 5), (4, .sv (int k))], [(5, .row 1 5 (p.map byteSV))]⟩) (fun p => p ++ [b] = preQ s (k + 1) ∧ p.length ≤ 2 * s.size + 2) ?_ (fun p J => ?_)
    · refine ok_seq fun K9 h9 => ?_
      refine ok_region rfl (q_mv _ rfl (q_mv _ rfl (q_ix st9 rfl rfl (by omega) (bget hb) (q_bin _ _ _ rfl rfl rfl (q_mv _ rfl (q_or 4 4 rfl rfl rfl rfl rfl (fun hb21 =>
          q_mv _ rfl (q_mv _ rfl (q_ix st9 rfl rfl (by omega) (bget hb) (q_bin _ _ _ rfl rfl rfl (run_nil ⟨rfl, rfl, rfl, rfl⟩))))) (
        run_nil (h9 _ ?_))))))))
      refine ok_cond rfl (fun c10 => ?_) (fun c10 => ?_)
      · refine ok_last fun K11 h11 => ok_region rfl (
          q_mo _ rfl (q_lit1 _ (byt 92) el73 ze5 (by decide) (by decide) rfl (.inr rfl) rfl (q_app _ el73 ze5 rfl by5 rfl rfl rfl rfl rfl (by simp) (by intro s hs; simp at hs; subst hs; exact .inr rfl) (by rw [List.length_map]; exact Nat.le_trans (Nat.add_le_add_right hp 1) (by unfold maxLen; omega)) (by rw [List.length_map]; show (_ + 1) * 1 ≤ _; omega) (
          q_ao _ rfl (run_nil (h11 _ (⟨preQ s k ++ [92], ⟨by rw [preQ_step hb]; exact esc_yes c10 _, by simp; omega⟩, by rw [List.map_append]; exact le_rek 5 24 ⟨rfl, rfl, rfl, trivial⟩ ⟨rfl, trivial⟩ rfl rfl rfl rfl ⟨rfl, trivial⟩⟩)))))))
      · refine ok_skip (⟨preQ s k, ⟨by rw [preQ_step hb]; exact esc_no (by simp [c10]) _, by omega⟩, le_sub ⟨rfl, rfl, rfl, trivial⟩ ⟨rfl, trivial⟩⟩)
    · obtain ⟨j1, j2⟩ := J
      refine ok_last fun K12 h12 => ok_region rfl (
        q_mo _ rfl (q_mv _ rfl (q_mv _ rfl (q_ix st9 rfl rfl (by omega) (bget hb) (q_lit1 _ (byt b) el73 ze5 (by decide) (by decide) rfl (.inr rfl) rfl (q_app _ el73 ze5 rfl by5 rfl rfl rfl rfl rfl (by simp) (by intro s hs; simp at hs; subst hs; exact .inr rfl) (by rw [List.length_map]; exact Nat.le_trans (Nat.add_le_add_right j2 1) (by unfold maxLen; omega)) (by rw [List.length_map]; show (_ + 1) * 1 ≤ _; omega) (
        q_ao _ rfl (run_nil (h12 _ (h8 _ ?_))))))))))
      refine ok_last fun K13 h13 => ok_region rfl (
        q_mv _ rfl (q_add rfl rfl (by omega) (q_as _ rfl (run_nil (h13 _ (⟨k + 1, by omega, trivial, ?_⟩))))))
      rw [← j1, List.map_append]
      exact le_rek 5 30 ⟨rfl, rfl, rfl, trivial⟩ ⟨rfl, trivial⟩ rfl rfl rfl rfl ⟨rfl, trivial⟩
  · have hk : s.size ≤ k := by simpa using c7
    have hp := preQ_len s k
    refine ok_exit (h3 _ ?_)
    refine ok_seq fun K14 h14 => ?_
    refine ok_region rfl (q_mo _ rfl (q_lit1 _ (byt 34) el73 ze5 (by decide) (by decide) rfl (.inr rfl) rfl (q_app _ el73 ze5 rfl by5 rfl rfl rfl rfl rfl (by simp) (by intro s hs; simp at hs; subst hs; exact .inr rfl) (by rw [List.length_map]; exact Nat.le_trans (Nat.add_le_add_right hp 1) (by unfold maxLen; omega)) (by rw [List.length_map]; show (_ + 1) * 1 ≤ _; omega) (
      q_cvo (bs := quoteB s) Tryz.underlying73 Tryz.underlying5 Tryz.underlying9 rfl (by rw [← preQ_all hk, List.map_append]; rfl) (q_as _ rfl (run_nil (h14 _ ?_)))))))
    exact ok_ret ⟨_, rfl, rfl⟩

theorem f254_ok (s : ByteArray) (hs : s.size ≤ 1048576) : PFn Tryz.prog 254 [str s] (str (bs (quoteB s))) := by
  refine fn_ok' (n := 35) Tryz.func254 rfl rfl rfl (Nat.le_of_ble_eq_true rfl) rfl fun w0 O => ?_
  refine ok_seq fun K1 h1 => ok_region rfl (q_as _ rfl (run_nil (h1 _ ?_)))
  refine ok_seq fun K2 h2 => ok_region rfl (q_lito1 _ (byt 34) el73 ze5 (by decide) (by decide) rfl rfl rfl (.inr rfl) rfl (q_ao _ rfl (run_nil (h2 _ ?_))))
  refine ok_seq fun K3 h3 => ?_
  refine ok_seq fun K4 h4 => ok_region rfl (q_mv _ rfl (q_lens st9 rfl (q_mv _ rfl (run_nil (h4 _ ?_)))))
  refine ok_block ?_
  refine ok_loop (fun (k : Nat) => ⟨[(0, .sv (str s)), (3, .own 5), (7, .sv (int s.size)), (8, .sv (int k))], [(5, .row 1 5 ((preQ s k).map byteSV))]⟩) (fun k => True) (fun k => s.size - k) 0 trivial (by rw [preQ_zero]; exact le_sub ⟨rfl, rfl, rfl, rfl, trivial⟩ ⟨rfl, trivial⟩) (fun k J => ?_)
  refine ok_seq fun K5 h5 => ok_region rfl (q_bin _ _ _ rfl rfl rfl (run_nil (h5 _ ?_)))
  refine ok_seq fun K6 h6 => ?_
  refine ok_cond rfl (fun c7 => ?_) (fun c7 => ?_)
  · have hk : k < s.size := by simpa using c7
    have hb := bget' hk
    generalize s.data.toList[k]'(by simpa using hk) = b at hb
    have hp := preQ_len s k
    refine ok_skip (h6 _ ?_)
    refine ok_seq fun K8 h8 => ?_
    refine ok_block ?_
    refine ok_seq fun K9 h9 => ok_region rfl (q_mv _ rfl (q_as _ rfl (run_nil (h9 _ ?_))))
    refine ok_seq_join (fun (p : List UInt8) => ⟨[(0, .sv (str s)), (3, .own 5), (4, .sv (int k)), (7, .sv (int s.size)), (8, .sv (int k))], [(5, .row 1 5 (p.map byteSV))]⟩) (fun p => p ++ [b] = preQ s (k + 1) ∧ p.length ≤ 2 * s.size + 2) ?_ (fun p J => ?_)
    · refine ok_seq fun K10 h10 => ?_
      refine ok_region rfl (q_mv _ rfl (q_mv _ rfl (q_ix st9 rfl rfl (by omega) (bget hb) (q_bin _ _ _ rfl rfl rfl (q_mv _ rfl (q_or 4 4 rfl rfl rfl rfl rfl (fun hb20 =>
          q_mv _ rfl (q_mv _ rfl (q_ix st9 rfl rfl (by omega) (bget hb) (q_bin _ _ _ rfl rfl rfl (run_nil ⟨rfl, rfl, rfl, rfl⟩))))) (
        run_nil (h10 _ ?_))))))))
      refine ok_cond rfl (fun c11 => ?_) (fun c11 => ?_)
      · refine ok_last fun K12 h12 => ok_region rfl (
          q_mo _ rfl (q_lit1 _ (byt 92) el73 ze5 (by decide) (by decide) rfl (.inr rfl) rfl (q_app _ el73 ze5 rfl by5 rfl rfl rfl rfl rfl (by simp) (by intro s hs; simp at hs; subst hs; exact .inr rfl) (by rw [List.length_map]; exact Nat.le_trans (Nat.add_le_add_right hp 1) (by unfold maxLen; omega)) (by rw [List.length_map]; show (_ + 1) * 1 ≤ _; omega) (
          q_ao _ rfl (run_nil (h12 _ (⟨preQ s k ++ [92], ⟨by rw [preQ_step hb]; exact esc_yes c11 _, by simp; omega⟩, by rw [List.map_append]; exact le_rek 5 23 ⟨rfl, rfl, rfl, rfl, rfl, trivial⟩ ⟨rfl, trivial⟩ rfl rfl rfl rfl ⟨rfl, trivial⟩⟩)))))))
      · refine ok_skip (⟨preQ s k, ⟨by rw [preQ_step hb]; exact esc_no (by simp [c11]) _, by omega⟩, le_sub ⟨rfl, rfl, rfl, rfl, rfl, trivial⟩ ⟨rfl, trivial⟩⟩)
    · obtain ⟨j1, j2⟩ := J
      refine ok_last fun K13 h13 => ok_region rfl (
        q_mo _ rfl (q_mv _ rfl (q_mv _ rfl (q_ix st9 rfl rfl (by omega) (bget hb) (q_lit1 _ (byt b) el73 ze5 (by decide) (by decide) rfl (.inr rfl) rfl (q_app _ el73 ze5 rfl by5 rfl rfl rfl rfl rfl (by simp) (by intro s hs; simp at hs; subst hs; exact .inr rfl) (by rw [List.length_map]; exact Nat.le_trans (Nat.add_le_add_right j2 1) (by unfold maxLen; omega)) (by rw [List.length_map]; show (_ + 1) * 1 ≤ _; omega) (
        q_ao _ rfl (run_nil (h13 _ (h8 _ ?_))))))))))
      refine ok_last fun K14 h14 => ok_region rfl (
        q_add rfl rfl (by omega) (q_mv _ rfl (run_nil (h14 _ (⟨k + 1, by omega, trivial, ?_⟩)))))
      rw [← j1, List.map_append]
      exact le_rek 5 29 ⟨rfl, rfl, rfl, rfl, trivial⟩ ⟨rfl, trivial⟩ rfl rfl rfl rfl ⟨rfl, trivial⟩
  · have hk : s.size ≤ k := by simpa using c7
    have hp := preQ_len s k
    refine ok_exit (h3 _ ?_)
    refine ok_seq fun K15 h15 => ?_
    refine ok_region rfl (q_mo _ rfl (q_lit1 _ (byt 34) el73 ze5 (by decide) (by decide) rfl (.inr rfl) rfl (q_app _ el73 ze5 rfl by5 rfl rfl rfl rfl rfl (by simp) (by intro s hs; simp at hs; subst hs; exact .inr rfl) (by rw [List.length_map]; exact Nat.le_trans (Nat.add_le_add_right hp 1) (by unfold maxLen; omega)) (by rw [List.length_map]; show (_ + 1) * 1 ≤ _; omega) (
      q_cvo (bs := quoteB s) Tryz.underlying73 Tryz.underlying5 Tryz.underlying9 rfl (by rw [← preQ_all hk, List.map_append]; rfl) (q_as _ rfl (run_nil (h15 _ ?_)))))))
    exact ok_ret ⟨_, rfl, rfl⟩
theorem part_bin1 (x : Label) (h : SLabel x) : vBin .add (.string x.name) (.string (bs [61])) = some (.string (bs (x.name.data.toList ++ [61]))) := by
  have := catB (a := x.name.data.toList) (b := [61]) (by have := h.1; rw [len_of]; simp only [List.length_cons, List.length_nil]; omega)
  rw [bs_of] at this; exact this
theorem part_bin2 (x : Label) (h : SLabel x) : vBin .add (.string (bs (x.name.data.toList ++ [61]))) (.string (bs (quoteB x.value))) = some (.string (bs (partL x))) := by
  have h1 := part_len h
  unfold partL at h1 ⊢
  exact catB (by rw [← List.length_append]; omega)
theorem f243_ok (x : List Label) (hx : x.length ≤ 1048576 ∧ ∀ y ∈ x, SLabel y) : PFn Tryz.prog 243 [eLabelS x] (str (bs (textL x))) := by
  refine fn_ok' (n := 29) Tryz.func243 rfl rfl rfl (Nat.le_of_ble_eq_true rfl) rfl fun w0 O => ?_
  refine ok_seq fun K1 h1 => ok_region rfl (q_as _ rfl (run_nil (h1 _ ?_)))
  refine ok_seq fun K2 h2 => ok_region rfl (q_as _ rfl (run_nil (h2 _ ?_)))
  refine ok_seq fun K3 h3 => ?_
  refine ok_seq fun K4 h4 => ok_region rfl (q_mv _ rfl (q_len eS78 rfl (q_mv _ rfl (run_nil (h4 _ ?_)))))
  rw [List.length_map]
  refine ok_block ?_
  refine ok_loop (fun (k : Nat) => ⟨[(3, .sv (str (bs (accL x k)))), (6, .sv (eLabelS x)), (7, .sv (int x.length)), (8, .sv (int k))], []⟩) (fun k => True) (fun k => x.length - k) 0 trivial (le_same ⟨rfl, rfl, rfl, rfl, trivial⟩) (fun k J => ?_)
  refine ok_seq fun K5 h5 => ok_region rfl (q_bin _ _ _ rfl rfl rfl (run_nil (h5 _ ?_)))
  refine ok_seq fun K6 h6 => ?_
  refine ok_cond rfl (fun c7 => ?_) (fun c7 => ?_)
  · have hk : k < x.length := by simpa using c7
    obtain ⟨u, hu⟩ := sget hk
    have hS := hx.2 u (smem hu)
    have hpl := part_len hS
    have ha := acc_len hx.1 hx.2 k
    refine ok_skip (h6 _ ?_)
    refine ok_seq fun K8 h8 => ?_
    refine ok_block ?_
    refine ok_seq fun K9 h9 => ok_region rfl (q_mv _ rfl (q_ia el78 rfl rfl (by omega) (mget hu) (q_lds _ ag190 rfl sz190 (q_alloc _ ze190 rfl rfl rfl rfl (q_as _ rfl (q_sts _ rfl rfl rfl sz190 (Nat.le_of_ble_eq_true rfl) rfl (run_nil (h9 _ ?_))))))))
    refine ok_seq_join (fun (v : List UInt8) => ⟨[(3, .sv (str (bs v))), (5, .ptr 5 0), (6, .sv (eLabelS x)), (7, .sv (int x.length)), (8, .sv (int k))], [(5, .box [.sv (str u.name), .sv (str u.value)])]⟩) (fun v => v ++ partL u = accL x (k + 1) ∧ v.length ≤ 4000000000001) ?_ (fun v J => ?_)
    · refine ok_seq fun K10 h10 => ?_
      refine ok_region rfl (q_mv _ rfl (q_bin _ _ _ rfl rfl rfl (run_nil (h10 _ ?_))))
      refine ok_cond rfl (fun c11 => ?_) (fun c11 => ?_)
      · have hk0 : k ≠ 0 := by have : (0 : Int) < k := by simpa using c11
                               omega
        refine ok_last fun K12 h12 => ok_region rfl (
          q_mv _ rfl (q_bin _ _ (.string (bs (accL x k ++ [44]))) rfl rfl (catB (b := [44]) (by simp only [List.length_cons, List.length_nil]; omega)) (q_as _ rfl (run_nil (h12 _ (⟨accL x k ++ [44], ⟨by rw [acc_step hu, if_neg hk0]; simp, by simp only [List.length_append, List.length_cons, List.length_nil]; omega⟩, le_sub ⟨rfl, rfl, rfl, rfl, rfl, trivial⟩ ⟨rfl, trivial⟩⟩))))))
      · have hk0 : k = 0 := by have : ¬ (0 : Int) < k := by simpa using c11
                               omega
        refine ok_skip (⟨accL x k, ⟨by rw [acc_step hu, if_pos hk0, hk0]; rfl, by omega⟩, le_sub ⟨rfl, rfl, rfl, rfl, rfl, trivial⟩ ⟨rfl, trivial⟩⟩)
    · obtain ⟨j1, j2⟩ := J
      refine ok_last fun K13 h13 => ok_region_i (by kernel_rfl) (by kernel_rfl) rfl (
        q_mv _ rfl (q_fap fd190_0 rfl (by decide) (q_ldb _ ag9 rfl rfl rfl (q_bin _ _ _ rfl rfl (part_bin1 u hS) (q_fap fd190_1 rfl (by decide) (q_ldb _ ag9 rfl rfl rfl (q_call (f264_ok u.value hS.2) cl264 rfl rfl (
        q_bin _ _ _ rfl rfl (part_bin2 u hS) (q_bin _ _ _ rfl rfl (catB (by omega)) (q_as _ rfl (run_nil (h13 _ (h8 _ ?_)))))))))))))
      rw [j1]
      refine ok_last fun K14 h14 => ok_region rfl (
        q_add rfl rfl (by omega) (q_mv _ rfl (run_nil (h14 _ (⟨k + 1, by omega, trivial, le_sub ⟨rfl, rfl, rfl, rfl, trivial⟩ trivial⟩)))))
  · have ha := acc_len hx.1 hx.2 k
    refine ok_exit (h3 _ ?_)
    refine ok_seq fun K15 h15 => ok_region rfl (q_mv _ rfl (q_bin _ _ _ rfl rfl (catB (b := [125]) (by simp only [List.length_cons, List.length_nil]; omega)) (q_as _ rfl (run_nil (h15 _ ?_)))))
    refine ok_ret ⟨_, rfl, ?_⟩
    rw [acc_all (by simpa using c7)]; rfl
theorem map_bs (x : List Label) : (x.map fun y => bs (partL y)).map (·.data.toList) = x.map partL := by simp [Function.comp_def]
theorem f255_ok (x : List Label) (hx : x.length ≤ 1048576 ∧ ∀ y ∈ x, SLabel y) : PFn Tryz.prog 255 [.sl 1 (x.map fun y => str (bs (partL y))), str (bs [44])] (str (bs (joinL x))) := by
  have h1 := join_len x hx.2
  have h := pfn_join Tryz.lays156 Tryz.Builder_Extra_156 (x.map fun y => bs (partL y)) (bs [44]) (by rw [List.length_map]; omega) (by rw [map_bs]; show (Lib.join _ [44]).length ≤ _; rw [join_lib]; omega)
  rw [map_bs] at h
  have e : Lib.join (x.map partL) (bs [44]).data.toList = joinL x := join_lib x
  rw [e, List.map_map] at h
  exact h
theorem row_snoc {x : List Label} {k : Nat} {u : Label} (h : x[k]? = some u) : (x.take (k + 1)).map (fun y => str (bs (partL y))) = (x.take k).map (fun y => str (bs (partL y))) ++ [str (bs (partL u))] := by rw [List.take_add_one, h, Option.toList_some, List.map_append]; rfl
noncomputable def labText (x : List Label) : ByteArray := if pB (LabelsOk x) = true then bs (textL x) else bs []
theorem f213_ok (x : List Label) (hx : x.length ≤ 1048576 ∧ ∀ y ∈ x, SLabel y) : PFn Tryz.prog 213 [eLabelS x] (str (labText x)) := by
  refine fn_ok' (n := 30) Tryz.func213 rfl rfl rfl (Nat.le_of_ble_eq_true rfl) rfl fun w0 O => ?_
  refine ok_seq fun K1 h1 => ok_region rfl (q_as _ rfl (run_nil (h1 _ ?_)))
  refine ok_seq fun K2 h2 => ?_
  refine ok_seq fun K3 h3 => ok_region rfl (q_mv _ rfl (q_call (f158_ok x hx) cl158 rfl rfl (q_un _ _ rfl rfl (run_nil (h3 _ ?_)))))
  refine ok_cond rfl (fun c4 => ?_) (fun c4 => ?_)
  · refine ok_seq fun K5 h5 => ?_
    refine ok_region rfl (q_as _ rfl (run_nil (h5 _ ?_)))
    refine ok_ret ⟨_, rfl, ?_⟩
    have hg : ¬ pB (LabelsOk x) = true := by simpa using c4
    rw [labText, if_neg hg]; rfl
  · have hg : pB (LabelsOk x) = true := by simpa using c4
    refine ok_skip (h2 _ ?_)
    refine ok_seq fun K6 h6 => ok_region rfl (q_an (n := 1) 9 (by decide) rfl rfl rfl (run_nil (h6 _ ?_)))
    refine ok_seq fun K7 h7 => ?_
    refine ok_seq fun K8 h8 => ok_region rfl (q_mv _ rfl (q_len eS78 rfl (q_mv _ rfl (run_nil (h8 _ ?_)))))
    rw [List.length_map]
    refine ok_block ?_
    refine ok_loop (fun (k : Nat) => ⟨[(3, .own 3), (9, .sv (eLabelS x)), (10, .sv (int x.length)), (11, .sv (int k))], [(3, .row 1 9 ((x.take k).map fun y => str (bs (partL y))))]⟩) (fun k => True) (fun k => x.length - k) 0 trivial (le_sub ⟨rfl, rfl, rfl, rfl, trivial⟩ ⟨rfl, trivial⟩) (fun k J => ?_)
    refine ok_seq fun K9 h9 => ok_region rfl (q_bin _ _ _ rfl rfl rfl (run_nil (h9 _ ?_)))
    refine ok_seq fun K10 h10 => ?_
    refine ok_cond rfl (fun c11 => ?_) (fun c11 => ?_)
    · have hk : k < x.length := by simpa using c11
      obtain ⟨u, hu⟩ := sget hk
      have hS := hx.2 u (smem hu)
      have htl : (x.take k).length ≤ x.length := by rw [List.length_take]; omega
      have hx1 := hx.1
      refine ok_skip (h10 _ ?_)
      refine ok_seq fun K12 h12 => ?_
      refine ok_block ?_
      refine ok_seq fun K13 h13 => ok_region rfl (q_ia el78 rfl rfl (by omega) (mget hu) (q_lds _ ag190 rfl sz190 (q_alloc _ ze190 rfl rfl rfl rfl (q_sts _ rfl rfl rfl sz190 (Nat.le_of_ble_eq_true rfl) rfl (run_nil (h13 _ ?_))))))
      refine ok_last fun K14 h14 => ok_region_i (by kernel_rfl) (by kernel_rfl) rfl (
        q_mo _ rfl (q_fap fd190_0 rfl (by decide) (q_ldb _ ag9 rfl rfl rfl (q_bin _ _ _ rfl rfl (part_bin1 u hS) (q_fap fd190_1 rfl (by decide) (q_ldb _ ag9 rfl rfl rfl (q_call (f254_ok u.value hS.2) cl254 rfl rfl (
        q_bin _ _ _ rfl rfl (part_bin2 u hS) (q_lit1 _ (str (bs (partL u))) el156 ze9 (by decide) (by decide) rfl (.inr rfl) rfl (q_app _ el156 ze9 rfl by9 rfl rfl rfl rfl rfl (by simp) (by intro s hs; simp at hs; subst hs; exact .inr rfl) (by rw [List.length_map]; exact Nat.le_trans (Nat.add_le_add_right htl 1) (by unfold maxLen; omega)) (by rw [List.length_map]; show (_ + 1) * 16 ≤ _; omega) (
        q_ao _ rfl (run_nil (h14 _ (h12 _ ?_))))))))))))))
      refine ok_last fun K15 h15 => ok_region rfl (
        q_add rfl rfl (by omega) (q_mv _ rfl (run_nil (h15 _ (⟨k + 1, by omega, trivial, ?_⟩)))))
      rw [row_snoc hu]
      exact le_rek 3 24 ⟨rfl, rfl, rfl, rfl, trivial⟩ ⟨rfl, trivial⟩ rfl rfl rfl rfl ⟨rfl, trivial⟩
    · have hk : x.length ≤ k := by simpa using c11
      have hj := join_len x hx.2
      have hx1 := hx.1
      rw [List.take_of_length_le hk]
      refine ok_exit (h7 _ ?_)
      refine ok_seq fun K16 h16 => ok_region rfl (q_mo _ rfl (q_call (f255_ok x hx) cl255 rfl rfl (q_bin _ _ _ rfl rfl (catB (a := [123]) (by simp only [List.length_cons, List.length_nil]; omega)) (q_bin _ _ _ rfl rfl (catB (b := [125]) (by simp only [List.length_append, List.length_cons, List.length_nil]; omega)) (q_as _ rfl (run_nil (h16 _ ?_)))))))
      refine ok_ret ⟨_, rfl, ?_⟩
      rw [labText, if_pos hg]; rfl
theorem f205_ok (x : List Label) (hx : x.length ≤ 1048576 ∧ ∀ y ∈ x, SLabel y) : PFn Tryz.prog 205 [eLabelS x] (str (labText x)) := by
  refine fn_ok' (n := 8) Tryz.func205 rfl rfl rfl (Nat.le_of_ble_eq_true rfl) rfl fun w0 O => ?_
  refine ok_seq fun K1 h1 => ok_region rfl (q_as _ rfl (run_nil (h1 _ ?_)))
  refine ok_seq fun K2 h2 => ?_
  refine ok_seq fun K3 h3 => ok_region rfl (q_mv _ rfl (q_call (f148_ok x hx) cl148 rfl rfl (q_un _ _ rfl rfl (run_nil (h3 _ ?_)))))
  refine ok_cond rfl (fun c4 => ?_) (fun c4 => ?_)
  · refine ok_seq fun K5 h5 => ?_
    refine ok_region rfl (q_as _ rfl (run_nil (h5 _ ?_)))
    refine ok_ret ⟨_, rfl, ?_⟩
    have hg : ¬ pB (LabelsOk x) = true := by simpa using c4
    rw [labText, if_neg hg]; rfl
  · have hg : pB (LabelsOk x) = true := by simpa using c4
    refine ok_skip (h2 _ ?_)
    refine ok_seq fun K6 h6 => ok_region rfl (q_mv _ rfl (q_call (f243_ok x hx) cl243 rfl rfl (q_as _ rfl (run_nil (h6 _ ?_)))))
    refine ok_ret ⟨_, rfl, ?_⟩
    rw [labText, if_pos hg]; rfl
theorem lab_len {x : List Label} (hx : x.length ≤ 1048576 ∧ ∀ y ∈ x, SLabel y) : (labText x).data.toList.length ≤ 9223372036854775807 := by
  have h := text_len hx.1 hx.2
  rw [len_of, labText]
  split <;> rw [bs_size]
  · omega
  · decide
noncomputable def hashL (x : List Label) : Int := mixI (labText x).data.toList
theorem f151_ok (x : List Label) (hx : x.length ≤ 1048576 ∧ ∀ y ∈ x, SLabel y) : PFn Tryz.prog 151 [eLabelS x] (int (hashL x)) := by
  refine fn_ok' (n := 7) Tryz.func151 rfl rfl rfl (Nat.le_of_ble_eq_true rfl) rfl fun w0 O => ?_
  refine ok_seq fun K1 h1 => ok_region rfl (q_as _ rfl (run_nil (h1 _ ?_)))
  refine ok_seq fun K2 h2 => ok_region rfl (q_mv _ rfl (q_call (f205_ok x hx) cl205 rfl rfl (q_cvb Tryz.underlying9 Tryz.underlying73 Tryz.underlying5 rfl (q_call (f204_ok _ (lab_len hx)) cl204 rfl rfl (q_as _ rfl (run_nil (h2 _ ?_)))))))
  exact ok_ret ⟨_, rfl, rfl⟩
theorem f162_ok (x : List Label) (hx : x.length ≤ 1048576 ∧ ∀ y ∈ x, SLabel y) : PFn Tryz.prog 162 [eLabelS x] (int (hashL x)) := by
  refine fn_ok' (n := 7) Tryz.func162 rfl rfl rfl (Nat.le_of_ble_eq_true rfl) rfl fun w0 O => ?_
  refine ok_seq fun K1 h1 => ok_region rfl (q_as _ rfl (run_nil (h1 _ ?_)))
  refine ok_seq fun K2 h2 => ok_region rfl (q_mv _ rfl (q_call (f213_ok x hx) cl213 rfl rfl (q_cvb Tryz.underlying9 Tryz.underlying73 Tryz.underlying5 rfl (q_call (f212_ok _ (lab_len hx)) cl212 rfl rfl (q_as _ rfl (run_nil (h2 _ ?_)))))))
  exact ok_ret ⟨_, rfl, rfl⟩
noncomputable def placeL (x : List Label) : Int := if pB (LabelsOk x) = true then (hashL x).tmod 2147483648 else 0
theorem f80_ok (x : List Label) (hx : x.length ≤ 1048576 ∧ ∀ y ∈ x, SLabel y) : PFn Tryz.prog 80 [eLabelS x] (int (placeL x)) := by
  refine fn_ok' (n := 9) Tryz.func80 rfl rfl rfl (Nat.le_of_ble_eq_true rfl) rfl fun w0 O => ?_
  refine ok_seq fun K1 h1 => ok_region rfl (q_as _ rfl (run_nil (h1 _ ?_)))
  refine ok_seq fun K2 h2 => ?_
  refine ok_seq fun K3 h3 => ok_region rfl (q_mv _ rfl (q_call (f148_ok x hx) cl148 rfl rfl (q_un _ _ rfl rfl (run_nil (h3 _ ?_)))))
  refine ok_cond rfl (fun c4 => ?_) (fun c4 => ?_)
  · refine ok_seq fun K5 h5 => ?_
    refine ok_region rfl (q_as _ rfl (run_nil (h5 _ ?_)))
    refine ok_ret ⟨_, rfl, ?_⟩
    have hg : ¬ pB (LabelsOk x) = true := by simpa using c4
    rw [placeL, if_neg hg]; rfl
  · have hg : pB (LabelsOk x) = true := by simpa using c4
    refine ok_skip (h2 _ ?_)
    refine ok_seq fun K6 h6 => ok_region rfl (q_mv _ rfl (q_call (f151_ok x hx) cl151 rfl rfl (q_bin _ _ _ rfl rfl rfl (q_as _ rfl (run_nil (h6 _ ?_))))))
    refine ok_ret ⟨_, rfl, ?_⟩
    rw [placeL, if_pos hg]; rfl
theorem f87_ok (x : List Label) (hx : x.length ≤ 1048576 ∧ ∀ y ∈ x, SLabel y) : PFn Tryz.prog 87 [eLabelS x] (int (placeL x)) := by
  refine fn_ok' (n := 9) Tryz.func87 rfl rfl rfl (Nat.le_of_ble_eq_true rfl) rfl fun w0 O => ?_
  refine ok_seq fun K1 h1 => ok_region rfl (q_as _ rfl (run_nil (h1 _ ?_)))
  refine ok_seq fun K2 h2 => ?_
  refine ok_seq fun K3 h3 => ok_region rfl (q_mv _ rfl (q_call (f158_ok x hx) cl158 rfl rfl (q_un _ _ rfl rfl (run_nil (h3 _ ?_)))))
  refine ok_cond rfl (fun c4 => ?_) (fun c4 => ?_)
  · refine ok_seq fun K5 h5 => ?_
    refine ok_region rfl (q_as _ rfl (run_nil (h5 _ ?_)))
    refine ok_ret ⟨_, rfl, ?_⟩
    have hg : ¬ pB (LabelsOk x) = true := by simpa using c4
    rw [placeL, if_neg hg]; rfl
  · have hg : pB (LabelsOk x) = true := by simpa using c4
    refine ok_skip (h2 _ ?_)
    refine ok_seq fun K6 h6 => ok_region rfl (q_mv _ rfl (q_call (f162_ok x hx) cl162 rfl rfl (q_bin _ _ _ rfl rfl rfl (q_as _ rfl (run_nil (h6 _ ?_))))))
    refine ok_ret ⟨_, rfl, ?_⟩
    rw [placeL, if_pos hg]; rfl
end Go.Ring
