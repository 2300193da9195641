/- What of a series no stone takes, what is chosen of series and of a block: the reference. No condition beyond the lengths. -/
import Derived.Test.YtbhkjbfphhfecaaGreatB2
set_option maxRecDepth 100000
set_option linter.unusedVariables false
set_option linter.unusedSimpArgs false
namespace Go.Ring
open Go Go.RowKit Go.Eager Go.Abs Go.Proofs
theorem PFn.weak {P : Program} {f : Nat} {la bs : List SV} {r : SV} (h : PFn P f la r) (hl : bs.length = la.length) (hw : ∀ (i : Nat) (s : SV), la[i]? = some s → ∃ s', bs[i]? = some s' ∧ ∀ w O v, Rep w O s' v → Rep w O s v) : PFn P f bs r := by
  intro w O vs hO hn hv
  refine h w O vs hO (by rw [hn, hl]) fun i s u hs hu => ?_
  obtain ⟨s', h1, h2⟩ := hw i s hs
  exact h2 w O u (hv i s' u h1 hu)
theorem rep_nil0 {w : World} {O : Nat → Prop} {n : Nat} {v : Value} (h : Rep w O (.raw (.slice none 0 0)) v) : Rep w O (.sl n []) v := by
  rw [rep_raw' h]; exact .nil n none 0
/-- What of samples a stone leaves. -/
def al1 (t : Stone) (q : List Sample) : List Sample := cutF 0 (t.from_ - 1) q ++ cutF (t.to + 1) 1000000000000 q
theorem al1_len {t : Stone} (h : t.from_ ≤ t.to) (q : List Sample) : (al1 t q).length ≤ q.length := by
  unfold al1 cutF
  induction q with
  | nil => simp
  | cons x q ih =>
    simp only [List.length_append, List.filter_cons, List.length_cons] at ih ⊢
    split
    · rename_i h1
      simp only [Bool.and_eq_true, decide_eq_true_eq] at h1
      rw [if_neg (by simp only [Bool.and_eq_true, decide_eq_true_eq]; omega)]
      simp only [List.length_cons]; omega
    · split
      · simp only [List.length_cons]; omega
      · omega
def aliveF (ls : List Label) : List Stone → List Sample → List Sample
  | [], q => q
  | t :: l, q => aliveF ls l (if cmpLs t.labels ls = 0 then al1 t q else q)
theorem aliveF_len (ls : List Label) : ∀ (l : List Stone) (q : List Sample), (∀ t ∈ l, t.from_ ≤ t.to) → (aliveF ls l q).length ≤ q.length
  | [], _, _ => Nat.le_refl _
  | t :: l, q, h => by
    unfold aliveF
    refine Nat.le_trans (aliveF_len ls l _ fun u hu => h u (List.mem_cons_of_mem _ hu)) ?_
    split
    · exact al1_len (h t (List.mem_cons_self ..)) q
    · exact Nat.le_refl _
theorem f129_ok (b : Block) (hb : SBlock b) (hst : ∀ t ∈ b.stones, 0 ≤ t.from_ ∧ t.from_ ≤ t.to ∧ t.to ≤ 1000000000000) (s : Series) (hs : SSeries s) : PFn Tryz.prog 129 [eBlock b, eSeries s] (eSampleS (aliveF s.labels b.stones s.samples)) := by
  refine fn_ok' (n := 36) Tryz.func129 rfl rfl rfl (Nat.le_of_ble_eq_true rfl) rfl fun w0 O => ?_
  have hsn := hb.2.1
  refine ok_seq fun K1 h1 => ok_region rfl (q_boxs _ rfl (Nat.zero_lt_succ _) (q_boxs _ rfl (Nat.zero_lt_succ _) (q_as _ rfl (run_nil (h1 _ ?_))))); clear h1 K1
  refine ok_seq fun K2 h2 => ok_region rfl (q_fa _ fd83_1 rfl rfl (by decide) (q_ld _ ag81 rfl rfl (q_as _ rfl (run_nil (h2 _ ?_))))); clear h2 K2
  refine ok_seq fun K3 h3 => ?_
  refine ok_seq fun K4 h4 => ok_region rfl (q_fa _ fd34_4 rfl rfl (by decide) (q_ld _ ag32 rfl rfl (q_len eS32 rfl (q_mv _ rfl (run_nil (h4 _ ?_)))))); clear h4 K4
  rw [List.length_map]
  refine ok_block ?_
  refine ok_loop (fun (v : Nat × List Sample) => ⟨[(3, .sv (.ptr (eSeries s))), (5, .sv (eSampleS v.2)), (11, .sv (eStoneS b.stones)), (12, .sv (int b.stones.length)), (13, .sv (int v.1))], []⟩) (fun v => aliveF s.labels (b.stones.drop v.1) v.2 = aliveF s.labels b.stones s.samples ∧ v.2.length ≤ 1048576) (fun v => b.stones.length - v.1) (0, s.samples) ⟨rfl, hs.2⟩ (le_same ⟨rfl, rfl, rfl, rfl, rfl, trivial⟩) (fun v J => ?_)
  obtain ⟨k, q⟩ := v
  obtain ⟨j1, j2⟩ := J
  simp only at j1 j2
  refine ok_seq fun K5 h5 => ok_region rfl (q_bin _ _ _ rfl rfl rfl (run_nil (h5 _ ?_))); clear h5 K5
  refine ok_seq fun K6 h6 => ?_
  refine ok_cond rfl (fun c7 => ?_) (fun c7 => ?_)
  · refine ok_skip (h6 _ ?_)
    have hk : k < b.stones.length := by simpa using c7
    obtain ⟨u, hu⟩ := sget hk
    have hul := hb.2.2 u (smem hu)
    have hut := hst u (smem hu)
    rw [drop_cons hu, show aliveF s.labels (u :: b.stones.drop (k + 1)) q = aliveF s.labels (b.stones.drop (k + 1)) (if cmpLs u.labels s.labels = 0 then al1 u q else q) from rfl] at j1
    refine ok_seq_join (fun (q' : List Sample) => ⟨[(3, .sv (.ptr (eSeries s))), (5, .sv (eSampleS q')), (11, .sv (eStoneS b.stones)), (12, .sv (int b.stones.length)), (13, .sv (int k))], []⟩) (fun q' => aliveF s.labels (b.stones.drop (k + 1)) q' = aliveF s.labels b.stones s.samples ∧ q'.length ≤ 1048576) ?_ (fun q' J => ?_)
    · refine ok_block ?_
      refine ok_seq fun K8 h8 => ok_region rfl (q_ia el32 rfl rfl (by omega) (mget (f := eStone) hu) (q_lds _ ag103 rfl sz103 (q_alloc _ ze103 rfl rfl rfl rfl (q_sts _ rfl rfl rfl sz103 (Nat.le_of_ble_eq_true rfl) rfl (run_nil (h8 _ ?_)))))); clear h8 K8
      refine ok_seq fun K9 h9 => ok_region rfl (q_fap fd103_0 rfl (by decide) (q_ldb _ ag80 rfl rfl rfl (q_fa _ fd83_0 rfl rfl (by decide) (q_ld _ ag80 rfl rfl (q_call (f114_ok u.labels s.labels hul hs.1) cl114 rfl rfl (q_bin _ _ _ rfl rfl rfl (run_nil (h9 _ ?_)))))))); clear h9 K9
      refine ok_cond rfl (fun c10 => ?_) (fun c10 => ?_)
      · rw [if_pos (by simpa using c10)] at j1
        have hle := al1_len hut.2.1 q
        refine ok_last fun K11 h11 => ok_region_d [0, 0, 1, 0, 3, 0, 0, 1, 0, 3, 2, 0] #[[], [], [1], [1, 2], [0, 1, 2, 3], [], [], [6], [6, 7], [0, 1, 2, 3, 4, 5, 6, 7, 8], [0, 1, 2, 3, 4, 5, 6, 7, 8, 9], [0, 1, 2, 3, 4, 5, 6, 7, 8, 9, 10]] [0, 1, 2, 3, 5, 6, 7, 8, 4, 9, 10, 11] (by kernel_rfl) (by kernel_rfl) rfl rfl (
          q_mv (eSampleS q) rfl (q_fap fd103_1 rfl (by decide) (q_ldb (.sv (int u.from_)) ag3 rfl rfl rfl (q_sub rfl rfl (by omega) (q_mv (eSampleS q) rfl (q_fap fd103_2 rfl (by decide) (q_ldb (.sv (int u.to)) ag3 rfl rfl rfl (
          q_add rfl rfl (by omega) (q_callo (f186_o q j2 0 (u.from_ - 1)) cl186 rfl rfl rfl (q_call (f186_ok q j2 (u.to + 1) 1000000000000) cl186 rfl rfl ?_))))))))))
        by_cases hz : cutF (u.to + 1) 1000000000000 q = []
        · have e1 : al1 u q = cutF 0 (u.from_ - 1) q := by unfold al1; rw [hz, List.append_nil]
          rw [hz]
          refine q_appZ (k := 27) el81 rfl rfl rfl (q_ao _ rfl (run_nil (h11 _ ?_)))
          exact ⟨al1 u q, ⟨j1, by omega⟩, Le.trans (le_sub ⟨rfl, by rw [e1]; rfl, rfl, rfl, rfl, trivial⟩ trivial) (le_fz (n := 2) (T := 128) (l := (cutF 0 (u.from_ - 1) q).map eSample) 27 rfl)⟩
        · have e1 : (cutF 0 (u.from_ - 1) q).map eSample ++ (cutF (u.to + 1) 1000000000000 q).map eSample = (al1 u q).map eSample := by unfold al1; rw [List.map_append]
          have e2 : (cutF 0 (u.from_ - 1) q).length + (cutF (u.to + 1) 1000000000000 q).length = (al1 u q).length := by unfold al1; rw [List.length_append]
          refine q_app _ el81 ze128 rfl by128 rfl rfl rfl rfl rfl (by simpa using hz) (by intro s hs; obtain ⟨y, _, rfl⟩ := List.mem_map.1 hs; exact .inl ⟨_, rfl⟩) (by rw [List.length_map, List.length_map, e2]; unfold maxLen; omega) (by rw [List.length_map, List.length_map, e2]; omega) (q_ao _ rfl (run_nil (h11 _ ?_)))
          rw [e1]
          exact ⟨al1 u q, ⟨j1, by omega⟩, Le.trans (le_sub ⟨rfl, rfl, rfl, rfl, rfl, trivial⟩ trivial) (le_fz (n := 2) (T := 128) (l := (al1 u q).map eSample) 33 rfl)⟩
      · rw [if_neg (by simpa using c10)] at j1
        exact ok_skip ⟨q, ⟨j1, j2⟩, le_sub ⟨rfl, rfl, rfl, rfl, rfl, trivial⟩ trivial⟩
    · refine ok_last fun K12 h12 => ok_region rfl (
        q_add rfl rfl (by omega) (q_mv _ rfl (run_nil (h12 _ (⟨(k + 1, q'), by simp only; omega, J, le_same ⟨rfl, rfl, rfl, rfl, rfl, trivial⟩⟩)))))
  · rw [List.drop_of_length_le (by have : ¬ ((k : Int) < b.stones.length) := by simpa using c7
                                   omega)] at j1
    refine ok_exit (h3 _ ?_)
    refine ok_seq fun K13 h13 => ok_region rfl (q_mv (eSampleS q) rfl (q_as _ rfl (run_nil (h13 _ ?_)))); clear h13 K13
    exact ok_ret ⟨_, rfl, by rw [← j1]; rfl⟩
/-- Of series: the samples of a span, where matchers fit and there are any. -/
def selG (ms : List Matcher) (f t : Int) (s : Series) : Option Series := if 0 < (cutF f t s.samples).length ∧ matB ms s.labels = true then some ⟨s.labels, cutF f t s.samples⟩ else none
def selL (ms : List Matcher) (f t : Int) (l : List Series) : List Series := l.filterMap (selG ms f t)
theorem f130_ok (x : List Series) (hx : x.length ≤ 1048576 ∧ ∀ y ∈ x, SSeries y) (ms : List Matcher) (hms : ms.length ≤ 1048576) (hm : ∀ m ∈ ms, SMatcher m) (hg : ms.all gmB = true) (hv : ∀ y ∈ x, ∀ n, (valOf y.labels n).size ≤ 1048576) (f t : Int) : PFn Tryz.prog 130 [eSeriesS x, eMatcherS ms, int f, int t] (eSeriesS (selL ms f t x)) := by
  refine fn_ok' (n := 43) Tryz.func130 rfl rfl rfl (Nat.le_of_ble_eq_true rfl) rfl fun w0 O => ?_
  have hxl := hx.1
  refine ok_seq fun K1 h1 => ok_region rfl (q_as _ rfl (run_nil (h1 _ ?_))); clear h1 K1
  refine ok_seq fun K2 h2 => ok_region rfl (q_an (n := 2) 83 (by decide) rfl rfl rfl (run_nil (h2 _ ?_))); clear h2 K2
  refine ok_seq fun K3 h3 => ?_
  refine ok_seq fun K4 h4 => ok_region rfl (q_mv _ rfl (q_len eS31 rfl (q_mv _ rfl (run_nil (h4 _ ?_))))); clear h4 K4
  rw [List.length_map]
  refine ok_block ?_
  refine ok_loop (fun (v : Nat × List Series) => ⟨[(1, .sv (eMatcherS ms)), (2, .sv (int f)), (3, .sv (int t)), (9, .own 9), (13, .sv (eSeriesS x)), (14, .sv (int x.length)), (15, .sv (int v.1))], [(9, .row 2 83 (v.2.map eSeries))]⟩) (fun v => v.2 ++ selL ms f t (x.drop v.1) = selL ms f t x ∧ v.2.length ≤ v.1) (fun v => x.length - v.1) (0, []) ⟨rfl, Nat.le_refl _⟩ (le_sub ⟨rfl, rfl, rfl, rfl, rfl, rfl, rfl, trivial⟩ ⟨rfl, trivial⟩) (fun v J => ?_)
  obtain ⟨k, q⟩ := v
  obtain ⟨j1, j2⟩ := J
  simp only at j1 j2
  refine ok_seq fun K5 h5 => ok_region rfl (q_bin _ _ _ rfl rfl rfl (run_nil (h5 _ ?_))); clear h5 K5
  refine ok_seq fun K6 h6 => ?_
  refine ok_cond rfl (fun c7 => ?_) (fun c7 => ?_)
  · refine ok_skip (h6 _ ?_)
    have hk : k < x.length := by simpa using c7
    obtain ⟨u, hu⟩ := sget hk
    have nu := hx.2 u (smem hu)
    have hcl := cutF_len f t u.samples
    rw [show selL ms f t (x.drop k) = (selG ms f t u).toList ++ selL ms f t (x.drop (k + 1)) from fm_step _ hu] at j1
    refine ok_seq_join (fun (q' : List Series) => ⟨[(1, .sv (eMatcherS ms)), (2, .sv (int f)), (3, .sv (int t)), (9, .own 9), (13, .sv (eSeriesS x)), (14, .sv (int x.length)), (15, .sv (int k))], [(9, .row 2 83 (q'.map eSeries))]⟩) (fun q' => q' ++ selL ms f t (x.drop (k + 1)) = selL ms f t x ∧ q'.length ≤ k + 1) ?_ (fun q' J => ?_)
    · refine ok_block ?_
      refine ok_seq fun K8 h8 => ok_region rfl (q_ia el31 rfl rfl (by omega) (mget (f := eSeries) hu) (q_lds _ ag83 rfl sz83 (q_alloc _ ze83 rfl rfl rfl rfl (q_sts _ rfl rfl rfl sz83 (Nat.le_of_ble_eq_true rfl) rfl (run_nil (h8 _ ?_)))))); clear h8 K8
      refine ok_seq fun K9 h9 => ok_region rfl (q_fap fd83_1 rfl (by decide) (q_ldb _ ag81 rfl rfl rfl (q_mv _ rfl (q_mv _ rfl (q_call (f186_ok u.samples nu.2 f t) cl186 rfl rfl (q_as _ rfl (run_nil (h9 _ ?_)))))))); clear h9 K9
      refine ok_seq fun K10 h10 => ?_
      refine ok_region rfl (q_mv (eSampleS (cutF f t u.samples)) rfl (q_len eS81 rfl (q_bin _ _ _ rfl rfl rfl (q_mv _ rfl (q_and 4 4 rfl rfl rfl rfl rfl (fun hb32 =>
          q_mv (eMatcherS ms) rfl (q_fap fd83_0 rfl (by decide) (q_ldb (.sv (eLabelS u.labels)) ag80 rfl rfl rfl (q_call (f57_ok ms u.labels hms hm hg nu.1.1 (hv u (smem hu))) cl57 rfl rfl (run_nil ⟨rfl, rfl, rfl, rfl⟩))))) (
        run_nil (h10 _ ?_)))))))
      clear h10 K10
      rw [List.length_map]
      refine ok_cond rfl (fun c11 => ?_) (fun c11 => ?_)
      · have hgg : selG ms f t u = some ⟨u.labels, cutF f t u.samples⟩ := by
          unfold selG
          rw [Bool.and_eq_true] at c11
          rw [if_pos ⟨by simpa using c11.1, c11.2⟩]
        rw [hgg] at j1
        refine ok_last fun K12 h12 => ok_region rfl (
          q_mo _ rfl (q_fap fd83_0 rfl (by decide) (q_ldb (.sv (eLabelS u.labels)) ag80 rfl rfl rfl (q_call (PFnR.toP (f140_t u.labels nu.1.1)) cl140 rfl rfl (q_mv (eSampleS (cutF f t u.samples)) rfl (q_bld [eLabelS u.labels, eSampleS (cutF f t u.samples)] bl83P rfl rfl rfl (q_lit1 (n := 2) _ (eSeries ⟨u.labels, cutF f t u.samples⟩) el31 ze83 (by decide) (by decide) rfl (.inl ⟨_, rfl⟩) rfl (
          q_app (q := [eSeries ⟨u.labels, cutF f t u.samples⟩]) _ el31 ze83 rfl by83 rfl rfl rfl rfl rfl (by simp) (by intro s hs; simp at hs; subst hs; exact .inl ⟨_, rfl⟩) (by rw [List.length_map]; show q.length + 1 ≤ maxLen; unfold maxLen; omega) (by rw [List.length_map]; show (q.length + 1) * 48 ≤ _; omega) (q_ao _ rfl (run_nil (h12 _ ⟨q ++ [⟨u.labels, cutF f t u.samples⟩], ⟨by rw [List.append_assoc]; exact j1, by rw [List.length_append]; simp; omega⟩, by rw [List.map_append]; exact le_rek 9 40 ⟨rfl, rfl, rfl, rfl, rfl, rfl, rfl, trivial⟩ ⟨rfl, trivial⟩ rfl rfl rfl rfl ⟨rfl, trivial⟩⟩)))))))))))
      · have hgg : selG ms f t u = none := by
          unfold selG
          rw [if_neg (fun h => by rw [Bool.and_eq_false_iff] at c11; rcases c11 with c | c <;> simp_all)]
        rw [hgg] at j1
        exact ok_skip ⟨q, ⟨j1, by omega⟩, le_sub ⟨rfl, rfl, rfl, rfl, rfl, rfl, rfl, trivial⟩ ⟨rfl, trivial⟩⟩
    · refine ok_last fun K13 h13 => ok_region rfl (
        q_add rfl rfl (by omega) (q_mv _ rfl (run_nil (h13 _ (⟨(k + 1, q'), by simp only; omega, J, le_sub ⟨rfl, rfl, rfl, rfl, rfl, rfl, rfl, trivial⟩ ⟨rfl, trivial⟩⟩)))))
  · rw [List.drop_of_length_le (by have : ¬ ((k : Int) < x.length) := by simpa using c7
                                   omega)] at j1
    refine ok_exit (h3 _ ?_)
    refine ok_seq fun K14 h14 => ok_region rfl (q_mo _ rfl (q_ao _ rfl (run_nil (h14 _ ?_)))); clear h14 K14
    exact ok_ret ⟨_, rfl, by rw [← j1]; simp [selL]; rfl⟩
/-- A block's series that matchers fit, each without what its stones take. -/
def aliG (b : Block) (ms : List Matcher) (s : Series) : Option Series := if matB ms s.labels = true then some ⟨s.labels, aliveF s.labels b.stones s.samples⟩ else none
def aliL (b : Block) (ms : List Matcher) (l : List Series) : List Series := l.filterMap (aliG b ms)
theorem aliL_S {b : Block} (hst : ∀ t ∈ b.stones, 0 ≤ t.from_ ∧ t.from_ ≤ t.to ∧ t.to ≤ 1000000000000) {ms : List Matcher} {l : List Series} (h : l.length ≤ 1048576 ∧ ∀ y ∈ l, SSeries y) : (aliL b ms l).length ≤ 1048576 ∧ ∀ y ∈ aliL b ms l, SSeries y := by
  refine ⟨Nat.le_trans (fm_len _ _) h.1, fun y hy => ?_⟩
  obtain ⟨s, hs, hg⟩ := List.mem_filterMap.1 hy
  unfold aliG at hg
  split at hg
  · cases hg
    exact ⟨(h.2 s hs).1, Nat.le_trans (aliveF_len _ _ _ fun t ht => (hst t ht).2.1) (h.2 s hs).2⟩
  · cases hg
theorem f68_ok (b : Block) (hb : SBlock b) (hst : ∀ t ∈ b.stones, 0 ≤ t.from_ ∧ t.from_ ≤ t.to ∧ t.to ≤ 1000000000000) (ms : List Matcher) (hms : ms.length ≤ 1048576) (hm : ∀ m ∈ ms, SMatcher m) (hg : ms.all gmB = true) (hv : ∀ y ∈ b.series, ∀ n, (valOf y.labels n).size ≤ 1048576) (f t : Int) : PFn Tryz.prog 68 [eBlock b, eMatcherS ms, int f, int t] (eSeriesS (selL [] f t (aliL b ms b.series))) := by
  refine fn_ok' (n := 37) Tryz.func68 rfl rfl rfl (Nat.le_of_ble_eq_true rfl) rfl fun w0 O => ?_
  have hxl := hb.1.1
  refine ok_seq fun K1 h1 => ok_region rfl (q_boxs _ rfl (Nat.zero_lt_succ _) (q_as _ rfl (run_nil (h1 _ ?_)))); clear h1 K1
  refine ok_seq fun K2 h2 => ok_region rfl (q_an (n := 2) 83 (by decide) rfl rfl rfl (run_nil (h2 _ ?_))); clear h2 K2
  refine ok_seq fun K3 h3 => ?_
  refine ok_seq fun K4 h4 => ok_region rfl (q_fa _ fd34_3 rfl rfl (by decide) (q_ld _ ag31 rfl rfl (q_len eS31 rfl (q_mv _ rfl (run_nil (h4 _ ?_)))))); clear h4 K4
  rw [List.length_map]
  refine ok_block ?_
  refine ok_loop (fun (v : Nat × List Series) => ⟨[(1, .sv (eMatcherS ms)), (2, .sv (int f)), (3, .sv (int t)), (4, .sv (.ptr (eBlock b))), (9, .own 9), (13, .sv (eSeriesS b.series)), (14, .sv (int b.series.length)), (15, .sv (int v.1))], [(9, .row 2 83 (v.2.map eSeries))]⟩) (fun v => v.2 ++ aliL b ms (b.series.drop v.1) = aliL b ms b.series ∧ v.2.length ≤ v.1) (fun v => b.series.length - v.1) (0, []) ⟨rfl, Nat.le_refl _⟩ (le_sub ⟨rfl, rfl, rfl, rfl, rfl, rfl, rfl, rfl, trivial⟩ ⟨rfl, trivial⟩) (fun v J => ?_)
  obtain ⟨k, q⟩ := v
  obtain ⟨j1, j2⟩ := J
  simp only at j1 j2
  refine ok_seq fun K5 h5 => ok_region rfl (q_bin _ _ _ rfl rfl rfl (run_nil (h5 _ ?_))); clear h5 K5
  refine ok_seq fun K6 h6 => ?_
  refine ok_cond rfl (fun c7 => ?_) (fun c7 => ?_)
  · refine ok_skip (h6 _ ?_)
    have hk : k < b.series.length := by simpa using c7
    obtain ⟨u, hu⟩ := sget hk
    have nu := hb.1.2 u (smem hu)
    rw [show aliL b ms (b.series.drop k) = (aliG b ms u).toList ++ aliL b ms (b.series.drop (k + 1)) from fm_step _ hu] at j1
    refine ok_seq_join (fun (q' : List Series) => ⟨[(1, .sv (eMatcherS ms)), (2, .sv (int f)), (3, .sv (int t)), (4, .sv (.ptr (eBlock b))), (9, .own 9), (13, .sv (eSeriesS b.series)), (14, .sv (int b.series.length)), (15, .sv (int k))], [(9, .row 2 83 (q'.map eSeries))]⟩) (fun q' => q' ++ aliL b ms (b.series.drop (k + 1)) = aliL b ms b.series ∧ q'.length ≤ k + 1) ?_ (fun q' J => ?_)
    · refine ok_block ?_
      refine ok_seq fun K8 h8 => ok_region rfl (q_ia el31 rfl rfl (by omega) (mget (f := eSeries) hu) (q_lds _ ag83 rfl sz83 (q_alloc _ ze83 rfl rfl rfl rfl (q_sts _ rfl rfl rfl sz83 (Nat.le_of_ble_eq_true rfl) rfl (run_nil (h8 _ ?_)))))); clear h8 K8
      refine ok_seq fun K9 h9 => ok_region rfl (q_mv _ rfl (q_fap fd83_0 rfl (by decide) (q_ldb (.sv (eLabelS u.labels)) ag80 rfl rfl rfl (q_call (f57_ok ms u.labels hms hm hg nu.1.1 (hv u (smem hu))) cl57 rfl rfl (run_nil (h9 _ ?_)))))); clear h9 K9
      refine ok_cond rfl (fun c10 => ?_) (fun c10 => ?_)
      · have hgg : aliG b ms u = some ⟨u.labels, aliveF u.labels b.stones u.samples⟩ := by unfold aliG; rw [if_pos c10]
        rw [hgg] at j1
        refine ok_last fun K11 h11 => ok_region_i (by kernel_rfl) (by kernel_rfl) rfl (
          q_mo _ rfl (q_fap fd83_0 rfl (by decide) (q_ldb (.sv (eLabelS u.labels)) ag80 rfl rfl rfl (q_lds _ ag34 rfl sz34 (q_ldbs ag83 rfl rfl sz83 rfl rfl (q_call (f129_ok b hb hst u nu) cl129 rfl rfl (
          q_bld [eLabelS u.labels, eSampleS (aliveF u.labels b.stones u.samples)] bl83P rfl rfl rfl (q_lit1 (n := 2) _ (eSeries ⟨u.labels, aliveF u.labels b.stones u.samples⟩) el31 ze83 (by decide) (by decide) rfl (.inl ⟨_, rfl⟩) rfl (q_app (q := [eSeries ⟨u.labels, aliveF u.labels b.stones u.samples⟩]) _ el31 ze83 rfl by83 rfl rfl rfl rfl rfl (by simp) (by intro s hs; simp at hs; subst hs; exact .inl ⟨_, rfl⟩) (by rw [List.length_map]; show q.length + 1 ≤ maxLen; unfold maxLen; omega) (by rw [List.length_map]; show (q.length + 1) * 48 ≤ _; omega) (
          q_ao _ rfl (run_nil (h11 _ ⟨q ++ [⟨u.labels, aliveF u.labels b.stones u.samples⟩], ⟨by rw [List.append_assoc]; exact j1, by rw [List.length_append]; simp; omega⟩, by rw [List.map_append]; exact le_rek 9 31 ⟨rfl, rfl, rfl, rfl, rfl, rfl, rfl, rfl, trivial⟩ ⟨rfl, trivial⟩ rfl rfl rfl rfl ⟨rfl, trivial⟩⟩))))))))))))
      · have hgg : aliG b ms u = none := by unfold aliG; rw [if_neg (by rw [c10]; simp)]
        rw [hgg] at j1
        exact ok_skip ⟨q, ⟨j1, by omega⟩, le_sub ⟨rfl, rfl, rfl, rfl, rfl, rfl, rfl, rfl, trivial⟩ ⟨rfl, trivial⟩⟩
    · refine ok_last fun K12 h12 => ok_region rfl (
        q_add rfl rfl (by omega) (q_mv _ rfl (run_nil (h12 _ (⟨(k + 1, q'), by simp only; omega, J, le_sub ⟨rfl, rfl, rfl, rfl, rfl, rfl, rfl, rfl, trivial⟩ ⟨rfl, trivial⟩⟩)))))
  · rw [List.drop_of_length_le (by have : ¬ ((k : Int) < b.series.length) := by simpa using c7
                                   omega)] at j1
    have j3 : q = aliL b ms b.series := by rw [← j1]; simp [aliL]
    have hS := aliL_S hst (ms := ms) hb.1
    have hV : ∀ y ∈ aliL b ms b.series, ∀ n, (valOf y.labels n).size ≤ 1048576 := fun y hy => by
      obtain ⟨s, hs, hg⟩ := List.mem_filterMap.1 hy
      unfold aliG at hg
      split at hg
      · cases hg; exact hv s hs
      · cases hg
    refine ok_exit (h3 _ ?_)
    refine Ok.le (le_fz (n := 2) (T := 83) (l := q.map eSeries) 9 rfl) ?_
    rw [j3]
    refine ok_seq fun K13 h13 => ok_region rfl (q_mv (eSeriesS (aliL b ms b.series)) rfl (q_mv _ rfl (q_mv _ rfl (q_call (PFn.weak (bs := [eSeriesS (aliL b ms b.series), .raw (.slice none 0 0), int f, int t]) (f130_ok _ hS [] (Nat.zero_le _) (by simp) rfl hV f t) rfl (fun i s h => by
      match i, h with
      | 0, h => exact ⟨s, h, fun _ _ _ h => h⟩
      | 1, h => cases h; exact ⟨_, rfl, fun _ _ _ h => rep_nil0 h⟩
      | 2, h => exact ⟨s, h, fun _ _ _ h => h⟩
      | 3, h => exact ⟨s, h, fun _ _ _ h => h⟩
      | n + 4, h => simp at h)) cl130 rfl rfl (q_as _ rfl (run_nil (h13 _ ?_))))))); clear h13 K13
    exact ok_ret ⟨_, rfl, rfl⟩
end Go.Ring
