/- What of a series no stone takes, what is chosen of series and of a block: the reference. No condition beyond the lengths. -/
import Derived.Test.YtanilephcohjkaaGreatB2
set_option maxRecDepth 100000
set_option linter.unusedVariables false
set_option linter.unusedSimpArgs false
namespace Go.Ring
open Go Go.RowKit Go.Eager Go.Abs Go.Proofs
theorem rep_nil0 {w : World} {O : Nat → Prop} {n : Nat} {v : Value} (h : Rep w O (.raw (.slice none 0 0)) v) : Rep w O (.sl n []) v := by
  rw [rep_raw' h]; exact .nil n none 0
/-- Of series: the samples of a span, where matchers fit and there are any. -/
def selG (ms : List Matcher) (f t : Int) (s : Series) : Option Series := if 0 < (cutF f t s.samples).length ∧ matB ms s.labels = true then some ⟨s.labels, cutF f t s.samples⟩ else none
def selL (ms : List Matcher) (f t : Int) (l : List Series) : List Series := l.filterMap (selG ms f t)
theorem selL_S {ms : List Matcher} {f t : Int} {l : List Series} (h : l.length ≤ 1048576 ∧ ∀ y ∈ l, SSeries y) : (selL ms f t l).length ≤ 1048576 ∧ ∀ y ∈ selL ms f t l, SSeries y := by
  refine ⟨Nat.le_trans (fm_len _ _) h.1, fun y hy => ?_⟩
  obtain ⟨s, hs, hg⟩ := List.mem_filterMap.1 hy
  unfold selG at hg
  split at hg
  · cases hg
    exact ⟨(h.2 s hs).1, Nat.le_trans (cutF_len f t _) (h.2 s hs).2⟩
  · cases hg
theorem f94_ok (x : List Series) (hx : x.length ≤ 1048576 ∧ ∀ y ∈ x, SSeries y) (ms : List Matcher) (hms : ms.length ≤ 1048576) (hm : ∀ m ∈ ms, SMatcher m) (hg : ms.all gmB = true) (hv : ∀ y ∈ x, ∀ n, (valOf y.labels n).size ≤ 1048576) (f t : Int) : PFn Tryz.prog 94 [eSeriesS x, eMatcherS ms, int f, int t] (eSeriesS (selL ms f t x)) := by
  refine fn_ok' (n := 43) Tryz.func94 rfl rfl rfl (Nat.le_of_ble_eq_true rfl) rfl fun w0 O => ?_
  have hxl := hx.1
  refine ok_seq fun K1 h1 => ok_region rfl (q_as _ rfl (run_nil (h1 _ ?_))); clear h1 K1
  refine ok_seq fun K2 h2 => ok_region rfl (q_an (n := 2) 125 (by decide) rfl rfl rfl (run_nil (h2 _ ?_))); clear h2 K2
  refine ok_seq fun K3 h3 => ?_
  refine ok_seq fun K4 h4 => ok_region rfl (q_mv _ rfl (q_len eS63 rfl (q_mv _ rfl (run_nil (h4 _ ?_))))); clear h4 K4
  rw [List.length_map]
  refine ok_block ?_
  refine ok_loop (fun (v : Nat × List Series) => ⟨[(1, .sv (eMatcherS ms)), (2, .sv (int f)), (3, .sv (int t)), (9, .own 9), (13, .sv (eSeriesS x)), (14, .sv (int x.length)), (15, .sv (int v.1))], [(9, .row 2 125 (v.2.map eSeries))]⟩) (fun v => v.2 ++ selL ms f t (x.drop v.1) = selL ms f t x ∧ v.2.length ≤ v.1) (fun v => x.length - v.1) (0, []) ⟨rfl, Nat.le_refl _⟩ (le_sub ⟨rfl, rfl, rfl, rfl, rfl, rfl, rfl, trivial⟩ ⟨rfl, trivial⟩) (fun v J => ?_)
  obtain ⟨k, q⟩ := v
  obtain ⟨j1, j2⟩ := J
  simp only at j1 j2
  refine ok_seq fun K5 h5 => ok_region rfl (q_bin _ _ _ rfl rfl rfl (run_nil (h5 _ ?_))); clear h5 K5
  refine ok_seq fun K6 h6 => ?_
  refine ok_cond rfl (fun c7 => ?_) (fun c7 => ?_)
  · refine ok_skip (h6 _ ?_)
    have hk : k < x.length := by simpa using c7
    obtain ⟨u, hu⟩ := sget hk
    have nu := hx.2 u (smem hu)
    have hcl := cutF_len f t u.samples
    rw [show selL ms f t (x.drop k) = (selG ms f t u).toList ++ selL ms f t (x.drop (k + 1)) from fm_step _ hu] at j1
    refine ok_seq_join (fun (q' : List Series) => ⟨[(1, .sv (eMatcherS ms)), (2, .sv (int f)), (3, .sv (int t)), (9, .own 9), (13, .sv (eSeriesS x)), (14, .sv (int x.length)), (15, .sv (int k))], [(9, .row 2 125 (q'.map eSeries))]⟩) (fun q' => q' ++ selL ms f t (x.drop (k + 1)) = selL ms f t x ∧ q'.length ≤ k + 1) ?_ (fun q' J => ?_)
    · refine ok_block ?_
      refine ok_seq fun K8 h8 => ok_region rfl (q_ia el63 rfl rfl (by omega) (mget (f := eSeries) hu) (q_lds _ ag125 rfl sz125 (q_alloc _ ze125 rfl rfl rfl rfl (q_sts _ rfl rfl rfl sz125 (Nat.le_of_ble_eq_true rfl) rfl (run_nil (h8 _ ?_)))))); clear h8 K8
      refine ok_seq fun K9 h9 => ok_region rfl (q_fap fd125_1 rfl (by decide) (q_ldb _ ag123 rfl rfl rfl (q_mv _ rfl (q_mv _ rfl (q_call (f118_ok u.samples nu.2 f t) cl118 rfl rfl (q_as _ rfl (run_nil (h9 _ ?_)))))))); clear h9 K9
      refine ok_seq fun K10 h10 => ?_
      refine ok_region rfl (q_mv (eSampleS (cutF f t u.samples)) rfl (q_len eS123 rfl (q_bin _ _ _ rfl rfl rfl (q_mv _ rfl (q_and 4 4 rfl rfl rfl rfl rfl (fun hb32 =>
          q_mv (eMatcherS ms) rfl (q_fap fd125_0 rfl (by decide) (q_ldb (.sv (eLabelS u.labels)) ag78 rfl rfl rfl (q_call (f174_ok ms u.labels hms hm hg nu.1.1 (hv u (smem hu))) cl174 rfl rfl (run_nil ⟨rfl, rfl, rfl, rfl⟩))))) (
        run_nil (h10 _ ?_)))))))
      clear h10 K10
      rw [List.length_map]
      refine ok_cond rfl (fun c11 => ?_) (fun c11 => ?_)
      · have hgg : selG ms f t u = some ⟨u.labels, cutF f t u.samples⟩ := by
          unfold selG
          rw [Bool.and_eq_true] at c11
          rw [if_pos ⟨by simpa using c11.1, c11.2⟩]
        rw [hgg] at j1
        refine ok_last fun K12 h12 => ok_region rfl (
          q_mo _ rfl (q_fap fd125_0 rfl (by decide) (q_ldb (.sv (eLabelS u.labels)) ag78 rfl rfl rfl (q_call (PFnR.toP (f153_t u.labels nu.1.1)) cl153 rfl rfl (q_mv (eSampleS (cutF f t u.samples)) rfl (q_bld [eLabelS u.labels, eSampleS (cutF f t u.samples)] bl83P rfl rfl rfl (q_lit1 (n := 2) _ (eSeries ⟨u.labels, cutF f t u.samples⟩) el63 ze125 (by decide) (by decide) rfl (.inl ⟨_, rfl⟩) rfl (
          q_app (q := [eSeries ⟨u.labels, cutF f t u.samples⟩]) _ el63 ze125 rfl by125 rfl rfl rfl rfl rfl (by simp) (by intro s hs; simp at hs; subst hs; exact .inl ⟨_, rfl⟩) (by rw [List.length_map]; show q.length + 1 ≤ maxLen; unfold maxLen; omega) (by rw [List.length_map]; show (q.length + 1) * 48 ≤ _; omega) (q_ao _ rfl (run_nil (h12 _ ⟨q ++ [⟨u.labels, cutF f t u.samples⟩], ⟨by rw [List.append_assoc]; exact j1, by rw [List.length_append]; simp; omega⟩, by rw [List.map_append]; exact le_rek 9 40 ⟨rfl, rfl, rfl, rfl, rfl, rfl, rfl, trivial⟩ ⟨rfl, trivial⟩ rfl rfl rfl rfl ⟨rfl, trivial⟩⟩)))))))))))
      · have hgg : selG ms f t u = none := by
          unfold selG
          rw [if_neg (fun h => by rw [Bool.and_eq_false_iff] at c11; rcases c11 with c | c <;> simp_all)]
        rw [hgg] at j1
        exact ok_skip ⟨q, ⟨j1, by omega⟩, le_sub ⟨rfl, rfl, rfl, rfl, rfl, rfl, rfl, trivial⟩ ⟨rfl, trivial⟩⟩
    · refine ok_last fun K13 h13 => ok_region rfl (
        q_add rfl rfl (by omega) (q_mv _ rfl (run_nil (h13 _ (⟨(k + 1, q'), by simp only; omega, J, le_sub ⟨rfl, rfl, rfl, rfl, rfl, rfl, rfl, trivial⟩ ⟨rfl, trivial⟩⟩)))))
  · rw [List.drop_of_length_le (by have : ¬ ((k : Int) < x.length) := by simpa using c7
                                   omega)] at j1
    refine ok_exit (h3 _ ?_)
    refine ok_seq fun K14 h14 => ok_region rfl (q_mo _ rfl (q_ao _ rfl (run_nil (h14 _ ?_)))); clear h14 K14
    exact ok_ret ⟨_, rfl, by rw [← j1]; simp [selL]; rfl⟩
end Go.Ring
