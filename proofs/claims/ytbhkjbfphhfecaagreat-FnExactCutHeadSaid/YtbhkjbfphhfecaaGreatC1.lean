/- What a good head is: the reference and the program. No condition beyond the lengths. -/
import Derived.Test.YtbhkjbfphhfecaaGreatB4
set_option maxRecDepth 100000
set_option linter.unusedVariables false
set_option linter.unusedSimpArgs false
namespace Go.Ring
open Go Go.RowKit Go.Eager Go.Abs Go.Proofs
def LastAt (h : Head) (x : Series) : Prop := ∀ s, x.samples[x.samples.length - 1]? = some s → s.time ≤ h.newest
def HeadOk (h : Head) : Prop := TimeOk h.window ∧ 0 ≤ h.limit ∧ h.limit ≤ 200 ∧ SeriesOk h.series ∧ (h.series.length : Int) ≤ h.limit ∧ -1 ≤ h.newest ∧ h.newest ≤ 1000000000000 ∧ ∀ (i : Nat) (x : Series), h.series[i]? = some x → LastAt h x
theorem f163_ok (w l : Int) : PFn Tryz.prog 163 [int w, int l] (bool (pB (TimeOk w) && decide (0 ≤ l) && decide (l ≤ 200))) := by
  refine fn_ok' (n := 15) Tryz.func163 rfl rfl rfl (Nat.le_of_ble_eq_true rfl) rfl fun w0 O => ?_
  refine ok_seq fun K1 h1 => ok_region rfl (q_as _ rfl (run_nil (h1 _ ?_))); clear h1 K1
  refine ok_seq fun K2 h2 => ?_
  refine ok_region rfl (q_mv _ rfl (q_call (f107_ok w) cl107 rfl rfl (q_mv _ rfl (q_and 2 2 rfl rfl rfl rfl rfl (fun hb10 =>
      q_mv _ rfl (q_bin _ _ _ rfl rfl rfl (run_nil ⟨rfl, rfl, rfl, rfl⟩))) (
    q_mv _ rfl (q_and 2 2 rfl rfl rfl rfl rfl (fun hb14 =>
      q_mv _ rfl (q_bin _ _ _ rfl rfl rfl (run_nil ⟨rfl, rfl, rfl, rfl⟩))) (
    q_as _ rfl (run_nil (h2 _ ?_)))))))))
  clear h2 K2
  exact ok_ret ⟨_, rfl, rfl⟩
theorem f103_ok (h : Head) (hh : SHead h) : PFn Tryz.prog 103 [eHead h] (bool (pB (HeadOk h))) := by
  obtain ⟨hh1, hh2⟩ := id hh
  refine fn_ok' (n := 63) Tryz.func103 rfl rfl rfl (Nat.le_of_ble_eq_true rfl) rfl fun w0 O => ?_
  refine ok_seq fun K1 h1 => ok_region rfl (q_boxs _ rfl (Nat.zero_lt_succ _) (q_as _ rfl (run_nil (h1 _ ?_)))); clear h1 K1
  refine ok_seq fun K2 h2 => ?_
  refine ok_seq fun K3 h3 => ?_
  refine ok_region rfl (q_fa _ fd66_0 rfl rfl (by decide) (q_ld _ ag3 rfl rfl (q_call (f104_ok h.window) cl104 rfl rfl (q_un _ _ rfl rfl (q_mv _ rfl (q_or 3 3 rfl rfl rfl rfl rfl (fun hb13 =>
      q_fa _ fd66_1 rfl rfl (by decide) (q_ld _ ag3 rfl rfl (q_bin _ _ _ rfl rfl rfl (run_nil ⟨rfl, rfl, rfl, rfl⟩)))) (
    q_mv _ rfl (q_or 3 3 rfl rfl rfl rfl rfl (fun hb18 =>
      q_fa _ fd66_1 rfl rfl (by decide) (q_ld _ ag3 rfl rfl (q_bin _ _ _ rfl rfl rfl (run_nil ⟨rfl, rfl, rfl, rfl⟩)))) (
    q_mv _ rfl (q_or 4 4 rfl rfl rfl rfl rfl (fun hb24 =>
      q_fa _ fd66_3 rfl rfl (by decide) (q_ld _ ag31 rfl rfl (q_call (f87_ok h.series hh) cl87 rfl rfl (q_un _ _ rfl rfl (run_nil ⟨rfl, rfl, rfl, rfl⟩))))) (
    q_mv _ rfl (q_or 6 6 rfl rfl rfl rfl rfl (fun hb32 =>
      q_fa _ fd66_3 rfl rfl (by decide) (q_ld _ ag31 rfl rfl (q_len eS31 rfl (q_fa _ fd66_1 rfl rfl (by decide) (q_ld _ ag3 rfl rfl (q_bin _ _ _ rfl rfl rfl (run_nil ⟨rfl, rfl, rfl, rfl⟩))))))) (
    q_mv _ rfl (q_or 3 3 rfl rfl rfl rfl rfl (fun hb37 =>
      q_fa _ fd66_2 rfl rfl (by decide) (q_ld _ ag3 rfl rfl (q_bin _ _ _ rfl rfl rfl (run_nil ⟨rfl, rfl, rfl, rfl⟩)))) (
    q_mv _ rfl (q_or 3 3 rfl rfl rfl rfl rfl (fun hb42 =>
      q_fa _ fd66_2 rfl rfl (by decide) (q_ld _ ag3 rfl rfl (q_bin _ _ _ rfl rfl rfl (run_nil ⟨rfl, rfl, rfl, rfl⟩)))) (
    run_nil (h3 _ ?_))))))))))))))))))
  clear h3 K3
  simp only [List.length_map]
  refine ok_cond rfl (fun c4 => ?_) (fun c4 => ?_)
  · refine ok_seq fun K5 h5 => ?_
    refine ok_region rfl (q_as _ rfl (run_nil (h5 _ ?_)))
    clear h5 K5
    refine ok_ret ⟨_, rfl, ?_⟩
    rw [pB_false]; · rfl
    rintro ⟨d1, d2, d3, d4, d5, d6, d7, _⟩
    rw [pB_true d1, pB_true d4] at c4
    simp only [Bool.not_true, Bool.false_or, Bool.or_false, Bool.or_eq_true, decide_eq_true_eq] at c4
    omega
  · refine ok_skip (h2 _ ?_)
    simp only [Bool.or_eq_false_iff, Bool.not_eq_false', decide_eq_false_iff_not] at c4
    obtain ⟨⟨⟨⟨⟨⟨d1, d2⟩, d3⟩, d4⟩, d5⟩, d6⟩, d7⟩ := c4
    replace d1 := of_pB d1
    replace d4 := of_pB d4
    refine ok_seq fun K6 h6 => ?_
    refine ok_seq fun K7 h7 => ok_region rfl (q_fa _ fd66_3 rfl rfl (by decide) (q_ld _ ag31 rfl rfl (q_len eS31 rfl (q_mv _ rfl (run_nil (h7 _ ?_)))))); clear h7 K7
    simp only [List.length_map]
    refine ok_block ?_
    refine ok_loop (fun (k : Nat) => ⟨[(1, .sv (.ptr (eHead h))), (44, .sv (eSeriesS h.series)), (45, .sv (int h.series.length)), (46, .sv (int k))], []⟩) (fun k => ∀ i x, i < k → h.series[i]? = some x → LastAt h x) (fun k => h.series.length - k) 0 (fun i y h => by omega) (le_same ⟨rfl, rfl, rfl, rfl, trivial⟩) (fun k J => ?_)
    refine ok_seq fun K8 h8 => ok_region rfl (q_bin _ _ _ rfl rfl rfl (run_nil (h8 _ ?_))); clear h8 K8
    refine ok_seq fun K9 h9 => ?_
    refine ok_cond rfl (fun c10 => ?_) (fun c10 => ?_)
    · refine ok_skip (h9 _ ?_)
      have hk : k < h.series.length := by simpa using c10
      obtain ⟨u, hu⟩ := sget hk
      have h0 := (d4.2 k u hu).2.2.2.1
      have nu := (hh2 u (smem hu)).2
      obtain ⟨la, hla⟩ := sget (l := u.samples) (i := u.samples.length - 1) (by omega)
      refine ok_seq fun K11 h11 => ?_
      refine ok_block ?_
      refine ok_seq fun K12 h12 => ok_region rfl (q_ia el31 rfl rfl (by omega) (mget hu) (q_lds _ ag83 rfl sz83 (q_alloc _ ze83 rfl rfl rfl rfl (q_sts _ rfl rfl rfl sz83 (Nat.le_of_ble_eq_true rfl) rfl (run_nil (h12 _ ?_)))))); clear h12 K12
      refine ok_seq fun K13 h13 => ?_
      refine ok_region_i (by kernel_rfl) (by kernel_rfl) rfl (
        q_fap fd83_1 rfl (by decide) (q_ldb _ ag81 rfl rfl rfl (q_fap fd83_1 rfl (by decide) (q_ldb _ ag81 rfl rfl rfl (q_len eS81 rfl (q_sub rfl rfl (by rw [List.length_map]; omega) (q_ia el81 rfl rfl (by rw [List.length_map]; omega) (lget hla h0) (
        q_fa _ fd128_0 rfl rfl (by decide) (q_ld _ ag3 rfl rfl (q_fa _ fd66_2 rfl rfl (by decide) (q_ld _ ag3 rfl rfl (q_bin _ _ _ rfl rfl rfl (run_nil (h13 _ ?_))))))))))))))
      clear h13 K13
      refine ok_cond rfl (fun c14 => ?_) (fun c14 => ?_)
      · refine ok_seq fun K15 h15 => ?_
        refine ok_region rfl (q_as _ rfl (run_nil (h15 _ ?_)))
        clear h15 K15
        refine ok_ret ⟨_, rfl, ?_⟩
        rw [pB_false]; · rfl
        rintro h
        have := h.2.2.2.2.2.2.2 k u hu la hla
        simp only [decide_eq_true_eq] at c14
        omega
      · refine ok_skip (h11 _ ?_)
        refine ok_region rfl (q_add rfl rfl (by omega) (q_mv _ rfl (run_nil (⟨k + 1, by omega, ?_, le_sub ⟨rfl, rfl, rfl, rfl, trivial⟩ trivial⟩))))
        refine at_step (P := fun _ x => LastAt h x) J hu fun s hs => ?_
        rw [hla] at hs; cases hs
        simp only [decide_eq_false_iff_not] at c14
        omega
    · refine ok_exit (h6 _ ?_)
      have dS := at_all (P := fun _ x => LastAt h x) J (by simpa using c10)
      refine ok_seq fun K17 h17 => ok_region rfl (q_as _ rfl (run_nil (h17 _ ?_))); clear h17 K17
      refine ok_ret ⟨_, rfl, ?_⟩
      rw [pB_true ⟨d1, by omega, by omega, d4, by omega, by omega, by omega, dS⟩]; rfl
theorem f106_ok (h : Head) (hh : SHead h) : PFn Tryz.prog 106 [eHead h] (bool (pB (HeadOk h))) := by
  obtain ⟨hh1, hh2⟩ := id hh
  refine fn_ok' (n := 56) Tryz.func106 rfl rfl rfl (Nat.le_of_ble_eq_true rfl) rfl fun w0 O => ?_
  refine ok_seq fun K1 h1 => ok_region rfl (q_boxs _ rfl (Nat.zero_lt_succ _) (q_as _ rfl (run_nil (h1 _ ?_)))); clear h1 K1
  refine ok_seq fun K2 h2 => ?_
  refine ok_seq fun K3 h3 => ?_
  refine ok_region rfl (q_fa _ fd66_0 rfl rfl (by decide) (q_ld _ ag3 rfl rfl (q_fa _ fd66_1 rfl rfl (by decide) (q_ld _ ag3 rfl rfl (q_call (f163_ok h.window h.limit) cl163 rfl rfl (q_un _ _ rfl rfl (
    q_mv _ rfl (q_or 4 4 rfl rfl rfl rfl rfl (fun hb16 =>
      q_fa _ fd66_3 rfl rfl (by decide) (q_ld _ ag31 rfl rfl (q_call (f90_ok h.series hh) cl90 rfl rfl (q_un _ _ rfl rfl (run_nil ⟨rfl, rfl, rfl, rfl⟩))))) (
    q_mv _ rfl (q_or 6 6 rfl rfl rfl rfl rfl (fun hb24 =>
      q_fa _ fd66_3 rfl rfl (by decide) (q_ld _ ag31 rfl rfl (q_len eS31 rfl (q_fa _ fd66_1 rfl rfl (by decide) (q_ld _ ag3 rfl rfl (q_bin _ _ _ rfl rfl rfl (run_nil ⟨rfl, rfl, rfl, rfl⟩))))))) (
    q_mv _ rfl (q_or 9 5 rfl rfl rfl rfl rfl (fun hb35 =>
      q_fa _ fd66_2 rfl rfl (by decide) (q_ld _ ag3 rfl rfl (q_bin _ _ _ rfl rfl rfl (q_mv _ rfl (q_and 4 4 rfl rfl rfl rfl rfl (fun hb34 =>
        q_fa _ fd66_2 rfl rfl (by decide) (q_ld _ ag3 rfl rfl (q_call (f107_ok h.newest) cl107 rfl rfl (q_un _ _ rfl rfl (run_nil ⟨rfl, rfl, rfl, rfl⟩))))) (
      run_nil ⟨rfl, rfl, rfl, rfl⟩)))))) (
    run_nil (h3 _ ?_))))))))))))))
  clear h3 K3
  simp only [List.length_map]
  refine ok_cond rfl (fun c4 => ?_) (fun c4 => ?_)
  · refine ok_seq fun K5 h5 => ?_
    refine ok_region rfl (q_as _ rfl (run_nil (h5 _ ?_)))
    clear h5 K5
    refine ok_ret ⟨_, rfl, ?_⟩
    rw [pB_false]; · rfl
    rintro ⟨d1, d2, d3, d4, d5, d6, d7, _⟩
    rw [pB_true d1, pB_true d4] at c4
    simp only [Bool.not_true, Bool.false_or, Bool.true_and, Bool.or_false, Bool.or_eq_true, Bool.and_eq_true, Bool.not_eq_true', Bool.and_eq_false_iff, decide_eq_true_eq, decide_eq_false_iff_not, bne_iff_ne] at c4
    rcases c4 with (c | c) | ⟨c1, c2⟩
    · omega
    · omega
    · have := of_pBf c2
      unfold TimeOk at this
      have c3 : h.newest ≠ -1 := by simpa using c1
      omega
  · refine ok_skip (h2 _ ?_)
    simp only [Bool.or_eq_false_iff, Bool.not_eq_false', Bool.and_eq_true, decide_eq_true_eq, decide_eq_false_iff_not] at c4
    obtain ⟨⟨⟨⟨⟨d1, d2⟩, d3⟩, d4⟩, d5⟩, d67⟩ := c4
    replace d1 := of_pB d1
    replace d4 := of_pB d4
    have d8 : h.newest = -1 ∨ (0 ≤ h.newest ∧ h.newest ≤ 1000000000000) := by
      rw [Bool.and_eq_false_iff] at d67
      rcases d67 with c | c
      · left; simpa using c
      · right; rw [Bool.not_eq_false'] at c; exact of_pB c
    have d6 : -1 ≤ h.newest := by omega
    have d7 : h.newest ≤ 1000000000000 := by omega
    refine ok_seq fun K6 h6 => ?_
    refine ok_seq fun K7 h7 => ok_region rfl (q_fa _ fd66_3 rfl rfl (by decide) (q_ld _ ag31 rfl rfl (q_len eS31 rfl (q_mv _ rfl (run_nil (h7 _ ?_)))))); clear h7 K7
    simp only [List.length_map]
    refine ok_block ?_
    refine ok_loop (fun (k : Nat) => ⟨[(1, .sv (.ptr (eHead h))), (37, .sv (eSeriesS h.series)), (38, .sv (int h.series.length)), (39, .sv (int k))], []⟩) (fun k => ∀ i x, i < k → h.series[i]? = some x → LastAt h x) (fun k => h.series.length - k) 0 (fun i y h => by omega) (le_same ⟨rfl, rfl, rfl, rfl, trivial⟩) (fun k J => ?_)
    refine ok_seq fun K8 h8 => ok_region rfl (q_bin _ _ _ rfl rfl rfl (run_nil (h8 _ ?_))); clear h8 K8
    refine ok_seq fun K9 h9 => ?_
    refine ok_cond rfl (fun c10 => ?_) (fun c10 => ?_)
    · refine ok_skip (h9 _ ?_)
      have hk : k < h.series.length := by simpa using c10
      obtain ⟨u, hu⟩ := sget hk
      have h0 := (d4.2 k u hu).2.2.2.1
      have nu := (hh2 u (smem hu)).2
      obtain ⟨la, hla⟩ := sget (l := u.samples) (i := u.samples.length - 1) (by omega)
      refine ok_seq fun K11 h11 => ?_
      refine ok_block ?_
      refine ok_seq fun K12 h12 => ok_region rfl (q_ia el31 rfl rfl (by omega) (mget hu) (q_lds _ ag83 rfl sz83 (q_alloc _ ze83 rfl rfl rfl rfl (q_sts _ rfl rfl rfl sz83 (Nat.le_of_ble_eq_true rfl) rfl (run_nil (h12 _ ?_)))))); clear h12 K12
      refine ok_seq fun K13 h13 => ?_
      refine ok_region_i (by kernel_rfl) (by kernel_rfl) rfl (
        q_fap fd83_1 rfl (by decide) (q_ldb _ ag81 rfl rfl rfl (q_fap fd83_1 rfl (by decide) (q_ldb _ ag81 rfl rfl rfl (q_len eS81 rfl (q_sub rfl rfl (by rw [List.length_map]; omega) (q_ia el81 rfl rfl (by rw [List.length_map]; omega) (lget hla h0) (
        q_fa _ fd128_0 rfl rfl (by decide) (q_ld _ ag3 rfl rfl (q_fa _ fd66_2 rfl rfl (by decide) (q_ld _ ag3 rfl rfl (q_bin _ _ _ rfl rfl rfl (run_nil (h13 _ ?_))))))))))))))
      clear h13 K13
      refine ok_cond rfl (fun c14 => ?_) (fun c14 => ?_)
      · refine ok_seq fun K15 h15 => ?_
        refine ok_region rfl (q_as _ rfl (run_nil (h15 _ ?_)))
        clear h15 K15
        refine ok_ret ⟨_, rfl, ?_⟩
        rw [pB_false]; · rfl
        rintro h
        have := h.2.2.2.2.2.2.2 k u hu la hla
        simp only [decide_eq_true_eq] at c14
        omega
      · refine ok_skip (h11 _ ?_)
        refine ok_region rfl (q_add rfl rfl (by omega) (q_mv _ rfl (run_nil (⟨k + 1, by omega, ?_, le_sub ⟨rfl, rfl, rfl, rfl, trivial⟩ trivial⟩))))
        refine at_step (P := fun _ x => LastAt h x) J hu fun s hs => ?_
        rw [hla] at hs; cases hs
        simp only [decide_eq_false_iff_not] at c14
        omega
    · refine ok_exit (h6 _ ?_)
      have dS := at_all (P := fun _ x => LastAt h x) J (by simpa using c10)
      refine ok_seq fun K17 h17 => ok_region rfl (q_as _ rfl (run_nil (h17 _ ?_))); clear h17 K17
      refine ok_ret ⟨_, rfl, ?_⟩
      rw [pB_true ⟨d1, by omega, by omega, d4, by omega, by omega, by omega, dS⟩]; rfl
end Go.Ring
