/- Good samples, good windows: the program. No condition beyond the sizes. -/
import Derived.Test.YtgofadkgmogbgaaN2
set_option maxRecDepth 100000
set_option linter.unusedVariables false
set_option linter.unusedSimpArgs false
namespace Go.Ring
open Go Go.RowKit Go.Eager Go.Abs Go.Proofs
def SampleAt (l : List Sample) (i : Nat) (x : Sample) : Prop := TimeOk x.time ∧ ∀ p, 0 < i → l[i - 1]? = some p → p.time < x.time
def SamplesOk (l : List Sample) : Prop := l.length ≤ 2000 ∧ ∀ i x, l[i]? = some x → SampleAt l i x
theorem pB_spec {p : Prop} : pB p = true ↔ p := by
  constructor
  · intro h
    by_cases hp : p
    · exact hp
    · rw [pB_false hp] at h; cases h
  · exact pB_true
theorem pB_not {p : Prop} : pB p = false ↔ ¬ p := by
  constructor
  · intro h hp; rw [pB_true hp] at h; cases h
  · exact pB_false
theorem f78_ok (l : List Sample) (hl : l.length ≤ 1048576) : PFn Try.prog 78 [eSampleS l] (bool (pB (SamplesOk l))) := by
  refine fn_ok' (n := 35) Try.func78 rfl rfl rfl (Nat.le_of_ble_eq_true rfl) rfl fun w0 O => ?_
  refine ok_seq fun K1 h1 => ok_region rfl (q_as _ rfl (run_nil (h1 _ ?_))); clear h1 K1
  refine ok_seq fun K2 h2 => ?_
  refine ok_seq fun K3 h3 => ok_region rfl (q_mv (eSampleS l) rfl (q_len eS32 rfl (q_bin _ _ _ rfl rfl rfl (run_nil (h3 _ ?_))))); clear h3 K3
  rw [List.length_map]
  refine ok_cond rfl (fun c4 => ?_) (fun c4 => ?_)
  · refine ok_seq fun K5 h5 => ?_
    refine ok_region rfl (q_as _ rfl (run_nil (h5 _ ?_)))
    clear h5 K5
    refine ok_ret ⟨_, rfl, ?_⟩
    have c := of_decide_eq_true (p := (2000 : Int) < l.length) c4
    rw [pB_false (fun h => by have := h.1; omega)]; rfl
  have hl3 : l.length ≤ 2000 := by have := of_decide_eq_false (p := (2000 : Int) < l.length) c4; omega
  refine ok_skip (h2 _ ?_)
  refine ok_seq fun K6 h6 => ?_
  refine ok_seq fun K7 h7 => ok_region rfl (q_mv (eSampleS l) rfl (q_len eS32 rfl (q_mv _ rfl (run_nil (h7 _ ?_))))); clear h7 K7
  rw [List.length_map]
  refine ok_block ?_
  refine ok_loop (fun (k : Nat) => ⟨[(0, .sv (eSampleS l)), (8, .sv (eSampleS l)), (9, .sv (int l.length)), (10, .sv (int k))], []⟩) (fun k => ∀ i y, i < k → l[i]? = some y → SampleAt l i y) (fun k => l.length - k) 0 (fun i y h => by omega) (le_same ⟨rfl, rfl, rfl, rfl, trivial⟩) (fun k J => ?_)
  refine ok_seq fun K8 h8 => ok_region rfl (q_bin _ _ _ rfl rfl rfl (run_nil (h8 _ ?_))); clear h8 K8
  refine ok_seq fun K9 h9 => ?_
  refine ok_cond rfl (fun c10 => ?_) (fun c10 => ?_)
  · refine ok_skip (h9 _ ?_)
    have hk : k < l.length := by simpa using c10
    obtain ⟨u, hu⟩ := sget hk
    obtain ⟨p, hp⟩ := prev hk
    refine ok_seq fun K11 h11 => ?_
    refine ok_block ?_
    refine ok_seq fun K12 h12 => ok_region rfl (q_mv _ rfl (q_ia el32 rfl rfl (by omega) (mget (f := eSample) hu) (q_lds _ ag135 rfl sz135 (q_alloc _ ze135 rfl rfl rfl rfl (q_as _ rfl (q_sts _ rfl rfl rfl sz135 (Nat.le_of_ble_eq_true rfl) rfl (run_nil (h12 _ ?_)))))))); clear h12 K12
    refine ok_seq fun K13 h13 => ?_
    refine ok_region_i (by kernel_rfl) (by kernel_rfl) rfl (
      q_fap fd135_0 rfl (by decide) (q_ldb _ ag3 rfl rfl rfl (q_call (f100_ok u.time) cl100 rfl rfl (q_un _ _ rfl rfl (q_mv _ rfl (q_or 13 4 rfl rfl rfl rfl rfl (fun hb33 =>
        q_mv (int k) rfl (q_bin _ _ _ rfl rfl rfl (q_mv _ rfl (q_and 9 9 rfl rfl rfl rfl rfl (fun hb32 =>
          q_mv (eSampleS l) rfl (q_mv (int k) rfl (q_sub rfl rfl (by omega) (q_ia el32 rfl rfl (by have := of_decide_eq_true hb32; omega) (pget hp (by have := of_decide_eq_true hb32; omega)) (q_fa _ fd135_0 rfl rfl (by decide) (q_ld _ ag3 rfl rfl (q_fap fd135_0 rfl (by decide) (
          q_ldb _ ag3 rfl rfl rfl (q_bin _ _ _ rfl rfl rfl (run_nil ⟨rfl, rfl, rfl, rfl⟩)))))))))) (
        run_nil ⟨rfl, rfl, rfl, rfl⟩))))) (
      run_nil (h13 _ ?_))))))))
    clear h13 K13
    refine ok_cond rfl (fun c14 => ?_) (fun c14 => ?_)
    · refine ok_seq fun K15 h15 => ?_
      refine ok_region rfl (q_as _ rfl (run_nil (h15 _ ?_)))
      clear h15 K15
      refine ok_ret ⟨_, rfl, ?_⟩
      rw [pB_false]; · rfl
      rintro ⟨_, h⟩
      obtain ⟨d1, d2⟩ := h k u hu
      rw [pB_true d1] at c14
      simp only [Bool.not_true, Bool.false_or, Bool.and_eq_true, decide_eq_true_eq] at c14
      have := d2 p (by omega) (hp (by omega))
      omega
    · refine ok_skip (h11 _ ?_)
      refine ok_last fun K16 h16 => ok_region rfl (
        q_add rfl rfl (by omega) (q_mv _ rfl (run_nil (h16 _ (⟨k + 1, by omega, ?_, le_sub ⟨rfl, rfl, rfl, rfl, trivial⟩ trivial⟩)))))
      refine at_step J hu ?_
      simp only [Bool.or_eq_false_iff, Bool.not_eq_false', Bool.and_eq_false_iff, decide_eq_false_iff_not] at c14
      obtain ⟨d1, d2⟩ := c14
      refine ⟨pB_spec.1 d1, fun q h0 hq => ?_⟩
      rw [hp h0] at hq; cases hq
      omega
  · refine ok_exit (h6 _ ?_)
    refine ok_seq fun K17 h17 => ok_region rfl (q_as _ rfl (run_nil (h17 _ ?_))); clear h17 K17
    refine ok_ret ⟨_, rfl, ?_⟩
    have hk : l.length ≤ k := by simpa using c10
    rw [pB_true ⟨hl3, at_all J hk⟩]; rfl
theorem f17_ok (l : List Sample) (hl : l.length ≤ 1048576) : PFn Try.prog 17 [eSampleS l] (bool (pB (SamplesOk l))) := by
  refine fn_ok' (n := 35) Try.func17 rfl rfl rfl (Nat.le_of_ble_eq_true rfl) rfl fun w0 O => ?_
  refine ok_seq fun K1 h1 => ok_region rfl (q_as _ rfl (run_nil (h1 _ ?_))); clear h1 K1
  refine ok_seq fun K6 h6 => ?_
  refine ok_seq fun K7 h7 => ok_region rfl (q_mv (eSampleS l) rfl (q_len eS32 rfl (q_mv _ rfl (run_nil (h7 _ ?_))))); clear h7 K7
  rw [List.length_map]
  refine ok_block ?_
  refine ok_loop (fun (k : Nat) => ⟨[(0, .sv (eSampleS l)), (5, .sv (eSampleS l)), (6, .sv (int l.length)), (7, .sv (int k))], []⟩) (fun k => ∀ i y, i < k → l[i]? = some y → SampleAt l i y) (fun k => l.length - k) 0 (fun i y h => by omega) (le_same ⟨rfl, rfl, rfl, rfl, trivial⟩) (fun k J => ?_)
  refine ok_seq fun K8 h8 => ok_region rfl (q_bin _ _ _ rfl rfl rfl (run_nil (h8 _ ?_))); clear h8 K8
  refine ok_seq fun K9 h9 => ?_
  refine ok_cond rfl (fun c10 => ?_) (fun c10 => ?_)
  · refine ok_skip (h9 _ ?_)
    have hk : k < l.length := by simpa using c10
    obtain ⟨u, hu⟩ := sget hk
    obtain ⟨p, hp⟩ := prev hk
    refine ok_seq fun K11 h11 => ?_
    refine ok_block ?_
    refine ok_seq fun K12 h12 => ok_region rfl (q_mv _ rfl (q_ia el32 rfl rfl (by omega) (mget (f := eSample) hu) (q_lds _ ag135 rfl sz135 (q_alloc _ ze135 rfl rfl rfl rfl (q_as _ rfl (q_sts _ rfl rfl rfl sz135 (Nat.le_of_ble_eq_true rfl) rfl (run_nil (h12 _ ?_)))))))); clear h12 K12
    refine ok_seq fun K13 h13 => ?_
    refine ok_region_i (by kernel_rfl) (by kernel_rfl) rfl (
      q_fap fd135_0 rfl (by decide) (q_ldb _ ag3 rfl rfl rfl (q_call (f77_ok u.time) cl77 rfl rfl (q_un _ _ rfl rfl (q_mv _ rfl (q_or 13 4 rfl rfl rfl rfl rfl (fun hb33 =>
        q_mv (int k) rfl (q_bin _ _ _ rfl rfl rfl (q_mv _ rfl (q_and 9 9 rfl rfl rfl rfl rfl (fun hb32 =>
          q_mv (eSampleS l) rfl (q_mv (int k) rfl (q_sub rfl rfl (by omega) (q_ia el32 rfl rfl (by have := of_decide_eq_true hb32; omega) (pget hp (by have := of_decide_eq_true hb32; omega)) (q_fa _ fd135_0 rfl rfl (by decide) (q_ld _ ag3 rfl rfl (q_fap fd135_0 rfl (by decide) (
          q_ldb _ ag3 rfl rfl rfl (q_bin _ _ _ rfl rfl rfl (run_nil ⟨rfl, rfl, rfl, rfl⟩)))))))))) (
        run_nil ⟨rfl, rfl, rfl, rfl⟩))))) (
      run_nil (h13 _ ?_))))))))
    clear h13 K13
    refine ok_cond rfl (fun c14 => ?_) (fun c14 => ?_)
    · refine ok_seq fun K15 h15 => ?_
      refine ok_region rfl (q_as _ rfl (run_nil (h15 _ ?_)))
      clear h15 K15
      refine ok_ret ⟨_, rfl, ?_⟩
      rw [pB_false]; · rfl
      rintro ⟨_, h⟩
      obtain ⟨d1, d2⟩ := h k u hu
      rw [pB_true d1] at c14
      simp only [Bool.not_true, Bool.false_or, Bool.and_eq_true, decide_eq_true_eq] at c14
      have := d2 p (by omega) (hp (by omega))
      omega
    · refine ok_skip (h11 _ ?_)
      refine ok_last fun K16 h16 => ok_region rfl (
        q_add rfl rfl (by omega) (q_mv _ rfl (run_nil (h16 _ (⟨k + 1, by omega, ?_, le_sub ⟨rfl, rfl, rfl, rfl, trivial⟩ trivial⟩)))))
      refine at_step J hu ?_
      simp only [Bool.or_eq_false_iff, Bool.not_eq_false', Bool.and_eq_false_iff, decide_eq_false_iff_not] at c14
      obtain ⟨d1, d2⟩ := c14
      refine ⟨pB_spec.1 d1, fun q h0 hq => ?_⟩
      rw [hp h0] at hq; cases hq
      omega
  · refine ok_exit (h6 _ ?_)
    refine ok_seq fun K17 h17 => ok_region rfl (q_mv (eSampleS l) rfl (q_len eS32 rfl (q_bin _ _ _ rfl rfl rfl (q_as _ rfl (run_nil (h17 _ ?_)))))); clear h17 K17
    rw [List.length_map]
    refine ok_ret ⟨_, rfl, ?_⟩
    have hk : l.length ≤ k := by simpa using c10
    by_cases h : l.length ≤ 2000
    · rw [pB_true ⟨h, at_all J hk⟩]
      show SV.raw (.bool (decide ((l.length : Int) ≤ 2000))) = _
      rw [decide_eq_true (by omega)]
    · rw [pB_false (fun hh => h hh.1)]
      show SV.raw (.bool (decide ((l.length : Int) ≤ 2000))) = _
      rw [decide_eq_false (by omega)]
def AggAt (r : Int) (l : List Agg) (i : Nat) (x : Agg) : Prop :=
  (x.time.tmod r = 0 ∧ 0 ≤ x.time ∧ x.time ≤ 1000001000000 ∧ 1 ≤ x.count ∧ x.count ≤ 2000) ∧ (x.mn ≤ x.first ∧ x.first ≤ x.mx ∧ x.mn ≤ x.last ∧ x.last ≤ x.mx) ∧ ∀ p, 0 < i → l[i - 1]? = some p → p.time < x.time
def AggsOk (r : Int) (l : List Agg) : Prop := l.length ≤ 2000 ∧ ∀ i x, l[i]? = some x → AggAt r l i x
theorem f86_q (l : List Agg) (r : Int) (hr : resB r = true) (hl : AggsOk r l) : PFn Try.prog 86 [eAggS l, int r] (bool true) := by
  have hl1 := hl.1
  have hr0 : r ≠ 0 := by have := res_in hr; omega
  refine fn_ok' (n := 91) Try.func86 rfl rfl rfl (Nat.le_of_ble_eq_true rfl) rfl fun w0 O => ?_
  refine ok_seq fun K1 h1 => ok_region rfl (q_as _ rfl (run_nil (h1 _ ?_))); clear h1 K1
  refine ok_seq fun K2 h2 => ?_
  refine ok_seq fun K3 h3 => ?_
  refine ok_region rfl (q_mv (int r) rfl (q_call (f79_ok r) cl79 rfl rfl (q_un _ _ rfl rfl (q_mv _ rfl (q_or 3 3 rfl rfl rfl rfl rfl (fun hb14 =>
      q_mv (eAggS l) rfl (q_len eS36 rfl (q_bin _ _ _ rfl rfl rfl (run_nil ⟨rfl, rfl, rfl, rfl⟩)))) (
    run_nil (h3 _ ?_)))))))
  clear h3 K3
  rw [hr, List.length_map]
  refine ok_cond rfl (fun c4 => ?_) (fun c4 => ?_)
  · exfalso
    have := of_decide_eq_true (p := (2000 : Int) < l.length) (by simpa using c4)
    omega
  refine ok_skip (h2 _ ?_)
  refine ok_seq fun K6 h6 => ?_
  refine ok_seq fun K7 h7 => ok_region rfl (q_mv (eAggS l) rfl (q_len eS36 rfl (q_mv _ rfl (run_nil (h7 _ ?_))))); clear h7 K7
  rw [List.length_map]
  refine ok_block ?_
  refine ok_loop (fun (k : Nat) => ⟨[(0, .sv (eAggS l)), (1, .sv (int r)), (15, .sv (eAggS l)), (16, .sv (int l.length)), (17, .sv (int k))], []⟩) (fun k => True) (fun k => l.length - k) 0 trivial (le_same ⟨rfl, rfl, rfl, rfl, rfl, trivial⟩) (fun k J => ?_)
  refine ok_seq fun K8 h8 => ok_region rfl (q_bin _ _ _ rfl rfl rfl (run_nil (h8 _ ?_))); clear h8 K8
  refine ok_seq fun K9 h9 => ?_
  refine ok_cond rfl (fun c10 => ?_) (fun c10 => ?_)
  · refine ok_skip (h9 _ ?_)
    have hk : k < l.length := by simpa using c10
    obtain ⟨u, hu⟩ := sget hk
    obtain ⟨p, hp⟩ := prev hk
    obtain ⟨⟨a1, a2, a3, a4, a5⟩, ⟨a6, a7, a8, a9⟩, a10⟩ := hl.2 k u hu
    have a11 : 0 < k → p.time < u.time := fun h => a10 p h (hp h)
    refine ok_seq fun K11 h11 => ?_
    refine ok_block ?_
    refine ok_seq fun K12 h12 => ok_region rfl (q_mv (int k) rfl (q_ia el36 rfl rfl (by omega) (mget (f := eAgg) hu) (q_lds _ ag41 rfl sz41 (q_alloc _ ze41 rfl rfl rfl rfl (q_as _ rfl (q_sts _ rfl rfl rfl sz41 (Nat.le_of_ble_eq_true rfl) rfl (run_nil (h12 _ ?_)))))))); clear h12 K12
    refine ok_seq fun K13 h13 => ?_
    refine ok_region_i (by kernel_rfl) (by kernel_rfl) rfl (
      q_fap fd41_0 rfl (by decide) (q_ldb _ ag3 rfl rfl rfl (q_mv (int r) rfl (q_bin _ _ _ rfl rfl (remR hr0) (q_bin _ _ _ rfl rfl rfl (q_mv _ rfl (q_or 3 3 rfl rfl rfl rfl rfl (fun hb31 =>
        q_fap fd41_0 rfl (by decide) (q_ldb _ ag3 rfl rfl rfl (q_bin _ _ _ rfl rfl rfl (run_nil ⟨rfl, rfl, rfl, rfl⟩)))) (
      q_mv _ rfl (q_or 3 3 rfl rfl rfl rfl rfl (fun hb36 =>
        q_fap fd41_0 rfl (by decide) (q_ldb _ ag3 rfl rfl rfl (q_bin _ _ _ rfl rfl rfl (run_nil ⟨rfl, rfl, rfl, rfl⟩)))) (
      q_mv _ rfl (q_or 13 4 rfl rfl rfl rfl rfl (fun hb51 =>
        q_mv (int k) rfl (q_bin _ _ _ rfl rfl rfl (q_mv _ rfl (q_and 9 9 rfl rfl rfl rfl rfl (fun hb50 =>
          q_mv (eAggS l) rfl (q_mv (int k) rfl (q_sub rfl rfl (by omega) (q_ia el36 rfl rfl (by have := of_decide_eq_true hb50; omega) (pget (f := eAgg) hp (by have := of_decide_eq_true hb50; omega)) (q_fa _ fd41_0 rfl rfl (by decide) (q_ld _ ag3 rfl rfl (q_fap fd41_0 rfl (by decide) (
          q_ldb _ ag3 rfl rfl rfl (q_bin _ _ _ rfl rfl rfl (run_nil ⟨rfl, rfl, rfl, rfl⟩)))))))))) (
        run_nil ⟨rfl, rfl, rfl, rfl⟩))))) (
      q_mv _ rfl (q_or 3 3 rfl rfl rfl rfl rfl (fun hb56 =>
        q_fap fd41_1 rfl (by decide) (q_ldb _ ag3 rfl rfl rfl (q_bin _ _ _ rfl rfl rfl (run_nil ⟨rfl, rfl, rfl, rfl⟩)))) (
      q_mv _ rfl (q_or 3 3 rfl rfl rfl rfl rfl (fun hb61 =>
        q_fap fd41_1 rfl (by decide) (q_ldb _ ag3 rfl rfl rfl (q_bin _ _ _ rfl rfl rfl (run_nil ⟨rfl, rfl, rfl, rfl⟩)))) (
      q_mv _ rfl (q_or 5 5 rfl rfl rfl rfl rfl (fun hb68 =>
        q_fap fd41_5 rfl (by decide) (q_ldb _ ag3 rfl rfl rfl (q_fap fd41_3 rfl (by decide) (q_ldb _ ag3 rfl rfl rfl (q_bin _ _ _ rfl rfl rfl (run_nil ⟨rfl, rfl, rfl, rfl⟩)))))) (
      q_mv _ rfl (q_or 5 5 rfl rfl rfl rfl rfl (fun hb75 =>
        q_fap fd41_5 rfl (by decide) (q_ldb _ ag3 rfl rfl rfl (q_fap fd41_4 rfl (by decide) (q_ldb _ ag3 rfl rfl rfl (q_bin _ _ _ rfl rfl rfl (run_nil ⟨rfl, rfl, rfl, rfl⟩)))))) (
      q_mv _ rfl (q_or 5 5 rfl rfl rfl rfl rfl (fun hb82 =>
        q_fap fd41_6 rfl (by decide) (q_ldb _ ag3 rfl rfl rfl (q_fap fd41_3 rfl (by decide) (q_ldb _ ag3 rfl rfl rfl (q_bin _ _ _ rfl rfl rfl (run_nil ⟨rfl, rfl, rfl, rfl⟩)))))) (
      q_mv _ rfl (q_or 5 5 rfl rfl rfl rfl rfl (fun hb89 =>
        q_fap fd41_6 rfl (by decide) (q_ldb _ ag3 rfl rfl rfl (q_fap fd41_4 rfl (by decide) (q_ldb _ ag3 rfl rfl rfl (q_bin _ _ _ rfl rfl rfl (run_nil ⟨rfl, rfl, rfl, rfl⟩)))))) (
      run_nil (h13 _ ?_) ))))))))))))))))))))))))
    clear h13 K13
    refine ok_cond rfl (fun c14 => ?_) (fun c14 => ?_)
    · exfalso
      rw [a1] at c14
      have e1 : decide (u.time < 0) = false := decide_eq_false (by omega)
      have e2 : decide ((1000001000000 : Int) < u.time) = false := decide_eq_false (by omega)
      have e3 : (decide ((0 : Int) < k) && decide (u.time ≤ p.time)) = false := by
        rw [Bool.and_eq_false_iff, decide_eq_false_iff_not, decide_eq_false_iff_not]
        rcases Nat.eq_zero_or_pos k with h | h
        · left; omega
        · right; have := a11 h; omega
      have e4 : decide (u.count < 1) = false := decide_eq_false (by omega)
      have e5 : decide ((2000 : Int) < u.count) = false := decide_eq_false (by omega)
      have e6 : decide (u.first < u.mn) = false := decide_eq_false (by omega)
      have e7 : decide (u.mx < u.first) = false := decide_eq_false (by omega)
      have e8 : decide (u.last < u.mn) = false := decide_eq_false (by omega)
      have e9 : decide (u.mx < u.last) = false := decide_eq_false (by omega)
      rw [e1, e2, e3, e4, e5, e6, e7, e8, e9] at c14
      simp at c14
    · refine ok_skip (h11 _ ?_)
      exact ok_last fun K16 h16 => ok_region rfl (
        q_add rfl rfl (by omega) (q_mv _ rfl (run_nil (h16 _ (⟨k + 1, by omega, trivial, le_sub ⟨rfl, rfl, rfl, rfl, rfl, trivial⟩ trivial⟩)))))
  · refine ok_exit (h6 _ ?_)
    refine ok_seq fun K17 h17 => ok_region rfl (q_as _ rfl (run_nil (h17 _ ?_))); clear h17 K17
    exact ok_ret ⟨_, rfl, rfl⟩
theorem f19_q (l : List Agg) (r : Int) (hr : resB r = true) (hl : AggsOk r l) : PFn Try.prog 19 [eAggS l, int r] (bool true) := by
  have hl1 := hl.1
  have hr0 : r ≠ 0 := by have := res_in hr; omega
  refine fn_ok' (n := 89) Try.func19 rfl rfl rfl (Nat.le_of_ble_eq_true rfl) rfl fun w0 O => ?_
  refine ok_seq fun K1 h1 => ok_region rfl (q_as _ rfl (run_nil (h1 _ ?_))); clear h1 K1
  refine ok_seq fun K2 h2 => ?_
  refine ok_seq fun K3 h3 => ?_
  refine ok_region rfl (q_mv (int r) rfl (q_call (f84_ok r) cl84 rfl rfl (q_un _ _ rfl rfl (q_mv _ rfl (q_or 3 3 rfl rfl rfl rfl rfl (fun hb14 =>
      q_mv (eAggS l) rfl (q_len eS36 rfl (q_bin _ _ _ rfl rfl rfl (run_nil ⟨rfl, rfl, rfl, rfl⟩)))) (
    run_nil (h3 _ ?_)))))))
  clear h3 K3
  rw [hr, List.length_map]
  refine ok_cond rfl (fun c4 => ?_) (fun c4 => ?_)
  · exfalso
    have := of_decide_eq_true (p := (2000 : Int) < l.length) (by simpa using c4)
    omega
  refine ok_skip (h2 _ ?_)
  refine ok_seq fun K6 h6 => ?_
  refine ok_seq fun K7 h7 => ok_region rfl (q_mv (eAggS l) rfl (q_len eS36 rfl (q_mv _ rfl (run_nil (h7 _ ?_))))); clear h7 K7
  rw [List.length_map]
  refine ok_block ?_
  refine ok_loop (fun (k : Nat) => ⟨[(0, .sv (eAggS l)), (1, .sv (int r)), (15, .sv (eAggS l)), (16, .sv (int l.length)), (17, .sv (int k))], []⟩) (fun k => True) (fun k => l.length - k) 0 trivial (le_same ⟨rfl, rfl, rfl, rfl, rfl, trivial⟩) (fun k J => ?_)
  refine ok_seq fun K8 h8 => ok_region rfl (q_bin _ _ _ rfl rfl rfl (run_nil (h8 _ ?_))); clear h8 K8
  refine ok_seq fun K9 h9 => ?_
  refine ok_cond rfl (fun c10 => ?_) (fun c10 => ?_)
  · refine ok_skip (h9 _ ?_)
    have hk : k < l.length := by simpa using c10
    obtain ⟨u, hu⟩ := sget hk
    obtain ⟨p, hp⟩ := prev hk
    obtain ⟨⟨a1, a2, a3, a4, a5⟩, ⟨a6, a7, a8, a9⟩, a10⟩ := hl.2 k u hu
    have a11 : 0 < k → p.time < u.time := fun h => a10 p h (hp h)
    refine ok_seq fun K11 h11 => ?_
    refine ok_block ?_
    refine ok_seq fun K12 h12 => ok_region rfl (q_mv (int k) rfl (q_ia el36 rfl rfl (by omega) (mget (f := eAgg) hu) (q_lds _ ag41 rfl sz41 (q_alloc _ ze41 rfl rfl rfl rfl (q_as _ rfl (q_sts _ rfl rfl rfl sz41 (Nat.le_of_ble_eq_true rfl) rfl (run_nil (h12 _ ?_)))))))); clear h12 K12
    refine ok_seq fun K13 h13 => ?_
    refine ok_seq fun K14 h14 => ?_
    refine ok_region_i (by kernel_rfl) (by kernel_rfl) rfl (
      q_fap fd41_0 rfl (by decide) (q_ldb _ ag3 rfl rfl rfl (q_mv (int r) rfl (q_bin _ _ _ rfl rfl (remR hr0) (q_bin _ _ _ rfl rfl rfl (q_mv _ rfl (q_or 3 3 rfl rfl rfl rfl rfl (fun hb31 =>
        q_fap fd41_0 rfl (by decide) (q_ldb _ ag3 rfl rfl rfl (q_bin _ _ _ rfl rfl rfl (run_nil ⟨rfl, rfl, rfl, rfl⟩)))) (
      q_mv _ rfl (q_or 3 3 rfl rfl rfl rfl rfl (fun hb36 =>
        q_fap fd41_0 rfl (by decide) (q_ldb _ ag3 rfl rfl rfl (q_bin _ _ _ rfl rfl rfl (run_nil ⟨rfl, rfl, rfl, rfl⟩)))) (
      q_mv _ rfl (q_or 13 4 rfl rfl rfl rfl rfl (fun hb51 =>
        q_mv (int k) rfl (q_bin _ _ _ rfl rfl rfl (q_mv _ rfl (q_and 9 9 rfl rfl rfl rfl rfl (fun hb50 =>
          q_mv (eAggS l) rfl (q_mv (int k) rfl (q_sub rfl rfl (by omega) (q_ia el36 rfl rfl (by have := of_decide_eq_true hb50; omega) (pget (f := eAgg) hp (by have := of_decide_eq_true hb50; omega)) (q_fa _ fd41_0 rfl rfl (by decide) (q_ld _ ag3 rfl rfl (q_fap fd41_0 rfl (by decide) (
          q_ldb _ ag3 rfl rfl rfl (q_bin _ _ _ rfl rfl rfl (run_nil ⟨rfl, rfl, rfl, rfl⟩)))))))))) (
        run_nil ⟨rfl, rfl, rfl, rfl⟩))))) (
      q_mv _ rfl (q_or 3 3 rfl rfl rfl rfl rfl (fun hb56 =>
        q_fap fd41_1 rfl (by decide) (q_ldb _ ag3 rfl rfl rfl (q_bin _ _ _ rfl rfl rfl (run_nil ⟨rfl, rfl, rfl, rfl⟩)))) (
      q_mv _ rfl (q_or 3 3 rfl rfl rfl rfl rfl (fun hb61 =>
        q_fap fd41_1 rfl (by decide) (q_ldb _ ag3 rfl rfl rfl (q_bin _ _ _ rfl rfl rfl (run_nil ⟨rfl, rfl, rfl, rfl⟩)))) (
      run_nil (h14 _ ?_) ))))))))))))))))
    clear h14 K14
    refine ok_cond rfl (fun c14 => ?_) (fun c14 => ?_)
    · exfalso
      rw [a1] at c14
      have e1 : decide (u.time < 0) = false := decide_eq_false (by omega)
      have e2 : decide ((1000001000000 : Int) < u.time) = false := decide_eq_false (by omega)
      have e3 : (decide ((0 : Int) < k) && decide (u.time ≤ p.time)) = false := by
        rw [Bool.and_eq_false_iff, decide_eq_false_iff_not, decide_eq_false_iff_not]
        rcases Nat.eq_zero_or_pos k with h | h
        · left; omega
        · right; have := a11 h; omega
      have e4 : decide (u.count < 1) = false := decide_eq_false (by omega)
      have e5 : decide ((2000 : Int) < u.count) = false := decide_eq_false (by omega)
      have e6 : decide (u.first < u.mn) = false := decide_eq_false (by omega)
      have e7 : decide (u.mx < u.first) = false := decide_eq_false (by omega)
      have e8 : decide (u.last < u.mn) = false := decide_eq_false (by omega)
      have e9 : decide (u.mx < u.last) = false := decide_eq_false (by omega)
      rw [e1, e2, e3, e4, e5] at c14
      simp at c14
    refine ok_skip (h13 _ ?_)
    refine ok_seq fun K17 h17 => ?_
    refine ok_region rfl (q_fap fd41_5 rfl (by decide) (q_ldb _ ag3 rfl rfl rfl (q_fap fd41_3 rfl (by decide) (q_ldb _ ag3 rfl rfl rfl (q_bin _ _ _ rfl rfl rfl (
      q_mv _ rfl (q_or 5 5 rfl rfl rfl rfl rfl (fun hb73 =>
        q_fap fd41_5 rfl (by decide) (q_ldb _ ag3 rfl rfl rfl (q_fap fd41_4 rfl (by decide) (q_ldb _ ag3 rfl rfl rfl (q_bin _ _ _ rfl rfl rfl (run_nil ⟨rfl, rfl, rfl, rfl⟩)))))) (
      q_mv _ rfl (q_or 5 5 rfl rfl rfl rfl rfl (fun hb80 =>
        q_fap fd41_6 rfl (by decide) (q_ldb _ ag3 rfl rfl rfl (q_fap fd41_3 rfl (by decide) (q_ldb _ ag3 rfl rfl rfl (q_bin _ _ _ rfl rfl rfl (run_nil ⟨rfl, rfl, rfl, rfl⟩)))))) (
      q_mv _ rfl (q_or 5 5 rfl rfl rfl rfl rfl (fun hb87 =>
        q_fap fd41_6 rfl (by decide) (q_ldb _ ag3 rfl rfl rfl (q_fap fd41_4 rfl (by decide) (q_ldb _ ag3 rfl rfl rfl (q_bin _ _ _ rfl rfl rfl (run_nil ⟨rfl, rfl, rfl, rfl⟩)))))) (
      run_nil (h17 _ ?_) ))))))))))))
    clear h17 K17
    refine ok_cond rfl (fun c14 => ?_) (fun c14 => ?_)
    · exfalso
      have e1 : decide (u.time < 0) = false := decide_eq_false (by omega)
      have e2 : decide ((1000001000000 : Int) < u.time) = false := decide_eq_false (by omega)
      have e3 : (decide ((0 : Int) < k) && decide (u.time ≤ p.time)) = false := by
        rw [Bool.and_eq_false_iff, decide_eq_false_iff_not, decide_eq_false_iff_not]
        rcases Nat.eq_zero_or_pos k with h | h
        · left; omega
        · right; have := a11 h; omega
      have e4 : decide (u.count < 1) = false := decide_eq_false (by omega)
      have e5 : decide ((2000 : Int) < u.count) = false := decide_eq_false (by omega)
      have e6 : decide (u.first < u.mn) = false := decide_eq_false (by omega)
      have e7 : decide (u.mx < u.first) = false := decide_eq_false (by omega)
      have e8 : decide (u.last < u.mn) = false := decide_eq_false (by omega)
      have e9 : decide (u.mx < u.last) = false := decide_eq_false (by omega)
      rw [e6, e7, e8, e9] at c14
      simp at c14
    · refine ok_skip (h11 _ ?_)
      exact ok_last fun K16 h16 => ok_region rfl (
        q_add rfl rfl (by omega) (q_mv _ rfl (run_nil (h16 _ (⟨k + 1, by omega, trivial, le_sub ⟨rfl, rfl, rfl, rfl, rfl, trivial⟩ trivial⟩)))))
  · refine ok_exit (h6 _ ?_)
    refine ok_seq fun K17 h17 => ok_region rfl (q_as _ rfl (run_nil (h17 _ ?_))); clear h17 K17
    exact ok_ret ⟨_, rfl, rfl⟩
end Go.Ring
