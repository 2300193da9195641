/- Samples and windows, the small functions: the program. No condition beyond the sizes. -/
import Derived.Test.YtgofadkgmogbgaaP1
import Derived.Test.YtgofadkgmogbgaaEg3
import Derived.Test.YtgofadkgmogbgaaEg2
set_option maxRecDepth 100000
set_option linter.unusedVariables false
set_option linter.unusedSimpArgs false
namespace Go.Ring
open Go Go.RowKit Go.Eager Go.Abs Go.Proofs
structure Sample where
  time : Int
  value : Int
@[reducible] def eSample (x : Sample) : SV := .agg [int x.time, int x.value]
@[reducible] def eSampleS (l : List Sample) : SV := .sl 2 (l.map eSample)
structure Agg where
  time : Int
  count : Int
  sum : Int
  mn : Int
  mx : Int
  first : Int
  last : Int
  rise : Int
@[reducible] def eAgg (x : Agg) : SV := .agg [int x.time, int x.count, int x.sum, int x.mn, int x.mx, int x.first, int x.last, int x.rise]
@[reducible] def eAggS (l : List Agg) : SV := .sl 8 (l.map eAgg)
def resB (r : Int) : Bool := decide (r ≥ 1) && decide (r ≤ 1000000)
theorem res_in {r : Int} (h : resB r = true) : 1 ≤ r ∧ r ≤ 1000000 := by
  simp only [resB, Bool.and_eq_true, decide_eq_true_eq] at h; omega
theorem f79_ok (r : Int) : PFn Try.prog 79 [int r] (bool (resB r)) := by
  refine fn_ok' (n := 9) Try.func79 rfl rfl rfl (Nat.le_of_ble_eq_true rfl) rfl fun w0 O => ?_
  refine ok_seq fun K1 h1 => ok_region rfl (q_as _ rfl (run_nil (h1 _ ?_))); clear h1 K1
  refine ok_seq fun K2 h2 => ?_
  refine ok_region rfl (q_mv (int r) rfl (q_bin _ _ _ rfl rfl rfl (q_mv _ rfl (q_and 2 2 rfl rfl rfl rfl rfl (fun hb8 =>
      q_mv (int r) rfl (q_bin _ _ _ rfl rfl rfl (run_nil ⟨rfl, rfl, rfl, rfl⟩))) (
    q_as _ rfl (run_nil (h2 _ ?_)))))))
  clear h2 K2
  exact ok_ret ⟨_, rfl, rfl⟩
theorem f84_ok (r : Int) : PFn Try.prog 84 [int r] (bool (resB r)) := by
  refine fn_ok' (n := 9) Try.func84 rfl rfl rfl (Nat.le_of_ble_eq_true rfl) rfl fun w0 O => ?_
  refine ok_seq fun K1 h1 => ok_region rfl (q_as _ rfl (run_nil (h1 _ ?_))); clear h1 K1
  refine ok_seq fun K2 h2 => ?_
  refine ok_region rfl (q_mv (int r) rfl (q_bin _ _ _ rfl rfl rfl (q_mv _ rfl (q_and 2 2 rfl rfl rfl rfl rfl (fun hb8 =>
      q_mv (int r) rfl (q_bin _ _ _ rfl rfl rfl (run_nil ⟨rfl, rfl, rfl, rfl⟩))) (
    q_as _ rfl (run_nil (h2 _ ?_)))))))
  clear h2 K2
  exact ok_ret ⟨_, rfl, rfl⟩
/-- The window that a time lies in. -/
def winW (t r : Int) : Int := (t + r - 1) / r * r
theorem winW_in {t r : Int} (ht : 0 ≤ t) (hr : 1 ≤ r) : 0 ≤ winW t r ∧ winW t r ≤ t + r - 1 := by
  unfold winW
  exact ⟨Int.mul_nonneg (Int.ediv_nonneg (by omega) (by omega)) (by omega), Int.ediv_mul_le _ (by omega)⟩
theorem f82_ok (t r : Int) (ht : 0 ≤ t ∧ t ≤ 4000000000000) (hr : 1 ≤ r ∧ r ≤ 1000000) : PFn Try.prog 82 [int t, int r] (int (winW t r)) := by
  have hw := winW_in ht.1 hr.1
  unfold winW at hw
  refine fn_ok' (n := 13) Try.func82 rfl rfl rfl (Nat.le_of_ble_eq_true rfl) rfl fun w0 O => ?_
  refine ok_seq fun K1 h1 => ok_region rfl (q_as _ rfl (run_nil (h1 _ ?_))); clear h1 K1
  refine ok_seq fun K2 h2 => ok_region rfl (q_mv (int t) rfl (q_mv (int r) rfl (q_add rfl rfl (by omega) (q_sub rfl rfl (by omega) (q_mv (int r) rfl (q_div rfl rfl (by omega) (q_mv (int r) rfl (q_mul rfl rfl (by omega) (q_as _ rfl (run_nil (h2 _ ?_))))))))))); clear h2 K2
  exact ok_ret ⟨_, rfl, rfl⟩
theorem f165_ok (t r : Int) (ht : 0 ≤ t ∧ t ≤ 4000000000000) (hr : 1 ≤ r ∧ r ≤ 1000000) : PFn Try.prog 165 [int t, int r] (int (winW t r)) := by
  have hw := winW_in ht.1 hr.1
  unfold winW at hw
  refine fn_ok' (n := 13) Try.func165 rfl rfl rfl (Nat.le_of_ble_eq_true rfl) rfl fun w0 O => ?_
  refine ok_seq fun K1 h1 => ok_region rfl (q_as _ rfl (run_nil (h1 _ ?_))); clear h1 K1
  refine ok_seq fun K2 h2 => ok_region rfl (q_mv (int t) rfl (q_mv (int r) rfl (q_add rfl rfl (by omega) (q_sub rfl rfl (by omega) (q_mv (int r) rfl (q_div rfl rfl (by omega) (q_mv (int r) rfl (q_mul rfl rfl (by omega) (q_as _ rfl (run_nil (h2 _ ?_))))))))))); clear h2 K2
  exact ok_ret ⟨_, rfl, rfl⟩
/-- How much values rise from one to the next. -/
def w64 (n : Int) : Int := IntKind.i64.wrap n
def rOv (was is : Int) : Int := if is ≥ was then w64 (is - was) else is
theorem f163_ok (a b : Int) : PFn Try.prog 163 [int a, int b] (int (rOv a b)) := by
  refine fn_ok' (n := 12) Try.func163 rfl rfl rfl (Nat.le_of_ble_eq_true rfl) rfl fun w0 O => ?_
  refine ok_seq fun K1 h1 => ok_region rfl (q_as _ rfl (run_nil (h1 _ ?_))); clear h1 K1
  refine ok_seq fun K2 h2 => ?_
  refine ok_seq fun K3 h3 => ok_region rfl (q_mv (int b) rfl (q_mv (int a) rfl (q_bin _ _ _ rfl rfl rfl (run_nil (h3 _ ?_))))); clear h3 K3
  refine ok_cond rfl (fun c4 => ?_) (fun c4 => ?_)
  · refine ok_seq fun K5 h5 => ?_
    refine ok_region rfl (q_mv (int b) rfl (q_mv (int a) rfl (q_bin _ _ _ rfl rfl rfl (q_as _ rfl (run_nil (h5 _ ?_))))))
    clear h5 K5
    refine ok_ret ⟨_, rfl, ?_⟩
    rw [rOv, if_pos (of_decide_eq_true c4)]; rfl
  · refine ok_skip (h2 _ ?_)
    refine ok_seq fun K6 h6 => ok_region rfl (q_mv (int b) rfl (q_as _ rfl (run_nil (h6 _ ?_)))); clear h6 K6
    refine ok_ret ⟨_, rfl, ?_⟩
    rw [rOv, if_neg (of_decide_eq_false c4)]; rfl
theorem f215_ok (a b : Int) : PFn Try.prog 215 [int a, int b] (int (rOv a b)) := by
  refine fn_ok' (n := 12) Try.func215 rfl rfl rfl (Nat.le_of_ble_eq_true rfl) rfl fun w0 O => ?_
  refine ok_seq fun K1 h1 => ok_region rfl (q_as _ rfl (run_nil (h1 _ ?_))); clear h1 K1
  refine ok_seq fun K2 h2 => ?_
  refine ok_seq fun K3 h3 => ok_region rfl (q_mv (int b) rfl (q_mv (int a) rfl (q_bin _ _ _ rfl rfl rfl (run_nil (h3 _ ?_))))); clear h3 K3
  refine ok_cond rfl (fun c4 => ?_) (fun c4 => ?_)
  · refine ok_seq fun K5 h5 => ?_
    refine ok_region rfl (q_mv (int b) rfl (q_mv (int a) rfl (q_bin _ _ _ rfl rfl rfl (q_as _ rfl (run_nil (h5 _ ?_))))))
    clear h5 K5
    refine ok_ret ⟨_, rfl, ?_⟩
    rw [rOv, if_pos (of_decide_eq_true c4)]; rfl
  · refine ok_skip (h2 _ ?_)
    refine ok_seq fun K6 h6 => ok_region rfl (q_mv (int b) rfl (q_as _ rfl (run_nil (h6 _ ?_)))); clear h6 K6
    refine ok_ret ⟨_, rfl, ?_⟩
    rw [rOv, if_neg (of_decide_eq_false c4)]; rfl
def aggO (s : Sample) (t : Int) : Agg := ⟨t, 1, s.value, s.value, s.value, s.value, s.value, 0⟩
theorem built41a (t v1 v2 v3 v4 v5 : Int) : Try.prog.built 41 [(0, .int .i64 t), (1, .int .i64 1), (2, .int .i64 v1), (3, .int .i64 v2), (4, .int .i64 v3), (5, .int .i64 v4), (6, .int .i64 v5)] = some (List.toArray [.int .i64 t, .int .i64 1, .int .i64 v1, .int .i64 v2, .int .i64 v3, .int .i64 v4, .int .i64 v5, .int .i64 0]) := by kernel_rfl
theorem built41 (t c v1 v2 v3 v4 v5 r : Int) : Try.prog.built 41 [(0, .int .i64 t), (1, .int .i64 c), (2, .int .i64 v1), (3, .int .i64 v2), (4, .int .i64 v3), (5, .int .i64 v4), (6, .int .i64 v5), (7, .int .i64 r)] = some (List.toArray [.int .i64 t, .int .i64 c, .int .i64 v1, .int .i64 v2, .int .i64 v3, .int .i64 v4, .int .i64 v5, .int .i64 r]) := by kernel_rfl
theorem f81_ok (s : Sample) (t : Int) : PFn Try.prog 81 [eSample s, int t] (eAgg (aggO s t)) := by
  refine fnr_ok (n := 15) Try.func81 rfl rfl rfl (Nat.le_of_ble_eq_true rfl) rfl fun w0 O => ?_
  refine ok_seq fun K1 h1 => ok_region rfl (q_boxs _ rfl (Nat.zero_lt_succ _) (q_alloc _ ze41 rfl rfl rfl rfl (run_nil (h1 _ ?_)))); clear h1 K1
  refine ok_seq fun K2 h2 => ok_region rfl (q_fa _ fd135_1 rfl rfl (by decide) (q_ld _ ag3 rfl rfl (q_as _ rfl (run_nil (h2 _ ?_))))); clear h2 K2
  refine ok_seq fun K3 h3 => ok_region rfl (q_mv (int t) rfl (q_mv (int s.value) rfl (q_mv (int s.value) rfl (q_mv (int s.value) rfl (q_mv (int s.value) rfl (q_mv (int s.value) rfl (q_bldr [(0, .int .i64 t), (1, .int .i64 1), (2, .int .i64 s.value), (3, .int .i64 s.value), (4, .int .i64 s.value), (5, .int .i64 s.value), (6, .int .i64 s.value)] _ rfl (built41a _ _ _ _ _ _) rfl (q_sts _ rfl rfl rfl sz41 (Nat.le_of_ble_eq_true rfl) rfl (run_nil (h3 _ ?_)))))))))); clear h3 K3
  exact ok_ret ⟨_, ⟨_, _, res_cells (l := [int t, int 1, int s.value, int s.value, int s.value, int s.value, int s.value, int 0]) rfl rfl ag41 sz41 rfl, rfl, rfl⟩, rfl⟩
def minI (p q : Int) : Int := if q < p then q else p
def maxI (p q : Int) : Int := if q > p then q else p
/-- Two windows, one behind the other. -/
def mrg (a b : Agg) : Agg := ⟨b.time, w64 (a.count + b.count), w64 (a.sum + b.sum), minI a.mn b.mn, maxI a.mx b.mx, a.first, b.last, w64 (w64 (a.rise + b.rise) + rOv a.last b.first)⟩
theorem f83_ok (a b : Agg) : PFn Try.prog 83 [eAgg a, eAgg b] (eAgg (mrg a b)) := by
  refine fnr_ok (n := 43) Try.func83 rfl rfl rfl (Nat.le_of_ble_eq_true rfl) rfl fun w0 O => ?_
  refine ok_seq fun K1 h1 => ok_region rfl (q_boxs _ rfl (Nat.zero_lt_succ _) (q_boxs _ rfl (Nat.zero_lt_succ _) (q_alloc _ ze41 rfl rfl rfl rfl (run_nil (h1 _ ?_))))); clear h1 K1
  refine ok_seq fun K2 h2 => ?_
  refine ok_region_i (by kernel_rfl) (by kernel_rfl) rfl (
    q_fa _ fd41_0 rfl rfl (by decide) (q_ld _ ag3 rfl rfl (q_fa _ fd41_1 rfl rfl (by decide) (q_ld _ ag3 rfl rfl (q_fa _ fd41_1 rfl rfl (by decide) (q_ld _ ag3 rfl rfl (
    q_bin _ _ _ rfl rfl rfl (q_fa _ fd41_2 rfl rfl (by decide) (q_ld _ ag3 rfl rfl (q_fa _ fd41_2 rfl rfl (by decide) (q_ld _ ag3 rfl rfl (q_bin _ _ _ rfl rfl rfl (
    q_fa _ fd41_3 rfl rfl (by decide) (q_ld _ ag3 rfl rfl (q_fa _ fd41_3 rfl rfl (by decide) (q_ld _ ag3 rfl rfl (q_min rfl rfl (q_fa _ fd41_4 rfl rfl (by decide) (q_ld _ ag3 rfl rfl (
    q_fa _ fd41_4 rfl rfl (by decide) (q_ld _ ag3 rfl rfl (q_max rfl rfl (q_fa _ fd41_5 rfl rfl (by decide) (q_ld _ ag3 rfl rfl (q_fa _ fd41_6 rfl rfl (by decide) (q_ld _ ag3 rfl rfl (
    q_fa _ fd41_7 rfl rfl (by decide) (q_ld _ ag3 rfl rfl (q_fa _ fd41_7 rfl rfl (by decide) (q_ld _ ag3 rfl rfl (q_bin _ _ _ rfl rfl rfl (q_fa _ fd41_6 rfl rfl (by decide) (
    q_ld _ ag3 rfl rfl (q_fa _ fd41_5 rfl rfl (by decide) (q_ld _ ag3 rfl rfl (q_call (f163_ok a.last b.first) cl163 rfl rfl (q_bin _ _ _ rfl rfl rfl (q_bldr [(0, .int .i64 b.time), (1, .int .i64 (mrg a b).count), (2, .int .i64 (mrg a b).sum), (3, .int .i64 (mrg a b).mn), (4, .int .i64 (mrg a b).mx), (5, .int .i64 a.first), (6, .int .i64 b.last), (7, .int .i64 (mrg a b).rise)] _ rfl (built41 _ _ _ _ _ _ _ _) rfl (q_sts _ rfl rfl rfl sz41 (Nat.le_of_ble_eq_true rfl) rfl (run_nil (h2 _ ?_)))))))))))))))))))))))))))))))))))))))))
  clear h2 K2
  exact ok_ret ⟨_, ⟨_, _, res_cells (l := [int b.time, int (mrg a b).count, int (mrg a b).sum, int (mrg a b).mn, int (mrg a b).mx, int a.first, int b.last, int (mrg a b).rise]) rfl rfl ag41 sz41 rfl, rfl, rfl⟩, rfl⟩
end Go.Ring
