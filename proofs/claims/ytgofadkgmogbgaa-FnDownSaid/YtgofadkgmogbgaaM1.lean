/- Windows of windows are wider windows; what they come to over a span is what the samples come to: plain law. No condition. -/
import Derived.Test.YtgofadkgmogbgaaN7
set_option maxRecDepth 100000
set_option linter.unusedVariables false
set_option linter.unusedSimpArgs false
namespace Go.Ring
open Go Go.RowKit Go.Eager Go.Abs Go.Proofs
theorem w64_def (n : Int) : w64 n = (n + 9223372036854775808) % 18446744073709551616 - 9223372036854775808 := by unfold w64; rw [IntKind.wrap_i64]
theorem w64_l (a b : Int) : w64 (w64 a + b) = w64 (a + b) := by rw [w64_def, w64_def, w64_def]; omega
theorem w64_r (a b : Int) : w64 (a + w64 b) = w64 (a + b) := by rw [w64_def, w64_def, w64_def]; omega
theorem w64_in {n : Int} (h : -9223372036854775808 ≤ n ∧ n ≤ 9223372036854775807) : w64 n = n := by rw [w64_def]; omega
theorem minI_assoc (a b c : Int) : minI (minI a b) c = minI a (minI b c) := by unfold minI; (repeat split) <;> omega
theorem maxI_assoc (a b c : Int) : maxI (maxI a b) c = maxI a (maxI b c) := by unfold maxI; (repeat split) <;> omega
theorem mrg_assoc (a b c : Agg) : mrg (mrg a b) c = mrg a (mrg b c) := by
  simp only [mrg, Agg.mk.injEq, true_and, minI_assoc, maxI_assoc]
  refine ⟨?_, ?_, ?_⟩
  · rw [w64_l, w64_r]; congr 1; omega
  · rw [w64_l, w64_r]; congr 1; omega
  · simp only [w64_l, w64_r]
    congr 1; omega
theorem stepD_nil (a : Agg) : stepD [] a = [a] := by simp [stepD, joinsB]
theorem lastA_snoc (i : List Agg) (z : Agg) : lastA (i ++ [z]) = z := by simp [lastA]
theorem stepD_snoc (i : List Agg) (z a : Agg) : stepD (i ++ [z]) a = if z.time = a.time then i ++ [mrg z a] else i ++ [z] ++ [a] := by
  unfold stepD joinsB
  rw [lastA_snoc]
  have h : decide ((0 : Int) < ((i ++ [z]).length : Int)) = true := decide_eq_true (by simp only [List.length_append, List.length_cons, List.length_nil]; omega)
  rw [h, Bool.true_and]
  by_cases hz : z.time = a.time
  · rw [if_pos (decide_eq_true hz), if_pos hz]
    simp
  · rw [if_neg (by simpa using hz), if_neg hz]
theorem snoc_cases (q : List Agg) : q = [] ∨ ∃ i z, q = i ++ [z] := by
  rcases List.eq_nil_or_concat q with h | ⟨i, z, h⟩
  · exact .inl h
  · exact .inr ⟨i, z, by simpa using h⟩
/-- One behind the other, of the same time: as one. -/
theorem stepD_two (X : List Agg) {z a : Agg} (h : z.time = a.time) : stepD (stepD X z) a = stepD X (mrg z a) := by
  have ht : (mrg z a).time = a.time := rfl
  rcases snoc_cases X with rfl | ⟨j, y, rfl⟩
  · have := stepD_snoc [] z a
    rw [List.nil_append, if_pos h] at this
    rw [stepD_nil, stepD_nil, this]; rfl
  · rw [stepD_snoc, stepD_snoc j y (mrg z a), ht, ← h]
    by_cases hy : y.time = z.time
    · rw [if_pos hy, if_pos hy, stepD_snoc, if_pos (show (mrg y z).time = a.time from h), mrg_assoc]
    · rw [if_neg hy, if_neg hy, stepD_snoc, if_pos h]
def wid (R : Int) (a : Agg) : Agg := { a with time := winW a.time R }
theorem downA_snoc (q : List Agg) (a : Agg) (R : Int) : downA (q ++ [a]) R = stepD (downA q R) (wid R a) := by simp [downA, wid, List.foldl_append]
theorem downA_step (q : List Agg) (a : Agg) (R : Int) : downA (stepD q a) R = stepD (downA q R) (wid R a) := by
  rcases snoc_cases q with rfl | ⟨i, z, rfl⟩
  · rw [stepD_nil]; exact downA_snoc [] a R
  · rw [stepD_snoc]
    by_cases h : z.time = a.time
    · rw [if_pos h, downA_snoc, downA_snoc]
      have e : wid R (mrg z a) = mrg (wid R z) (wid R a) := rfl
      rw [e, stepD_two]
      show winW z.time R = winW a.time R
      rw [h]
    · rw [if_neg h, downA_snoc]
/-! Windows. -/
theorem winW_mul (t r : Int) : ∃ j, winW t r = r * j := ⟨(t + r - 1) / r, by rw [winW, Int.mul_comm]⟩
theorem winW_min {t r j : Int} (hr : 1 ≤ r) (h : t ≤ r * j) : winW t r ≤ r * j := by
  have h1 : (t + r - 1) / r < j + 1 := Int.ediv_lt_of_lt_mul (by omega) (by rw [Int.add_mul, Int.mul_comm j r]; omega)
  unfold winW
  rw [Int.mul_comm r j]
  exact Int.mul_le_mul_of_nonneg_right (by omega) (by omega)
theorem winW_mono {s t r : Int} (hr : 1 ≤ r) (h : s ≤ t) : winW s r ≤ winW t r := by
  obtain ⟨j, hj⟩ := winW_mul t r
  rw [hj]
  refine winW_min hr ?_
  rw [← hj]
  have := winW_ge t hr
  omega
theorem winW_two {t r k : Int} (hr : 1 ≤ r) (hk : 1 ≤ r * k) : winW (winW t r) (r * k) = winW t (r * k) := by
  have h1 : winW t (r * k) ≤ winW (winW t r) (r * k) := winW_mono hk (winW_ge t hr)
  obtain ⟨j, hj⟩ := winW_mul t (r * k)
  have h2 : winW t r ≤ winW t (r * k) := by
    rw [hj, Int.mul_assoc]
    refine winW_min hr ?_
    rw [← Int.mul_assoc, ← hj]
    exact winW_ge t hk
  have h3 : winW (winW t r) (r * k) ≤ winW t (r * k) := by
    rw [hj]
    refine winW_min hk ?_
    rw [← hj]; exact h2
  omega
def dS (m : List Sample) (r : Int) : List Agg := m.foldl (fun q s => stepD q (aggO s (winW s.time r))) []
theorem dS_snoc (m : List Sample) (s : Sample) (r : Int) : dS (m ++ [s]) r = stepD (dS m r) (aggO s (winW s.time r)) := by simp [dS, List.foldl_append]
theorem snoc_ind {α : Type} {P : List α → Prop} (h0 : P []) (h1 : ∀ m s, P m → P (m ++ [s])) (m : List α) : P m := by
  have : ∀ n (m : List α), m.length = n → P m := by
    intro n
    induction n with
    | zero => intro m hm; rw [List.eq_nil_of_length_eq_zero hm]; exact h0
    | succ n ih =>
      intro m hm
      rcases List.eq_nil_or_concat m with h | ⟨i, z, h⟩
      · rw [h]; exact h0
      · have h' : m = i ++ [z] := by simpa using h
        rw [h'] at hm ⊢
        exact h1 i z (ih i (by simp at hm; exact hm))
  exact this m.length m rfl
/-- STEP BY STEP OR AT ONCE. -/
theorem down_two (m : List Sample) {r k : Int} (hr : 1 ≤ r) (hk : 1 ≤ r * k) : downA (dS m r) (r * k) = dS m (r * k) := by
  refine snoc_ind (P := fun m => downA (dS m r) (r * k) = dS m (r * k)) rfl (fun m s ih => ?_) m
  rw [dS_snoc, downA_step, ih, dS_snoc]
  congr 1
  show aggO s (winW (winW s.time r) (r * k)) = _
  rw [winW_two hr hk]
/-! What they come to over a span. -/
def tot : List Agg → Option Agg
  | [] => none
  | x :: l => some (l.foldl mrg x)
def optM : Option Agg → Agg → Option Agg
  | none, a => some a
  | some y, a => some (mrg y a)
theorem tot_snoc (i : List Agg) (a : Agg) : tot (i ++ [a]) = optM (tot i) a := by
  cases i with
  | nil => rfl
  | cons x i => simp [tot, optM, List.foldl_append]
theorem optM_two (o : Option Agg) (z a : Agg) : optM (optM o z) a = optM o (mrg z a) := by
  cases o with
  | none => rfl
  | some y => simp only [optM, mrg_assoc]
def inB (f t x : Int) : Bool := decide (f < x) && decide (x ≤ t)
theorem span_snoc (f t : Int) (q : List Agg) (a : Agg) : spanA f t (q ++ [a]) = if inB f t a.time = true then spanA f t q ++ [a] else spanA f t q := by
  unfold spanA inB
  rw [List.filter_append, List.filter_cons]
  split <;> simp
theorem tot_span (f t : Int) (q : List Agg) (a : Agg) : tot (spanA f t (stepD q a)) = if inB f t a.time = true then optM (tot (spanA f t q)) a else tot (spanA f t q) := by
  rcases snoc_cases q with rfl | ⟨i, z, rfl⟩
  · rw [stepD_nil]
    have := span_snoc f t [] a
    rw [List.nil_append] at this
    rw [this]
    split <;> rfl
  · rw [stepD_snoc]
    by_cases h : z.time = a.time
    · rw [if_pos h, span_snoc, span_snoc]
      have e : (mrg z a).time = a.time := rfl
      rw [e, h]
      by_cases hb : inB f t a.time = true
      · rw [if_pos hb, if_pos hb, if_pos hb, tot_snoc, tot_snoc, optM_two]
      · rw [if_neg hb, if_neg hb, if_neg hb]
    · rw [if_neg h, span_snoc f t (i ++ [z]) a]
      by_cases hb : inB f t a.time = true
      · rw [if_pos hb, if_pos hb, tot_snoc]
      · rw [if_neg hb, if_neg hb]
def norm (a : Agg) : Agg := { a with time := 0 }
theorem optM_norm {o p : Option Agg} (h : o.map norm = p.map norm) {a b : Agg} (hab : norm a = norm b) : (optM o a).map norm = (optM p b).map norm := by
  have key : ∀ y a, norm (mrg y a) = norm (mrg (norm y) (norm a)) := fun _ _ => rfl
  cases o with
  | none =>
    cases p with
    | none => simp [optM, hab]
    | some y => simp at h
  | some x =>
    cases p with
    | none => simp at h
    | some y =>
      simp only [Option.map_some, Option.some.injEq] at h
      simp only [optM, Option.map_some, Option.some.injEq]
      rw [key, h, hab, ← key]
theorem win_in {f t x r : Int} (hr : 1 ≤ r) (hf : ∃ j, f = r * j) (ht : ∃ j, t = r * j) : inB f t (winW x r) = inB f t x := by
  obtain ⟨jf, hf⟩ := hf
  obtain ⟨jt, ht⟩ := ht
  have h1 : f < winW x r ↔ f < x := by
    constructor
    · intro h
      by_cases hx : x ≤ f
      · have := winW_min (t := x) hr (j := jf) (by omega)
        omega
      · omega
    · intro h
      have := winW_ge x hr
      omega
  have h2 : winW x r ≤ t ↔ x ≤ t := by
    constructor
    · intro h
      have := winW_ge x hr
      omega
    · intro h
      have := winW_min (t := x) hr (j := jt) (by omega)
      omega
  unfold inB
  rw [decide_eq_decide.2 h1, decide_eq_decide.2 h2]
theorem span_same (m : List Sample) {f t r : Int} (hr : 1 ≤ r) (hf : ∃ j, f = r * j) (ht : ∃ j, t = r * j) : (tot (spanA f t (dS m r))).map norm = (tot ((m.filter fun s => inB f t s.time).map fun s => aggO s s.time)).map norm := by
  refine snoc_ind (P := fun m => (tot (spanA f t (dS m r))).map norm = (tot ((m.filter fun s => inB f t s.time).map fun s => aggO s s.time)).map norm) rfl (fun m s ih => ?_) m
  rw [dS_snoc, tot_span, List.filter_append, List.filter_cons]
  have e : inB f t (aggO s (winW s.time r)).time = inB f t s.time := win_in hr hf ht
  rw [e]
  by_cases h : inB f t s.time = true
  · rw [if_pos h, if_pos h, List.map_append]
    show _ = (tot (_ ++ [aggO s s.time])).map norm
    rw [tot_snoc]
    exact optM_norm ih rfl
  · rw [if_neg h, if_neg h]
    simpa using ih
theorem allOv_norm (l : List Agg) (o : Int) : allOv l o = match (tot l).map norm with | none => (0, false) | some a => (ovr a o, true) := by
  cases l with
  | nil => rfl
  | cons x l => rfl
theorem allOv_same {l m : List Agg} (h : (tot l).map norm = (tot m).map norm) (o : Int) : allOv l o = allOv m o := by rw [allOv_norm, allOv_norm, h]
/-- What is asked of windows over a span is what the samples say. -/
theorem over_same (l : List Sample) {f t r : Int} (hr : 1 ≤ r) (hf : ∃ j, f = r * j) (ht : ∃ j, t = r * j) (o : Int) : allOv (spanA f t (downS l r)) o = sOv (cutF (f + 1) t l) o := by
  have e1 : downS l r = dS (liveF l) r := rfl
  have e2 : aggsOf (cutF (f + 1) t l) = ((liveF l).filter fun s => inB f t s.time).map fun s => aggO s s.time := by
    unfold aggsOf cutF liveF
    congr 1
    rw [List.filter_filter, List.filter_filter]
    congr 1
    funext s
    unfold inB
    rw [show decide (f + 1 ≤ s.time) = decide (f < s.time) by rw [decide_eq_decide]; omega, Bool.and_comm]
  rw [sOv, e2, e1]
  exact allOv_same (span_same _ hr hf ht) o
end Go.Ring
