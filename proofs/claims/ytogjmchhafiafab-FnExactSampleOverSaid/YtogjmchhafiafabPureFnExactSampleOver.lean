/- The given program's SampleOver and the reference's say the same of samples in a span, for all arguments: sums, least and greatest values and rises come to the same one by one and put together. No condition. -/
import Derived.Test.YtogjmchhafiafabPreFnExactSampleOver
import Derived.Test.YtogjmchhafiafabKit
namespace Go.Proofs.Ytogjmchhafiafab.Pure
open Go.RowKit Go.Proofs.Ytogjmchhafiafab.PFnExactSampleOver Go.Proofs.YtogjmchhafiafabW.PrintWords Go.Proofs.YtogjmchhafiafabW.PrintLast Go.Proofs.YtogjmchhafiafabW.PrintMore Go.Proofs.Ytogjmchhafiafab.Kit Go.Proofs.Ytogjmchhafiafab.PreFnExactSampleOver
set_option linter.unusedVariables false
set_option linter.unusedSimpArgs false

def toSampleM (x : S83) : S81 := ⟨x.f0, x.f1⟩
theorem toSample_f (x : S83) : laws_toSample.f x.f0 x.f1 = some (x.f0, x.f1) := rfl
theorem szSampleS_f (l : List S83) (m : Int) (hl : l.length ≤ 9223372036854775807) (h0 : 0 ≤ m) (h1 : m ≤ 9223372036854775807) : laws_szSampleS.f l m = some (if (l.length : Int) ≤ m then m - l.length else -1) := by
  unfold laws_szSampleS.f
  rw [w64 (by omega) (by omega)]
  by_cases h : (l.length : Int) ≤ m
  · rw [if_neg (by omega), if_pos h]
  · rw [if_pos (by omega), if_neg h]
theorem toSampleS_loop (rest : List S83) : ∀ (pre : List S83) (zs : List S81), zs.length = rest.length → (pre ++ rest).length ≤ 9223372036854775806 →
    Ev (fun k => laws_toSampleS.l0 k (pre ++ rest) (pre.map toSampleM ++ zs) (pre.length : Int)) ((pre ++ rest).map toSampleM) := by
  induction rest with
  | nil =>
    intro pre zs hz _
    obtain rfl : zs = [] := List.eq_nil_of_length_eq_zero hz
    refine ev_succ (ev_now fun k => ?_)
    simp [laws_toSampleS.l0]
  | cons x rest ih =>
    intro pre zs hz hl
    cases zs with
    | nil => simp at hz
    | cons z zs =>
      have h := ih (pre ++ [x]) zs (by simpa using hz) (by simpa using hl)
      have hlen : (pre ++ x :: rest).length = pre.length + 1 + rest.length := by simp; omega
      refine ev_succ ?_
      have e1 : ((pre.length : Nat) : Int) < ((pre ++ x :: rest).length : Int) := len_mid _ _ _
      have e2 : ((pre.length : Nat) : Int) < ((pre.map toSampleM ++ z :: zs).length : Int) := by have := len_mid (pre.map toSampleM) zs z; simpa using this
      have e3 : rd_T83 (pre ++ x :: rest) (pre.length : Int) = x := by unfold rd_T83; rw [Int.toNat_natCast]; exact getD_mid _ _ _ _
      have e4 : (pre.map toSampleM ++ z :: zs).set (pre.length : Int).toNat (toSampleM x) = (pre ++ [x]).map toSampleM ++ zs := by
        rw [Int.toNat_natCast]
        have := set_mid (pre.map toSampleM) zs z (toSampleM x)
        rw [List.length_map] at this
        rw [this, List.map_append]; rfl
      have e5 : wrap64 ((pre.length : Int) + 1) = ((pre ++ [x]).length : Int) := by rw [len_succ]; exact w64 (by omega) (by omega)
      rw [mid_assoc]
      refine Ev.congr (fun k => ?_) h
      simp only [laws_toSampleS.l0]
      rw [mid_assoc] at e1 e3
      rw [if_pos e1, if_pos (by omega : (0 : Int) ≤ pre.length), e3, toSample_f, Option.bind_some, if_pos e2, e5]
      exact congrArg (fun l => laws_toSampleS.l0 k _ l _) e4
theorem toSampleS_ev (l : List S83) (hl : l.length ≤ 1048576) : Ev (fun k => laws_toSampleS.f k l) (l.map toSampleM) := by
  have h := toSampleS_loop l [] (List.replicate l.length z81) (by simp) (by simp; omega)
  refine Ev.congr (fun k => ?_) h
  unfold laws_toSampleS.f
  rw [if_pos (by omega), if_pos (by simp; omega)]
  simp
theorem eqSample_self (x : S81) : laws_eqSample.f x.f0 x.f1 x.f0 x.f1 = some true := by simp [laws_eqSample.f]
theorem eqSampleS_loop (rest : List S81) : ∀ (pre : List S81), (pre ++ rest).length ≤ 9223372036854775806 → Ev (fun k => laws_eqSampleS.l0 k (pre ++ rest) (pre ++ rest) (pre.length : Int)) true := by
  induction rest with
  | nil =>
    intro pre _
    refine ev_succ (ev_now fun k => ?_)
    simp [laws_eqSampleS.l0]
  | cons x rest ih =>
    intro pre hl
    have h := ih (pre ++ [x]) (by simpa using hl)
    have hlen : (pre ++ x :: rest).length = pre.length + 1 + rest.length := by simp; omega
    refine ev_succ ?_
    have e1 : ((pre.length : Nat) : Int) < ((pre ++ x :: rest).length : Int) := len_mid _ _ _
    have e3 : rd_T81 (pre ++ x :: rest) (pre.length : Int) = x := by unfold rd_T81; rw [Int.toNat_natCast]; exact getD_mid _ _ _ _
    have e5 : wrap64 ((pre.length : Int) + 1) = ((pre ++ [x]).length : Int) := by rw [len_succ]; exact w64 (by omega) (by omega)
    rw [mid_assoc]
    refine Ev.congr (fun k => ?_) h
    simp only [laws_eqSampleS.l0]
    rw [mid_assoc] at e1 e3
    rw [if_pos e1, if_pos (by omega : (0 : Int) ≤ pre.length), if_pos e1, e3, eqSample_self, Option.bind_some, if_pos rfl, e5]
theorem eqSampleS_ev (l : List S81) (hl : l.length ≤ 9223372036854775806) : Ev (fun k => laws_eqSampleS.f k l l) true := by
  have h := eqSampleS_loop l [] (by simpa using hl)
  refine Ev.congr (fun k => ?_) h
  unfold laws_eqSampleS.f
  rw [if_pos rfl]
  simp
/-! ### good samples -/
theorem rd_at (l : List S81) (i : Nat) (h : i < l.length) : rd_T81 l (i : Int) = l[i] := by
  unfold rd_T81
  rw [Int.toNat_natCast]
  exact getD_at l i _ h
def timeB (t : Int) : Bool := decide (0 ≤ t ∧ t ≤ 1000000000000)
def okAt (l : List S81) (i : Nat) : Bool := timeB (rd_T81 l i).f0 && (decide (i = 0) || decide ((rd_T81 l ((i : Int) - 1)).f0 < (rd_T81 l i).f0))
def goodB (l : List S81) : Bool := decide (l.length ≤ 2000) && allFrom (okAt l) l.length 0
theorem l3Time_f (t : Int) : spec_l3Time.f t = some (timeB t) := by
  unfold spec_l3Time.f timeB
  by_cases h : t ≥ 0 <;> simp [h] <;> omega
theorem isTime_f (t : Int) : impl_isTime.f t = some (timeB t) := by
  unfold impl_isTime.f timeB
  by_cases h : t ≥ 0 <;> simp [h] <;> omega
theorem specGood_loop (l : List S81) (hn : l.length ≤ 9223372036854775000) : ∀ i, i ≤ l.length → Ev (fun k => spec_GoodSamples.l0 k l l (l.length : Int) (i : Int)) (decide (l.length ≤ 2000) && allFrom (okAt l) l.length i || (decide (l.length ≤ 2000) && allFrom (okAt l) l.length i)) := by
  refine down ?_ ?_
  · refine ev_succ (ev_now fun k => ?_)
    simp only [spec_GoodSamples.l0, Int.lt_irrefl, if_false, allFrom_end, Bool.and_true, Bool.or_self]
    congr 1
    rw [decide_eq_decide]; omega
  · intro i hi h
    rw [Bool.or_self] at h ⊢
    rw [allFrom_step hi]
    have e5 := w64_succ hi (by omega : l.length ≤ 9223372036854775807)
    have e6 : wrap64 ((i : Int) - 1) = (i : Int) - 1 := w64 (by omega) (by omega)
    refine ev_succ ?_
    by_cases ht : timeB (rd_T81 l i).f0 = true
    · by_cases h0 : i = 0
      · have hok : okAt l i = true := by simp [okAt, ht, h0]; subst h0; exact ht
        rw [hok, Bool.true_and]
        refine Ev.congr (fun k => ?_) h
        simp only [spec_GoodSamples.l0]
        rw [if_pos (by omega : (i : Int) < l.length), if_pos (by omega : (0 : Int) ≤ i), if_pos (by omega : (i : Int) < l.length), l3Time_f, Option.bind_some, if_pos ht, if_neg (by omega), e5]
      · by_cases hlt : (rd_T81 l ((i : Int) - 1)).f0 < (rd_T81 l i).f0
        · have hok : okAt l i = true := by simp [okAt, ht, hlt]
          rw [hok, Bool.true_and]
          refine Ev.congr (fun k => ?_) h
          simp only [spec_GoodSamples.l0]
          rw [if_pos (by omega : (i : Int) < l.length), if_pos (by omega : (0 : Int) ≤ i), if_pos (by omega : (i : Int) < l.length), l3Time_f, Option.bind_some, if_pos ht, if_pos (by omega), e6, if_pos (by omega), if_pos (by omega), if_neg (by omega), e5]
        · have hok : okAt l i = false := by simp [okAt, ht, hlt, h0]
          rw [hok, Bool.false_and, Bool.and_false]
          refine ev_now fun k => ?_
          simp only [spec_GoodSamples.l0]
          rw [if_pos (by omega : (i : Int) < l.length), if_pos (by omega : (0 : Int) ≤ i), if_pos (by omega : (i : Int) < l.length), l3Time_f, Option.bind_some, if_pos ht, if_pos (by omega), e6, if_pos (by omega), if_pos (by omega), if_pos (by omega)]
    · have hok : okAt l i = false := by simp [okAt, ht]
      rw [hok, Bool.false_and, Bool.and_false]
      refine ev_now fun k => ?_
      simp only [spec_GoodSamples.l0]
      rw [if_pos (by omega : (i : Int) < l.length), if_pos (by omega : (0 : Int) ≤ i), if_pos (by omega : (i : Int) < l.length), l3Time_f, Option.bind_some, if_neg ht]
theorem specGood_ev (l : List S81) (hn : l.length ≤ 9223372036854775000) : Ev (fun k => spec_GoodSamples.f k l) (goodB l) := by
  have h := specGood_loop l hn 0 (Nat.zero_le _)
  rw [Bool.or_self] at h
  exact h
theorem implGood_loop (l : List S81) (hn : l.length ≤ 9223372036854775000) : ∀ i, i ≤ l.length → Ev (fun k => impl_GoodSamples.l0 k l l (l.length : Int) (i : Int)) (allFrom (okAt l) l.length i) := by
  refine down ?_ ?_
  · refine ev_succ (ev_now fun k => ?_)
    simp only [impl_GoodSamples.l0, Int.lt_irrefl, if_false, allFrom_end]
  · intro i hi h
    rw [allFrom_step hi]
    have e5 := w64_succ hi (by omega : l.length ≤ 9223372036854775807)
    have e6 : wrap64 ((i : Int) - 1) = (i : Int) - 1 := w64 (by omega) (by omega)
    refine ev_succ ?_
    by_cases ht : timeB (rd_T81 l i).f0 = true
    · by_cases h0 : i = 0
      · have hok : okAt l i = true := by simp [okAt, ht, h0]; subst h0; exact ht
        rw [hok, Bool.true_and]
        refine Ev.congr (fun k => ?_) h
        simp only [impl_GoodSamples.l0]
        rw [if_pos (by omega : (i : Int) < l.length), if_pos (by omega : (0 : Int) ≤ i), if_pos (by omega : (i : Int) < l.length), isTime_f, Option.bind_some, if_pos ht, if_neg (by omega), e5]
      · by_cases hlt : (rd_T81 l ((i : Int) - 1)).f0 < (rd_T81 l i).f0
        · have hok : okAt l i = true := by simp [okAt, ht, hlt]
          rw [hok, Bool.true_and]
          refine Ev.congr (fun k => ?_) h
          simp only [impl_GoodSamples.l0]
          rw [if_pos (by omega : (i : Int) < l.length), if_pos (by omega : (0 : Int) ≤ i), if_pos (by omega : (i : Int) < l.length), isTime_f, Option.bind_some, if_pos ht, if_pos (by omega), e6, if_pos (by omega), if_pos (by omega), if_neg (by omega), e5]
        · have hok : okAt l i = false := by simp [okAt, ht, hlt, h0]
          rw [hok, Bool.false_and]
          refine ev_now fun k => ?_
          simp only [impl_GoodSamples.l0]
          rw [if_pos (by omega : (i : Int) < l.length), if_pos (by omega : (0 : Int) ≤ i), if_pos (by omega : (i : Int) < l.length), isTime_f, Option.bind_some, if_pos ht, if_pos (by omega), e6, if_pos (by omega), if_pos (by omega), if_pos (by omega)]
    · have hok : okAt l i = false := by simp [okAt, ht]
      rw [hok, Bool.false_and]
      refine ev_now fun k => ?_
      simp only [impl_GoodSamples.l0]
      rw [if_pos (by omega : (i : Int) < l.length), if_pos (by omega : (0 : Int) ≤ i), if_pos (by omega : (i : Int) < l.length), isTime_f, Option.bind_some, if_neg ht]
theorem implGood_ev (l : List S81) (hn : l.length ≤ 9223372036854775000) : Ev (fun k => impl_GoodSamples.f k l) (goodB l) := by
  unfold goodB
  by_cases h : l.length ≤ 2000
  · have h1 := implGood_loop l hn 0 (Nat.zero_le _)
    simp only [h, decide_true, Bool.true_and]
    refine Ev.congr (fun k => ?_) h1
    unfold impl_GoodSamples.f
    rw [if_neg (by omega)]; rfl
  · simp only [h, decide_false, Bool.false_and]
    refine ev_now fun k => ?_
    unfold impl_GoodSamples.f
    rw [if_pos (by omega)]
/-- What good samples are. -/
structure Good (l : List S81) : Prop where
  len : l.length ≤ 2000
  lo : ∀ i, (h : i < l.length) → 0 ≤ (l[i]).f0 ∧ (l[i]).f0 ≤ 1000000000000
  up : ∀ i j, (hi : i < l.length) → (hj : j < l.length) → i < j → (l[i]).f0 < (l[j]).f0
theorem good_of {l : List S81} (h : goodB l = true) : Good l := by
  unfold goodB at h
  simp only [Bool.and_eq_true, decide_eq_true_eq] at h
  obtain ⟨h1, h2⟩ := h
  rw [allFrom_iff] at h2
  have h3 : ∀ i, (h : i < l.length) → timeB (l[i]).f0 = true ∧ (i = 0 ∨ (rd_T81 l ((i : Int) - 1)).f0 < (l[i]).f0) := by
    intro i hi
    have h4 := h2 i (Nat.zero_le _) hi
    unfold okAt at h4
    rw [rd_at l i hi] at h4
    simpa using h4
  refine ⟨h1, fun i hi => by have := (h3 i hi).1; simpa [timeB] using this, ?_⟩
  have step : ∀ i, (hi : i + 1 < l.length) → (l[i]).f0 < (l[i + 1]).f0 := by
    intro i hi
    rcases (h3 (i + 1) hi).2 with h5 | h5
    · omega
    · rw [show ((i + 1 : Nat) : Int) - 1 = (i : Int) from by omega, rd_at l i (by omega)] at h5
      exact h5
  intro i j hi hj hij
  obtain ⟨d, rfl⟩ : ∃ d, j = i + 1 + d := ⟨j - i - 1, by omega⟩
  clear hij
  induction d with
  | zero => exact step i hj
  | succ d ih => exact Int.lt_trans (ih (by omega)) (step (i + 1 + d) hj)

theorem cut1_f (t v a b : Int) : impl_cut_1_with.f t v [a] [b] = some (decide (a ≤ t ∧ t ≤ b)) := by
  unfold impl_cut_1_with.f
  rw [if_pos (by simp)]
  have r1 : rd [a] 0 = a := rfl
  have r2 : rd [b] 0 = b := rfl
  rw [r1, r2]
  by_cases h : t ≥ a
  · rw [if_pos h, if_pos (by simp)]
    congr 1
    rw [decide_eq_decide]; omega
  · rw [if_neg h]
    congr 1
    symm
    rw [decide_eq_false_iff_not]; omega
theorem specReal_loop  (rest : List S81) : ∀ (pre out : List S81), (pre ++ rest).length ≤ 1048576 → out.length + rest.length ≤ 1048576 →
    Ev (fun k => spec_l11Real.l0 k out (pre ++ rest) ((pre ++ rest).length : Int) (pre.length : Int)) (out ++ rest.filter fun x => x.f1 != -9223372036854775808) := by
  induction rest with
  | nil =>
    intro pre out _ _
    refine ev_succ (ev_now fun k => ?_)
    simp [spec_l11Real.l0]
  | cons x rest ih =>
    intro pre out hl ho
    have hlen : (pre ++ x :: rest).length = pre.length + 1 + rest.length := by simp; omega
    have hol : out.length + (rest.length + 1) ≤ 1048576 := by simpa using ho
    have e1 : (pre.length : Int) < ((pre ++ x :: rest).length : Int) := len_mid _ _ _
    have e3 : rd_T81 (pre ++ x :: rest) (pre.length : Int) = x := by unfold rd_T81; rw [Int.toNat_natCast]; exact getD_mid _ _ _ _
    have e5 : wrap64 ((pre.length : Int) + 1) = ((pre ++ [x]).length : Int) := by rw [len_succ]; exact w64 (by omega) (by omega)
    have ec : out.length < 8796093022208 := by omega
    by_cases ht : (x.f1 != -9223372036854775808) = true
    · have h := ih (pre ++ [x]) (out ++ [x]) (by simp at hl ⊢; omega) (by simp; omega)
      rw [← mid_assoc] at h
      have er : out ++ [x] ++ rest.filter (fun x => x.f1 != -9223372036854775808) = out ++ (x :: rest).filter fun x => x.f1 != -9223372036854775808 := by rw [List.filter_cons, if_pos ht]; simp
      refine ev_eq (ev_succ (Ev.congr (fun k => ?_) h)) er
      simp only [spec_l11Real.l0]
      rw [if_pos e1, if_pos (by omega : (0 : Int) ≤ pre.length), if_pos e1, e3]
      rw [if_neg (by simpa using ht)]
      simp only [if_pos ec, e5]
    · have h := ih (pre ++ [x]) out (by simp at hl ⊢; omega) (by omega)
      rw [← mid_assoc] at h
      have er : out ++ rest.filter (fun x => x.f1 != -9223372036854775808) = out ++ (x :: rest).filter fun x => x.f1 != -9223372036854775808 := by rw [List.filter_cons, if_neg ht]
      refine ev_eq (ev_succ (Ev.congr (fun k => ?_) h)) er
      simp only [spec_l11Real.l0]
      rw [if_pos e1, if_pos (by omega : (0 : Int) ≤ pre.length), if_pos e1, e3]
      rw [if_pos (by simpa using ht)]
      simp only [e5]
theorem specCut_loop (a b : Int) (rest : List S81) : ∀ (pre out : List S81), (pre ++ rest).length ≤ 1048576 → out.length + rest.length ≤ 1048576 →
    Ev (fun k => spec_l6Cut.l0 k a b out (pre ++ rest) ((pre ++ rest).length : Int) (pre.length : Int)) (out ++ rest.filter fun x => decide (a ≤ x.f0 ∧ x.f0 ≤ b)) := by
  induction rest with
  | nil =>
    intro pre out _ _
    refine ev_succ (ev_now fun k => ?_)
    simp [spec_l6Cut.l0]
  | cons x rest ih =>
    intro pre out hl ho
    have hlen : (pre ++ x :: rest).length = pre.length + 1 + rest.length := by simp; omega
    have hol : out.length + (rest.length + 1) ≤ 1048576 := by simpa using ho
    have e1 : (pre.length : Int) < ((pre ++ x :: rest).length : Int) := len_mid _ _ _
    have e3 : rd_T81 (pre ++ x :: rest) (pre.length : Int) = x := by unfold rd_T81; rw [Int.toNat_natCast]; exact getD_mid _ _ _ _
    have e5 : wrap64 ((pre.length : Int) + 1) = ((pre ++ [x]).length : Int) := by rw [len_succ]; exact w64 (by omega) (by omega)
    have ec : out.length < 8796093022208 := by omega
    by_cases ht : (decide (a ≤ x.f0 ∧ x.f0 ≤ b)) = true
    · have h := ih (pre ++ [x]) (out ++ [x]) (by simp at hl ⊢; omega) (by simp; omega)
      rw [← mid_assoc] at h
      have er : out ++ [x] ++ rest.filter (fun x => decide (a ≤ x.f0 ∧ x.f0 ≤ b)) = out ++ (x :: rest).filter fun x => decide (a ≤ x.f0 ∧ x.f0 ≤ b) := by rw [List.filter_cons, if_pos ht]; simp
      refine ev_eq (ev_succ (Ev.congr (fun k => ?_) h)) er
      simp only [spec_l6Cut.l0]
      rw [if_pos e1, if_pos (by omega : (0 : Int) ≤ pre.length), if_pos e1, e3]
      rw [if_pos (show x.f0 ≥ a by simp at ht; omega), if_pos (show x.f0 ≤ b by simp at ht; omega)]
      simp only [if_pos ec, e5]
    · have h := ih (pre ++ [x]) out (by simp at hl ⊢; omega) (by omega)
      rw [← mid_assoc] at h
      have er : out ++ rest.filter (fun x => decide (a ≤ x.f0 ∧ x.f0 ≤ b)) = out ++ (x :: rest).filter fun x => decide (a ≤ x.f0 ∧ x.f0 ≤ b) := by rw [List.filter_cons, if_neg ht]
      refine ev_eq (ev_succ (Ev.congr (fun k => ?_) h)) er
      simp only [spec_l6Cut.l0]
      rw [if_pos e1, if_pos (by omega : (0 : Int) ≤ pre.length), if_pos e1, e3]
      have hn : ¬ (a ≤ x.f0 ∧ x.f0 ≤ b) := by simpa using ht
      by_cases h1 : x.f0 ≥ a
      · rw [if_pos h1, if_neg (show ¬ x.f0 ≤ b by omega), e5]
      rw [if_neg h1]
      simp only [e5]
theorem implLive_loop  (rest : List S81) : ∀ (pre out : List S81), (pre ++ rest).length ≤ 1048576 → out.length + rest.length ≤ 1048576 →
    Ev (fun k => impl_Sample_at_impl_live_1.l0 k out (pre ++ rest) ((pre ++ rest).length : Int) (pre.length : Int)) (out ++ rest.filter fun x => x.f1 != -9223372036854775808) := by
  induction rest with
  | nil =>
    intro pre out _ _
    refine ev_succ (ev_now fun k => ?_)
    simp [impl_Sample_at_impl_live_1.l0]
  | cons x rest ih =>
    intro pre out hl ho
    have hlen : (pre ++ x :: rest).length = pre.length + 1 + rest.length := by simp; omega
    have hol : out.length + (rest.length + 1) ≤ 1048576 := by simpa using ho
    have e1 : (pre.length : Int) < ((pre ++ x :: rest).length : Int) := len_mid _ _ _
    have e3 : rd_T81 (pre ++ x :: rest) (pre.length : Int) = x := by unfold rd_T81; rw [Int.toNat_natCast]; exact getD_mid _ _ _ _
    have e5 : wrap64 ((pre.length : Int) + 1) = ((pre ++ [x]).length : Int) := by rw [len_succ]; exact w64 (by omega) (by omega)
    have ec : out.length < 8796093022208 := by omega
    by_cases ht : (x.f1 != -9223372036854775808) = true
    · have h := ih (pre ++ [x]) (out ++ [x]) (by simp at hl ⊢; omega) (by simp; omega)
      rw [← mid_assoc] at h
      have er : out ++ [x] ++ rest.filter (fun x => x.f1 != -9223372036854775808) = out ++ (x :: rest).filter fun x => x.f1 != -9223372036854775808 := by rw [List.filter_cons, if_pos ht]; simp
      refine ev_eq (ev_succ (Ev.congr (fun k => ?_) h)) er
      simp only [impl_Sample_at_impl_live_1.l0]
      rw [if_pos e1, if_pos (by omega : (0 : Int) ≤ pre.length), if_pos e1, e3]
      rw [show impl_live_1.f x.f0 x.f1 = some true from congrArg some ht, Option.bind_some, if_pos rfl]
      simp only [if_pos ec, e5]
    · have h := ih (pre ++ [x]) out (by simp at hl ⊢; omega) (by omega)
      rw [← mid_assoc] at h
      have er : out ++ rest.filter (fun x => x.f1 != -9223372036854775808) = out ++ (x :: rest).filter fun x => x.f1 != -9223372036854775808 := by rw [List.filter_cons, if_neg ht]
      refine ev_eq (ev_succ (Ev.congr (fun k => ?_) h)) er
      simp only [impl_Sample_at_impl_live_1.l0]
      rw [if_pos e1, if_pos (by omega : (0 : Int) ≤ pre.length), if_pos e1, e3]
      rw [show impl_live_1.f x.f0 x.f1 = some false from congrArg some (by simpa using ht), Option.bind_some, if_neg (by decide)]
      simp only [e5]
theorem implCut_loop (a b : Int) (rest : List S81) : ∀ (pre out : List S81), (pre ++ rest).length ≤ 1048576 → out.length + rest.length ≤ 1048576 →
    Ev (fun k => impl_Sample_at_impl_cut_1.l0 k out (pre ++ rest) ((pre ++ rest).length : Int) (pre.length : Int) [a] [b]) (out ++ rest.filter fun x => decide (a ≤ x.f0 ∧ x.f0 ≤ b)) := by
  induction rest with
  | nil =>
    intro pre out _ _
    refine ev_succ (ev_now fun k => ?_)
    simp [impl_Sample_at_impl_cut_1.l0]
  | cons x rest ih =>
    intro pre out hl ho
    have hlen : (pre ++ x :: rest).length = pre.length + 1 + rest.length := by simp; omega
    have hol : out.length + (rest.length + 1) ≤ 1048576 := by simpa using ho
    have e1 : (pre.length : Int) < ((pre ++ x :: rest).length : Int) := len_mid _ _ _
    have e3 : rd_T81 (pre ++ x :: rest) (pre.length : Int) = x := by unfold rd_T81; rw [Int.toNat_natCast]; exact getD_mid _ _ _ _
    have e5 : wrap64 ((pre.length : Int) + 1) = ((pre ++ [x]).length : Int) := by rw [len_succ]; exact w64 (by omega) (by omega)
    have ec : out.length < 8796093022208 := by omega
    by_cases ht : (decide (a ≤ x.f0 ∧ x.f0 ≤ b)) = true
    · have h := ih (pre ++ [x]) (out ++ [x]) (by simp at hl ⊢; omega) (by simp; omega)
      rw [← mid_assoc] at h
      have er : out ++ [x] ++ rest.filter (fun x => decide (a ≤ x.f0 ∧ x.f0 ≤ b)) = out ++ (x :: rest).filter fun x => decide (a ≤ x.f0 ∧ x.f0 ≤ b) := by rw [List.filter_cons, if_pos ht]; simp
      refine ev_eq (ev_succ (Ev.congr (fun k => ?_) h)) er
      simp only [impl_Sample_at_impl_cut_1.l0]
      rw [if_pos e1, if_pos (by omega : (0 : Int) ≤ pre.length), if_pos e1, e3]
      rw [cut1_f, ht, Option.bind_some, if_pos rfl]
      simp only [if_pos ec, e5]
    · have h := ih (pre ++ [x]) out (by simp at hl ⊢; omega) (by omega)
      rw [← mid_assoc] at h
      have er : out ++ rest.filter (fun x => decide (a ≤ x.f0 ∧ x.f0 ≤ b)) = out ++ (x :: rest).filter fun x => decide (a ≤ x.f0 ∧ x.f0 ≤ b) := by rw [List.filter_cons, if_neg ht]
      refine ev_eq (ev_succ (Ev.congr (fun k => ?_) h)) er
      simp only [impl_Sample_at_impl_cut_1.l0]
      rw [if_pos e1, if_pos (by omega : (0 : Int) ≤ pre.length), if_pos e1, e3]
      rw [cut1_f, Bool.eq_false_iff.2 ht, Option.bind_some, if_neg (by decide)]
      simp only [e5]

def real (l : List S81) : List S81 := l.filter fun x => x.f1 != -9223372036854775808
def cutM (l : List S81) (a b : Int) : List S81 := l.filter fun x => decide (a ≤ x.f0 ∧ x.f0 ≤ b)
theorem real_le (l : List S81) : (real l).length ≤ l.length := List.length_filter_le _ _
theorem cutM_le (l : List S81) (a b : Int) : (cutM l a b).length ≤ l.length := List.length_filter_le _ _
theorem specReal_ev (l : List S81) (hl : l.length ≤ 1048576) : Ev (fun k => spec_l11Real.f k l) (real l) := specReal_loop l [] [] (by simpa using hl) (by simpa using hl)
theorem specCut_ev (l : List S81) (a b : Int) (hl : l.length ≤ 1048576) : Ev (fun k => spec_l6Cut.f k l a b) (cutM l a b) := specCut_loop a b l [] [] (by simpa using hl) (by simpa using hl)
theorem implLive_ev (l : List S81) (hl : l.length ≤ 1048576) : Ev (fun k => impl_live.f k l) (real l) := by
  have h : Ev (fun k => impl_Sample_at_impl_live_1.f k l) (real l) := implLive_loop l [] [] (by simpa using hl) (by simpa using hl)
  exact Ev.bind h (Ev.now _)
theorem implCut_ev (l : List S81) (a b : Int) (hl : l.length ≤ 1048576) : Ev (fun k => impl_cut.f k l a b) (cutM l a b) := by
  have h : Ev (fun k => impl_Sample_at_impl_cut_1.f k l [a] [b]) (cutM l a b) := implCut_loop a b l [] [] (by simpa using hl) (by simpa using hl)
  exact Ev.bind h (Ev.now _)
/-! ### what samples come to -/
theorem tmod_neg (a b : Int) : Int.tmod a b < 0 ↔ Int.tmod a b ≠ 0 ∧ a < 0 := by
  constructor
  · intro h1
    refine ⟨by omega, ?_⟩
    by_cases h2 : 0 ≤ a
    · have := Int.tmod_nonneg b h2
      omega
    · omega
  · rintro ⟨h, h1⟩
    have h2 : 0 ≤ Int.tmod (-a) b := Int.tmod_nonneg b (by omega)
    rw [Int.neg_tmod] at h2
    omega
theorem quot_same (a b : Int) (hb : 0 < b) : ∃ q, spec_l11Floor.f a b = some q ∧ impl_Quotient.f a b = some q := by
  unfold spec_l11Floor.f impl_Quotient.f
  have hb0 : ¬ b = 0 := by omega
  rw [if_neg hb0, if_neg hb0]
  by_cases h0 : Int.tmod a b = 0
  · exact ⟨_, by rw [if_neg (by omega)], by rw [if_pos h0]⟩
  · have hb' : decide (b < 0) = false := by simp; omega
    by_cases ha : a < 0
    · have h1 := (tmod_neg a b).2 ⟨h0, ha⟩
      exact ⟨_, by rw [if_pos h1], by rw [if_neg h0, if_pos (by simp [ha, hb'])]⟩
    · have h1 : ¬ Int.tmod a b < 0 := fun h => ha ((tmod_neg a b).1 h).2
      exact ⟨_, by rw [if_neg h1], by rw [if_neg h0, if_neg (by simp [ha, hb'])]⟩
theorem over_same (t0 t1 c s m M f l r : Int) (o : Int) (hc : 0 < c) (h1 : 1 ≤ o) (h8 : o ≤ 8) : ∃ x, spec_l11Over.f t0 c s m M f l r o = some (x, true) ∧ impl_overOf.f t1 c s m M f l r o = some x := by
  obtain ⟨q, q1, q2⟩ := quot_same s c hc
  have ho : o = 1 ∨ o = 2 ∨ o = 3 ∨ o = 4 ∨ o = 5 ∨ o = 6 ∨ o = 7 ∨ o = 8 := by omega
  unfold spec_l11Over.f impl_overOf.f
  rcases ho with rfl | rfl | rfl | rfl | rfl | rfl | rfl | rfl <;> simp [q1, q2]
theorem over_none (t0 c s m M f l r : Int) (o : Int) (h : o < 1 ∨ 8 < o) : spec_l11Over.f t0 c s m M f l r o = some (0, false) := by
  unfold spec_l11Over.f
  rw [if_neg (by omega), if_neg (by omega), if_neg (by omega), if_neg (by omega), if_neg (by omega), if_neg (by omega), if_neg (by omega), if_neg (by omega)]
def rise (a b : Int) : Int := if b ≥ a then wrap64 (b - a) else b
theorem specRise_f (a b : Int) : spec_l11Rise.f a b = some (rise a b) := by
  unfold spec_l11Rise.f rise
  split <;> rfl
theorem implRise_f (a b : Int) : impl_riseOver.f a b = some (rise a b) := by
  unfold impl_riseOver.f rise
  split <;> rfl
theorem w64_range (x : Int) : -9223372036854775808 ≤ wrap64 x ∧ wrap64 x ≤ 9223372036854775807 := by
  unfold wrap64
  omega
/-- Sum, least, greatest, rise, last value: with one value more. -/
structure Run where
  s : Int
  m : Int
  M : Int
  r : Int
  l : Int
def Run.step (x : Run) (v : Int) : Run := ⟨wrap64 (x.s + v), if v < x.m then v else x.m, if x.M < v then v else x.M, wrap64 (x.r + rise x.l v), v⟩
def Run.over (x : Run) (vs : List Int) : Run := vs.foldl Run.step x
theorem specAgg_loop (t n f e : Int) (rest : List S81) : ∀ (pre : List S81) (p : S81) (x : Run), x.l = p.f1 → (pre ++ [p] ++ rest).length ≤ 1048576 → (∀ z ∈ rest, -9223372036854775808 ≤ z.f1 ∧ z.f1 ≤ 9223372036854775807) →
    Ev (fun k => spec_l11Agg.l0 k (pre ++ [p] ++ rest) (pre ++ [p] ++ rest) ((pre ++ [p] ++ rest).length : Int) ((pre ++ [p]).length : Int) t n x.s x.m x.M f e x.r)
      (t, n, (x.over (rest.map (·.f1))).s, (x.over (rest.map (·.f1))).m, (x.over (rest.map (·.f1))).M, f, e, (x.over (rest.map (·.f1))).r) := by
  induction rest with
  | nil =>
    intro pre p x _ _ _
    refine ev_succ (ev_now fun k => ?_)
    simp [spec_l11Agg.l0, Run.over]
  | cons z rest ih =>
    intro pre p x hp hl hz
    have h := ih (pre ++ [p]) z (x.step z.f1) rfl (by simp at hl ⊢; omega) (fun q hq => hz q (List.mem_cons_of_mem _ hq))
    have e0 : pre ++ [p] ++ [z] ++ rest = pre ++ [p] ++ z :: rest := by simp
    rw [e0] at h
    have hlen : (pre ++ [p] ++ z :: rest).length = pre.length + 2 + rest.length := by simp; omega
    have hq : (pre ++ [p]).length = pre.length + 1 := by simp
    have e1 : ((pre ++ [p]).length : Int) < ((pre ++ [p] ++ z :: rest).length : Int) := len_mid _ _ _
    have e3 : rd_T81 (pre ++ [p] ++ z :: rest) ((pre ++ [p]).length : Int) = z := by unfold rd_T81; rw [Int.toNat_natCast]; exact getD_mid _ _ _ _
    have e4 : wrap64 (((pre ++ [p]).length : Int) - 1) = (pre.length : Int) := by rw [hq, w64 (by omega) (by omega)]; omega
    have e6 : rd_T81 (pre ++ [p] ++ z :: rest) (pre.length : Int) = p := by
      unfold rd_T81; rw [Int.toNat_natCast, List.append_assoc]; exact getD_mid _ _ _ _
    have e5 : wrap64 (((pre ++ [p]).length : Int) + 1) = ((pre ++ [p] ++ [z]).length : Int) := by rw [len_succ (pre ++ [p]) z]; exact w64 (by omega) (by omega)
    have hr : x.r = x.r := rfl
    refine ev_succ ?_
    refine ev_succ ?_
    refine Ev.congr (fun k => ?_) h
    simp only [spec_l11Agg.l0, spec_l11Agg.j1]
    simp only [if_pos e1, if_pos (show (0 : Int) ≤ ((pre ++ [p]).length : Int) by omega), e3, if_pos (show ((pre ++ [p]).length : Int) > 0 by rw [hq]; omega), e4, e5, e6, specRise_f, Option.bind_some,
      if_pos (show (0 : Int) ≤ (pre.length : Int) by omega), if_pos (show (pre.length : Int) < ((pre ++ [p] ++ z :: rest).length : Int) by rw [hlen]; omega)]
    simp only [Run.step, hp]
    by_cases c1 : z.f1 < x.m
    · by_cases c2 : z.f1 > x.M
      · have c3 : x.M < z.f1 := c2
        simp only [if_pos c1, if_pos c2, if_pos c3]
      · have c3 : ¬ x.M < z.f1 := c2
        simp only [if_pos c1, if_neg c2, if_neg c3]
    · by_cases c2 : z.f1 > x.M
      · have c3 : x.M < z.f1 := c2
        simp only [if_neg c1, if_pos c2, if_pos c3]
      · have c3 : ¬ x.M < z.f1 := c2
        simp only [if_neg c1, if_neg c2, if_neg c3]
def first (v : Int) : Run := ⟨v, v, v, 0, v⟩
theorem specAgg_ev (y : S81) (rest : List S81) (t : Int) (hl : (y :: rest).length ≤ 1048576) (hv : ∀ z ∈ y :: rest, -9223372036854775808 ≤ z.f1 ∧ z.f1 ≤ 9223372036854775807) :
    ∃ e, Ev (fun k => spec_l11Agg.f k (y :: rest) t) (t, ((y :: rest).length : Int), ((first y.f1).over (rest.map (·.f1))).s, ((first y.f1).over (rest.map (·.f1))).m, ((first y.f1).over (rest.map (·.f1))).M, y.f1, e, ((first y.f1).over (rest.map (·.f1))).r) ∧ e = ((first y.f1).over (rest.map (·.f1))).l := by
  have hlen : (y :: rest).length = rest.length + 1 := by simp
  have hy := hv y List.mem_cons_self
  have e4 : wrap64 (((y :: rest).length : Int) - 1) = (rest.length : Int) := by rw [hlen, w64 (by omega) (by omega)]; omega
  refine ⟨(rd_T81 (y :: rest) (rest.length : Int)).f1, ?_, ?_⟩
  · have h := specAgg_loop t ((y :: rest).length : Int) y.f1 (rd_T81 (y :: rest) (rest.length : Int)).f1 rest [] y (first y.f1) rfl hl (fun z hz => hv z (List.mem_cons_of_mem _ hz))
    have r0 : rd_T81 (y :: rest) 0 = y := rfl
    have h2 : ∀ R, Ev (fun k => spec_l11Agg.l0 k ([] ++ [y] ++ rest) ([] ++ [y] ++ rest) (([] ++ [y] ++ rest).length : Int) (([] ++ [y] : List S81).length : Int) t ((y :: rest).length : Int) (first y.f1).s (first y.f1).m (first y.f1).M y.f1 (rd_T81 (y :: rest) (rest.length : Int)).f1 (first y.f1).r) R →
        Ev (fun k => spec_l11Agg.l0 k (y :: rest) (y :: rest) ((y :: rest).length : Int) 0 t ((y :: rest).length : Int) 0 y.f1 y.f1 y.f1 (rd_T81 (y :: rest) (rest.length : Int)).f1 0) R := by
      intro R h
      refine ev_succ ?_
      refine ev_succ ?_
      refine Ev.congr (fun k => ?_) h
      simp only [spec_l11Agg.l0, spec_l11Agg.j1, r0]
      simp only [if_pos (show (0 : Int) < ((y :: rest).length : Int) by rw [hlen]; omega), Int.le_refl, if_true, Int.lt_irrefl, if_false, gt_iff_lt]
      rw [show wrap64 (0 + y.f1) = y.f1 from by rw [Int.zero_add]; exact w64 hy.1 hy.2, show wrap64 ((0 : Int) + 1) = (([] ++ [y] : List S81).length : Int) from by simp [wrap64]]
      rfl
    refine Ev.congr (fun k => ?_) (h2 _ h)
    unfold spec_l11Agg.f
    rw [if_pos (by rw [hlen]; omega), e4, if_pos (by omega), if_pos (by rw [hlen]; omega), r0]
  · have : ∀ (rest : List S81) (y : S81) (x : Run), x.l = y.f1 → (rd_T81 (y :: rest) (rest.length : Int)).f1 = (x.over (rest.map (·.f1))).l := by
      intro rest
      induction rest with
      | nil => intro y x h; exact h.symm
      | cons z rest ih =>
        intro y x h
        have h1 := ih z (x.step z.f1) rfl
        have h2 : rd_T81 (y :: z :: rest) ((z :: rest).length : Int) = rd_T81 (z :: rest) (rest.length : Int) := by
          unfold rd_T81
          rw [Int.toNat_natCast, Int.toNat_natCast]
          rfl
        rw [h2, h1]; rfl
    exact this rest y _ rfl
def aggM (t v : Int) : S78 := ⟨t, 1, v, v, v, v, v, 0⟩
theorem merge_f (t c s m M f l r : Int) (a : S81) (hr : -9223372036854775808 ≤ r ∧ r ≤ 9223372036854775807) (x : Run) (hx : x = ⟨s, m, M, r, l⟩) : impl_MergeAgg.f t c s m M f l r (aggM a.f0 a.f1).f0 (aggM a.f0 a.f1).f1 (aggM a.f0 a.f1).f2 (aggM a.f0 a.f1).f3 (aggM a.f0 a.f1).f4 (aggM a.f0 a.f1).f5 (aggM a.f0 a.f1).f6 (aggM a.f0 a.f1).f7 =
    some (a.f0, wrap64 (c + 1), (x.step a.f1).s, (x.step a.f1).m, (x.step a.f1).M, f, (x.step a.f1).l, (x.step a.f1).r) := by
  subst hx
  unfold impl_MergeAgg.f
  simp only [aggM, implRise_f, Option.bind_some, Run.step, mn, mx]
  rw [show wrap64 (r + 0) = r from by rw [Int.add_zero]; exact w64 hr.1 hr.2]
  rfl
theorem implAll_loop (f : Int) (rest : List S81) : ∀ (pre : List S78) (t c : Int) (x : Run), (-9223372036854775808 ≤ x.r ∧ x.r ≤ 9223372036854775807) → 0 ≤ c → c + rest.length ≤ 1048576 → (pre ++ rest.map fun a => aggM a.f0 a.f1).length ≤ 1048576 →
    ∃ t', Ev (fun k => impl_allOf.l0 k (pre ++ rest.map fun a => aggM a.f0 a.f1) ((pre ++ rest.map fun a => aggM a.f0 a.f1).length : Int) (pre.length : Int) t c x.s x.m x.M f x.l x.r)
      (t', c + rest.length, (x.over (rest.map (·.f1))).s, (x.over (rest.map (·.f1))).m, (x.over (rest.map (·.f1))).M, f, (x.over (rest.map (·.f1))).l, (x.over (rest.map (·.f1))).r) := by
  induction rest with
  | nil =>
    intro pre t c x _ _ _ _
    refine ⟨t, ev_succ (ev_now fun k => ?_)⟩
    simp [impl_allOf.l0, Run.over]
  | cons a rest ih =>
    intro pre t c x hr h0 hc hl
    have hcl : ((a :: rest).length : Int) = rest.length + 1 := by simp
    rw [hcl] at hc ⊢
    obtain ⟨t', h⟩ := ih (pre ++ [aggM a.f0 a.f1]) a.f0 (c + 1) (x.step a.f1) (w64_range _) (by omega) (by omega) (by simp at hl ⊢; omega)
    refine ⟨t', ?_⟩
    have e0 : pre ++ [aggM a.f0 a.f1] ++ (rest.map fun a => aggM a.f0 a.f1) = pre ++ (a :: rest).map fun a => aggM a.f0 a.f1 := by simp
    rw [e0] at h
    have hm : (a :: rest).map (fun a => aggM a.f0 a.f1) = aggM a.f0 a.f1 :: rest.map fun a => aggM a.f0 a.f1 := rfl
    have hlen : (pre ++ (a :: rest).map fun a => aggM a.f0 a.f1).length = pre.length + 1 + rest.length := by simp; omega
    have e1 : (pre.length : Int) < ((pre ++ (a :: rest).map fun a => aggM a.f0 a.f1).length : Int) := by rw [hlen]; omega
    have e3 : rd_T78 (pre ++ (a :: rest).map fun a => aggM a.f0 a.f1) (pre.length : Int) = aggM a.f0 a.f1 := by unfold rd_T78; rw [Int.toNat_natCast, hm]; exact getD_mid _ _ _ _
    have e5 : wrap64 ((pre.length : Int) + 1) = ((pre ++ [aggM a.f0 a.f1]).length : Int) := by rw [len_succ]; exact w64 (by omega) (by omega)
    refine ev_eq (ev_succ (Ev.congr (fun k => ?_) h)) (by rw [show c + 1 + (rest.length : Int) = c + (rest.length + 1) by omega]; rfl)
    simp only [impl_allOf.l0]
    rw [if_pos e1, if_pos (by omega : (0 : Int) ≤ pre.length), e3, if_pos e1, merge_f t c x.s x.m x.M f x.l x.r a hr x rfl]
    simp only [Option.bind_some]
    rw [e5, w64 (x := c + 1) (by omega) (by omega)]
theorem implAll_ev (y : S81) (rest : List S81) (hl : (y :: rest).length ≤ 1048576) :
    ∃ t', Ev (fun k => impl_allOf.f k ((y :: rest).map fun a => aggM a.f0 a.f1)) (t', ((y :: rest).length : Int), ((first y.f1).over (rest.map (·.f1))).s, ((first y.f1).over (rest.map (·.f1))).m, ((first y.f1).over (rest.map (·.f1))).M, y.f1, ((first y.f1).over (rest.map (·.f1))).l, ((first y.f1).over (rest.map (·.f1))).r) := by
  have hlen : (y :: rest).length = rest.length + 1 := by simp
  obtain ⟨t', h⟩ := implAll_loop y.f1 rest [] y.f0 1 (first y.f1) (by simp [first]) (by decide) (by omega) (by simp; omega)
  refine ⟨t', ev_eq (Ev.congr (fun k => ?_) h) (by rw [show (1 : Int) + (rest.length : Int) = ((y :: rest).length : Int) by rw [hlen]; omega])⟩
  unfold impl_allOf.f
  have hm : (y :: rest).map (fun a => aggM a.f0 a.f1) = aggM y.f0 y.f1 :: rest.map fun a => aggM a.f0 a.f1 := rfl
  rw [hm, if_pos (by simp only [List.length_cons]; omega), if_pos (by simp only [List.length_cons]; omega)]
  rfl

theorem implOver_loop (o : Int) (r : Int × Bool) (rest : List S81) : ∀ (pre : List S81), (pre ++ rest).length ≤ 1048576 →
    Ev (fun k => if (((pre ++ rest).map fun a => aggM a.f0 a.f1).length : Int) = 0 then some (0, false) else ((impl_allOf.f k ((pre ++ rest).map fun a => aggM a.f0 a.f1)).bind fun b => ((impl_overOf.f b.1 b.2.1 b.2.2.1 b.2.2.2.1 b.2.2.2.2.1 b.2.2.2.2.2.1 b.2.2.2.2.2.2.1 b.2.2.2.2.2.2.2 o).bind fun t => (some (t, true))))) r →
    Ev (fun k => impl_sampleOver.l0 k o (pre.map fun a => aggM a.f0 a.f1) (pre ++ rest) ((pre ++ rest).length : Int) (pre.length : Int)) r := by
  induction rest with
  | nil =>
    intro pre _ h
    simp only [List.append_nil] at h ⊢
    refine ev_succ (Ev.congr (fun k => ?_) h)
    simp only [impl_sampleOver.l0, Int.lt_irrefl, if_false]
  | cons x rest ih =>
    intro pre hl h
    have h2 := ih (pre ++ [x]) (by simp at hl ⊢; omega) (by rw [← mid_assoc]; exact h)
    rw [← mid_assoc] at h2
    have hlen : (pre ++ x :: rest).length = pre.length + 1 + rest.length := by simp; omega
    have e1 : (pre.length : Int) < ((pre ++ x :: rest).length : Int) := len_mid _ _ _
    have e3 : rd_T81 (pre ++ x :: rest) (pre.length : Int) = x := by unfold rd_T81; rw [Int.toNat_natCast]; exact getD_mid _ _ _ _
    have e5 : wrap64 ((pre.length : Int) + 1) = ((pre ++ [x]).length : Int) := by rw [len_succ]; exact w64 (by omega) (by omega)
    refine ev_succ (Ev.congr (fun k => ?_) h2)
    simp only [impl_sampleOver.l0]
    rw [if_pos e1, if_pos (by omega : (0 : Int) ≤ pre.length), if_pos e1, e3]
    simp only [impl_aggOf.f, Option.bind_some]
    rw [if_pos (by rw [List.length_map]; omega), e5]
    have e6 : (pre.map fun a => aggM a.f0 a.f1) ++ [aggM x.f0 x.f1] = (pre ++ [x]).map fun a => aggM a.f0 a.f1 := by simp
    exact congrArg (fun l => impl_sampleOver.l0 k o l _ _ _) e6
theorem goodOver_f (a b o : Int) : impl_goodOver.f a b o = some (decide ((a ≥ -1 ∧ b ≥ -1 ∧ a ≤ b ∧ b ≤ 1000000000000) ∧ 1 ≤ o ∧ o ≤ 8)) := by
  unfold impl_goodOver.f
  simp only [isTime_f, Option.bind_some, timeB, decide_eq_true_eq]
  repeat' split
  all_goals (congr 1; first | (rw [decide_eq_decide]; omega) | (symm; rw [decide_eq_false_iff_not]; omega))
theorem span_f (a b : Int) : spec_l11Span.f a b = some (decide (a ≥ -1 ∧ b ≥ -1 ∧ a ≤ b ∧ b ≤ 1000000000000)) := by
  unfold spec_l11Span.f
  repeat' split
  all_goals (congr 1; first | (rw [decide_eq_decide]; omega) | (symm; rw [decide_eq_false_iff_not]; omega))
theorem both (l : List S81) (a b o : Int) (hl : l.length ≤ 1048576) (hv : ∀ z ∈ l, -9223372036854775808 ≤ z.f1 ∧ z.f1 ≤ 9223372036854775807) : ∃ r : Int × Bool, Ev (fun k => spec_SampleOver.f k l a b o) r ∧ Ev (fun k => impl_SampleOver.f k l a b o) r := by
  have sg := specGood_ev l (by omega)
  have ig := implGood_ev l (by omega)
  have s0 : Ev (fun k => spec_SampleOver.j0 k l a b o true) (0, false) := ev_succ (ev_now fun k => by simp [spec_SampleOver.j0])
  have i0 : Ev (fun k => impl_SampleOver.j0 k l a b o true) (0, false) := ev_succ (ev_now fun k => by simp [impl_SampleOver.j0])
  unfold spec_SampleOver.f impl_SampleOver.f
  by_cases g : goodB l = true
  · by_cases hs : a ≥ -1 ∧ b ≥ -1 ∧ a ≤ b ∧ b ≤ 1000000000000
    · have lc := cutM_le l (wrap64 (a + 1)) b
      have lr := real_le (cutM l (wrap64 (a + 1)) b)
      have hvr : ∀ z ∈ real (cutM l (wrap64 (a + 1)) b), -9223372036854775808 ≤ z.f1 ∧ z.f1 ≤ 9223372036854775807 := fun z hz => hv z (List.mem_filter.1 (List.mem_filter.1 hz).1).1
      have sc := specCut_ev l (wrap64 (a + 1)) b hl
      have ic := implCut_ev l (wrap64 (a + 1)) b hl
      have sr := specReal_ev (cutM l (wrap64 (a + 1)) b) (by omega)
      have ir := implLive_ev (cutM l (wrap64 (a + 1)) b) (by omega)
      -- what the reference comes to
      have spec_of : ∀ r, Ev (fun k => if ((real (cutM l (wrap64 (a + 1)) b)).length : Int) = 0 then some (0, false) else ((spec_l11Agg.f k (real (cutM l (wrap64 (a + 1)) b)) b).bind fun b => ((spec_l11Over.f b.1 b.2.1 b.2.2.1 b.2.2.2.1 b.2.2.2.2.1 b.2.2.2.2.2.1 b.2.2.2.2.2.2.1 b.2.2.2.2.2.2.2 o).bind fun c => (some (c.1, c.2))))) r →
          Ev (fun k => (spec_GoodSamples.f k l).bind fun t129 => (if t129 = true then ((spec_l11Span.f a b).bind fun t130 => (spec_SampleOver.j0 k l a b o (!t130))) else (spec_SampleOver.j0 k l a b o true))) r := by
        intro r h
        refine Ev.bind sg ?_
        simp only [if_pos g, span_f, Option.bind_some, hs, and_self, decide_true, Bool.not_true]
        refine ev_succ ?_
        simp only [spec_SampleOver.j0, Bool.false_eq_true, if_false]
        exact Ev.bind sc (Ev.bind sr h)
      by_cases ho : 1 ≤ o ∧ o ≤ 8
      · have impl_of : ∀ r, Ev (fun k => if (((real (cutM l (wrap64 (a + 1)) b)).map fun a => aggM a.f0 a.f1).length : Int) = 0 then some (0, false) else ((impl_allOf.f k ((real (cutM l (wrap64 (a + 1)) b)).map fun a => aggM a.f0 a.f1)).bind fun b => ((impl_overOf.f b.1 b.2.1 b.2.2.1 b.2.2.2.1 b.2.2.2.2.1 b.2.2.2.2.2.1 b.2.2.2.2.2.2.1 b.2.2.2.2.2.2.2 o).bind fun t => (some (t, true))))) r →
            Ev (fun k => (impl_GoodSamples.f k l).bind fun t239 => (if t239 = true then ((impl_goodOver.f a b o).bind fun t240 => (impl_SampleOver.j0 k l a b o (!t240))) else (impl_SampleOver.j0 k l a b o true))) r := by
          intro r h
          refine Ev.bind ig ?_
          simp only [if_pos g, goodOver_f, Option.bind_some, hs, ho, and_self, decide_true, Bool.not_true]
          refine ev_succ ?_
          simp only [impl_SampleOver.j0, Bool.false_eq_true, if_false]
          refine Ev.bind ic ?_
          have h3 := implOver_loop o r (real (cutM l (wrap64 (a + 1)) b)) [] (by simp; omega) h
          have h4 : Ev (fun k => impl_sampleOver.f k (cutM l (wrap64 (a + 1)) b) o) r := Ev.bind ir h3
          exact Ev.bind h4 (Ev.now _)
        cases hR : real (cutM l (wrap64 (a + 1)) b) with
        | nil =>
          refine ⟨(0, false), spec_of _ ?_, impl_of _ ?_⟩
          · rw [hR]; exact ev_now fun k => by simp
          · rw [hR]; exact ev_now fun k => by simp
        | cons y rest =>
          rw [hR] at hvr lr
          have hne : ¬ (((y :: rest).length : Int) = 0) := by simp; omega
          obtain ⟨e, ha, he⟩ := specAgg_ev y rest b (by omega) hvr
          obtain ⟨t', hb⟩ := implAll_ev y rest (by omega)
          subst he
          obtain ⟨x, x1, x2⟩ := over_same b t' ((y :: rest).length : Int) ((first y.f1).over (rest.map (·.f1))).s ((first y.f1).over (rest.map (·.f1))).m ((first y.f1).over (rest.map (·.f1))).M y.f1 ((first y.f1).over (rest.map (·.f1))).l ((first y.f1).over (rest.map (·.f1))).r o (by simp only [List.length_cons]; omega) ho.1 ho.2
          refine ⟨(x, true), spec_of _ ?_, impl_of _ ?_⟩
          · rw [hR]
            simp only [if_neg hne]
            refine Ev.bind ha ?_
            simp only [x1, Option.bind_some]
            exact Ev.now _
          · rw [hR]
            simp only [List.length_map, if_neg hne]
            refine Ev.bind hb ?_
            simp only [x2, Option.bind_some]
            exact Ev.now _
      · refine ⟨(0, false), spec_of _ ?_, ?_⟩
        · cases hR : real (cutM l (wrap64 (a + 1)) b) with
          | nil => exact ev_now fun k => by simp
          | cons y rest =>
            rw [hR] at hvr lr
            have hne : ¬ (((y :: rest).length : Int) = 0) := by simp; omega
            obtain ⟨e, ha, he⟩ := specAgg_ev y rest b (by omega) hvr
            simp only [if_neg hne]
            refine Ev.bind ha ?_
            simp only [over_none _ _ _ _ _ _ _ _ o (show o < 1 ∨ 8 < o by omega), Option.bind_some]
            exact Ev.now _
        · refine Ev.bind ig ?_
          simp only [if_pos g, goodOver_f, Option.bind_some, ho, and_false, decide_false, Bool.not_false]
          exact i0
    · refine ⟨(0, false), ?_, ?_⟩
      · refine Ev.bind sg ?_
        simp only [if_pos g, span_f, Option.bind_some, hs, decide_false, Bool.not_false]
        exact s0
      · refine Ev.bind ig ?_
        simp only [if_pos g, goodOver_f, Option.bind_some, hs, false_and, decide_false, Bool.not_false]
        exact i0
  · refine ⟨(0, false), ?_, ?_⟩
    · refine Ev.bind sg ?_
      simp only [if_neg g]; exact s0
    · refine Ev.bind ig ?_
      simp only [if_neg g]; exact i0

theorem FnExactSampleOver : Law.Pure := by
  intro l a b o ⟨hl, hw⟩ _ _ _
  refine Ev.rounds ?_
  unfold laws_FnExactSampleOver.f
  rw [szSampleS_f l 1048576 hl (by decide) (by decide)]
  by_cases h1 : (l.length : Int) ≤ 1048576
  · rw [if_pos h1]
    simp only [Option.bind_some, if_neg (show ¬ (1048576 : Int) - l.length < 0 by omega)]
    have ta := toSampleS_ev l (by omega)
    have la : (l.map toSampleM).length = l.length := List.length_map _
    obtain ⟨r, r1, r2⟩ := both (l.map toSampleM) a b o (by omega) (fun z hz => by
      obtain ⟨q, hq, rfl⟩ := List.mem_map.1 hz
      exact wf_i64 (hw q hq).2)
    refine Ev.bind ta (Ev.bind r1 (Ev.bind ta (Ev.bind r2 ?_)))
    simp only [if_true, bne_self_eq_false]
    refine ev_succ ?_
    simp only [laws_FnExactSampleOver.j0, Bool.false_eq_true, if_false]
    refine Ev.bind ta (Ev.bind (eqSampleS_ev _ (by omega)) ?_)
    simp only [if_true]
    exact Ev.now _
  · rw [if_neg h1]
    exact ev_now fun k => by simp

end Go.Proofs.Ytogjmchhafiafab.Pure
