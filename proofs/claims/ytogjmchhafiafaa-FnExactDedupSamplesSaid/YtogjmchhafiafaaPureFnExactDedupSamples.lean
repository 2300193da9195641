/- The given program's DedupSamples and the reference's give the same samples, in memory of their own, for all arguments: the binary search for the first later sample and the search from the front find the same one in rising samples. No condition. -/
import Derived.Test.YtogjmchhafiafaaPreFnExactDedupSamples
import Derived.Test.YtogjmchhafiafaaFlatFnExactDedupSamples
namespace Go.Proofs.Ytogjmchhafiafaa.Pure
open Go.RowKit Go.Proofs.Ytogjmchhafiafaa.PFnExactDedupSamples Go.Proofs.YtogjmchhafiafaaW.PrintWords Go.Proofs.YtogjmchhafiafaaW.PrintLast Go.Proofs.Ytogjmchhafiafaa.Kit Go.Proofs.Ytogjmchhafiafaa.FlatFnExactDedupSamples Go.Proofs.Ytogjmchhafiafaa.PreFnExactDedupSamples
set_option linter.unusedVariables false
set_option linter.unusedSimpArgs false

/-! ### good samples -/
theorem rd_at (l : List S47) (i : Nat) (h : i < l.length) : rd_T47 l (i : Int) = l[i] := by
  unfold rd_T47
  rw [Int.toNat_natCast]
  exact getD_at l i _ h
def timeB (t : Int) : Bool := decide (0 ≤ t ∧ t ≤ 1000000000000)
def okAt (l : List S47) (i : Nat) : Bool := timeB (rd_T47 l i).f0 && (decide (i = 0) || decide ((rd_T47 l ((i : Int) - 1)).f0 < (rd_T47 l i).f0))
def goodB (l : List S47) : Bool := decide (l.length ≤ 2000) && allFrom (okAt l) l.length 0
theorem l3Time_f (t : Int) : spec_l3Time.f t = some (timeB t) := by
  unfold spec_l3Time.f timeB
  by_cases h : t ≥ 0 <;> simp [h] <;> omega
theorem isTime_f (t : Int) : impl_isTime.f t = some (timeB t) := by
  unfold impl_isTime.f timeB
  by_cases h : t ≥ 0 <;> simp [h] <;> omega
theorem specGood_loop (l : List S47) (hn : l.length ≤ 9223372036854775000) : ∀ i, i ≤ l.length → Ev (fun k => spec_GoodSamples.l0 k l l (l.length : Int) (i : Int)) (decide (l.length ≤ 2000) && allFrom (okAt l) l.length i || (decide (l.length ≤ 2000) && allFrom (okAt l) l.length i)) := by
  refine down ?_ ?_
  · refine ev_succ (ev_now fun k => ?_)
    simp only [spec_GoodSamples.l0, Int.lt_irrefl, if_false, allFrom_end, Bool.and_true, Bool.or_self]
    congr 1
    rw [decide_eq_decide]; omega
  · intro i hi h
    rw [Bool.or_self] at h ⊢
    rw [allFrom_step hi]
    have e5 := w64_succ hi (by omega : l.length ≤ 9223372036854775807)
    have e6 : wrap64 ((i : Int) - 1) = (i : Int) - 1 := w64 (by omega) (by omega)
    refine ev_succ ?_
    by_cases ht : timeB (rd_T47 l i).f0 = true
    · by_cases h0 : i = 0
      · have hok : okAt l i = true := by simp [okAt, ht, h0]; subst h0; exact ht
        rw [hok, Bool.true_and]
        refine Ev.congr (fun k => ?_) h
        simp only [spec_GoodSamples.l0]
        rw [if_pos (by omega : (i : Int) < l.length), if_pos (by omega : (0 : Int) ≤ i), if_pos (by omega : (i : Int) < l.length), l3Time_f, Option.bind_some, if_pos ht, if_neg (by omega), e5]
      · by_cases hlt : (rd_T47 l ((i : Int) - 1)).f0 < (rd_T47 l i).f0
        · have hok : okAt l i = true := by simp [okAt, ht, hlt]
          rw [hok, Bool.true_and]
          refine Ev.congr (fun k => ?_) h
          simp only [spec_GoodSamples.l0]
          rw [if_pos (by omega : (i : Int) < l.length), if_pos (by omega : (0 : Int) ≤ i), if_pos (by omega : (i : Int) < l.length), l3Time_f, Option.bind_some, if_pos ht, if_pos (by omega), e6, if_pos (by omega), if_pos (by omega), if_neg (by omega), e5]
        · have hok : okAt l i = false := by simp [okAt, ht, hlt, h0]
          rw [hok, Bool.false_and, Bool.and_false]
          refine ev_now fun k => ?_
          simp only [spec_GoodSamples.l0]
          rw [if_pos (by omega : (i : Int) < l.length), if_pos (by omega : (0 : Int) ≤ i), if_pos (by omega : (i : Int) < l.length), l3Time_f, Option.bind_some, if_pos ht, if_pos (by omega), e6, if_pos (by omega), if_pos (by omega), if_pos (by omega)]
    · have hok : okAt l i = false := by simp [okAt, ht]
      rw [hok, Bool.false_and, Bool.and_false]
      refine ev_now fun k => ?_
      simp only [spec_GoodSamples.l0]
      rw [if_pos (by omega : (i : Int) < l.length), if_pos (by omega : (0 : Int) ≤ i), if_pos (by omega : (i : Int) < l.length), l3Time_f, Option.bind_some, if_neg ht]
theorem specGood_ev (l : List S47) (hn : l.length ≤ 9223372036854775000) : Ev (fun k => spec_GoodSamples.f k l) (goodB l) := by
  have h := specGood_loop l hn 0 (Nat.zero_le _)
  rw [Bool.or_self] at h
  exact h
theorem implGood_loop (l : List S47) (hn : l.length ≤ 9223372036854775000) : ∀ i, i ≤ l.length → Ev (fun k => impl_GoodSamples.l0 k l l (l.length : Int) (i : Int)) (allFrom (okAt l) l.length i) := by
  refine down ?_ ?_
  · refine ev_succ (ev_now fun k => ?_)
    simp only [impl_GoodSamples.l0, Int.lt_irrefl, if_false, allFrom_end]
  · intro i hi h
    rw [allFrom_step hi]
    have e5 := w64_succ hi (by omega : l.length ≤ 9223372036854775807)
    have e6 : wrap64 ((i : Int) - 1) = (i : Int) - 1 := w64 (by omega) (by omega)
    refine ev_succ ?_
    by_cases ht : timeB (rd_T47 l i).f0 = true
    · by_cases h0 : i = 0
      · have hok : okAt l i = true := by simp [okAt, ht, h0]; subst h0; exact ht
        rw [hok, Bool.true_and]
        refine Ev.congr (fun k => ?_) h
        simp only [impl_GoodSamples.l0]
        rw [if_pos (by omega : (i : Int) < l.length), if_pos (by omega : (0 : Int) ≤ i), if_pos (by omega : (i : Int) < l.length), isTime_f, Option.bind_some, if_pos ht, if_neg (by omega), e5]
      · by_cases hlt : (rd_T47 l ((i : Int) - 1)).f0 < (rd_T47 l i).f0
        · have hok : okAt l i = true := by simp [okAt, ht, hlt]
          rw [hok, Bool.true_and]
          refine Ev.congr (fun k => ?_) h
          simp only [impl_GoodSamples.l0]
          rw [if_pos (by omega : (i : Int) < l.length), if_pos (by omega : (0 : Int) ≤ i), if_pos (by omega : (i : Int) < l.length), isTime_f, Option.bind_some, if_pos ht, if_pos (by omega), e6, if_pos (by omega), if_pos (by omega), if_neg (by omega), e5]
        · have hok : okAt l i = false := by simp [okAt, ht, hlt, h0]
          rw [hok, Bool.false_and]
          refine ev_now fun k => ?_
          simp only [impl_GoodSamples.l0]
          rw [if_pos (by omega : (i : Int) < l.length), if_pos (by omega : (0 : Int) ≤ i), if_pos (by omega : (i : Int) < l.length), isTime_f, Option.bind_some, if_pos ht, if_pos (by omega), e6, if_pos (by omega), if_pos (by omega), if_pos (by omega)]
    · have hok : okAt l i = false := by simp [okAt, ht]
      rw [hok, Bool.false_and]
      refine ev_now fun k => ?_
      simp only [impl_GoodSamples.l0]
      rw [if_pos (by omega : (i : Int) < l.length), if_pos (by omega : (0 : Int) ≤ i), if_pos (by omega : (i : Int) < l.length), isTime_f, Option.bind_some, if_neg ht]
theorem implGood_ev (l : List S47) (hn : l.length ≤ 9223372036854775000) : Ev (fun k => impl_GoodSamples.f k l) (goodB l) := by
  unfold goodB
  by_cases h : l.length ≤ 2000
  · have h1 := implGood_loop l hn 0 (Nat.zero_le _)
    simp only [h, decide_true, Bool.true_and]
    refine Ev.congr (fun k => ?_) h1
    unfold impl_GoodSamples.f
    rw [if_neg (by omega)]; rfl
  · simp only [h, decide_false, Bool.false_and]
    refine ev_now fun k => ?_
    unfold impl_GoodSamples.f
    rw [if_pos (by omega)]
/-- What good samples are. -/
structure Good (l : List S47) : Prop where
  len : l.length ≤ 2000
  lo : ∀ i, (h : i < l.length) → 0 ≤ (l[i]).f0 ∧ (l[i]).f0 ≤ 1000000000000
  up : ∀ i j, (hi : i < l.length) → (hj : j < l.length) → i < j → (l[i]).f0 < (l[j]).f0
theorem good_of {l : List S47} (h : goodB l = true) : Good l := by
  unfold goodB at h
  simp only [Bool.and_eq_true, decide_eq_true_eq] at h
  obtain ⟨h1, h2⟩ := h
  rw [allFrom_iff] at h2
  have h3 : ∀ i, (h : i < l.length) → timeB (l[i]).f0 = true ∧ (i = 0 ∨ (rd_T47 l ((i : Int) - 1)).f0 < (l[i]).f0) := by
    intro i hi
    have h4 := h2 i (Nat.zero_le _) hi
    unfold okAt at h4
    rw [rd_at l i hi] at h4
    simpa using h4
  refine ⟨h1, fun i hi => by have := (h3 i hi).1; simpa [timeB] using this, ?_⟩
  have step : ∀ i, (hi : i + 1 < l.length) → (l[i]).f0 < (l[i + 1]).f0 := by
    intro i hi
    rcases (h3 (i + 1) hi).2 with h5 | h5
    · omega
    · rw [show ((i + 1 : Nat) : Int) - 1 = (i : Int) from by omega, rd_at l i (by omega)] at h5
      exact h5
  intro i j hi hj hij
  obtain ⟨d, rfl⟩ : ∃ d, j = i + 1 + d := ⟨j - i - 1, by omega⟩
  clear hij
  induction d with
  | zero => exact step i hj
  | succ d ih => exact Int.lt_trans (ih (by omega)) (step (i + 1 + d) hj)

/-! ### the first sample behind a time -/
def beh (l : List S47) (t : Int) : Option S47 := l.find? fun s => decide (s.f0 > t)
def tell : Option S47 → Int × Int × Bool
  | some s => (s.f0, s.f1, true)
  | none => (0, 0, false)
theorem specBehind_loop (t : Int) (rest : List S47) : ∀ (pre : List S47), (pre ++ rest).length ≤ 9223372036854775000 → Ev (fun k => spec_l13Behind.l0 k t (pre ++ rest) ((pre ++ rest).length : Int) (pre.length : Int)) (tell (beh rest t)) := by
  induction rest with
  | nil =>
    intro pre _
    refine ev_succ (ev_now fun k => ?_)
    simp [spec_l13Behind.l0, beh, tell]
  | cons x rest ih =>
    intro pre hl
    have hlen : (pre ++ x :: rest).length = pre.length + 1 + rest.length := by simp; omega
    have e1 : ((pre.length : Nat) : Int) < ((pre ++ x :: rest).length : Int) := len_mid _ _ _
    have e3 : rd_T47 (pre ++ x :: rest) (pre.length : Int) = x := by unfold rd_T47; rw [Int.toNat_natCast]; exact getD_mid _ _ _ _
    have e5 : wrap64 ((pre.length : Int) + 1) = ((pre ++ [x]).length : Int) := by rw [len_succ]; exact w64 (by omega) (by omega)
    refine ev_succ ?_
    by_cases hx : x.f0 > t
    · refine ev_now fun k => ?_
      simp only [spec_l13Behind.l0]
      rw [if_pos e1, if_pos (by omega : (0 : Int) ≤ pre.length), if_pos e1, e3, if_pos hx]
      simp [beh, hx, tell]
    · have h := ih (pre ++ [x]) (by simpa using hl)
      have er : tell (beh rest t) = tell (beh (x :: rest) t) := by simp [beh, hx]
      refine ev_eq (Ev.congr (fun k => ?_) h) er
      simp only [spec_l13Behind.l0]
      rw [if_pos e1, if_pos (by omega : (0 : Int) ≤ pre.length), if_pos e1, e3, if_neg hx, e5, mid_assoc]
theorem specBehind_ev (l : List S47) (t : Int) (hl : l.length ≤ 9223372036854775000) : Ev (fun k => spec_l13Behind.f k l t) (tell (beh l t)) := specBehind_loop t l [] (by simpa using hl)
theorem cmp_f (a b : Int) : cmp_Compare_int.f a b = some (if a < b then -1 else if a > b then 1 else 0) := by
  have h : ∀ x : Int, cmp_isNaN_int.f x = some false := fun x => by simp [cmp_isNaN_int.f]
  unfold cmp_Compare_int.f
  rw [h, h]
  simp only [Option.bind_some, Bool.false_eq_true, if_false]
  by_cases h1 : a < b
  · simp [h1]
  · by_cases h2 : a > b <;> simp [h1, h2]
theorem find1_f (a b t : Int) : impl_findSample_1.f a b t = some (if a < t then -1 else if a > t then 1 else 0) := by
  unfold impl_findSample_1.f
  rw [cmp_f]; rfl
/-- The place of the first one from t on. -/
theorem find_loop (l : List S47) (t : Int) (hg : Good l) : ∀ d lo hi : Nat, hi - lo = d → lo ≤ hi → hi ≤ l.length → (∀ j, (h : j < l.length) → j < lo → (l[j]).f0 < t) → (∀ j, (h : j < l.length) → hi ≤ j → t ≤ (l[j]).f0) →
    ∃ p : Nat, p ≤ l.length ∧ (∀ j, (h : j < l.length) → j < p → (l[j]).f0 < t) ∧ (∀ j, (h : j < l.length) → p ≤ j → t ≤ (l[j]).f0) ∧ ∃ b, Ev (fun k => impl_Sample_int_at_impl_findSample_1.l0 k l t (l.length : Int) (lo : Int) (hi : Int)) ((p : Int), b) := by
  intro d
  induction d using Nat.strongRecOn with
  | _ d ih =>
    intro lo hi hd hle hh hlo hhi
    have hn := hg.len
    by_cases hlt : lo < hi
    · obtain ⟨m, hm⟩ : ∃ m, m = (lo + hi) / 2 := ⟨_, rfl⟩
      have hmid : wrap64 ((IntKind.u64.wrap (wrap64 ((lo : Int) + hi))) / 2) = (m : Int) := by
        rw [w64 (x := (lo : Int) + hi) (by omega) (by omega), wu64 (by omega) (by omega), w64 (by omega) (by omega)]
        omega
      have hml : m < l.length := by omega
      by_cases hc : (l[m]).f0 < t
      · obtain ⟨p, h1, h2, h3, b, h4⟩ := ih (hi - (m + 1)) (by omega) (m + 1) hi rfl (by omega) hh (fun j hj hjm => by
          by_cases e : j = m
          · subst e; exact hc
          · exact Int.lt_trans (hg.up j m hj hml (by omega)) hc) hhi
        refine ⟨p, h1, h2, h3, b, ev_succ (Ev.congr (fun k => ?_) h4)⟩
        simp only [impl_Sample_int_at_impl_findSample_1.l0, hmid]
        rw [if_pos (by omega : (lo : Int) < hi), if_pos (by omega : (0 : Int) ≤ m), if_pos (by omega : (m : Int) < l.length), find1_f, Option.bind_some, rd_at l m hml, if_pos hc, if_pos (by decide), w64 (by omega) (by omega)]
        rfl
      · obtain ⟨p, h1, h2, h3, b, h4⟩ := ih (m - lo) (by omega) lo m rfl (by omega) (by omega) hlo (fun j hj hjm => by
          by_cases e : j = m
          · subst e; omega
          · have := hg.up m j hml hj (by omega); omega)
        refine ⟨p, h1, h2, h3, b, ev_succ (Ev.congr (fun k => ?_) h4)⟩
        simp only [impl_Sample_int_at_impl_findSample_1.l0, hmid]
        rw [if_pos (by omega : (lo : Int) < hi), if_pos (by omega : (0 : Int) ≤ m), if_pos (by omega : (m : Int) < l.length), find1_f, Option.bind_some, rd_at l m hml, if_neg hc, if_neg (by split <;> decide)]
    · obtain rfl : lo = hi := by omega
      by_cases hl : lo < l.length
      · refine ⟨lo, hh, hlo, hhi, ((if (l[lo]).f0 < t then (-1 : Int) else if (l[lo]).f0 > t then 1 else 0) == 0), ev_succ (ev_now fun k => ?_)⟩
        simp only [impl_Sample_int_at_impl_findSample_1.l0]
        rw [if_neg (by omega), if_pos (by omega : (lo : Int) < l.length), if_pos (by omega : (0 : Int) ≤ lo), if_pos (by omega : (lo : Int) < l.length), find1_f, Option.bind_some, rd_at l lo hl]
      · refine ⟨lo, hh, hlo, hhi, false, ev_succ (ev_now fun k => ?_)⟩
        simp only [impl_Sample_int_at_impl_findSample_1.l0]
        rw [if_neg (by omega), if_neg (by omega)]
theorem implBehind_ev (l : List S47) (t : Int) (hg : Good l) (h0 : -9223372036854775808 ≤ t) (h1 : t ≤ 1000000000000) : Ev (fun k => impl_behind.f k l t) (tell (beh l t)) := by
  obtain ⟨p, hp, hlo, hhi, b, hev⟩ := find_loop l (t + 1) hg l.length 0 l.length rfl (Nat.zero_le _) (Nat.le_refl _) (fun j _ h => absurd h (by omega)) (fun j h h' => absurd h (by omega))
  have e0 : wrap64 (t + 1) = t + 1 := w64 (by omega) (by omega)
  have e1 : Ev (fun k => impl_findSample.f k l (t + 1)) ((p : Int), b) := by
    have h2 : Ev (fun k => impl_Sample_int_at_impl_findSample_1.f k l (t + 1)) ((p : Int), b) := hev
    refine Ev.bind (f := fun _ x => some (x.1, x.2)) h2 ?_
    exact Ev.now _
  unfold impl_behind.f
  rw [e0]
  refine Ev.bind e1 ?_
  by_cases hl : p = l.length
  · refine ev_now fun k => ?_
    simp only []
    rw [if_pos (by omega)]
    have : beh l t = none := by
      unfold beh
      rw [List.find?_eq_none]
      intro s hs
      obtain ⟨j, hj, rfl⟩ := List.getElem_of_mem hs
      have := hlo j hj (by omega)
      simp; omega
    rw [this]; rfl
  · have hpl : p < l.length := by omega
    refine ev_now fun k => ?_
    simp only []
    rw [if_neg (by omega), if_pos (by omega : (0 : Int) ≤ p), if_pos (by omega : (p : Int) < l.length), rd_at l p hpl]
    have : beh l t = some l[p] := by
      unfold beh
      rw [List.find?_eq_some_iff_getElem]
      refine ⟨by have := hhi p hpl (Nat.le_refl _); simp; omega, p, hpl, rfl, fun j hj => ?_⟩
      have := hlo j (by omega) hj
      simp; omega
    rw [this]; rfl
theorem beh_some {l : List S47} {t : Int} {s : S47} (h : beh l t = some s) : s ∈ l ∧ t < s.f0 := by
  unfold beh at h
  exact ⟨List.mem_of_find?_eq_some h, by have := List.find?_some h; simpa using this⟩
theorem beh_none {l : List S47} {t : Int} (h : beh l t = none) : ∀ s ∈ l, s.f0 ≤ t := by
  unfold beh at h
  rw [List.find?_eq_none] at h
  intro s hs
  have := h s hs
  simpa using this
/-- How many come later. -/
def later (l : List S47) (t : Int) : Nat := (l.filter fun s => decide (t < s.f0)).length
theorem later_le (l : List S47) (t : Int) : later l t ≤ l.length := List.length_filter_le _ _
theorem later_mono (l : List S47) {t u : Int} (h : t ≤ u) : later l u ≤ later l t := by
  unfold later
  induction l with
  | nil => simp
  | cons x l ih =>
    simp only [List.filter_cons]
    by_cases h1 : u < x.f0
    · have h2 : t < x.f0 := by omega
      simp only [h1, h2, decide_true, if_true, List.length_cons]
      omega
    · by_cases h2 : t < x.f0 <;> simp [h1, h2] <;> omega
theorem later_lt {l : List S47} {t : Int} {s : S47} (hs : s ∈ l) (h : t < s.f0) : later l s.f0 < later l t := by
  unfold later
  induction l with
  | nil => simp at hs
  | cons x l ih =>
    simp only [List.filter_cons]
    rcases List.mem_cons.1 hs with rfl | hs
    · have h1 := later_mono l (Int.le_of_lt h)
      unfold later at h1
      simp only [h, Int.lt_irrefl, decide_true, decide_false, if_true, Bool.false_eq_true, if_false, List.length_cons]
      omega
    · have h1 := ih hs
      by_cases h2 : s.f0 < x.f0
      · have h3 : t < x.f0 := by omega
        simp only [h2, h3, decide_true, if_true, List.length_cons]
        omega
      · by_cases h3 : t < x.f0 <;> simp [h2, h3] <;> omega
theorem last_at (out : List S47) (z : S47) : rd_T47 (out ++ [z]) (wrap64 (((out ++ [z]).length : Int) - 1)) = z ∨ 9223372036854775000 < (out ++ [z]).length := by
  by_cases h : 9223372036854775000 < (out ++ [z]).length
  · exact .inr h
  · left
    rw [len_succ, w64 (by simp at h; omega) (by simp at h; omega), show ((out.length : Int) + 1 - 1) = (out.length : Int) from by omega]
    unfold rd_T47
    rw [Int.toNat_natCast]
    exact getD_mid out [] z _

/-- BOTH GO ALIKE. -/
theorem both_loop (gap : Int) : ∀ (m : Nat) (a b : List S47), Good a → Good b → ∀ (out : List S47) (z : S47), 0 ≤ z.f0 → z.f0 ≤ 1000000000000 → later a z.f0 + later b z.f0 = m → out.length + m ≤ 10000 →
    ∃ r : List S47, r.length ≤ out.length + 1 + m ∧ Ev (fun k => spec_l13Dedup2.l0 k a b gap (out ++ [z])) r ∧ Ev (fun k => impl_dedup.l0 k a b gap (out ++ [z])) r ∧
      (b = [] → (∀ s, beh a z.f0 = some s → ∃ i, ∃ h : i + 1 < a.length, a[i + 1]'h = s ∧ (out ++ [z]) = a.take (i + 1)) → (beh a z.f0 = none → out ++ [z] = a) → r = a) := by
  intro m
  induction m using Nat.strongRecOn with
  | _ m ih =>
    intro a b ga gb out z hz0 hz1 hm hout
    have hlast : rd_T47 (out ++ [z]) (wrap64 (((out ++ [z]).length : Int) - 1)) = z := by
      rcases last_at out z with h | h
      · exact h
      · simp at h; omega
    have hL : wrap64 (((out ++ [z]).length : Int) - 1) = (out.length : Int) := by rw [len_succ, w64 (by omega) (by omega)]; omega
    have i1 : (0 : Int) ≤ wrap64 (((out ++ [z]).length : Int) - 1) := by rw [hL]; omega
    have i2 : wrap64 (((out ++ [z]).length : Int) - 1) < ((out ++ [z]).length : Int) := by rw [hL, len_succ]; omega
    have sa := specBehind_ev a z.f0 (by have := ga.len; omega)
    have sb := specBehind_ev b z.f0 (by have := gb.len; omega)
    have ia := implBehind_ev a z.f0 ga (by omega) hz1
    have ib := implBehind_ev b z.f0 gb (by omega) hz1
    have hcap : (out ++ [z]).length < 8796093022208 := by simp; omega
    -- one round, by what is found
    have spec_round : ∀ r, Ev (fun k => if (tell (beh a z.f0)).2.2 = true then (spec_l13Dedup2.j1 k a b gap (out ++ [z]) z.f0 (tell (beh a z.f0)).2.2 (tell (beh b z.f0)).2.2 false (tell (beh a z.f0)).1 (tell (beh a z.f0)).2.1 (tell (beh b z.f0)).1 (tell (beh b z.f0)).2.1) else (spec_l13Dedup2.j1 k a b gap (out ++ [z]) z.f0 (tell (beh a z.f0)).2.2 (tell (beh b z.f0)).2.2 (!(tell (beh b z.f0)).2.2) (tell (beh a z.f0)).1 (tell (beh a z.f0)).2.1 (tell (beh b z.f0)).1 (tell (beh b z.f0)).2.1)) r → Ev (fun k => spec_l13Dedup2.l0 k a b gap (out ++ [z])) r := by
      intro r h
      refine ev_succ ?_
      simp only [spec_l13Dedup2.l0]
      simp only [if_pos i1, if_pos i2, hlast]
      exact Ev.bind sa (Ev.bind sb h)
    have impl_round : ∀ r, Ev (fun k => if (tell (beh a z.f0)).2.2 = true then (impl_dedup.j3 k a b gap (out ++ [z]) z.f0 (tell (beh a z.f0)).2.2 (tell (beh b z.f0)).2.2 false (tell (beh a z.f0)).1 (tell (beh a z.f0)).2.1 (tell (beh b z.f0)).1 (tell (beh b z.f0)).2.1) else (impl_dedup.j3 k a b gap (out ++ [z]) z.f0 (tell (beh a z.f0)).2.2 (tell (beh b z.f0)).2.2 (!(tell (beh b z.f0)).2.2) (tell (beh a z.f0)).1 (tell (beh a z.f0)).2.1 (tell (beh b z.f0)).1 (tell (beh b z.f0)).2.1)) r → Ev (fun k => impl_dedup.l0 k a b gap (out ++ [z])) r := by
      intro r h
      refine ev_succ ?_
      simp only [impl_dedup.l0]
      simp only [if_pos i1, if_pos i2, hlast]
      exact Ev.bind ia (Ev.bind ib h)
    -- a round that takes s, out of a (then a stays ahead) or out of b (then they change places)
    have take_a : ∀ s, beh a z.f0 = some s → ∃ r : List S47, r.length ≤ out.length + 1 + m ∧ Ev (fun k => spec_l13Dedup2.l0 k a b gap ((out ++ [z]) ++ [s])) r ∧ Ev (fun k => impl_dedup.l0 k a b gap ((out ++ [z]) ++ [s])) r ∧
        (b = [] → (∀ s', beh a z.f0 = some s' → ∃ i, ∃ h : i + 1 < a.length, a[i + 1]'h = s' ∧ (out ++ [z]) = a.take (i + 1)) → r = a) := by
      intro s hs
      obtain ⟨hin, hlt⟩ := beh_some hs
      obtain ⟨q, hq, rfl⟩ := List.getElem_of_mem hin
      have hr := ga.lo q hq
      have l1 := later_lt hin hlt
      have l2 := later_mono b (Int.le_of_lt hlt)
      obtain ⟨r, r1, r2, r3, r4⟩ := ih (later a (a[q]).f0 + later b (a[q]).f0) (by omega) a b ga gb (out ++ [z]) a[q] hr.1 hr.2 rfl (by simp; omega)
      refine ⟨r, by simp at r1; omega, r2, r3, fun hb hpre => ?_⟩
      obtain ⟨i, hi, hai, htk⟩ := hpre _ hs
      have hqi : q = i + 1 := by
        rcases Nat.lt_trichotomy q (i + 1) with h | h | h
        · have h5 := ga.up q (i + 1) hq hi h
          rw [hai] at h5
          omega
        · exact h
        · have h5 := ga.up (i + 1) q hi hq h
          rw [hai] at h5
          omega
      subst hqi
      have htk2 : out ++ [z] ++ [a[i + 1]] = a.take (i + 1 + 1) := by rw [htk, List.take_succ_eq_append_getElem hi]
      refine r4 hb (fun s' hs' => ?_) (fun hn => ?_)
      · obtain ⟨hin', hlt'⟩ := beh_some hs'
        obtain ⟨q', hq', rfl⟩ := List.getElem_of_mem hin'
        have h6 : i + 1 < q' := by
          rcases Nat.lt_trichotomy q' (i + 1) with h | h | h
          · have := ga.up q' (i + 1) hq' hi h; omega
          · subst h; omega
          · exact h
        have h8 : i + 1 + 1 < a.length := by omega
        refine ⟨i + 1, h8, ?_, htk2⟩
        have h7 : beh a (a[i + 1]).f0 = some a[i + 1 + 1] := by
          unfold beh
          rw [List.find?_eq_some_iff_getElem]
          refine ⟨by have := ga.up (i + 1) (i + 1 + 1) hi h8 (by omega); simpa using this, i + 1 + 1, h8, rfl, fun j hj => ?_⟩
          have hj' : j < a.length := by omega
          by_cases e : j = i + 1
          · subst e; simp
          · have := ga.up j (i + 1) hj' hi (by omega); simp; omega
        rw [h7] at hs'
        exact Option.some.inj hs'
      · have h9 : i + 1 + 1 = a.length := by
          rcases Nat.lt_or_ge (i + 1 + 1) a.length with h | h
          · have h10 := ga.up (i + 1) (i + 1 + 1) hi h (by omega)
            have h11 := beh_none hn _ (List.getElem_mem h)
            omega
          · omega
        rw [htk2, h9, List.take_length]
    have take_b : ∀ s, beh b z.f0 = some s → ∃ r : List S47, r.length ≤ out.length + 1 + m ∧ Ev (fun k => spec_l13Dedup2.l0 k b a gap ((out ++ [z]) ++ [s])) r ∧ Ev (fun k => impl_dedup.l0 k b a gap ((out ++ [z]) ++ [s])) r := by
      intro s hs
      obtain ⟨hin, hlt⟩ := beh_some hs
      obtain ⟨q, hq, rfl⟩ := List.getElem_of_mem hin
      have hr := gb.lo q hq
      have l1 := later_lt hin hlt
      have l2 := later_mono a (Int.le_of_lt hlt)
      obtain ⟨r, r1, r2, r3, _⟩ := ih (later b (b[q]).f0 + later a (b[q]).f0) (by omega) b a gb ga (out ++ [z]) b[q] hr.1 hr.2 rfl (by simp; omega)
      exact ⟨r, by simp at r1; omega, r2, r3⟩
    cases ea : beh a z.f0 with
    | none =>
      cases eb : beh b z.f0 with
      | none =>
        refine ⟨out ++ [z], by simp, spec_round _ ?_, impl_round _ ?_, fun _ _ h => h rfl⟩
        · rw [ea, eb]
          simp only [tell, Bool.false_eq_true, if_false]
          refine ev_succ (ev_now fun k => ?_)
          simp only [spec_l13Dedup2.j1, Bool.not_false, if_true]
        · rw [ea, eb]
          simp only [tell, Bool.false_eq_true, if_false]
          refine ev_succ (ev_now fun k => ?_)
          simp only [impl_dedup.j3, Bool.not_false, if_true]
      | some y =>
        obtain ⟨r, r1, r2, r3⟩ := take_b y eb
        refine ⟨r, r1, spec_round _ ?_, impl_round _ ?_, fun hb => ?_⟩
        · rw [ea, eb]
          simp only [tell, Bool.false_eq_true, if_false]
          refine ev_succ (Ev.congr (fun k => ?_) r2)
          simp only [spec_l13Dedup2.j1, Bool.not_true, Bool.false_eq_true, if_false, if_pos hcap]
        · rw [ea, eb]
          simp only [tell, Bool.false_eq_true, if_false]
          refine ev_succ (Ev.congr (fun k => ?_) r3)
          simp only [impl_dedup.j3, Bool.not_true, Bool.false_eq_true, if_false, if_pos hcap]
        · subst hb; simp [beh] at eb
    | some x =>
      have keep : ∀ (eb' : Option S47), beh b z.f0 = eb' → (¬ (x.f0 > wrap64 (z.f0 + gap)) ∨ eb' = none ∨ ∃ y, eb' = some y ∧ ¬ y.f0 < x.f0) →
          ∃ r : List S47, r.length ≤ out.length + 1 + m ∧ Ev (fun k => spec_l13Dedup2.l0 k a b gap (out ++ [z])) r ∧ Ev (fun k => impl_dedup.l0 k a b gap (out ++ [z])) r ∧
            (b = [] → (∀ s, some x = some s → ∃ i, ∃ h : i + 1 < a.length, a[i + 1]'h = s ∧ (out ++ [z]) = a.take (i + 1)) → (some x = none → out ++ [z] = a) → r = a) := by
        intro eb' eb hc
        obtain ⟨r, r1, r2, r3, r4⟩ := take_a x ea
        refine ⟨r, r1, spec_round _ ?_, impl_round _ ?_, fun hb hp _ => r4 hb (by rw [ea]; exact hp)⟩
        · rw [ea, eb]
          simp only [tell, if_true]
          refine ev_succ (Ev.congr (fun k => ?_) r2)
          simp only [spec_l13Dedup2.j1, Bool.false_eq_true, if_false, if_true, if_pos hcap]
          by_cases h1 : x.f0 > wrap64 (z.f0 + gap)
          · rw [if_pos h1]
            rcases hc with hc | hc | ⟨y, hy, hc⟩
            · exact absurd h1 hc
            · subst hc; simp [tell]
            · subst hy; simp only [tell, if_true, if_neg hc]
          · rw [if_neg h1]
        · rw [ea, eb]
          simp only [tell, if_true]
          refine ev_succ (Ev.congr (fun k => ?_) r3)
          simp only [impl_dedup.j3, Bool.false_eq_true, if_false, if_true, if_pos hcap]
          by_cases h1 : x.f0 > wrap64 (z.f0 + gap)
          · rw [if_pos h1]
            rcases hc with hc | hc | ⟨y, hy, hc⟩
            · exact absurd h1 hc
            · subst hc; simp [tell]
            · subst hy; simp only [tell, if_true, if_neg hc]
          · rw [if_neg h1]
      cases eb : beh b z.f0 with
      | none => exact keep none eb (.inr (.inl rfl))
      | some y =>
        by_cases h1 : x.f0 > wrap64 (z.f0 + gap)
        · by_cases h2 : y.f0 < x.f0
          · obtain ⟨r, r1, r2, r3⟩ := take_b y eb
            refine ⟨r, r1, spec_round _ ?_, impl_round _ ?_, fun hb => ?_⟩
            · rw [ea, eb]
              simp only [tell, if_true]
              refine ev_succ (Ev.congr (fun k => ?_) r2)
              simp only [spec_l13Dedup2.j1, Bool.false_eq_true, if_false, if_true, if_pos hcap, if_pos h1, if_pos h2]
            · rw [ea, eb]
              simp only [tell, if_true]
              refine ev_succ (Ev.congr (fun k => ?_) r3)
              simp only [impl_dedup.j3, Bool.false_eq_true, if_false, if_true, if_pos hcap, if_pos h1, if_pos h2]
            · subst hb; simp [beh] at eb
          · exact keep (some y) eb (.inr (.inr ⟨y, rfl, h2⟩))
        · exact keep (some y) eb (.inl h1)

/-! ### the whole -/
theorem rd_zero (x : S47) (l : List S47) : rd_T47 (x :: l) 0 = x := rfl
theorem both_from (gap : Int) (x : S47) (a b : List S47) (ga : Good (x :: a)) (gb : Good b) : ∃ r : List S47, r.length ≤ 5000 ∧ Ev (fun k => spec_l13Dedup2.f k (x :: a) b gap) r ∧ Ev (fun k => impl_dedup.j1 k (x :: a) b gap) r ∧ (b = [] → r = x :: a) := by
  have h0 := ga.lo 0 (by simp)
  have la := later_le (x :: a) x.f0
  have lb := later_le b x.f0
  have na := ga.len
  have nb := gb.len
  obtain ⟨r, r1, r2, r3, r4⟩ := both_loop gap _ (x :: a) b ga gb [] x h0.1 h0.2 rfl (by simp at *; omega)
  have hx : (⟨(rd_T47 (x :: a) 0).f0, (rd_T47 (x :: a) 0).f1⟩ : S47) = x := rfl
  have hpos : (0 : Int) < ((x :: a).length : Int) := by simp
  refine ⟨r, by simp at *; omega, Ev.congr (fun k => ?_) r2, ev_succ (Ev.congr (fun k => ?_) r3), fun hb => r4 hb (fun s hs => ?_) (fun hn => ?_)⟩
  · unfold spec_l13Dedup2.f
    rw [if_pos hpos, hx]; rfl
  · simp only [impl_dedup.j1]
    rw [if_neg (by omega), if_pos hpos, hx]; rfl
  · obtain ⟨hin, hlt⟩ := beh_some hs
    obtain ⟨q, hq, rfl⟩ := List.getElem_of_mem hin
    have hq0 : q ≠ 0 := by rintro rfl; simp at hlt
    have h1 : 0 + 1 < (x :: a).length := by omega
    have h7 : beh (x :: a) x.f0 = some (x :: a)[0 + 1] := by
      unfold beh
      rw [List.find?_eq_some_iff_getElem]
      refine ⟨by have := ga.up 0 1 (by simp) h1 (by omega); simpa using this, 0 + 1, h1, rfl, fun j hj => ?_⟩
      obtain rfl : j = 0 := by omega
      simp
    rw [h7] at hs
    exact ⟨0, h1, Option.some.inj hs, by simp⟩
  · have : a = [] := by
      cases a with
      | nil => rfl
      | cons y a =>
        have h2 := ga.up 0 1 (by simp) (by simp) (by omega)
        have h3 := beh_none hn y (by simp)
        simp at h2
        omega
    subst this; rfl
theorem both_dedup (gap : Int) (a b : List S47) (ga : Good a) (gb : Good b) : ∃ r : List S47, r.length ≤ 5000 ∧ Ev (fun k => spec_l13Dedup.f k a b gap) r ∧ Ev (fun k => impl_dedup.f k a b gap) r := by
  cases a with
  | nil =>
    have cp : spec_l7CopySamples.f b = some b := by
      unfold spec_l7CopySamples.f
      have := gb.len
      rw [if_pos (by simp; omega)]; rfl
    have hs : Ev (fun k => spec_l13Dedup.f k [] b gap) b := by
      refine ev_now fun k => ?_
      unfold spec_l13Dedup.f
      rw [if_pos (by simp), cp]; rfl
    refine ⟨b, by have := gb.len; omega, hs, ?_⟩
    have hi : ∀ r, Ev (fun k => impl_dedup.j1 k b [] gap) r → Ev (fun k => impl_dedup.f k [] b gap) r := by
      intro r h
      unfold impl_dedup.f
      simp only [List.length_nil, Int.ofNat_zero, Int.natCast_zero, if_true]
      refine ev_succ (Ev.congr (fun k => ?_) h)
      simp only [impl_dedup.j0, if_true]
    refine hi b ?_
    cases b with
    | nil =>
      refine ev_succ (ev_now fun k => ?_)
      simp [impl_dedup.j1]
    | cons y b =>
      obtain ⟨r, _, _, r3, r4⟩ := both_from gap y b [] gb ga
      have := r4 rfl
      subst this
      exact r3
  | cons x a =>
    have n0 : ¬ (((x :: a).length : Int) = 0) := by simp; omega
    cases b with
    | nil =>
      obtain ⟨r, r1, r2, r3, _⟩ := both_from gap x a [] ga gb
      refine ⟨r, r1, ?_, ?_⟩
      · unfold spec_l13Dedup.f
        simp only [if_neg n0, List.length_nil, Int.natCast_zero, gt_iff_lt, Int.lt_irrefl, if_false]
        refine ev_succ ?_
        simp only [spec_l13Dedup.j0, Bool.false_eq_true, if_false]
        exact Ev.bind r2 (Ev.now _)
      · unfold impl_dedup.f
        simp only [if_neg n0, List.length_nil, Int.natCast_zero, gt_iff_lt, Int.lt_irrefl, if_false]
        refine ev_succ ?_
        simp only [impl_dedup.j0, Bool.false_eq_true, if_false]
        exact r3
    | cons y b =>
      have pb : ((y :: b).length : Int) > 0 := by simp
      have pa : (0 : Int) < ((x :: a).length : Int) := by simp
      have pb' : (0 : Int) < ((y :: b).length : Int) := pb
      by_cases hc : y.f0 < x.f0
      · obtain ⟨r, r1, r2, r3, _⟩ := both_from gap y b (x :: a) gb ga
        refine ⟨r, r1, ?_, ?_⟩
        · unfold spec_l13Dedup.f
          simp only [if_neg n0, if_pos pb, if_pos pb', if_pos pa, rd_zero, hc, decide_true]
          refine ev_succ ?_
          simp only [spec_l13Dedup.j0, if_true]
          exact Ev.bind r2 (Ev.now _)
        · unfold impl_dedup.f
          simp only [if_neg n0, if_pos pb, if_pos pb', if_pos pa, rd_zero, hc, decide_true]
          refine ev_succ ?_
          simp only [impl_dedup.j0, if_true]
          exact r3
      · obtain ⟨r, r1, r2, r3, _⟩ := both_from gap x a (y :: b) ga gb
        refine ⟨r, r1, ?_, ?_⟩
        · unfold spec_l13Dedup.f
          simp only [if_neg n0, if_pos pb, if_pos pb', if_pos pa, rd_zero, hc, decide_false]
          refine ev_succ ?_
          simp only [spec_l13Dedup.j0, Bool.false_eq_true, if_false]
          exact Ev.bind r2 (Ev.now _)
        · unfold impl_dedup.f
          simp only [if_neg n0, if_pos pb, if_pos pb', if_pos pa, rd_zero, hc, decide_false]
          refine ev_succ ?_
          simp only [impl_dedup.j0, Bool.false_eq_true, if_false]
          exact r3
theorem gap_f (g : Int) : impl_goodGap.f g = some (decide (0 ≤ g ∧ g ≤ 1000000)) := by
  unfold impl_goodGap.f
  by_cases h : g ≥ 0 <;> simp [h] <;> omega
theorem both (a b : List S47) (gap : Int) (ha : a.length ≤ 1048576) (hb : b.length ≤ 1048576) : ∃ r : List S47, r.length ≤ 5000 ∧ Ev (fun k => spec_DedupSamples.f k a b gap) r ∧ Ev (fun k => impl_DedupSamples.f k a b gap) r := by
  have sa := specGood_ev a (by omega)
  have sb := specGood_ev b (by omega)
  have ia := implGood_ev a (by omega)
  have ib := implGood_ev b (by omega)
  have s0 : Ev (fun k => spec_DedupSamples.j0 k a b gap true) [] := ev_succ (ev_now fun k => by simp [spec_DedupSamples.j0])
  have i0 : Ev (fun k => impl_DedupSamples.j0 k a b gap true) [] := ev_succ (ev_now fun k => by simp [impl_DedupSamples.j0])
  unfold spec_DedupSamples.f impl_DedupSamples.f
  by_cases ga : goodB a = true
  · by_cases gb : goodB b = true
    · by_cases hg : 0 ≤ gap ∧ gap ≤ 1000000
      · obtain ⟨r, r1, r2, r3⟩ := both_dedup gap a b (good_of ga) (good_of gb)
        refine ⟨if (r.length : Int) > 2000 then [] else r, by (split <;> first | omega | simp), ?_, ?_⟩
        · refine Ev.bind sa ?_
          simp only [if_pos ga]
          refine Ev.bind sb ?_
          simp only [if_pos gb, if_neg (show ¬ gap < 0 by omega), show decide (gap > 1000000) = false from by simp; omega]
          refine ev_succ ?_
          simp only [spec_DedupSamples.j0, Bool.false_eq_true, if_false]
          refine Ev.bind r2 (ev_now fun k => ?_)
          split <;> rfl
        · refine Ev.bind ia ?_
          simp only [if_pos ga]
          refine Ev.bind ib ?_
          simp only [if_pos gb, gap_f, Option.bind_some, hg, and_self, decide_true, Bool.not_true]
          refine ev_succ ?_
          simp only [impl_DedupSamples.j0, Bool.false_eq_true, if_false]
          refine Ev.bind r3 (ev_now fun k => ?_)
          split <;> rfl
      · refine ⟨[], by simp, ?_, ?_⟩
        · refine Ev.bind sa ?_
          simp only [if_pos ga]
          refine Ev.bind sb ?_
          simp only [if_pos gb]
          by_cases h : gap < 0
          · simp only [if_pos h]; exact s0
          · simp only [if_neg h, show decide (gap > 1000000) = true from by simp; omega]; exact s0
        · refine Ev.bind ia ?_
          simp only [if_pos ga]
          refine Ev.bind ib ?_
          simp only [if_pos gb, gap_f, Option.bind_some, hg, decide_false, Bool.not_false]
          exact i0
    · refine ⟨[], by simp, ?_, ?_⟩
      · refine Ev.bind sa ?_
        simp only [if_pos ga]
        refine Ev.bind sb ?_
        simp only [if_neg gb]; exact s0
      · refine Ev.bind ia ?_
        simp only [if_pos ga]
        refine Ev.bind ib ?_
        simp only [if_neg gb]; exact i0
  · refine ⟨[], by simp, ?_, ?_⟩
    · refine Ev.bind sa ?_
      simp only [if_neg ga]; exact s0
    · refine Ev.bind ia ?_
      simp only [if_neg ga]; exact i0

theorem FnExactDedupSamples : Law.Pure := by
  intro a b gap ⟨ha, _⟩ ⟨hb, _⟩ _
  refine Ev.rounds ?_
  unfold laws_FnExactDedupSamples.f
  rw [szSampleS_f a 1048576 ha (by decide) (by decide)]
  by_cases h1 : (a.length : Int) ≤ 1048576
  · rw [if_pos h1]
    simp only [Option.bind_some, if_neg (show ¬ (1048576 : Int) - a.length < 0 by omega)]
    rw [szSampleS_f b _ hb (by omega) (by omega)]
    by_cases h2 : (b.length : Int) ≤ 1048576 - a.length
    · rw [if_pos h2]
      simp only [Option.bind_some, if_neg (show ¬ (1048576 : Int) - a.length - b.length < 0 by omega)]
      have ta := toSampleS_ev a (by omega)
      have tb := toSampleS_ev b (by omega)
      have la : (a.map toSampleM).length = a.length := List.length_map _
      have lb : (b.map toSampleM).length = b.length := List.length_map _
      obtain ⟨r, r1, r2, r3⟩ := both (a.map toSampleM) (b.map toSampleM) gap (by omega) (by omega)
      have er := eqSampleS_ev r (by omega)
      refine Ev.bind ta (Ev.bind tb (Ev.bind r2 (Ev.bind ta (Ev.bind tb (Ev.bind r3 (Ev.bind er ?_))))))
      simp only [if_true]
      refine Ev.bind ta (Ev.bind (eqSampleS_ev _ (by omega)) ?_)
      simp only [if_true]
      refine Ev.bind tb (Ev.bind (eqSampleS_ev _ (by omega)) ?_)
      simp only [if_true]
      refine Ev.bind (markSampleS_ev (a.map toSampleM) 1 (by decide) (by omega)) (Ev.bind (markSampleS_ev (b.map toSampleM) _ (by omega) (by omega)) ?_)
      simp only []
      have nneg : ¬ ((1 : Int) + 2 * ((a.map toSampleM).length : Int) + 2 * ((b.map toSampleM).length : Int) < 0) := by omega
      simp only [if_neg nneg]
      refine Ev.bind er ?_
      simp only [Bool.not_true]
      refine ev_succ ?_
      simp only [laws_FnExactDedupSamples.j0, Bool.false_eq_true, if_false]
      have hm := markSampleS_ev r 1 (by decide) (by omega)
      have hh := heldSampleS_ev r 1 (by decide) (by omega)
      have nneg2 : ¬ ((1 : Int) + 2 * (r.length : Int) < 0) := by omega
      refine Ev.bind hm (Ev.bind hh ?_)
      simp only [if_neg nneg2, if_true]
      refine Ev.bind ta (Ev.bind tb (Ev.bind r3 (Ev.bind er ?_)))
      simp only [if_true]
      refine Ev.bind hh ?_
      simp only [if_neg nneg2, if_true]
      exact Ev.now _
    · rw [if_neg h2]
      exact ev_now fun k => by simp
  · rw [if_neg h1]
    exact ev_now fun k => by simp

end Go.Proofs.Ytogjmchhafiafaa.Pure
