/- The given program's DownSamples and the reference's give the same windows, in memory of their own, for all arguments: one by one or window by window. No condition. -/
import Derived.Test.YtogjmchhafiafabPreFnExactDownSamples
import Derived.Test.YtogjmchhafiafabVFnExactDownSamples
namespace Go.Proofs.Ytogjmchhafiafab.Pure
open Go.RowKit Go.Proofs.Ytogjmchhafiafab.PFnExactDownSamples Go.Proofs.YtogjmchhafiafabW.PrintWords Go.Proofs.YtogjmchhafiafabW.PrintLast Go.Proofs.YtogjmchhafiafabW.PrintMore Go.Proofs.Ytogjmchhafiafab.Kit Go.Proofs.Ytogjmchhafiafab.PreFnExactDownSamples
set_option linter.unusedVariables false
set_option linter.unusedSimpArgs false

def toSampleM (x : S83) : S81 := ⟨x.f0, x.f1⟩
theorem toSample_f (x : S83) : laws_toSample.f x.f0 x.f1 = some (x.f0, x.f1) := rfl
theorem szSampleS_f (l : List S83) (m : Int) (hl : l.length ≤ 9223372036854775807) (h0 : 0 ≤ m) (h1 : m ≤ 9223372036854775807) : laws_szSampleS.f l m = some (if (l.length : Int) ≤ m then m - l.length else -1) := by
  unfold laws_szSampleS.f
  rw [w64 (by omega) (by omega)]
  by_cases h : (l.length : Int) ≤ m
  · rw [if_neg (by omega), if_pos h]
  · rw [if_pos (by omega), if_neg h]
theorem toSampleS_loop (rest : List S83) : ∀ (pre : List S83) (zs : List S81), zs.length = rest.length → (pre ++ rest).length ≤ 9223372036854775806 →
    Ev (fun k => laws_toSampleS.l0 k (pre ++ rest) (pre.map toSampleM ++ zs) (pre.length : Int)) ((pre ++ rest).map toSampleM) := by
  induction rest with
  | nil =>
    intro pre zs hz _
    obtain rfl : zs = [] := List.eq_nil_of_length_eq_zero hz
    refine ev_succ (ev_now fun k => ?_)
    simp [laws_toSampleS.l0]
  | cons x rest ih =>
    intro pre zs hz hl
    cases zs with
    | nil => simp at hz
    | cons z zs =>
      have h := ih (pre ++ [x]) zs (by simpa using hz) (by simpa using hl)
      have hlen : (pre ++ x :: rest).length = pre.length + 1 + rest.length := by simp; omega
      refine ev_succ ?_
      have e1 : ((pre.length : Nat) : Int) < ((pre ++ x :: rest).length : Int) := len_mid _ _ _
      have e2 : ((pre.length : Nat) : Int) < ((pre.map toSampleM ++ z :: zs).length : Int) := by have := len_mid (pre.map toSampleM) zs z; simpa using this
      have e3 : rd_T83 (pre ++ x :: rest) (pre.length : Int) = x := by unfold rd_T83; rw [Int.toNat_natCast]; exact getD_mid _ _ _ _
      have e4 : (pre.map toSampleM ++ z :: zs).set (pre.length : Int).toNat (toSampleM x) = (pre ++ [x]).map toSampleM ++ zs := by
        rw [Int.toNat_natCast]
        have := set_mid (pre.map toSampleM) zs z (toSampleM x)
        rw [List.length_map] at this
        rw [this, List.map_append]; rfl
      have e5 : wrap64 ((pre.length : Int) + 1) = ((pre ++ [x]).length : Int) := by rw [len_succ]; exact w64 (by omega) (by omega)
      rw [mid_assoc]
      refine Ev.congr (fun k => ?_) h
      simp only [laws_toSampleS.l0]
      rw [mid_assoc] at e1 e3
      rw [if_pos e1, if_pos (by omega : (0 : Int) ≤ pre.length), e3, toSample_f, Option.bind_some, if_pos e2, e5]
      exact congrArg (fun l => laws_toSampleS.l0 k _ l _) e4
theorem toSampleS_ev (l : List S83) (hl : l.length ≤ 1048576) : Ev (fun k => laws_toSampleS.f k l) (l.map toSampleM) := by
  have h := toSampleS_loop l [] (List.replicate l.length z81) (by simp) (by simp; omega)
  refine Ev.congr (fun k => ?_) h
  unfold laws_toSampleS.f
  rw [if_pos (by omega), if_pos (by simp; omega)]
  simp
theorem eqSample_self (x : S81) : laws_eqSample.f x.f0 x.f1 x.f0 x.f1 = some true := by simp [laws_eqSample.f]
theorem eqSampleS_loop (rest : List S81) : ∀ (pre : List S81), (pre ++ rest).length ≤ 9223372036854775806 → Ev (fun k => laws_eqSampleS.l0 k (pre ++ rest) (pre ++ rest) (pre.length : Int)) true := by
  induction rest with
  | nil =>
    intro pre _
    refine ev_succ (ev_now fun k => ?_)
    simp [laws_eqSampleS.l0]
  | cons x rest ih =>
    intro pre hl
    have h := ih (pre ++ [x]) (by simpa using hl)
    have hlen : (pre ++ x :: rest).length = pre.length + 1 + rest.length := by simp; omega
    refine ev_succ ?_
    have e1 : ((pre.length : Nat) : Int) < ((pre ++ x :: rest).length : Int) := len_mid _ _ _
    have e3 : rd_T81 (pre ++ x :: rest) (pre.length : Int) = x := by unfold rd_T81; rw [Int.toNat_natCast]; exact getD_mid _ _ _ _
    have e5 : wrap64 ((pre.length : Int) + 1) = ((pre ++ [x]).length : Int) := by rw [len_succ]; exact w64 (by omega) (by omega)
    rw [mid_assoc]
    refine Ev.congr (fun k => ?_) h
    simp only [laws_eqSampleS.l0]
    rw [mid_assoc] at e1 e3
    rw [if_pos e1, if_pos (by omega : (0 : Int) ≤ pre.length), if_pos e1, e3, eqSample_self, Option.bind_some, if_pos rfl, e5]
theorem eqSampleS_ev (l : List S81) (hl : l.length ≤ 9223372036854775806) : Ev (fun k => laws_eqSampleS.f k l l) true := by
  have h := eqSampleS_loop l [] (by simpa using hl)
  refine Ev.congr (fun k => ?_) h
  unfold laws_eqSampleS.f
  rw [if_pos rfl]
  simp
/-- The list, marked from c on. -/
def markSampleM : List S81 → Int → List S81
  | [], _ => []
  | _ :: l, c => (⟨c, c + 1⟩ : S81) :: markSampleM l (c + 2)
theorem markSampleM_length (l : List S81) : ∀ c, (markSampleM l c).length = l.length := by
  induction l with
  | nil => intro c; rfl
  | cons x l ih => intro c; simp [markSampleM, ih]
theorem markSampleS_loop (rest : List S81) : ∀ (pre : List S81) (c : Int), 0 ≤ c → c + 2 * rest.length ≤ 9223372036854775000 → (pre ++ rest).length ≤ 9223372036854775000 →
    Ev (fun k => laws_markSampleS.l0 k (pre ++ rest) c (pre.length : Int)) (c + 2 * rest.length, pre ++ markSampleM rest c) := by
  induction rest with
  | nil =>
    intro pre c _ _ _
    refine ev_succ (ev_now fun k => ?_)
    simp [laws_markSampleS.l0, markSampleM]
  | cons x rest ih =>
    intro pre c h0 h1 hl
    have hc : ((x :: rest).length : Int) = rest.length + 1 := by simp
    rw [hc] at h1
    have hlen : (pre ++ x :: rest).length = pre.length + 1 + rest.length := by simp; omega
    have h := ih (pre ++ [(⟨c, c + 1⟩ : S81)]) (c + 2) (by omega) (by omega) (by simp at hl ⊢; omega)
    have er : (c + 2 + 2 * (rest.length : Int), (pre ++ [(⟨c, c + 1⟩ : S81)]) ++ markSampleM rest (c + 2)) = (c + 2 * ((x :: rest).length : Int), pre ++ markSampleM (x :: rest) c) := by
      rw [hc, markSampleM]
      simp only [List.append_assoc, List.singleton_append, Prod.mk.injEq, and_true]
      omega
    refine ev_succ ?_
    have e1 : ((pre.length : Nat) : Int) < ((pre ++ x :: rest).length : Int) := len_mid _ _ _
    have e3 : ∀ y : S81, rd_T81 (pre ++ y :: rest) (pre.length : Int) = y := by intro y; unfold rd_T81; rw [Int.toNat_natCast]; exact getD_mid _ _ _ _
    have e4 : ∀ y z : S81, (pre ++ y :: rest).set (pre.length : Int).toNat z = pre ++ z :: rest := by intro y z; rw [Int.toNat_natCast, set_mid, ← mid_assoc]
    have e5 : ∀ y : S81, wrap64 ((pre.length : Int) + 1) = ((pre ++ [y]).length : Int) := by intro y; rw [len_succ]; exact w64 (by omega) (by omega)
    have a1 : wrap64 (c + 1) = c + 1 := by rw [w64 (by omega) (by omega)]
    have a2 : wrap64 (c + 1 + 1) = c + 2 := by rw [w64 (by omega) (by omega)]; omega
    refine ev_eq (Ev.congr (fun k => ?_) h) er
    simp only [laws_markSampleS.l0]
    rw [if_pos e1, if_pos (by omega : (0 : Int) ≤ pre.length)]
    simp only [e3, e4, Option.bind_some, a1, a2]
    rw [e5 (⟨c, c + 1⟩ : S81), mid_assoc]
theorem markSampleS_ev (l : List S81) (c : Int) (h0 : 0 ≤ c) (h1 : c + 2 * l.length ≤ 9223372036854775000) : Ev (fun k => laws_markSampleS.f k l c) (c + 2 * l.length, markSampleM l c) := by
  have h := markSampleS_loop l [] c h0 h1 (by simp; omega)
  exact h
theorem eqAgg_self (x : S78) : laws_eqAgg.f x.f0 x.f1 x.f2 x.f3 x.f4 x.f5 x.f6 x.f7 x.f0 x.f1 x.f2 x.f3 x.f4 x.f5 x.f6 x.f7 = some true := by simp [laws_eqAgg.f]
theorem eqAggS_loop (rest : List S78) : ∀ (pre : List S78), (pre ++ rest).length ≤ 9223372036854775806 → Ev (fun k => laws_eqAggS.l0 k (pre ++ rest) (pre ++ rest) (pre.length : Int)) true := by
  induction rest with
  | nil =>
    intro pre _
    refine ev_succ (ev_now fun k => ?_)
    simp [laws_eqAggS.l0]
  | cons x rest ih =>
    intro pre hl
    have h := ih (pre ++ [x]) (by simpa using hl)
    have hlen : (pre ++ x :: rest).length = pre.length + 1 + rest.length := by simp; omega
    refine ev_succ ?_
    have e1 : ((pre.length : Nat) : Int) < ((pre ++ x :: rest).length : Int) := len_mid _ _ _
    have e3 : rd_T78 (pre ++ x :: rest) (pre.length : Int) = x := by unfold rd_T78; rw [Int.toNat_natCast]; exact getD_mid _ _ _ _
    have e5 : wrap64 ((pre.length : Int) + 1) = ((pre ++ [x]).length : Int) := by rw [len_succ]; exact w64 (by omega) (by omega)
    rw [mid_assoc]
    refine Ev.congr (fun k => ?_) h
    simp only [laws_eqAggS.l0]
    rw [mid_assoc] at e1 e3
    rw [if_pos e1, if_pos (by omega : (0 : Int) ≤ pre.length), if_pos e1, e3, eqAgg_self, Option.bind_some, if_pos rfl, e5]
theorem eqAggS_ev (l : List S78) (hl : l.length ≤ 9223372036854775806) : Ev (fun k => laws_eqAggS.f k l l) true := by
  have h := eqAggS_loop l [] (by simpa using hl)
  refine Ev.congr (fun k => ?_) h
  unfold laws_eqAggS.f
  rw [if_pos rfl]
  simp
/-- The list, marked from c on. -/
def markAggM : List S78 → Int → List S78
  | [], _ => []
  | _ :: l, c => (⟨c, c + 1, c + 2, c + 3, c + 4, c + 5, c + 6, c + 7⟩ : S78) :: markAggM l (c + 8)
theorem markAggM_length (l : List S78) : ∀ c, (markAggM l c).length = l.length := by
  induction l with
  | nil => intro c; rfl
  | cons x l ih => intro c; simp [markAggM, ih]
theorem markAggS_loop (rest : List S78) : ∀ (pre : List S78) (c : Int), 0 ≤ c → c + 8 * rest.length ≤ 9223372036854775000 → (pre ++ rest).length ≤ 9223372036854775000 →
    Ev (fun k => laws_markAggS.l0 k (pre ++ rest) c (pre.length : Int)) (c + 8 * rest.length, pre ++ markAggM rest c) := by
  induction rest with
  | nil =>
    intro pre c _ _ _
    refine ev_succ (ev_now fun k => ?_)
    simp [laws_markAggS.l0, markAggM]
  | cons x rest ih =>
    intro pre c h0 h1 hl
    have hc : ((x :: rest).length : Int) = rest.length + 1 := by simp
    rw [hc] at h1
    have hlen : (pre ++ x :: rest).length = pre.length + 1 + rest.length := by simp; omega
    have h := ih (pre ++ [(⟨c, c + 1, c + 2, c + 3, c + 4, c + 5, c + 6, c + 7⟩ : S78)]) (c + 8) (by omega) (by omega) (by simp at hl ⊢; omega)
    have er : (c + 8 + 8 * (rest.length : Int), (pre ++ [(⟨c, c + 1, c + 2, c + 3, c + 4, c + 5, c + 6, c + 7⟩ : S78)]) ++ markAggM rest (c + 8)) = (c + 8 * ((x :: rest).length : Int), pre ++ markAggM (x :: rest) c) := by
      rw [hc, markAggM]
      simp only [List.append_assoc, List.singleton_append, Prod.mk.injEq, and_true]
      omega
    refine ev_succ ?_
    have e1 : ((pre.length : Nat) : Int) < ((pre ++ x :: rest).length : Int) := len_mid _ _ _
    have e3 : ∀ y : S78, rd_T78 (pre ++ y :: rest) (pre.length : Int) = y := by intro y; unfold rd_T78; rw [Int.toNat_natCast]; exact getD_mid _ _ _ _
    have e4 : ∀ y z : S78, (pre ++ y :: rest).set (pre.length : Int).toNat z = pre ++ z :: rest := by intro y z; rw [Int.toNat_natCast, set_mid, ← mid_assoc]
    have e5 : ∀ y : S78, wrap64 ((pre.length : Int) + 1) = ((pre ++ [y]).length : Int) := by intro y; rw [len_succ]; exact w64 (by omega) (by omega)
    have a1 : wrap64 (c + 1) = c + 1 := by rw [w64 (by omega) (by omega)]
    have a2 : wrap64 (c + 1 + 1) = c + 2 := by rw [w64 (by omega) (by omega)]; omega
    have a3 : wrap64 (c + 2 + 1) = c + 3 := by rw [w64 (by omega) (by omega)]; omega
    have a4 : wrap64 (c + 3 + 1) = c + 4 := by rw [w64 (by omega) (by omega)]; omega
    have a5 : wrap64 (c + 4 + 1) = c + 5 := by rw [w64 (by omega) (by omega)]; omega
    have a6 : wrap64 (c + 5 + 1) = c + 6 := by rw [w64 (by omega) (by omega)]; omega
    have a7 : wrap64 (c + 6 + 1) = c + 7 := by rw [w64 (by omega) (by omega)]; omega
    have a8 : wrap64 (c + 7 + 1) = c + 8 := by rw [w64 (by omega) (by omega)]; omega
    refine ev_eq (Ev.congr (fun k => ?_) h) er
    simp only [laws_markAggS.l0]
    rw [if_pos e1, if_pos (by omega : (0 : Int) ≤ pre.length)]
    simp only [e3, e4, Option.bind_some, a1, a2, a3, a4, a5, a6, a7, a8]
    rw [e5 (⟨c, c + 1, c + 2, c + 3, c + 4, c + 5, c + 6, c + 7⟩ : S78), mid_assoc]
theorem markAggS_ev (l : List S78) (c : Int) (h0 : 0 ≤ c) (h1 : c + 8 * l.length ≤ 9223372036854775000) : Ev (fun k => laws_markAggS.f k l c) (c + 8 * l.length, markAggM l c) := by
  have h := markAggS_loop l [] c h0 h1 (by simp; omega)
  exact h
theorem heldAggS_loop (rest : List S78) : ∀ (pre : List S78) (c : Int), 0 ≤ c → c + 8 * rest.length ≤ 9223372036854775000 → (pre ++ rest).length ≤ 9223372036854775000 →
    Ev (fun k => laws_heldAggS.l0 k (pre ++ markAggM rest c) c (pre.length : Int)) (c + 8 * rest.length) := by
  induction rest with
  | nil =>
    intro pre c _ _ _
    refine ev_succ (ev_now fun k => ?_)
    simp [laws_heldAggS.l0, markAggM]
  | cons x rest ih =>
    intro pre c h0 h1 hl
    have hc : ((x :: rest).length : Int) = rest.length + 1 := by simp
    rw [hc] at h1
    have hlen : (pre ++ x :: rest).length = pre.length + 1 + rest.length := by simp; omega
    have h := ih (pre ++ [(⟨c, c + 1, c + 2, c + 3, c + 4, c + 5, c + 6, c + 7⟩ : S78)]) (c + 8) (by omega) (by omega) (by simp at hl ⊢; omega)
    rw [markAggM]
    have e1 : ((pre.length : Nat) : Int) < ((pre ++ (⟨c, c + 1, c + 2, c + 3, c + 4, c + 5, c + 6, c + 7⟩ : S78) :: markAggM rest (c + 8)).length : Int) := len_mid _ _ _
    have e3 : rd_T78 (pre ++ (⟨c, c + 1, c + 2, c + 3, c + 4, c + 5, c + 6, c + 7⟩ : S78) :: markAggM rest (c + 8)) (pre.length : Int) = (⟨c, c + 1, c + 2, c + 3, c + 4, c + 5, c + 6, c + 7⟩ : S78) := by unfold rd_T78; rw [Int.toNat_natCast]; exact getD_mid _ _ _ _
    have e5 : ∀ y : S78, wrap64 ((pre.length : Int) + 1) = ((pre ++ [y]).length : Int) := by intro y; rw [len_succ]; exact w64 (by omega) (by omega)
    have a1 : wrap64 (c + 1) = c + 1 := by rw [w64 (by omega) (by omega)]
    have a2 : wrap64 (c + 1 + 1) = c + 2 := by rw [w64 (by omega) (by omega)]; omega
    have a3 : wrap64 (c + 2 + 1) = c + 3 := by rw [w64 (by omega) (by omega)]; omega
    have a4 : wrap64 (c + 3 + 1) = c + 4 := by rw [w64 (by omega) (by omega)]; omega
    have a5 : wrap64 (c + 4 + 1) = c + 5 := by rw [w64 (by omega) (by omega)]; omega
    have a6 : wrap64 (c + 5 + 1) = c + 6 := by rw [w64 (by omega) (by omega)]; omega
    have a7 : wrap64 (c + 6 + 1) = c + 7 := by rw [w64 (by omega) (by omega)]; omega
    have a8 : wrap64 (c + 7 + 1) = c + 8 := by rw [w64 (by omega) (by omega)]; omega
    refine ev_succ ?_
    refine ev_eq (Ev.congr (fun k => ?_) h) (by rw [hc]; omega)
    simp only [laws_heldAggS.l0]
    rw [if_pos e1, if_pos (by omega : (0 : Int) ≤ pre.length)]
    simp only [e3, a1, a2, a3, a4, a5, a6, a7, a8, if_true]
    rw [e5 (⟨c, c + 1, c + 2, c + 3, c + 4, c + 5, c + 6, c + 7⟩ : S78), mid_assoc]
theorem heldAggS_ev (l : List S78) (c : Int) (h0 : 0 ≤ c) (h1 : c + 8 * l.length ≤ 9223372036854775000) : Ev (fun k => laws_heldAggS.f k (markAggM l c) c) (c + 8 * l.length) :=
  heldAggS_loop l [] c h0 h1 (by simp; omega)
/-! ### good samples -/
theorem rd_at (l : List S81) (i : Nat) (h : i < l.length) : rd_T81 l (i : Int) = l[i] := by
  unfold rd_T81
  rw [Int.toNat_natCast]
  exact getD_at l i _ h
def timeB (t : Int) : Bool := decide (0 ≤ t ∧ t ≤ 1000000000000)
def okAt (l : List S81) (i : Nat) : Bool := timeB (rd_T81 l i).f0 && (decide (i = 0) || decide ((rd_T81 l ((i : Int) - 1)).f0 < (rd_T81 l i).f0))
def goodB (l : List S81) : Bool := decide (l.length ≤ 2000) && allFrom (okAt l) l.length 0
theorem l3Time_f (t : Int) : spec_l3Time.f t = some (timeB t) := by
  unfold spec_l3Time.f timeB
  by_cases h : t ≥ 0 <;> simp [h] <;> omega
theorem isTime_f (t : Int) : impl_isTime.f t = some (timeB t) := by
  unfold impl_isTime.f timeB
  by_cases h : t ≥ 0 <;> simp [h] <;> omega
theorem specGood_loop (l : List S81) (hn : l.length ≤ 9223372036854775000) : ∀ i, i ≤ l.length → Ev (fun k => spec_GoodSamples.l0 k l l (l.length : Int) (i : Int)) (decide (l.length ≤ 2000) && allFrom (okAt l) l.length i || (decide (l.length ≤ 2000) && allFrom (okAt l) l.length i)) := by
  refine down ?_ ?_
  · refine ev_succ (ev_now fun k => ?_)
    simp only [spec_GoodSamples.l0, Int.lt_irrefl, if_false, allFrom_end, Bool.and_true, Bool.or_self]
    congr 1
    rw [decide_eq_decide]; omega
  · intro i hi h
    rw [Bool.or_self] at h ⊢
    rw [allFrom_step hi]
    have e5 := w64_succ hi (by omega : l.length ≤ 9223372036854775807)
    have e6 : wrap64 ((i : Int) - 1) = (i : Int) - 1 := w64 (by omega) (by omega)
    refine ev_succ ?_
    by_cases ht : timeB (rd_T81 l i).f0 = true
    · by_cases h0 : i = 0
      · have hok : okAt l i = true := by simp [okAt, ht, h0]; subst h0; exact ht
        rw [hok, Bool.true_and]
        refine Ev.congr (fun k => ?_) h
        simp only [spec_GoodSamples.l0]
        rw [if_pos (by omega : (i : Int) < l.length), if_pos (by omega : (0 : Int) ≤ i), if_pos (by omega : (i : Int) < l.length), l3Time_f, Option.bind_some, if_pos ht, if_neg (by omega), e5]
      · by_cases hlt : (rd_T81 l ((i : Int) - 1)).f0 < (rd_T81 l i).f0
        · have hok : okAt l i = true := by simp [okAt, ht, hlt]
          rw [hok, Bool.true_and]
          refine Ev.congr (fun k => ?_) h
          simp only [spec_GoodSamples.l0]
          rw [if_pos (by omega : (i : Int) < l.length), if_pos (by omega : (0 : Int) ≤ i), if_pos (by omega : (i : Int) < l.length), l3Time_f, Option.bind_some, if_pos ht, if_pos (by omega), e6, if_pos (by omega), if_pos (by omega), if_neg (by omega), e5]
        · have hok : okAt l i = false := by simp [okAt, ht, hlt, h0]
          rw [hok, Bool.false_and, Bool.and_false]
          refine ev_now fun k => ?_
          simp only [spec_GoodSamples.l0]
          rw [if_pos (by omega : (i : Int) < l.length), if_pos (by omega : (0 : Int) ≤ i), if_pos (by omega : (i : Int) < l.length), l3Time_f, Option.bind_some, if_pos ht, if_pos (by omega), e6, if_pos (by omega), if_pos (by omega), if_pos (by omega)]
    · have hok : okAt l i = false := by simp [okAt, ht]
      rw [hok, Bool.false_and, Bool.and_false]
      refine ev_now fun k => ?_
      simp only [spec_GoodSamples.l0]
      rw [if_pos (by omega : (i : Int) < l.length), if_pos (by omega : (0 : Int) ≤ i), if_pos (by omega : (i : Int) < l.length), l3Time_f, Option.bind_some, if_neg ht]
theorem specGood_ev (l : List S81) (hn : l.length ≤ 9223372036854775000) : Ev (fun k => spec_GoodSamples.f k l) (goodB l) := by
  have h := specGood_loop l hn 0 (Nat.zero_le _)
  rw [Bool.or_self] at h
  exact h
theorem implGood_loop (l : List S81) (hn : l.length ≤ 9223372036854775000) : ∀ i, i ≤ l.length → Ev (fun k => impl_GoodSamples.l0 k l l (l.length : Int) (i : Int)) (allFrom (okAt l) l.length i) := by
  refine down ?_ ?_
  · refine ev_succ (ev_now fun k => ?_)
    simp only [impl_GoodSamples.l0, Int.lt_irrefl, if_false, allFrom_end]
  · intro i hi h
    rw [allFrom_step hi]
    have e5 := w64_succ hi (by omega : l.length ≤ 9223372036854775807)
    have e6 : wrap64 ((i : Int) - 1) = (i : Int) - 1 := w64 (by omega) (by omega)
    refine ev_succ ?_
    by_cases ht : timeB (rd_T81 l i).f0 = true
    · by_cases h0 : i = 0
      · have hok : okAt l i = true := by simp [okAt, ht, h0]; subst h0; exact ht
        rw [hok, Bool.true_and]
        refine Ev.congr (fun k => ?_) h
        simp only [impl_GoodSamples.l0]
        rw [if_pos (by omega : (i : Int) < l.length), if_pos (by omega : (0 : Int) ≤ i), if_pos (by omega : (i : Int) < l.length), isTime_f, Option.bind_some, if_pos ht, if_neg (by omega), e5]
      · by_cases hlt : (rd_T81 l ((i : Int) - 1)).f0 < (rd_T81 l i).f0
        · have hok : okAt l i = true := by simp [okAt, ht, hlt]
          rw [hok, Bool.true_and]
          refine Ev.congr (fun k => ?_) h
          simp only [impl_GoodSamples.l0]
          rw [if_pos (by omega : (i : Int) < l.length), if_pos (by omega : (0 : Int) ≤ i), if_pos (by omega : (i : Int) < l.length), isTime_f, Option.bind_some, if_pos ht, if_pos (by omega), e6, if_pos (by omega), if_pos (by omega), if_neg (by omega), e5]
        · have hok : okAt l i = false := by simp [okAt, ht, hlt, h0]
          rw [hok, Bool.false_and]
          refine ev_now fun k => ?_
          simp only [impl_GoodSamples.l0]
          rw [if_pos (by omega : (i : Int) < l.length), if_pos (by omega : (0 : Int) ≤ i), if_pos (by omega : (i : Int) < l.length), isTime_f, Option.bind_some, if_pos ht, if_pos (by omega), e6, if_pos (by omega), if_pos (by omega), if_pos (by omega)]
    · have hok : okAt l i = false := by simp [okAt, ht]
      rw [hok, Bool.false_and]
      refine ev_now fun k => ?_
      simp only [impl_GoodSamples.l0]
      rw [if_pos (by omega : (i : Int) < l.length), if_pos (by omega : (0 : Int) ≤ i), if_pos (by omega : (i : Int) < l.length), isTime_f, Option.bind_some, if_neg ht]
theorem implGood_ev (l : List S81) (hn : l.length ≤ 9223372036854775000) : Ev (fun k => impl_GoodSamples.f k l) (goodB l) := by
  unfold goodB
  by_cases h : l.length ≤ 2000
  · have h1 := implGood_loop l hn 0 (Nat.zero_le _)
    simp only [h, decide_true, Bool.true_and]
    refine Ev.congr (fun k => ?_) h1
    unfold impl_GoodSamples.f
    rw [if_neg (by omega)]; rfl
  · simp only [h, decide_false, Bool.false_and]
    refine ev_now fun k => ?_
    unfold impl_GoodSamples.f
    rw [if_pos (by omega)]
/-- What good samples are. -/
structure Good (l : List S81) : Prop where
  len : l.length ≤ 2000
  lo : ∀ i, (h : i < l.length) → 0 ≤ (l[i]).f0 ∧ (l[i]).f0 ≤ 1000000000000
  up : ∀ i j, (hi : i < l.length) → (hj : j < l.length) → i < j → (l[i]).f0 < (l[j]).f0
theorem good_of {l : List S81} (h : goodB l = true) : Good l := by
  unfold goodB at h
  simp only [Bool.and_eq_true, decide_eq_true_eq] at h
  obtain ⟨h1, h2⟩ := h
  rw [allFrom_iff] at h2
  have h3 : ∀ i, (h : i < l.length) → timeB (l[i]).f0 = true ∧ (i = 0 ∨ (rd_T81 l ((i : Int) - 1)).f0 < (l[i]).f0) := by
    intro i hi
    have h4 := h2 i (Nat.zero_le _) hi
    unfold okAt at h4
    rw [rd_at l i hi] at h4
    simpa using h4
  refine ⟨h1, fun i hi => by have := (h3 i hi).1; simpa [timeB] using this, ?_⟩
  have step : ∀ i, (hi : i + 1 < l.length) → (l[i]).f0 < (l[i + 1]).f0 := by
    intro i hi
    rcases (h3 (i + 1) hi).2 with h5 | h5
    · omega
    · rw [show ((i + 1 : Nat) : Int) - 1 = (i : Int) from by omega, rd_at l i (by omega)] at h5
      exact h5
  intro i j hi hj hij
  obtain ⟨d, rfl⟩ : ∃ d, j = i + 1 + d := ⟨j - i - 1, by omega⟩
  clear hij
  induction d with
  | zero => exact step i hj
  | succ d ih => exact Int.lt_trans (ih (by omega)) (step (i + 1 + d) hj)

theorem specReal_loop  (rest : List S81) : ∀ (pre out : List S81), (pre ++ rest).length ≤ 1048576 → out.length + rest.length ≤ 1048576 →
    Ev (fun k => spec_l11Real.l0 k out (pre ++ rest) ((pre ++ rest).length : Int) (pre.length : Int)) (out ++ rest.filter fun x => x.f1 != -9223372036854775808) := by
  induction rest with
  | nil =>
    intro pre out _ _
    refine ev_succ (ev_now fun k => ?_)
    simp [spec_l11Real.l0]
  | cons x rest ih =>
    intro pre out hl ho
    have hlen : (pre ++ x :: rest).length = pre.length + 1 + rest.length := by simp; omega
    have hol : out.length + (rest.length + 1) ≤ 1048576 := by simpa using ho
    have e1 : (pre.length : Int) < ((pre ++ x :: rest).length : Int) := len_mid _ _ _
    have e3 : rd_T81 (pre ++ x :: rest) (pre.length : Int) = x := by unfold rd_T81; rw [Int.toNat_natCast]; exact getD_mid _ _ _ _
    have e5 : wrap64 ((pre.length : Int) + 1) = ((pre ++ [x]).length : Int) := by rw [len_succ]; exact w64 (by omega) (by omega)
    have ec : out.length < 8796093022208 := by omega
    by_cases ht : (x.f1 != -9223372036854775808) = true
    · have h := ih (pre ++ [x]) (out ++ [x]) (by simp at hl ⊢; omega) (by simp; omega)
      rw [← mid_assoc] at h
      have er : out ++ [x] ++ rest.filter (fun x => x.f1 != -9223372036854775808) = out ++ (x :: rest).filter fun x => x.f1 != -9223372036854775808 := by rw [List.filter_cons, if_pos ht]; simp
      refine ev_eq (ev_succ (Ev.congr (fun k => ?_) h)) er
      simp only [spec_l11Real.l0]
      rw [if_pos e1, if_pos (by omega : (0 : Int) ≤ pre.length), if_pos e1, e3]
      rw [if_neg (by simpa using ht)]
      simp only [if_pos ec, e5]
    · have h := ih (pre ++ [x]) out (by simp at hl ⊢; omega) (by omega)
      rw [← mid_assoc] at h
      have er : out ++ rest.filter (fun x => x.f1 != -9223372036854775808) = out ++ (x :: rest).filter fun x => x.f1 != -9223372036854775808 := by rw [List.filter_cons, if_neg ht]
      refine ev_eq (ev_succ (Ev.congr (fun k => ?_) h)) er
      simp only [spec_l11Real.l0]
      rw [if_pos e1, if_pos (by omega : (0 : Int) ≤ pre.length), if_pos e1, e3]
      rw [if_pos (by simpa using ht)]
      simp only [e5]
theorem implLive_loop  (rest : List S81) : ∀ (pre out : List S81), (pre ++ rest).length ≤ 1048576 → out.length + rest.length ≤ 1048576 →
    Ev (fun k => impl_Sample_at_impl_live_1.l0 k out (pre ++ rest) ((pre ++ rest).length : Int) (pre.length : Int)) (out ++ rest.filter fun x => x.f1 != -9223372036854775808) := by
  induction rest with
  | nil =>
    intro pre out _ _
    refine ev_succ (ev_now fun k => ?_)
    simp [impl_Sample_at_impl_live_1.l0]
  | cons x rest ih =>
    intro pre out hl ho
    have hlen : (pre ++ x :: rest).length = pre.length + 1 + rest.length := by simp; omega
    have hol : out.length + (rest.length + 1) ≤ 1048576 := by simpa using ho
    have e1 : (pre.length : Int) < ((pre ++ x :: rest).length : Int) := len_mid _ _ _
    have e3 : rd_T81 (pre ++ x :: rest) (pre.length : Int) = x := by unfold rd_T81; rw [Int.toNat_natCast]; exact getD_mid _ _ _ _
    have e5 : wrap64 ((pre.length : Int) + 1) = ((pre ++ [x]).length : Int) := by rw [len_succ]; exact w64 (by omega) (by omega)
    have ec : out.length < 8796093022208 := by omega
    by_cases ht : (x.f1 != -9223372036854775808) = true
    · have h := ih (pre ++ [x]) (out ++ [x]) (by simp at hl ⊢; omega) (by simp; omega)
      rw [← mid_assoc] at h
      have er : out ++ [x] ++ rest.filter (fun x => x.f1 != -9223372036854775808) = out ++ (x :: rest).filter fun x => x.f1 != -9223372036854775808 := by rw [List.filter_cons, if_pos ht]; simp
      refine ev_eq (ev_succ (Ev.congr (fun k => ?_) h)) er
      simp only [impl_Sample_at_impl_live_1.l0]
      rw [if_pos e1, if_pos (by omega : (0 : Int) ≤ pre.length), if_pos e1, e3]
      rw [show impl_live_1.f x.f0 x.f1 = some true from congrArg some ht, Option.bind_some, if_pos rfl]
      simp only [if_pos ec, e5]
    · have h := ih (pre ++ [x]) out (by simp at hl ⊢; omega) (by omega)
      rw [← mid_assoc] at h
      have er : out ++ rest.filter (fun x => x.f1 != -9223372036854775808) = out ++ (x :: rest).filter fun x => x.f1 != -9223372036854775808 := by rw [List.filter_cons, if_neg ht]
      refine ev_eq (ev_succ (Ev.congr (fun k => ?_) h)) er
      simp only [impl_Sample_at_impl_live_1.l0]
      rw [if_pos e1, if_pos (by omega : (0 : Int) ≤ pre.length), if_pos e1, e3]
      rw [show impl_live_1.f x.f0 x.f1 = some false from congrArg some (by simpa using ht), Option.bind_some, if_neg (by decide)]
      simp only [e5]

def real (l : List S81) : List S81 := l.filter fun x => x.f1 != -9223372036854775808
theorem real_le (l : List S81) : (real l).length ≤ l.length := List.length_filter_le _ _
theorem specReal_ev (l : List S81) (hl : l.length ≤ 1048576) : Ev (fun k => spec_l11Real.f k l) (real l) := specReal_loop l [] [] (by simpa using hl) (by simpa using hl)
theorem implLive_ev (l : List S81) (hl : l.length ≤ 1048576) : Ev (fun k => impl_live.f k l) (real l) := by
  have h : Ev (fun k => impl_Sample_at_impl_live_1.f k l) (real l) := implLive_loop l [] [] (by simpa using hl) (by simpa using hl)
  exact Ev.bind h (Ev.now _)
def rise (a b : Int) : Int := if b ≥ a then wrap64 (b - a) else b
theorem specRise_f (a b : Int) : spec_l11Rise.f a b = some (rise a b) := by
  unfold spec_l11Rise.f rise
  split <;> rfl
theorem implRise_f (a b : Int) : impl_riseOver.f a b = some (rise a b) := by
  unfold impl_riseOver.f rise
  split <;> rfl
theorem w64_range (x : Int) : -9223372036854775808 ≤ wrap64 x ∧ wrap64 x ≤ 9223372036854775807 := by
  unfold wrap64
  omega
/-- Sum, least, greatest, rise, last value: with one value more. -/
structure Run where
  s : Int
  m : Int
  M : Int
  r : Int
  l : Int
def Run.step (x : Run) (v : Int) : Run := ⟨wrap64 (x.s + v), if v < x.m then v else x.m, if x.M < v then v else x.M, wrap64 (x.r + rise x.l v), v⟩
def Run.over (x : Run) (vs : List Int) : Run := vs.foldl Run.step x
theorem specAgg_loop (t n f e : Int) (rest : List S81) : ∀ (pre : List S81) (p : S81) (x : Run), x.l = p.f1 → (pre ++ [p] ++ rest).length ≤ 1048576 → (∀ z ∈ rest, -9223372036854775808 ≤ z.f1 ∧ z.f1 ≤ 9223372036854775807) →
    Ev (fun k => spec_l11Agg.l0 k (pre ++ [p] ++ rest) (pre ++ [p] ++ rest) ((pre ++ [p] ++ rest).length : Int) ((pre ++ [p]).length : Int) t n x.s x.m x.M f e x.r)
      (t, n, (x.over (rest.map (·.f1))).s, (x.over (rest.map (·.f1))).m, (x.over (rest.map (·.f1))).M, f, e, (x.over (rest.map (·.f1))).r) := by
  induction rest with
  | nil =>
    intro pre p x _ _ _
    refine ev_succ (ev_now fun k => ?_)
    simp [spec_l11Agg.l0, Run.over]
  | cons z rest ih =>
    intro pre p x hp hl hz
    have h := ih (pre ++ [p]) z (x.step z.f1) rfl (by simp at hl ⊢; omega) (fun q hq => hz q (List.mem_cons_of_mem _ hq))
    have e0 : pre ++ [p] ++ [z] ++ rest = pre ++ [p] ++ z :: rest := by simp
    rw [e0] at h
    have hlen : (pre ++ [p] ++ z :: rest).length = pre.length + 2 + rest.length := by simp; omega
    have hq : (pre ++ [p]).length = pre.length + 1 := by simp
    have e1 : ((pre ++ [p]).length : Int) < ((pre ++ [p] ++ z :: rest).length : Int) := len_mid _ _ _
    have e3 : rd_T81 (pre ++ [p] ++ z :: rest) ((pre ++ [p]).length : Int) = z := by unfold rd_T81; rw [Int.toNat_natCast]; exact getD_mid _ _ _ _
    have e4 : wrap64 (((pre ++ [p]).length : Int) - 1) = (pre.length : Int) := by rw [hq, w64 (by omega) (by omega)]; omega
    have e6 : rd_T81 (pre ++ [p] ++ z :: rest) (pre.length : Int) = p := by
      unfold rd_T81; rw [Int.toNat_natCast, List.append_assoc]; exact getD_mid _ _ _ _
    have e5 : wrap64 (((pre ++ [p]).length : Int) + 1) = ((pre ++ [p] ++ [z]).length : Int) := by rw [len_succ (pre ++ [p]) z]; exact w64 (by omega) (by omega)
    have hr : x.r = x.r := rfl
    refine ev_succ ?_
    refine ev_succ ?_
    refine Ev.congr (fun k => ?_) h
    simp only [spec_l11Agg.l0, spec_l11Agg.j1]
    simp only [if_pos e1, if_pos (show (0 : Int) ≤ ((pre ++ [p]).length : Int) by omega), e3, if_pos (show ((pre ++ [p]).length : Int) > 0 by rw [hq]; omega), e4, e5, e6, specRise_f, Option.bind_some,
      if_pos (show (0 : Int) ≤ (pre.length : Int) by omega), if_pos (show (pre.length : Int) < ((pre ++ [p] ++ z :: rest).length : Int) by rw [hlen]; omega)]
    simp only [Run.step, hp]
    by_cases c1 : z.f1 < x.m
    · by_cases c2 : z.f1 > x.M
      · have c3 : x.M < z.f1 := c2
        simp only [if_pos c1, if_pos c2, if_pos c3]
      · have c3 : ¬ x.M < z.f1 := c2
        simp only [if_pos c1, if_neg c2, if_neg c3]
    · by_cases c2 : z.f1 > x.M
      · have c3 : x.M < z.f1 := c2
        simp only [if_neg c1, if_pos c2, if_pos c3]
      · have c3 : ¬ x.M < z.f1 := c2
        simp only [if_neg c1, if_neg c2, if_neg c3]
def first (v : Int) : Run := ⟨v, v, v, 0, v⟩
theorem specAgg_ev (y : S81) (rest : List S81) (t : Int) (hl : (y :: rest).length ≤ 1048576) (hv : ∀ z ∈ y :: rest, -9223372036854775808 ≤ z.f1 ∧ z.f1 ≤ 9223372036854775807) :
    ∃ e, Ev (fun k => spec_l11Agg.f k (y :: rest) t) (t, ((y :: rest).length : Int), ((first y.f1).over (rest.map (·.f1))).s, ((first y.f1).over (rest.map (·.f1))).m, ((first y.f1).over (rest.map (·.f1))).M, y.f1, e, ((first y.f1).over (rest.map (·.f1))).r) ∧ e = ((first y.f1).over (rest.map (·.f1))).l := by
  have hlen : (y :: rest).length = rest.length + 1 := by simp
  have hy := hv y List.mem_cons_self
  have e4 : wrap64 (((y :: rest).length : Int) - 1) = (rest.length : Int) := by rw [hlen, w64 (by omega) (by omega)]; omega
  refine ⟨(rd_T81 (y :: rest) (rest.length : Int)).f1, ?_, ?_⟩
  · have h := specAgg_loop t ((y :: rest).length : Int) y.f1 (rd_T81 (y :: rest) (rest.length : Int)).f1 rest [] y (first y.f1) rfl hl (fun z hz => hv z (List.mem_cons_of_mem _ hz))
    have r0 : rd_T81 (y :: rest) 0 = y := rfl
    have h2 : ∀ R, Ev (fun k => spec_l11Agg.l0 k ([] ++ [y] ++ rest) ([] ++ [y] ++ rest) (([] ++ [y] ++ rest).length : Int) (([] ++ [y] : List S81).length : Int) t ((y :: rest).length : Int) (first y.f1).s (first y.f1).m (first y.f1).M y.f1 (rd_T81 (y :: rest) (rest.length : Int)).f1 (first y.f1).r) R →
        Ev (fun k => spec_l11Agg.l0 k (y :: rest) (y :: rest) ((y :: rest).length : Int) 0 t ((y :: rest).length : Int) 0 y.f1 y.f1 y.f1 (rd_T81 (y :: rest) (rest.length : Int)).f1 0) R := by
      intro R h
      refine ev_succ ?_
      refine ev_succ ?_
      refine Ev.congr (fun k => ?_) h
      simp only [spec_l11Agg.l0, spec_l11Agg.j1, r0]
      simp only [if_pos (show (0 : Int) < ((y :: rest).length : Int) by rw [hlen]; omega), Int.le_refl, if_true, Int.lt_irrefl, if_false, gt_iff_lt]
      rw [show wrap64 (0 + y.f1) = y.f1 from by rw [Int.zero_add]; exact w64 hy.1 hy.2, show wrap64 ((0 : Int) + 1) = (([] ++ [y] : List S81).length : Int) from by simp [wrap64]]
      rfl
    refine Ev.congr (fun k => ?_) (h2 _ h)
    unfold spec_l11Agg.f
    rw [if_pos (by rw [hlen]; omega), e4, if_pos (by omega), if_pos (by rw [hlen]; omega), r0]
  · have : ∀ (rest : List S81) (y : S81) (x : Run), x.l = y.f1 → (rd_T81 (y :: rest) (rest.length : Int)).f1 = (x.over (rest.map (·.f1))).l := by
      intro rest
      induction rest with
      | nil => intro y x h; exact h.symm
      | cons z rest ih =>
        intro y x h
        have h1 := ih z (x.step z.f1) rfl
        have h2 : rd_T81 (y :: z :: rest) ((z :: rest).length : Int) = rd_T81 (z :: rest) (rest.length : Int) := by
          unfold rd_T81
          rw [Int.toNat_natCast, Int.toNat_natCast]
          rfl
        rw [h2, h1]; rfl
    exact this rest y _ rfl
def aggM (t v : Int) : S78 := ⟨t, 1, v, v, v, v, v, 0⟩
theorem merge_f (t c s m M f l r : Int) (a : S81) (hr : -9223372036854775808 ≤ r ∧ r ≤ 9223372036854775807) (x : Run) (hx : x = ⟨s, m, M, r, l⟩) : impl_MergeAgg.f t c s m M f l r (aggM a.f0 a.f1).f0 (aggM a.f0 a.f1).f1 (aggM a.f0 a.f1).f2 (aggM a.f0 a.f1).f3 (aggM a.f0 a.f1).f4 (aggM a.f0 a.f1).f5 (aggM a.f0 a.f1).f6 (aggM a.f0 a.f1).f7 =
    some (a.f0, wrap64 (c + 1), (x.step a.f1).s, (x.step a.f1).m, (x.step a.f1).M, f, (x.step a.f1).l, (x.step a.f1).r) := by
  subst hx
  unfold impl_MergeAgg.f
  simp only [aggM, implRise_f, Option.bind_some, Run.step, mn, mx]
  rw [show wrap64 (r + 0) = r from by rw [Int.add_zero]; exact w64 hr.1 hr.2]
  rfl
/-! ### windows -/
def win (t res : Int) : Int := (t + res - 1) / res * res
theorem win_f (t res : Int) (h0 : 0 ≤ t) (h1 : t ≤ 1000000000000) (r0 : 1 ≤ res) (r1 : res ≤ 1000000) : spec_l11End.f t res = some (win t res) ∧ impl_windowOf.f t res = some (win t res) := by
  have hd : Int.tdiv (t + res - 1) res = (t + res - 1) / res := Int.tdiv_eq_ediv_of_nonneg (by omega)
  have hq0 : 0 ≤ (t + res - 1) / res := Int.ediv_nonneg (by omega) (by omega)
  have hq1 : (t + res - 1) / res * res ≤ t + res - 1 := Int.ediv_mul_le _ (by omega)
  have hq2 : (t + res - 1) / res ≤ t + res - 1 := Int.ediv_le_self _ (by omega)
  have hq3 : 0 ≤ (t + res - 1) / res * res := Int.mul_nonneg hq0 (by omega)
  have e : wrap64 ((wrap64 (Int.tdiv (wrap64 ((wrap64 (t + res)) - 1)) res)) * res) = win t res := by
    rw [w64 (x := t + res) (by omega) (by omega), w64 (x := t + res - 1) (by omega) (by omega), hd, w64 (x := (t + res - 1) / res) (by omega) (by omega)]
    exact w64 (by omega) (by omega)
  unfold spec_l11End.f impl_windowOf.f
  rw [if_neg (by omega), e]
  exact ⟨rfl, rfl⟩
theorem win_ge (t res : Int) (r0 : 1 ≤ res) : t ≤ win t res := by
  unfold win
  have h := Int.mul_ediv_add_emod (t + res - 1) res
  have h2 := Int.emod_lt_of_pos (t + res - 1) (show 0 < res by omega)
  rw [Int.mul_comm] at h
  omega
theorem win_same (y z res : Int) (r0 : 1 ≤ res) (h : y ≤ z) : z ≤ win y res ↔ win z res = win y res := by
  constructor
  · intro hz
    have h1 : (y + res - 1) / res ≤ (z + res - 1) / res := Int.ediv_le_ediv (by omega) (by omega)
    have h2 : (z + res - 1) / res ≤ (y + res - 1) / res := by
      have h3 : z + res - 1 ≤ (y + res - 1) / res * res + (res - 1) := by unfold win at hz; omega
      have h4 := Int.ediv_le_ediv (show 0 < res by omega) h3
      have h5 : ((y + res - 1) / res * res + (res - 1)) / res = (y + res - 1) / res := by
        rw [Int.add_comm, Int.add_mul_ediv_right _ _ (by omega), Int.ediv_eq_zero_of_lt (by omega) (by omega), Int.zero_add]
      omega
    unfold win
    rw [show (z + res - 1) / res = (y + res - 1) / res by omega]
  · intro he
    have := win_ge z res r0
    omega
def aggR (e c f : Int) (x : Run) : S78 := ⟨e, c, x.s, x.m, x.M, f, x.l, x.r⟩
/-- The reference looks for a window's end. -/
theorem scan (res : Int) (O : List S78) (e : Int) (tail : List S81) (ht : ∀ h t', tail = h :: t' → e < h.f0) (R : List S78) (rest : List S81) : ∀ (pre : List S81), (pre ++ rest ++ tail).length ≤ 1048576 → (∀ z ∈ rest, z.f0 ≤ e) →
    Ev (fun k => (spec_l11Agg.f k (pre ++ rest) e).bind fun b => (if O.length < 2199023255552 then (spec_l11Down.l0 k res (O ++ [(⟨b.1, b.2.1, b.2.2.1, b.2.2.2.1, b.2.2.2.2.1, b.2.2.2.2.2.1, b.2.2.2.2.2.2.1, b.2.2.2.2.2.2.2⟩ : S78)]) tail) else none)) R →
    Ev (fun k => spec_l11Down.l1 k res O (pre ++ rest ++ tail) e (pre.length : Int)) R := by
  induction rest with
  | nil =>
    intro pre hl _ h
    simp only [List.append_nil] at hl h ⊢
    have hlen : (pre ++ tail).length = pre.length + tail.length := List.length_append
    have e1 : (pre ++ tail).take ((pre.length : Int)).toNat = pre := by rw [Int.toNat_natCast]; exact List.take_left
    have e2 : (pre ++ tail).drop ((pre.length : Int)).toNat = tail := by rw [Int.toNat_natCast]; exact List.drop_left
    refine ev_succ ?_
    cases tail with
    | nil =>
      refine Ev.congr (fun k => ?_) h
      simp only [spec_l11Down.l1]
      rw [if_neg (by simp), if_pos (by omega : (0 : Int) ≤ pre.length), if_pos (by simp), e1, e2]
    | cons q tail =>
      have hq := ht q tail rfl
      have e3 : rd_T81 (pre ++ q :: tail) (pre.length : Int) = q := by unfold rd_T81; rw [Int.toNat_natCast]; exact getD_mid _ _ _ _
      refine Ev.congr (fun k => ?_) h
      simp only [spec_l11Down.l1]
      rw [if_pos (len_mid _ _ _), if_pos (by omega : (0 : Int) ≤ pre.length), e3, if_neg (by omega), if_pos (Int.le_of_lt (len_mid _ _ _)), e1, e2]
  | cons z rest ih =>
    intro pre hl hz h
    have hle := hz z List.mem_cons_self
    have h2 := ih (pre ++ [z]) (by simp at hl ⊢; omega) (fun q hq => hz q (List.mem_cons_of_mem _ hq)) (by rw [← mid_assoc]; exact h)
    have e0 : pre ++ [z] ++ rest ++ tail = pre ++ z :: rest ++ tail := by simp
    rw [e0] at h2
    have ea : pre ++ z :: rest ++ tail = pre ++ z :: (rest ++ tail) := by simp
    have e3 : rd_T81 (pre ++ z :: rest ++ tail) (pre.length : Int) = z := by rw [ea]; unfold rd_T81; rw [Int.toNat_natCast]; exact getD_mid _ _ _ _
    have e1 : (pre.length : Int) < ((pre ++ z :: rest ++ tail).length : Int) := by rw [ea]; exact len_mid _ _ _
    have e5 : wrap64 ((pre.length : Int) + 1) = ((pre ++ [z]).length : Int) := by rw [len_succ]; have : pre.length ≤ 1048576 := by { simp at hl; omega }; exact w64 (by omega) (by omega)
    refine ev_succ (Ev.congr (fun k => ?_) h2)
    simp only [spec_l11Down.l1]
    rw [if_pos e1, if_pos (by omega : (0 : Int) ≤ pre.length), e3, if_pos hle, e5]
theorem last_rd (O : List S78) (A : S78) (h : O.length ≤ 1048576) : wrap64 (((O ++ [A]).length : Int) - 1) = (O.length : Int) ∧ rd_T78 (O ++ [A]) (O.length : Int) = A ∧ ∀ B, (O ++ [A]).set ((O.length : Int)).toNat B = O ++ [B] := by
  refine ⟨by rw [len_succ, w64 (by omega) (by omega)]; omega, ?_, fun B => ?_⟩
  · unfold rd_T78; rw [Int.toNat_natCast]; exact getD_mid O [] A _
  · rw [Int.toNat_natCast]
    simp
/-- The program puts the samples of one window together. -/
theorem gather (res e f : Int) (O : List S78) (r0 : 1 ≤ res) (r1 : res ≤ 1000000) (tail : List S81) (R : List S78) (g : List S81) : ∀ (pre : List S81) (c : Int) (x : Run), (-9223372036854775808 ≤ x.r ∧ x.r ≤ 9223372036854775807) → 0 ≤ c → c + g.length ≤ 1048576 → (pre ++ g ++ tail).length ≤ 1048576 → O.length ≤ 1048576 →
    (∀ z ∈ g, 0 ≤ z.f0 ∧ z.f0 ≤ 1000000000000 ∧ win z.f0 res = e) →
    Ev (fun k => impl_DownSamples.l0 k res (O ++ [aggR e (c + g.length) f (x.over (g.map (·.f1)))]) (pre ++ g ++ tail) ((pre ++ g ++ tail).length : Int) ((pre ++ g).length : Int)) R →
    Ev (fun k => impl_DownSamples.l0 k res (O ++ [aggR e c f x]) (pre ++ g ++ tail) ((pre ++ g ++ tail).length : Int) (pre.length : Int)) R := by
  induction g with
  | nil =>
    intro pre c x _ _ _ _ _ _ h
    have e1 : c + (([] : List S81).length : Int) = c := by simp
    rw [e1, List.map_nil, List.append_nil] at h
    rw [List.append_nil]
    exact h
  | cons z g ih =>
    intro pre c x hr h0 hc hl hO hz h
    have hcl : ((z :: g).length : Int) = g.length + 1 := by simp
    rw [hcl] at hc h
    have hzz := hz z List.mem_cons_self
    have e0 : pre ++ [z] ++ g ++ tail = pre ++ z :: g ++ tail := by simp
    have e0' : pre ++ [z] ++ g = pre ++ z :: g := by simp
    have h2 := ih (pre ++ [z]) (c + 1) (x.step z.f1) (w64_range _) (by omega) (by omega) (by rw [e0]; exact hl) hO (fun q hq => hz q (List.mem_cons_of_mem _ hq)) (by
      rw [e0, e0', show c + 1 + (g.length : Int) = c + (g.length + 1) by omega]
      exact h)
    rw [e0] at h2
    have ea : pre ++ z :: g ++ tail = pre ++ z :: (g ++ tail) := by simp
    have e3 : rd_T81 (pre ++ z :: g ++ tail) (pre.length : Int) = z := by rw [ea]; unfold rd_T81; rw [Int.toNat_natCast]; exact getD_mid _ _ _ _
    have e1 : (pre.length : Int) < ((pre ++ z :: g ++ tail).length : Int) := by rw [ea]; exact len_mid _ _ _
    have e5 : wrap64 ((pre.length : Int) + 1) = ((pre ++ [z]).length : Int) := by rw [len_succ]; have : pre.length ≤ 1048576 := by { simp at hl; omega }; exact w64 (by omega) (by omega)
    obtain ⟨l1, l2, l3⟩ := last_rd O (aggR e c f x) hO
    refine ev_succ (Ev.congr (fun k => ?_) h2)
    simp only [impl_DownSamples.l0]
    rw [if_pos e1, if_pos (by omega : (0 : Int) ≤ pre.length), if_pos e1, e3, (win_f z.f0 res hzz.1 hzz.2.1 r0 r1).2, Option.bind_some, hzz.2.2]
    simp only [impl_aggOf.f, Option.bind_some]
    rw [if_pos (by rw [len_succ]; omega), l1, if_pos (by omega), if_pos (by rw [len_succ]; omega), l2]
    have hm : impl_MergeAgg.f (aggR e c f x).f0 (aggR e c f x).f1 (aggR e c f x).f2 (aggR e c f x).f3 (aggR e c f x).f4 (aggR e c f x).f5 (aggR e c f x).f6 (aggR e c f x).f7 e 1 z.f1 z.f1 z.f1 z.f1 z.f1 0 = some (e, c + 1, (x.step z.f1).s, (x.step z.f1).m, (x.step z.f1).M, f, (x.step z.f1).l, (x.step z.f1).r) := by
      have := merge_f e c x.s x.m x.M f x.l x.r ⟨e, z.f1⟩ hr x rfl
      rw [w64 (x := c + 1) (by omega) (by omega)] at this
      exact this
    rw [if_pos (show (aggR e c f x).f0 = e from rfl), hm]
    simp only [Option.bind_some]
    rw [l3, e5]
    rfl
/-- Samples that rise, in bounds. -/
structure Up (l : List S81) : Prop where
  lo : ∀ z ∈ l, 0 ≤ z.f0 ∧ z.f0 ≤ 1000000000000
  up : l.Pairwise fun a b => a.f0 < b.f0
  v : ∀ z ∈ l, -9223372036854775808 ≤ z.f1 ∧ z.f1 ≤ 9223372036854775807
theorem both_down (res : Int) (r0 : 1 ≤ res) (r1 : res ≤ 1000000) : ∀ (n : Nat) (l pre : List S81) (O : List S78), l.length = n → (pre ++ l).length ≤ 1048576 → O.length + l.length ≤ 1048576 → Up l → (∀ y l', l = y :: l' → ∀ P A, O = P ++ [A] → A.f0 ≠ win y.f0 res) →
    ∃ R : List S78, R.length ≤ O.length + l.length ∧ Ev (fun k => spec_l11Down.l0 k res O l) R ∧ Ev (fun k => impl_DownSamples.l0 k res O (pre ++ l) ((pre ++ l).length : Int) (pre.length : Int)) R := by
  intro n
  induction n using Nat.strongRecOn with
  | _ n ih =>
    intro l pre O hn hl hO hup hlast
    cases l with
    | nil =>
      refine ⟨O, by simp, ev_succ (ev_now fun k => ?_), ev_succ (ev_now fun k => ?_)⟩
      · simp [spec_l11Down.l0]
      · simp [impl_DownSamples.l0]
    | cons y rest =>
      have hy := hup.lo y List.mem_cons_self
      have hyv := hup.v y List.mem_cons_self
      obtain ⟨w1, w2⟩ := win_f y.f0 res hy.1 hy.2 r0 r1
      obtain ⟨e, he⟩ : ∃ e, e = win y.f0 res := ⟨_, rfl⟩
      rw [← he] at w1 w2
      obtain ⟨g, hg⟩ : ∃ g, g = rest.takeWhile fun z => decide (z.f0 ≤ e) := ⟨_, rfl⟩
      obtain ⟨tail, htl⟩ : ∃ t, t = rest.dropWhile fun z => decide (z.f0 ≤ e) := ⟨_, rfl⟩
      have hrest : rest = g ++ tail := by rw [hg, htl]; exact List.takeWhile_append_dropWhile.symm
      have hgz : ∀ z ∈ g, z.f0 ≤ e := by
        intro z hz
        rw [hg] at hz
        have h := List.all_takeWhile (l := rest) (p := fun z => decide (z.f0 ≤ e))
        have := List.all_eq_true.1 h z hz
        simpa using this
      have htz : ∀ h t', tail = h :: t' → e < h.f0 := by
        intro h t' ht'
        rw [htl] at ht'
        have := List.head?_dropWhile_not (fun z : S81 => decide (z.f0 ≤ e)) rest
        rw [ht'] at this
        simpa using this
      have hpw := List.pairwise_cons.1 hup.up
      rw [hrest] at hl hO hn hpw
      have hlen : (y :: (g ++ tail)).length = 1 + g.length + tail.length := by simp; omega
      rw [hlen] at hO hn
      have hll : (pre ++ y :: (g ++ tail)).length = pre.length + (1 + g.length + tail.length) := by rw [List.length_append, hlen]
      have mem : ∀ z ∈ g, 0 ≤ z.f0 ∧ z.f0 ≤ 1000000000000 ∧ win z.f0 res = e := by
        intro z hz
        have h1 := hup.lo z (by rw [hrest]; simp [hz])
        have h2 := hpw.1 z (by simp [hz])
        have h3 := (win_same y.f0 z.f0 res r0 (by omega)).1 (by rw [← he]; exact hgz z hz)
        exact ⟨h1.1, h1.2, by rw [h3, he]⟩
      obtain ⟨A, hA⟩ : ∃ A, A = aggR e (1 + g.length) y.f1 ((first y.f1).over (g.map (·.f1))) := ⟨_, rfl⟩
      have upt : Up tail := ⟨fun z hz => hup.lo z (by rw [hrest]; simp [hz]), (List.pairwise_append.1 hpw.2).2.1, fun z hz => hup.v z (by rw [hrest]; simp [hz])⟩
      obtain ⟨R, hR, hs, hi⟩ := ih tail.length (by omega) tail (pre ++ [y] ++ g) (O ++ [A]) rfl (by simp at hl ⊢; omega) (by simp; omega) upt (by
        intro q t' ht' P B hPB hB
        have h1 := htz q t' ht'
        have h2 : B = A := by
          have := congrArg List.getLast? hPB
          simpa using this.symm
        subst h2
        have h3 := win_ge q.f0 res r0
        rw [hA] at hB
        have : e = win q.f0 res := hB
        omega)
      refine ⟨R, by simp at hR; rw [hrest, hlen]; omega, ?_, ?_⟩
      · -- the reference
        have hrd : rd_T81 (y :: rest) 0 = y := rfl
        have hpos : ((y :: rest).length : Int) > 0 := by simp only [List.length_cons]; omega
        obtain ⟨e', ha, hl'⟩ := specAgg_ev y g e (by simp only [List.length_cons]; omega) (fun z hz => by
          rcases List.mem_cons.1 hz with rfl | hz
          · exact hyv
          · exact hup.v z (by rw [hrest]; simp [hz]))
        subst hl'
        have hsc := scan res O e tail htz R g [y] (by simp; omega) hgz (by
          refine Ev.bind ha ?_
          simp only []
          have hcap : O.length < 2199023255552 := by omega
          simp only [if_pos hcap]
          refine Ev.congr (fun k => ?_) hs
          rw [hA]
          simp only [aggR]
          rw [show ((y :: g).length : Int) = 1 + (g.length : Int) by simp only [List.length_cons]; omega])
        have hstart : ([y] ++ g ++ tail : List S81) = y :: rest := by rw [hrest]; simp
        rw [hstart] at hsc
        -- the first one lies in its own window
        refine ev_succ ?_
        simp only [spec_l11Down.l0]
        simp only [if_pos hpos, hrd, w1, Option.bind_some]
        refine ev_succ (Ev.congr (fun k => ?_) hsc)
        simp only [spec_l11Down.l1]
        have hge := win_ge y.f0 res r0
        rw [if_pos (by omega), if_pos (Int.le_refl 0), hrd, if_pos (by omega), show wrap64 ((0 : Int) + 1) = (([y] : List S81).length : Int) from by simp [wrap64]]
      · -- the program
        have hgat := gather res e y.f1 O r0 r1 tail R g (pre ++ [y]) 1 (first y.f1) (by simp [first]) (by decide) (by omega) (by simp at hl ⊢; omega) (by omega) mem (by
          rw [← hA]; exact hi)
        have e0 : pre ++ [y] ++ g ++ tail = pre ++ y :: rest := by rw [hrest]; simp
        rw [e0] at hgat
        have e3 : rd_T81 (pre ++ y :: rest) (pre.length : Int) = y := by unfold rd_T81; rw [Int.toNat_natCast]; exact getD_mid _ _ _ _
        have e1 : (pre.length : Int) < ((pre ++ y :: rest).length : Int) := len_mid _ _ _
        have e5 : wrap64 ((pre.length : Int) + 1) = ((pre ++ [y]).length : Int) := by rw [len_succ]; exact w64 (by omega) (by omega)
        have hcap : O.length < 2199023255552 := by omega
        have hA1 : aggR e 1 y.f1 (first y.f1) = (⟨e, 1, y.f1, y.f1, y.f1, y.f1, y.f1, 0⟩ : S78) := rfl
        rw [hA1] at hgat
        refine ev_succ (Ev.congr (fun k => ?_) hgat)
        simp only [impl_DownSamples.l0]
        rw [if_pos e1, if_pos (by omega : (0 : Int) ≤ pre.length), if_pos e1, e3, w2, Option.bind_some]
        simp only [impl_aggOf.f, Option.bind_some]
        rcases List.eq_nil_or_concat O with rfl | ⟨P, B, rfl⟩
        · rw [if_neg (by simp), if_pos hcap, e5]
        · have hne := hlast y rest rfl P B (by simp)
          have hP : P.length ≤ 1048576 := by simp at hO; omega
          have hc2 : (P.concat B) = P ++ [B] := by simp
          rw [hc2] at hcap ⊢
          obtain ⟨l1, l2, _⟩ := last_rd P B hP
          rw [if_pos (by rw [len_succ]; omega), l1, if_pos (by omega), if_pos (by rw [len_succ]; omega), l2, if_neg (by rw [he]; exact hne), if_pos hcap, e5]

theorem res_f (r : Int) : spec_l11Res.f r = some (decide (1 ≤ r ∧ r ≤ 1000000)) ∧ impl_goodRes.f r = some (decide (1 ≤ r ∧ r ≤ 1000000)) := by
  unfold spec_l11Res.f impl_goodRes.f
  by_cases h : r ≥ 1
  · rw [if_pos h]
    refine ⟨?_, ?_⟩ <;> (congr 1; rw [decide_eq_decide]; omega)
  · rw [if_neg h]
    refine ⟨?_, ?_⟩ <;> (congr 1; symm; rw [decide_eq_false_iff_not]; omega)
theorem up_of (l : List S81) (g : Good l) (hv : ∀ z ∈ l, -9223372036854775808 ≤ z.f1 ∧ z.f1 ≤ 9223372036854775807) : Up (real l) := by
  have hp : l.Pairwise fun a b => a.f0 < b.f0 := by
    rw [List.pairwise_iff_getElem]
    intro i j hi hj hij
    exact g.up i j hi hj hij
  refine ⟨fun z hz => ?_, hp.filter _, fun z hz => hv z (List.mem_filter.1 hz).1⟩
  obtain ⟨i, hi, rfl⟩ := List.getElem_of_mem (List.mem_filter.1 hz).1
  exact g.lo i hi
theorem both (l : List S81) (res : Int) (hl : l.length ≤ 1048576) (hv : ∀ z ∈ l, -9223372036854775808 ≤ z.f1 ∧ z.f1 ≤ 9223372036854775807) : ∃ R : List S78, R.length ≤ 1048576 ∧ Ev (fun k => spec_DownSamples.f k l res) R ∧ Ev (fun k => impl_DownSamples.f k l res) R := by
  have sg := specGood_ev l (by omega)
  have ig := implGood_ev l (by omega)
  obtain ⟨rs, ri⟩ := res_f res
  have i0 : Ev (fun k => impl_DownSamples.j0 k l res true) [] := ev_succ (ev_now fun k => by simp [impl_DownSamples.j0])
  unfold spec_DownSamples.f impl_DownSamples.f
  by_cases g : goodB l = true
  · by_cases hr : 1 ≤ res ∧ res ≤ 1000000
    · have lr := real_le l
      obtain ⟨R, h1, h2, h3⟩ := both_down res hr.1 hr.2 _ (real l) [] [] rfl (by simp; omega) (by simp; omega) (up_of l (good_of g) hv) (by
        intro y l' _ P A hA
        simp at hA)
      refine ⟨R, by simp at h1; omega, ?_, ?_⟩
      · refine Ev.bind sg ?_
        simp only [if_pos g, rs, Option.bind_some, hr, and_self, decide_true, if_true]
        have h4 : Ev (fun k => spec_l11Down.f k l res) R := Ev.bind (specReal_ev l hl) h2
        exact Ev.bind h4 (Ev.now _)
      · refine Ev.bind ig ?_
        simp only [if_pos g, ri, Option.bind_some, hr, and_self, decide_true, Bool.not_true]
        refine ev_succ ?_
        simp only [impl_DownSamples.j0, Bool.false_eq_true, if_false]
        exact Ev.bind (implLive_ev l hl) h3
    · refine ⟨[], by simp, ?_, ?_⟩
      · refine Ev.bind sg ?_
        simp only [if_pos g, rs, Option.bind_some, hr, decide_false, Bool.false_eq_true, if_false]
        exact Ev.now _
      · refine Ev.bind ig ?_
        simp only [if_pos g, ri, Option.bind_some, hr, decide_false, Bool.not_false]
        exact i0
  · refine ⟨[], by simp, ?_, ?_⟩
    · refine Ev.bind sg ?_
      simp only [if_neg g]
      exact Ev.now _
    · refine Ev.bind ig ?_
      simp only [if_neg g]
      exact i0

theorem FnExactDownSamples : Law.Pure := by
  intro l res ⟨hl, hw⟩ _
  refine Ev.rounds ?_
  unfold laws_FnExactDownSamples.f
  rw [szSampleS_f l 1048576 hl (by decide) (by decide)]
  by_cases h1 : (l.length : Int) ≤ 1048576
  · rw [if_pos h1]
    simp only [Option.bind_some, if_neg (show ¬ (1048576 : Int) - l.length < 0 by omega)]
    have ta := toSampleS_ev l (by omega)
    have la : (l.map toSampleM).length = l.length := List.length_map _
    obtain ⟨R, r1, r2, r3⟩ := both (l.map toSampleM) res (by omega) (fun z hz => by
      obtain ⟨q, hq, rfl⟩ := List.mem_map.1 hz
      exact wf_i64 (hw q hq).2)
    have er := eqAggS_ev R (by omega)
    refine Ev.bind ta (Ev.bind r2 (Ev.bind ta (Ev.bind r3 (Ev.bind er ?_))))
    simp only [if_true]
    refine Ev.bind ta (Ev.bind (eqSampleS_ev _ (by omega)) ?_)
    simp only [if_true]
    refine Ev.bind (markSampleS_ev (l.map toSampleM) 1 (by decide) (by omega)) ?_
    simp only []
    have nneg : ¬ ((1 : Int) + 2 * ((l.map toSampleM).length : Int) < 0) := by omega
    simp only [if_neg nneg]
    refine Ev.bind er ?_
    simp only [Bool.not_true]
    refine ev_succ ?_
    simp only [laws_FnExactDownSamples.j0, Bool.false_eq_true, if_false]
    have hm := markAggS_ev R 1 (by decide) (by omega)
    have hh := heldAggS_ev R 1 (by decide) (by omega)
    have nneg2 : ¬ ((1 : Int) + 8 * (R.length : Int) < 0) := by omega
    refine Ev.bind hm (Ev.bind hh ?_)
    simp only [if_neg nneg2, if_true]
    refine Ev.bind ta (Ev.bind r3 (Ev.bind er ?_))
    simp only [if_true]
    refine Ev.bind hh ?_
    simp only [if_neg nneg2, if_true]
    exact Ev.now _
  · rw [if_neg h1]
    exact ev_now fun k => by simp

end Go.Proofs.Ytogjmchhafiafab.Pure
