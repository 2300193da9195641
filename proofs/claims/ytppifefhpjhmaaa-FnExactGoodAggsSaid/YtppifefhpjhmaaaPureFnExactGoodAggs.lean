/- The given program's GoodAggs and the reference's answer alike, for all arguments. No condition. -/
import Derived.Test.YtppifefhpjhmaaaPreFnExactGoodAggs
import Derived.Test.YtppifefhpjhmaaaKit
namespace Go.Proofs.Ytppifefhpjhmaaa.Pure
open Go.RowKit Go.Proofs.Ytppifefhpjhmaaa.PFnExactGoodAggs Go.Proofs.YtppifefhpjhmaaaW.PrintWords Go.Proofs.YtppifefhpjhmaaaW.PrintLast Go.Proofs.YtppifefhpjhmaaaW.PrintMore Go.Proofs.Ytppifefhpjhmaaa.Kit Go.Proofs.Ytppifefhpjhmaaa.PreFnExactGoodAggs
set_option linter.unusedVariables false
set_option linter.unusedSimpArgs false

def toAggM (x : S78) : S24 := ⟨x.f0, x.f1, x.f2, x.f3, x.f4, x.f5, x.f6, x.f7⟩
theorem toAgg_f (x : S78) : laws_toAgg.f x.f0 x.f1 x.f2 x.f3 x.f4 x.f5 x.f6 x.f7 = some (x.f0, x.f1, x.f2, x.f3, x.f4, x.f5, x.f6, x.f7) := rfl
theorem szAggS_f (l : List S78) (m : Int) (hl : l.length ≤ 9223372036854775807) (h0 : 0 ≤ m) (h1 : m ≤ 9223372036854775807) : laws_szAggS.f l m = some (if (l.length : Int) ≤ m then m - l.length else -1) := by
  unfold laws_szAggS.f
  rw [w64 (by omega) (by omega)]
  by_cases h : (l.length : Int) ≤ m
  · rw [if_neg (by omega), if_pos h]
  · rw [if_pos (by omega), if_neg h]
theorem toAggS_loop (rest : List S78) : ∀ (pre : List S78) (zs : List S24), zs.length = rest.length → (pre ++ rest).length ≤ 9223372036854775806 →
    Ev (fun k => laws_toAggS.l0 k (pre ++ rest) (pre.map toAggM ++ zs) (pre.length : Int)) ((pre ++ rest).map toAggM) := by
  induction rest with
  | nil =>
    intro pre zs hz _
    obtain rfl : zs = [] := List.eq_nil_of_length_eq_zero hz
    refine ev_succ (ev_now fun k => ?_)
    simp [laws_toAggS.l0]
  | cons x rest ih =>
    intro pre zs hz hl
    cases zs with
    | nil => simp at hz
    | cons z zs =>
      have h := ih (pre ++ [x]) zs (by simpa using hz) (by simpa using hl)
      have hlen : (pre ++ x :: rest).length = pre.length + 1 + rest.length := by simp; omega
      refine ev_succ ?_
      have e1 : ((pre.length : Nat) : Int) < ((pre ++ x :: rest).length : Int) := len_mid _ _ _
      have e2 : ((pre.length : Nat) : Int) < ((pre.map toAggM ++ z :: zs).length : Int) := by have := len_mid (pre.map toAggM) zs z; simpa using this
      have e3 : rd_T78 (pre ++ x :: rest) (pre.length : Int) = x := by unfold rd_T78; rw [Int.toNat_natCast]; exact getD_mid _ _ _ _
      have e4 : (pre.map toAggM ++ z :: zs).set (pre.length : Int).toNat (toAggM x) = (pre ++ [x]).map toAggM ++ zs := by
        rw [Int.toNat_natCast]
        have := set_mid (pre.map toAggM) zs z (toAggM x)
        rw [List.length_map] at this
        rw [this, List.map_append]; rfl
      have e5 : wrap64 ((pre.length : Int) + 1) = ((pre ++ [x]).length : Int) := by rw [len_succ]; exact w64 (by omega) (by omega)
      rw [mid_assoc]
      refine Ev.congr (fun k => ?_) h
      simp only [laws_toAggS.l0]
      rw [mid_assoc] at e1 e3
      rw [if_pos e1, if_pos (by omega : (0 : Int) ≤ pre.length), e3, toAgg_f, Option.bind_some, if_pos e2, e5]
      exact congrArg (fun l => laws_toAggS.l0 k _ l _) e4
theorem toAggS_ev (l : List S78) (hl : l.length ≤ 1048576) : Ev (fun k => laws_toAggS.f k l) (l.map toAggM) := by
  have h := toAggS_loop l [] (List.replicate l.length z24) (by simp) (by simp; omega)
  refine Ev.congr (fun k => ?_) h
  unfold laws_toAggS.f
  rw [if_pos (by omega), if_pos (by simp; omega)]
  simp
theorem eqAgg_self (x : S24) : laws_eqAgg.f x.f0 x.f1 x.f2 x.f3 x.f4 x.f5 x.f6 x.f7 x.f0 x.f1 x.f2 x.f3 x.f4 x.f5 x.f6 x.f7 = some true := by simp [laws_eqAgg.f]
theorem eqAggS_loop (rest : List S24) : ∀ (pre : List S24), (pre ++ rest).length ≤ 9223372036854775806 → Ev (fun k => laws_eqAggS.l0 k (pre ++ rest) (pre ++ rest) (pre.length : Int)) true := by
  induction rest with
  | nil =>
    intro pre _
    refine ev_succ (ev_now fun k => ?_)
    simp [laws_eqAggS.l0]
  | cons x rest ih =>
    intro pre hl
    have h := ih (pre ++ [x]) (by simpa using hl)
    have hlen : (pre ++ x :: rest).length = pre.length + 1 + rest.length := by simp; omega
    refine ev_succ ?_
    have e1 : ((pre.length : Nat) : Int) < ((pre ++ x :: rest).length : Int) := len_mid _ _ _
    have e3 : rd_T24 (pre ++ x :: rest) (pre.length : Int) = x := by unfold rd_T24; rw [Int.toNat_natCast]; exact getD_mid _ _ _ _
    have e5 : wrap64 ((pre.length : Int) + 1) = ((pre ++ [x]).length : Int) := by rw [len_succ]; exact w64 (by omega) (by omega)
    rw [mid_assoc]
    refine Ev.congr (fun k => ?_) h
    simp only [laws_eqAggS.l0]
    rw [mid_assoc] at e1 e3
    rw [if_pos e1, if_pos (by omega : (0 : Int) ≤ pre.length), if_pos e1, e3, eqAgg_self, Option.bind_some, if_pos rfl, e5]
theorem eqAggS_ev (l : List S24) (hl : l.length ≤ 9223372036854775806) : Ev (fun k => laws_eqAggS.f k l l) true := by
  have h := eqAggS_loop l [] (by simpa using hl)
  refine Ev.congr (fun k => ?_) h
  unfold laws_eqAggS.f
  rw [if_pos rfl]
  simp
/-- The list, marked from c on. -/

theorem sj2_true (l : List S24) (r n i a b c d e f g h : Int) : Ev (fun k => spec_GoodAggs.j2 k l r l n i true a b c d e f g h) false := ev_succ (ev_now fun k => by simp [spec_GoodAggs.j2])
theorem sj3_true (l : List S24) (r n i : Int) : Ev (fun k => spec_GoodAggs.j3 k l r l n i true) false := ev_succ (ev_now fun k => by simp [spec_GoodAggs.j3])
theorem ij2_true (l : List S24) (r n i : Int) : Ev (fun k => impl_GoodAggs.j2 k l r l n i true) false := ev_succ (ev_now fun k => by simp [impl_GoodAggs.j2])
/-- Both loops answer alike. -/
theorem good_loop (l : List S24) (r : Int) (hr : r ≠ 0) (hn : l.length ≤ 9223372036854775000) : ∀ i, i ≤ l.length → ∃ b, Ev (fun k => spec_GoodAggs.l0 k l r l (l.length : Int) (i : Int)) b ∧ Ev (fun k => impl_GoodAggs.l0 k l r l (l.length : Int) (i : Int)) b := by
  refine down ⟨true, ev_succ (ev_now fun k => by simp [spec_GoodAggs.l0]), ev_succ (ev_now fun k => by simp [impl_GoodAggs.l0])⟩ ?_
  rintro i hi ⟨b, hs, hm⟩
  have hI : (i : Int) < (l.length : Int) := by omega
  have h0 : 0 ≤ (i : Int) := by omega
  have e1 : wrap64 ((i : Int) + 1) = ((i + 1 : Nat) : Int) := w64_succ hi (by omega)
  have p0 : (i : Int) > 0 → 0 ≤ wrap64 ((i : Int) - 1) := fun h => by rw [w64 (by omega) (by omega)]; omega
  have p1 : (i : Int) > 0 → wrap64 ((i : Int) - 1) < (l.length : Int) := fun h => by rw [w64 (by omega) (by omega)]; omega
  have im : Ev (fun k => impl_GoodAggs.j2 k l r l (l.length : Int) (i : Int) false) b := by
    refine ev_succ ?_
    simp only [impl_GoodAggs.j2, Bool.false_eq_true, if_false, e1]
    exact hm
  have sm : Ev (fun k => spec_GoodAggs.j3 k l r l (l.length : Int) (i : Int) false) b := by
    refine ev_succ ?_
    simp only [spec_GoodAggs.j3, Bool.false_eq_true, if_false, e1]
    exact hs

  by_cases c1 : Int.tmod (rd_T24 l (i : Int)).f0 r = 0
  · skip
    by_cases c2 : (rd_T24 l (i : Int)).f0 < 0
    · skip
      refine ⟨false, ev_succ ?_, ev_succ ?_⟩
      · simp only [spec_GoodAggs.l0, if_pos hI, if_pos h0, if_neg hr, if_pos c1, if_pos c2]
        exact sj2_true _ _ _ _ _ _ _ _ _ _ _ _
      · simp only [impl_GoodAggs.l0, if_pos hI, if_pos h0, if_neg hr, if_pos c1, if_pos c2]
        exact ij2_true _ _ _ _
    · skip
      by_cases c3 : (rd_T24 l (i : Int)).f0 > 1000001000000
      · skip
        refine ⟨false, ev_succ ?_, ev_succ ?_⟩
        · simp only [spec_GoodAggs.l0, if_pos hI, if_pos h0, if_neg hr, if_pos c1, if_neg c2, if_pos c3]
          exact sj2_true _ _ _ _ _ _ _ _ _ _ _ _
        · simp only [impl_GoodAggs.l0, if_pos hI, if_pos h0, if_neg hr, if_pos c1, if_neg c2, if_pos c3]
          exact ij2_true _ _ _ _
      · skip
        by_cases c4 : (i : Int) > 0
        · skip
          by_cases c5 : (rd_T24 l (wrap64 ((i : Int) - 1))).f0 ≥ (rd_T24 l (i : Int)).f0
          · skip
            refine ⟨false, ev_succ ?_, ev_succ ?_⟩
            · simp only [spec_GoodAggs.l0, if_pos hI, if_pos h0, if_neg hr, if_pos c1, if_neg c2, if_neg c3, if_pos c4, if_pos c5, if_pos (p0 c4), if_pos (p1 c4)]
              exact sj2_true _ _ _ _ _ _ _ _ _ _ _ _
            · simp only [impl_GoodAggs.l0, if_pos hI, if_pos h0, if_neg hr, if_pos c1, if_neg c2, if_neg c3, if_pos c4, if_pos c5, if_pos (p0 c4), if_pos (p1 c4)]
              exact ij2_true _ _ _ _
          · skip
            by_cases c6 : (rd_T24 l (i : Int)).f1 < 1
            · skip
              refine ⟨false, ev_succ ?_, ev_succ ?_⟩
              · simp only [spec_GoodAggs.l0, if_pos hI, if_pos h0, if_neg hr, if_pos c1, if_neg c2, if_neg c3, if_pos c4, if_neg c5, if_pos c6, if_pos (p0 c4), if_pos (p1 c4)]
                exact sj2_true _ _ _ _ _ _ _ _ _ _ _ _
              · simp only [impl_GoodAggs.l0, if_pos hI, if_pos h0, if_neg hr, if_pos c1, if_neg c2, if_neg c3, if_pos c4, if_neg c5, if_pos c6, if_pos (p0 c4), if_pos (p1 c4)]
                exact ij2_true _ _ _ _
            · skip
              by_cases c7 : (rd_T24 l (i : Int)).f1 > 2000
              · skip
                refine ⟨false, ev_succ ?_, ev_succ ?_⟩
                · simp only [spec_GoodAggs.l0, if_pos hI, if_pos h0, if_neg hr, if_pos c1, if_neg c2, if_neg c3, if_pos c4, if_neg c5, if_neg c6, if_pos (p0 c4), if_pos (p1 c4), show decide ((rd_T24 l (i : Int)).f1 > 2000) = true from decide_eq_true c7]
                  exact sj2_true _ _ _ _ _ _ _ _ _ _ _ _
                · simp only [impl_GoodAggs.l0, if_pos hI, if_pos h0, if_neg hr, if_pos c1, if_neg c2, if_neg c3, if_pos c4, if_neg c5, if_neg c6, if_pos (p0 c4), if_pos (p1 c4), if_pos c7]
                  exact ij2_true _ _ _ _
              · skip
                by_cases c8 : (rd_T24 l (i : Int)).f5 < (rd_T24 l (i : Int)).f3
                · skip
                  refine ⟨false, ev_succ ?_, ev_succ ?_⟩
                  · simp only [spec_GoodAggs.l0, if_pos hI, if_pos h0, if_neg hr, if_pos c1, if_neg c2, if_neg c3, if_pos c4, if_neg c5, if_neg c6, if_pos (p0 c4), if_pos (p1 c4), show decide ((rd_T24 l (i : Int)).f1 > 2000) = false from decide_eq_false c7]
                    refine ev_succ ?_
                    simp only [spec_GoodAggs.j2, Bool.false_eq_true, if_false, if_pos c8]
                    exact sj3_true _ _ _ _
                  · simp only [impl_GoodAggs.l0, if_pos hI, if_pos h0, if_neg hr, if_pos c1, if_neg c2, if_neg c3, if_pos c4, if_neg c5, if_neg c6, if_pos c8, if_pos (p0 c4), if_pos (p1 c4), if_neg c7]
                    exact ij2_true _ _ _ _
                · skip
                  by_cases c9 : (rd_T24 l (i : Int)).f5 > (rd_T24 l (i : Int)).f4
                  · skip
                    refine ⟨false, ev_succ ?_, ev_succ ?_⟩
                    · simp only [spec_GoodAggs.l0, if_pos hI, if_pos h0, if_neg hr, if_pos c1, if_neg c2, if_neg c3, if_pos c4, if_neg c5, if_neg c6, if_pos (p0 c4), if_pos (p1 c4), show decide ((rd_T24 l (i : Int)).f1 > 2000) = false from decide_eq_false c7]
                      refine ev_succ ?_
                      simp only [spec_GoodAggs.j2, Bool.false_eq_true, if_false, if_neg c8, if_pos c9]
                      exact sj3_true _ _ _ _
                    · simp only [impl_GoodAggs.l0, if_pos hI, if_pos h0, if_neg hr, if_pos c1, if_neg c2, if_neg c3, if_pos c4, if_neg c5, if_neg c6, if_neg c8, if_pos c9, if_pos (p0 c4), if_pos (p1 c4), if_neg c7]
                      exact ij2_true _ _ _ _
                  · skip
                    by_cases ca : (rd_T24 l (i : Int)).f6 < (rd_T24 l (i : Int)).f3
                    · skip
                      refine ⟨false, ev_succ ?_, ev_succ ?_⟩
                      · simp only [spec_GoodAggs.l0, if_pos hI, if_pos h0, if_neg hr, if_pos c1, if_neg c2, if_neg c3, if_pos c4, if_neg c5, if_neg c6, if_pos (p0 c4), if_pos (p1 c4), show decide ((rd_T24 l (i : Int)).f1 > 2000) = false from decide_eq_false c7]
                        refine ev_succ ?_
                        simp only [spec_GoodAggs.j2, Bool.false_eq_true, if_false, if_neg c8, if_neg c9, if_pos ca]
                        exact sj3_true _ _ _ _
                      · simp only [impl_GoodAggs.l0, if_pos hI, if_pos h0, if_neg hr, if_pos c1, if_neg c2, if_neg c3, if_pos c4, if_neg c5, if_neg c6, if_neg c8, if_neg c9, if_pos ca, if_pos (p0 c4), if_pos (p1 c4), if_neg c7]
                        exact ij2_true _ _ _ _
                    · skip
                      by_cases cb : (rd_T24 l (i : Int)).f6 > (rd_T24 l (i : Int)).f4
                      · skip
                        refine ⟨false, ev_succ ?_, ev_succ ?_⟩
                        · simp only [spec_GoodAggs.l0, if_pos hI, if_pos h0, if_neg hr, if_pos c1, if_neg c2, if_neg c3, if_pos c4, if_neg c5, if_neg c6, if_pos (p0 c4), if_pos (p1 c4), show decide ((rd_T24 l (i : Int)).f1 > 2000) = false from decide_eq_false c7]
                          refine ev_succ ?_
                          simp only [spec_GoodAggs.j2, Bool.false_eq_true, if_false, if_neg c8, if_neg c9, if_neg ca, show decide ((rd_T24 l (i : Int)).f6 > (rd_T24 l (i : Int)).f4) = true from decide_eq_true cb]
                          exact sj3_true _ _ _ _
                        · simp only [impl_GoodAggs.l0, if_pos hI, if_pos h0, if_neg hr, if_pos c1, if_neg c2, if_neg c3, if_pos c4, if_neg c5, if_neg c6, if_neg c8, if_neg c9, if_neg ca, if_pos (p0 c4), if_pos (p1 c4), if_neg c7, show decide ((rd_T24 l (i : Int)).f6 > (rd_T24 l (i : Int)).f4) = true from decide_eq_true cb]
                          exact ij2_true _ _ _ _
                      · skip
                        refine ⟨b, ev_succ ?_, ev_succ ?_⟩
                        · simp only [spec_GoodAggs.l0, if_pos hI, if_pos h0, if_neg hr, if_pos c1, if_neg c2, if_neg c3, if_pos c4, if_neg c5, if_neg c6, if_pos (p0 c4), if_pos (p1 c4), show decide ((rd_T24 l (i : Int)).f1 > 2000) = false from decide_eq_false c7]
                          refine ev_succ ?_
                          simp only [spec_GoodAggs.j2, Bool.false_eq_true, if_false, if_neg c8, if_neg c9, if_neg ca, show decide ((rd_T24 l (i : Int)).f6 > (rd_T24 l (i : Int)).f4) = false from decide_eq_false cb]
                          exact sm
                        · simp only [impl_GoodAggs.l0, if_pos hI, if_pos h0, if_neg hr, if_pos c1, if_neg c2, if_neg c3, if_pos c4, if_neg c5, if_neg c6, if_neg c8, if_neg c9, if_neg ca, if_pos (p0 c4), if_pos (p1 c4), if_neg c7, show decide ((rd_T24 l (i : Int)).f6 > (rd_T24 l (i : Int)).f4) = false from decide_eq_false cb]
                          exact im
        · skip
          by_cases c6 : (rd_T24 l (i : Int)).f1 < 1
          · skip
            refine ⟨false, ev_succ ?_, ev_succ ?_⟩
            · simp only [spec_GoodAggs.l0, if_pos hI, if_pos h0, if_neg hr, if_pos c1, if_neg c2, if_neg c3, if_neg c4, if_pos c6]
              exact sj2_true _ _ _ _ _ _ _ _ _ _ _ _
            · simp only [impl_GoodAggs.l0, if_pos hI, if_pos h0, if_neg hr, if_pos c1, if_neg c2, if_neg c3, if_neg c4, if_pos c6]
              exact ij2_true _ _ _ _
          · skip
            by_cases c7 : (rd_T24 l (i : Int)).f1 > 2000
            · skip
              refine ⟨false, ev_succ ?_, ev_succ ?_⟩
              · simp only [spec_GoodAggs.l0, if_pos hI, if_pos h0, if_neg hr, if_pos c1, if_neg c2, if_neg c3, if_neg c4, if_neg c6, show decide ((rd_T24 l (i : Int)).f1 > 2000) = true from decide_eq_true c7]
                exact sj2_true _ _ _ _ _ _ _ _ _ _ _ _
              · simp only [impl_GoodAggs.l0, if_pos hI, if_pos h0, if_neg hr, if_pos c1, if_neg c2, if_neg c3, if_neg c4, if_neg c6, if_pos c7]
                exact ij2_true _ _ _ _
            · skip
              by_cases c8 : (rd_T24 l (i : Int)).f5 < (rd_T24 l (i : Int)).f3
              · skip
                refine ⟨false, ev_succ ?_, ev_succ ?_⟩
                · simp only [spec_GoodAggs.l0, if_pos hI, if_pos h0, if_neg hr, if_pos c1, if_neg c2, if_neg c3, if_neg c4, if_neg c6, show decide ((rd_T24 l (i : Int)).f1 > 2000) = false from decide_eq_false c7]
                  refine ev_succ ?_
                  simp only [spec_GoodAggs.j2, Bool.false_eq_true, if_false, if_pos c8]
                  exact sj3_true _ _ _ _
                · simp only [impl_GoodAggs.l0, if_pos hI, if_pos h0, if_neg hr, if_pos c1, if_neg c2, if_neg c3, if_neg c4, if_neg c6, if_pos c8, if_neg c7]
                  exact ij2_true _ _ _ _
              · skip
                by_cases c9 : (rd_T24 l (i : Int)).f5 > (rd_T24 l (i : Int)).f4
                · skip
                  refine ⟨false, ev_succ ?_, ev_succ ?_⟩
                  · simp only [spec_GoodAggs.l0, if_pos hI, if_pos h0, if_neg hr, if_pos c1, if_neg c2, if_neg c3, if_neg c4, if_neg c6, show decide ((rd_T24 l (i : Int)).f1 > 2000) = false from decide_eq_false c7]
                    refine ev_succ ?_
                    simp only [spec_GoodAggs.j2, Bool.false_eq_true, if_false, if_neg c8, if_pos c9]
                    exact sj3_true _ _ _ _
                  · simp only [impl_GoodAggs.l0, if_pos hI, if_pos h0, if_neg hr, if_pos c1, if_neg c2, if_neg c3, if_neg c4, if_neg c6, if_neg c8, if_pos c9, if_neg c7]
                    exact ij2_true _ _ _ _
                · skip
                  by_cases ca : (rd_T24 l (i : Int)).f6 < (rd_T24 l (i : Int)).f3
                  · skip
                    refine ⟨false, ev_succ ?_, ev_succ ?_⟩
                    · simp only [spec_GoodAggs.l0, if_pos hI, if_pos h0, if_neg hr, if_pos c1, if_neg c2, if_neg c3, if_neg c4, if_neg c6, show decide ((rd_T24 l (i : Int)).f1 > 2000) = false from decide_eq_false c7]
                      refine ev_succ ?_
                      simp only [spec_GoodAggs.j2, Bool.false_eq_true, if_false, if_neg c8, if_neg c9, if_pos ca]
                      exact sj3_true _ _ _ _
                    · simp only [impl_GoodAggs.l0, if_pos hI, if_pos h0, if_neg hr, if_pos c1, if_neg c2, if_neg c3, if_neg c4, if_neg c6, if_neg c8, if_neg c9, if_pos ca, if_neg c7]
                      exact ij2_true _ _ _ _
                  · skip
                    by_cases cb : (rd_T24 l (i : Int)).f6 > (rd_T24 l (i : Int)).f4
                    · skip
                      refine ⟨false, ev_succ ?_, ev_succ ?_⟩
                      · simp only [spec_GoodAggs.l0, if_pos hI, if_pos h0, if_neg hr, if_pos c1, if_neg c2, if_neg c3, if_neg c4, if_neg c6, show decide ((rd_T24 l (i : Int)).f1 > 2000) = false from decide_eq_false c7]
                        refine ev_succ ?_
                        simp only [spec_GoodAggs.j2, Bool.false_eq_true, if_false, if_neg c8, if_neg c9, if_neg ca, show decide ((rd_T24 l (i : Int)).f6 > (rd_T24 l (i : Int)).f4) = true from decide_eq_true cb]
                        exact sj3_true _ _ _ _
                      · simp only [impl_GoodAggs.l0, if_pos hI, if_pos h0, if_neg hr, if_pos c1, if_neg c2, if_neg c3, if_neg c4, if_neg c6, if_neg c8, if_neg c9, if_neg ca, if_neg c7, show decide ((rd_T24 l (i : Int)).f6 > (rd_T24 l (i : Int)).f4) = true from decide_eq_true cb]
                        exact ij2_true _ _ _ _
                    · skip
                      refine ⟨b, ev_succ ?_, ev_succ ?_⟩
                      · simp only [spec_GoodAggs.l0, if_pos hI, if_pos h0, if_neg hr, if_pos c1, if_neg c2, if_neg c3, if_neg c4, if_neg c6, show decide ((rd_T24 l (i : Int)).f1 > 2000) = false from decide_eq_false c7]
                        refine ev_succ ?_
                        simp only [spec_GoodAggs.j2, Bool.false_eq_true, if_false, if_neg c8, if_neg c9, if_neg ca, show decide ((rd_T24 l (i : Int)).f6 > (rd_T24 l (i : Int)).f4) = false from decide_eq_false cb]
                        exact sm
                      · simp only [impl_GoodAggs.l0, if_pos hI, if_pos h0, if_neg hr, if_pos c1, if_neg c2, if_neg c3, if_neg c4, if_neg c6, if_neg c8, if_neg c9, if_neg ca, if_neg c7, show decide ((rd_T24 l (i : Int)).f6 > (rd_T24 l (i : Int)).f4) = false from decide_eq_false cb]
                        exact im
  · skip
    refine ⟨false, ev_succ ?_, ev_succ ?_⟩
    · simp only [spec_GoodAggs.l0, if_pos hI, if_pos h0, if_neg hr, if_neg c1]
      exact sj2_true _ _ _ _ _ _ _ _ _ _ _ _
    · simp only [impl_GoodAggs.l0, if_pos hI, if_pos h0, if_neg hr, if_neg c1]
      exact ij2_true _ _ _ _

theorem ares_f (r : Int) : spec_l11Res.f r = some (decide (1 ≤ r ∧ r ≤ 1000000)) ∧ impl_goodRes.f r = some (decide (1 ≤ r ∧ r ≤ 1000000)) := by
  unfold spec_l11Res.f impl_goodRes.f
  by_cases h : r ≥ 1
  · rw [if_pos h]
    refine ⟨?_, ?_⟩ <;> (congr 1; rw [decide_eq_decide]; omega)
  · rw [if_neg h]
    refine ⟨?_, ?_⟩ <;> (congr 1; symm; rw [decide_eq_false_iff_not]; omega)
/-- GoodAggs: both answer alike. -/
theorem good_both (l : List S24) (r : Int) (hn : l.length ≤ 9223372036854775000) : ∃ b, Ev (fun k => spec_GoodAggs.f k l r) b ∧ Ev (fun k => impl_GoodAggs.f k l r) b := by
  obtain ⟨rs, ri⟩ := ares_f r
  have s1 : Ev (fun k => spec_GoodAggs.j0 k l r true) false := ev_succ (ev_now fun k => by simp [spec_GoodAggs.j0])
  have i1 : Ev (fun k => impl_GoodAggs.j0 k l r true) false := ev_succ (ev_now fun k => by simp [impl_GoodAggs.j0])
  unfold spec_GoodAggs.f impl_GoodAggs.f
  simp only [rs, ri, Option.bind_some]
  by_cases hr : 1 ≤ r ∧ r ≤ 1000000
  · simp only [hr, and_self, decide_true, if_true]
    by_cases h2 : (l.length : Int) > 2000
    · simp only [h2, decide_true]
      exact ⟨false, s1, i1⟩
    · simp only [h2, decide_false]
      obtain ⟨b, hs, hm⟩ := good_loop l r (by omega) hn 0 (by omega)
      refine ⟨b, ev_succ ?_, ev_succ ?_⟩
      · simp only [spec_GoodAggs.j0, Bool.false_eq_true, if_false]
        exact hs
      · simp only [impl_GoodAggs.j0, Bool.false_eq_true, if_false]
        exact hm
  · simp only [hr, decide_false, Bool.false_eq_true, if_false]
    exact ⟨false, s1, i1⟩


theorem FnExactGoodAggs : Law.Pure := by
  intro l res ⟨hl, hw⟩ _
  refine Ev.rounds ?_
  unfold laws_FnExactGoodAggs.f
  rw [szAggS_f l 1048576 hl (by decide) (by decide)]
  by_cases h1 : (l.length : Int) ≤ 1048576
  · rw [if_pos h1]
    simp only [Option.bind_some, if_neg (show ¬ (1048576 : Int) - l.length < 0 by omega)]
    have ta := toAggS_ev l (by omega)
    have la : (l.map toAggM).length = l.length := List.length_map _
    obtain ⟨b, hs, hm⟩ := good_both (l.map toAggM) res (by omega)
    refine Ev.bind ta (Ev.bind hs (Ev.bind ta (Ev.bind hm ?_)))
    simp only [bne_self_eq_false, Bool.false_eq_true, if_false]
    refine Ev.bind ta (Ev.bind (eqAggS_ev _ (by omega)) ?_)
    simp only [if_true]
    exact Ev.now _
  · rw [if_neg h1]
    exact ev_now fun k => by simp

end Go.Proofs.Ytppifefhpjhmaaa.Pure
