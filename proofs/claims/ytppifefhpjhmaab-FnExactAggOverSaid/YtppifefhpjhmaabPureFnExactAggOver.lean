/- The given program's AggOver and the reference's answer alike, for all arguments. No condition. -/
import Derived.Test.YtppifefhpjhmaabPreFnExactAggOver
import Derived.Test.YtppifefhpjhmaabKit
namespace Go.Proofs.Ytppifefhpjhmaab.Pure
open Go.RowKit Go.Proofs.Ytppifefhpjhmaab.PFnExactAggOver Go.Proofs.YtppifefhpjhmaabW.PrintWords Go.Proofs.YtppifefhpjhmaabW.PrintLast Go.Proofs.YtppifefhpjhmaabW.PrintMore Go.Proofs.Ytppifefhpjhmaab.Kit Go.Proofs.Ytppifefhpjhmaab.PreFnExactAggOver
set_option linter.unusedVariables false
set_option linter.unusedSimpArgs false

def toAggM (x : S76) : S55 := ⟨x.f0, x.f1, x.f2, x.f3, x.f4, x.f5, x.f6, x.f7⟩
theorem toAgg_f (x : S76) : laws_toAgg.f x.f0 x.f1 x.f2 x.f3 x.f4 x.f5 x.f6 x.f7 = some (x.f0, x.f1, x.f2, x.f3, x.f4, x.f5, x.f6, x.f7) := rfl
theorem szAggS_f (l : List S76) (m : Int) (hl : l.length ≤ 9223372036854775807) (h0 : 0 ≤ m) (h1 : m ≤ 9223372036854775807) : laws_szAggS.f l m = some (if (l.length : Int) ≤ m then m - l.length else -1) := by
  unfold laws_szAggS.f
  rw [w64 (by omega) (by omega)]
  by_cases h : (l.length : Int) ≤ m
  · rw [if_neg (by omega), if_pos h]
  · rw [if_pos (by omega), if_neg h]
theorem toAggS_loop (rest : List S76) : ∀ (pre : List S76) (zs : List S55), zs.length = rest.length → (pre ++ rest).length ≤ 9223372036854775806 →
    Ev (fun k => laws_toAggS.l0 k (pre ++ rest) (pre.map toAggM ++ zs) (pre.length : Int)) ((pre ++ rest).map toAggM) := by
  induction rest with
  | nil =>
    intro pre zs hz _
    obtain rfl : zs = [] := List.eq_nil_of_length_eq_zero hz
    refine ev_succ (ev_now fun k => ?_)
    simp [laws_toAggS.l0]
  | cons x rest ih =>
    intro pre zs hz hl
    cases zs with
    | nil => simp at hz
    | cons z zs =>
      have h := ih (pre ++ [x]) zs (by simpa using hz) (by simpa using hl)
      have hlen : (pre ++ x :: rest).length = pre.length + 1 + rest.length := by simp; omega
      refine ev_succ ?_
      have e1 : ((pre.length : Nat) : Int) < ((pre ++ x :: rest).length : Int) := len_mid _ _ _
      have e2 : ((pre.length : Nat) : Int) < ((pre.map toAggM ++ z :: zs).length : Int) := by have := len_mid (pre.map toAggM) zs z; simpa using this
      have e3 : rd_T76 (pre ++ x :: rest) (pre.length : Int) = x := by unfold rd_T76; rw [Int.toNat_natCast]; exact getD_mid _ _ _ _
      have e4 : (pre.map toAggM ++ z :: zs).set (pre.length : Int).toNat (toAggM x) = (pre ++ [x]).map toAggM ++ zs := by
        rw [Int.toNat_natCast]
        have := set_mid (pre.map toAggM) zs z (toAggM x)
        rw [List.length_map] at this
        rw [this, List.map_append]; rfl
      have e5 : wrap64 ((pre.length : Int) + 1) = ((pre ++ [x]).length : Int) := by rw [len_succ]; exact w64 (by omega) (by omega)
      rw [mid_assoc]
      refine Ev.congr (fun k => ?_) h
      simp only [laws_toAggS.l0]
      rw [mid_assoc] at e1 e3
      rw [if_pos e1, if_pos (by omega : (0 : Int) ≤ pre.length), e3, toAgg_f, Option.bind_some, if_pos e2, e5]
      exact congrArg (fun l => laws_toAggS.l0 k _ l _) e4
theorem toAggS_ev (l : List S76) (hl : l.length ≤ 1048576) : Ev (fun k => laws_toAggS.f k l) (l.map toAggM) := by
  have h := toAggS_loop l [] (List.replicate l.length z55) (by simp) (by simp; omega)
  refine Ev.congr (fun k => ?_) h
  unfold laws_toAggS.f
  rw [if_pos (by omega), if_pos (by simp; omega)]
  simp
theorem eqAgg_self (x : S55) : laws_eqAgg.f x.f0 x.f1 x.f2 x.f3 x.f4 x.f5 x.f6 x.f7 x.f0 x.f1 x.f2 x.f3 x.f4 x.f5 x.f6 x.f7 = some true := by simp [laws_eqAgg.f]
theorem eqAggS_loop (rest : List S55) : ∀ (pre : List S55), (pre ++ rest).length ≤ 9223372036854775806 → Ev (fun k => laws_eqAggS.l0 k (pre ++ rest) (pre ++ rest) (pre.length : Int)) true := by
  induction rest with
  | nil =>
    intro pre _
    refine ev_succ (ev_now fun k => ?_)
    simp [laws_eqAggS.l0]
  | cons x rest ih =>
    intro pre hl
    have h := ih (pre ++ [x]) (by simpa using hl)
    have hlen : (pre ++ x :: rest).length = pre.length + 1 + rest.length := by simp; omega
    refine ev_succ ?_
    have e1 : ((pre.length : Nat) : Int) < ((pre ++ x :: rest).length : Int) := len_mid _ _ _
    have e3 : rd_T55 (pre ++ x :: rest) (pre.length : Int) = x := by unfold rd_T55; rw [Int.toNat_natCast]; exact getD_mid _ _ _ _
    have e5 : wrap64 ((pre.length : Int) + 1) = ((pre ++ [x]).length : Int) := by rw [len_succ]; exact w64 (by omega) (by omega)
    rw [mid_assoc]
    refine Ev.congr (fun k => ?_) h
    simp only [laws_eqAggS.l0]
    rw [mid_assoc] at e1 e3
    rw [if_pos e1, if_pos (by omega : (0 : Int) ≤ pre.length), if_pos e1, e3, eqAgg_self, Option.bind_some, if_pos rfl, e5]
theorem eqAggS_ev (l : List S55) (hl : l.length ≤ 9223372036854775806) : Ev (fun k => laws_eqAggS.f k l l) true := by
  have h := eqAggS_loop l [] (by simpa using hl)
  refine Ev.congr (fun k => ?_) h
  unfold laws_eqAggS.f
  rw [if_pos rfl]
  simp

/-- What is known of a good list's window number j. -/
structure OkAt (l : List S55) (r : Int) (j : Nat) : Prop where
  div : Int.tmod (rd_T55 l (j : Int)).f0 r = 0
  lo : 0 ≤ (rd_T55 l (j : Int)).f0
  hi : (rd_T55 l (j : Int)).f0 ≤ 1000001000000
  up : 0 < j → (rd_T55 l ((j : Int) - 1)).f0 < (rd_T55 l (j : Int)).f0
  c1 : 1 ≤ (rd_T55 l (j : Int)).f1
  c2 : (rd_T55 l (j : Int)).f1 ≤ 2000
theorem sj2_true (l : List S55) (r n i a b c d e f g h : Int) : Ev (fun k => spec_GoodAggs.j2 k l r l n i true a b c d e f g h) false := ev_succ (ev_now fun k => by simp [spec_GoodAggs.j2])
theorem sj3_true (l : List S55) (r n i : Int) : Ev (fun k => spec_GoodAggs.j3 k l r l n i true) false := ev_succ (ev_now fun k => by simp [spec_GoodAggs.j3])
theorem ij2_true (l : List S55) (r n i : Int) : Ev (fun k => impl_GoodAggs.j2 k l r l n i true) false := ev_succ (ev_now fun k => by simp [impl_GoodAggs.j2])
/-- Both loops answer alike. -/
theorem good_loop (l : List S55) (r : Int) (hr : r ≠ 0) (hn : l.length ≤ 9223372036854775000) : ∀ i, i ≤ l.length → ∃ b, (b = true → ∀ j, i ≤ j → j < l.length → OkAt l r j) ∧ Ev (fun k => spec_GoodAggs.l0 k l r l (l.length : Int) (i : Int)) b ∧ Ev (fun k => impl_GoodAggs.l0 k l r l (l.length : Int) (i : Int)) b := by
  refine down ⟨true, fun _ j a b => by omega, ev_succ (ev_now fun k => by simp [spec_GoodAggs.l0]), ev_succ (ev_now fun k => by simp [impl_GoodAggs.l0])⟩ ?_
  rintro i hi ⟨b, hb, hs, hm⟩
  have hI : (i : Int) < (l.length : Int) := by omega
  have h0 : 0 ≤ (i : Int) := by omega
  have e1 : wrap64 ((i : Int) + 1) = ((i + 1 : Nat) : Int) := w64_succ hi (by omega)
  have p0 : (i : Int) > 0 → 0 ≤ wrap64 ((i : Int) - 1) := fun h => by rw [w64 (by omega) (by omega)]; omega
  have p1 : (i : Int) > 0 → wrap64 ((i : Int) - 1) < (l.length : Int) := fun h => by rw [w64 (by omega) (by omega)]; omega
  have im : Ev (fun k => impl_GoodAggs.j2 k l r l (l.length : Int) (i : Int) false) b := by
    refine ev_succ ?_
    simp only [impl_GoodAggs.j2, Bool.false_eq_true, if_false, e1]
    exact hm
  have sm : Ev (fun k => spec_GoodAggs.j3 k l r l (l.length : Int) (i : Int) false) b := by
    refine ev_succ ?_
    simp only [spec_GoodAggs.j3, Bool.false_eq_true, if_false, e1]
    exact hs

  by_cases c1 : Int.tmod (rd_T55 l (i : Int)).f0 r = 0
  · skip
    by_cases c2 : (rd_T55 l (i : Int)).f0 < 0
    · skip
      refine ⟨false, fun e => (by cases e), ev_succ ?_, ev_succ ?_⟩
      · simp only [spec_GoodAggs.l0, if_pos hI, if_pos h0, if_neg hr, if_pos c1, if_pos c2]
        exact sj2_true _ _ _ _ _ _ _ _ _ _ _ _
      · simp only [impl_GoodAggs.l0, if_pos hI, if_pos h0, if_neg hr, if_pos c1, if_pos c2]
        exact ij2_true _ _ _ _
    · skip
      by_cases c3 : (rd_T55 l (i : Int)).f0 > 1000001000000
      · skip
        refine ⟨false, fun e => (by cases e), ev_succ ?_, ev_succ ?_⟩
        · simp only [spec_GoodAggs.l0, if_pos hI, if_pos h0, if_neg hr, if_pos c1, if_neg c2, if_pos c3]
          exact sj2_true _ _ _ _ _ _ _ _ _ _ _ _
        · simp only [impl_GoodAggs.l0, if_pos hI, if_pos h0, if_neg hr, if_pos c1, if_neg c2, if_pos c3]
          exact ij2_true _ _ _ _
      · skip
        by_cases c4 : (i : Int) > 0
        · skip
          by_cases c5 : (rd_T55 l (wrap64 ((i : Int) - 1))).f0 ≥ (rd_T55 l (i : Int)).f0
          · skip
            refine ⟨false, fun e => (by cases e), ev_succ ?_, ev_succ ?_⟩
            · simp only [spec_GoodAggs.l0, if_pos hI, if_pos h0, if_neg hr, if_pos c1, if_neg c2, if_neg c3, if_pos c4, if_pos c5, if_pos (p0 c4), if_pos (p1 c4)]
              exact sj2_true _ _ _ _ _ _ _ _ _ _ _ _
            · simp only [impl_GoodAggs.l0, if_pos hI, if_pos h0, if_neg hr, if_pos c1, if_neg c2, if_neg c3, if_pos c4, if_pos c5, if_pos (p0 c4), if_pos (p1 c4)]
              exact ij2_true _ _ _ _
          · skip
            by_cases c6 : (rd_T55 l (i : Int)).f1 < 1
            · skip
              refine ⟨false, fun e => (by cases e), ev_succ ?_, ev_succ ?_⟩
              · simp only [spec_GoodAggs.l0, if_pos hI, if_pos h0, if_neg hr, if_pos c1, if_neg c2, if_neg c3, if_pos c4, if_neg c5, if_pos c6, if_pos (p0 c4), if_pos (p1 c4)]
                exact sj2_true _ _ _ _ _ _ _ _ _ _ _ _
              · simp only [impl_GoodAggs.l0, if_pos hI, if_pos h0, if_neg hr, if_pos c1, if_neg c2, if_neg c3, if_pos c4, if_neg c5, if_pos c6, if_pos (p0 c4), if_pos (p1 c4)]
                exact ij2_true _ _ _ _
            · skip
              by_cases c7 : (rd_T55 l (i : Int)).f1 > 2000
              · skip
                refine ⟨false, fun e => (by cases e), ev_succ ?_, ev_succ ?_⟩
                · simp only [spec_GoodAggs.l0, if_pos hI, if_pos h0, if_neg hr, if_pos c1, if_neg c2, if_neg c3, if_pos c4, if_neg c5, if_neg c6, if_pos (p0 c4), if_pos (p1 c4), show decide ((rd_T55 l (i : Int)).f1 > 2000) = true from decide_eq_true c7]
                  exact sj2_true _ _ _ _ _ _ _ _ _ _ _ _
                · simp only [impl_GoodAggs.l0, if_pos hI, if_pos h0, if_neg hr, if_pos c1, if_neg c2, if_neg c3, if_pos c4, if_neg c5, if_neg c6, if_pos (p0 c4), if_pos (p1 c4), if_pos c7]
                  exact ij2_true _ _ _ _
              · skip
                by_cases c8 : (rd_T55 l (i : Int)).f5 < (rd_T55 l (i : Int)).f3
                · skip
                  refine ⟨false, fun e => (by cases e), ev_succ ?_, ev_succ ?_⟩
                  · simp only [spec_GoodAggs.l0, if_pos hI, if_pos h0, if_neg hr, if_pos c1, if_neg c2, if_neg c3, if_pos c4, if_neg c5, if_neg c6, if_pos (p0 c4), if_pos (p1 c4), show decide ((rd_T55 l (i : Int)).f1 > 2000) = false from decide_eq_false c7]
                    refine ev_succ ?_
                    simp only [spec_GoodAggs.j2, Bool.false_eq_true, if_false, if_pos c8]
                    exact sj3_true _ _ _ _
                  · simp only [impl_GoodAggs.l0, if_pos hI, if_pos h0, if_neg hr, if_pos c1, if_neg c2, if_neg c3, if_pos c4, if_neg c5, if_neg c6, if_pos c8, if_pos (p0 c4), if_pos (p1 c4), if_neg c7]
                    exact ij2_true _ _ _ _
                · skip
                  by_cases c9 : (rd_T55 l (i : Int)).f5 > (rd_T55 l (i : Int)).f4
                  · skip
                    refine ⟨false, fun e => (by cases e), ev_succ ?_, ev_succ ?_⟩
                    · simp only [spec_GoodAggs.l0, if_pos hI, if_pos h0, if_neg hr, if_pos c1, if_neg c2, if_neg c3, if_pos c4, if_neg c5, if_neg c6, if_pos (p0 c4), if_pos (p1 c4), show decide ((rd_T55 l (i : Int)).f1 > 2000) = false from decide_eq_false c7]
                      refine ev_succ ?_
                      simp only [spec_GoodAggs.j2, Bool.false_eq_true, if_false, if_neg c8, if_pos c9]
                      exact sj3_true _ _ _ _
                    · simp only [impl_GoodAggs.l0, if_pos hI, if_pos h0, if_neg hr, if_pos c1, if_neg c2, if_neg c3, if_pos c4, if_neg c5, if_neg c6, if_neg c8, if_pos c9, if_pos (p0 c4), if_pos (p1 c4), if_neg c7]
                      exact ij2_true _ _ _ _
                  · skip
                    by_cases ca : (rd_T55 l (i : Int)).f6 < (rd_T55 l (i : Int)).f3
                    · skip
                      refine ⟨false, fun e => (by cases e), ev_succ ?_, ev_succ ?_⟩
                      · simp only [spec_GoodAggs.l0, if_pos hI, if_pos h0, if_neg hr, if_pos c1, if_neg c2, if_neg c3, if_pos c4, if_neg c5, if_neg c6, if_pos (p0 c4), if_pos (p1 c4), show decide ((rd_T55 l (i : Int)).f1 > 2000) = false from decide_eq_false c7]
                        refine ev_succ ?_
                        simp only [spec_GoodAggs.j2, Bool.false_eq_true, if_false, if_neg c8, if_neg c9, if_pos ca]
                        exact sj3_true _ _ _ _
                      · simp only [impl_GoodAggs.l0, if_pos hI, if_pos h0, if_neg hr, if_pos c1, if_neg c2, if_neg c3, if_pos c4, if_neg c5, if_neg c6, if_neg c8, if_neg c9, if_pos ca, if_pos (p0 c4), if_pos (p1 c4), if_neg c7]
                        exact ij2_true _ _ _ _
                    · skip
                      by_cases cb : (rd_T55 l (i : Int)).f6 > (rd_T55 l (i : Int)).f4
                      · skip
                        refine ⟨false, fun e => (by cases e), ev_succ ?_, ev_succ ?_⟩
                        · simp only [spec_GoodAggs.l0, if_pos hI, if_pos h0, if_neg hr, if_pos c1, if_neg c2, if_neg c3, if_pos c4, if_neg c5, if_neg c6, if_pos (p0 c4), if_pos (p1 c4), show decide ((rd_T55 l (i : Int)).f1 > 2000) = false from decide_eq_false c7]
                          refine ev_succ ?_
                          simp only [spec_GoodAggs.j2, Bool.false_eq_true, if_false, if_neg c8, if_neg c9, if_neg ca, show decide ((rd_T55 l (i : Int)).f6 > (rd_T55 l (i : Int)).f4) = true from decide_eq_true cb]
                          exact sj3_true _ _ _ _
                        · simp only [impl_GoodAggs.l0, if_pos hI, if_pos h0, if_neg hr, if_pos c1, if_neg c2, if_neg c3, if_pos c4, if_neg c5, if_neg c6, if_neg c8, if_neg c9, if_neg ca, if_pos (p0 c4), if_pos (p1 c4), if_neg c7, show decide ((rd_T55 l (i : Int)).f6 > (rd_T55 l (i : Int)).f4) = true from decide_eq_true cb]
                          exact ij2_true _ _ _ _
                      · skip
                        have hok : OkAt l r i := ⟨c1, by omega, by omega, fun _ => by rw [w64 (by omega) (by omega)] at c5; omega, by omega, by omega⟩
                        refine ⟨b, fun e j h1 h2 => ?_, ev_succ ?_, ev_succ ?_⟩
                        · rcases Nat.eq_or_lt_of_le h1 with rfl | h3
                          · exact hok
                          · exact hb e j h3 h2
                        · simp only [spec_GoodAggs.l0, if_pos hI, if_pos h0, if_neg hr, if_pos c1, if_neg c2, if_neg c3, if_pos c4, if_neg c5, if_neg c6, if_pos (p0 c4), if_pos (p1 c4), show decide ((rd_T55 l (i : Int)).f1 > 2000) = false from decide_eq_false c7]
                          refine ev_succ ?_
                          simp only [spec_GoodAggs.j2, Bool.false_eq_true, if_false, if_neg c8, if_neg c9, if_neg ca, show decide ((rd_T55 l (i : Int)).f6 > (rd_T55 l (i : Int)).f4) = false from decide_eq_false cb]
                          exact sm
                        · simp only [impl_GoodAggs.l0, if_pos hI, if_pos h0, if_neg hr, if_pos c1, if_neg c2, if_neg c3, if_pos c4, if_neg c5, if_neg c6, if_neg c8, if_neg c9, if_neg ca, if_pos (p0 c4), if_pos (p1 c4), if_neg c7, show decide ((rd_T55 l (i : Int)).f6 > (rd_T55 l (i : Int)).f4) = false from decide_eq_false cb]
                          exact im
        · skip
          by_cases c6 : (rd_T55 l (i : Int)).f1 < 1
          · skip
            refine ⟨false, fun e => (by cases e), ev_succ ?_, ev_succ ?_⟩
            · simp only [spec_GoodAggs.l0, if_pos hI, if_pos h0, if_neg hr, if_pos c1, if_neg c2, if_neg c3, if_neg c4, if_pos c6]
              exact sj2_true _ _ _ _ _ _ _ _ _ _ _ _
            · simp only [impl_GoodAggs.l0, if_pos hI, if_pos h0, if_neg hr, if_pos c1, if_neg c2, if_neg c3, if_neg c4, if_pos c6]
              exact ij2_true _ _ _ _
          · skip
            by_cases c7 : (rd_T55 l (i : Int)).f1 > 2000
            · skip
              refine ⟨false, fun e => (by cases e), ev_succ ?_, ev_succ ?_⟩
              · simp only [spec_GoodAggs.l0, if_pos hI, if_pos h0, if_neg hr, if_pos c1, if_neg c2, if_neg c3, if_neg c4, if_neg c6, show decide ((rd_T55 l (i : Int)).f1 > 2000) = true from decide_eq_true c7]
                exact sj2_true _ _ _ _ _ _ _ _ _ _ _ _
              · simp only [impl_GoodAggs.l0, if_pos hI, if_pos h0, if_neg hr, if_pos c1, if_neg c2, if_neg c3, if_neg c4, if_neg c6, if_pos c7]
                exact ij2_true _ _ _ _
            · skip
              by_cases c8 : (rd_T55 l (i : Int)).f5 < (rd_T55 l (i : Int)).f3
              · skip
                refine ⟨false, fun e => (by cases e), ev_succ ?_, ev_succ ?_⟩
                · simp only [spec_GoodAggs.l0, if_pos hI, if_pos h0, if_neg hr, if_pos c1, if_neg c2, if_neg c3, if_neg c4, if_neg c6, show decide ((rd_T55 l (i : Int)).f1 > 2000) = false from decide_eq_false c7]
                  refine ev_succ ?_
                  simp only [spec_GoodAggs.j2, Bool.false_eq_true, if_false, if_pos c8]
                  exact sj3_true _ _ _ _
                · simp only [impl_GoodAggs.l0, if_pos hI, if_pos h0, if_neg hr, if_pos c1, if_neg c2, if_neg c3, if_neg c4, if_neg c6, if_pos c8, if_neg c7]
                  exact ij2_true _ _ _ _
              · skip
                by_cases c9 : (rd_T55 l (i : Int)).f5 > (rd_T55 l (i : Int)).f4
                · skip
                  refine ⟨false, fun e => (by cases e), ev_succ ?_, ev_succ ?_⟩
                  · simp only [spec_GoodAggs.l0, if_pos hI, if_pos h0, if_neg hr, if_pos c1, if_neg c2, if_neg c3, if_neg c4, if_neg c6, show decide ((rd_T55 l (i : Int)).f1 > 2000) = false from decide_eq_false c7]
                    refine ev_succ ?_
                    simp only [spec_GoodAggs.j2, Bool.false_eq_true, if_false, if_neg c8, if_pos c9]
                    exact sj3_true _ _ _ _
                  · simp only [impl_GoodAggs.l0, if_pos hI, if_pos h0, if_neg hr, if_pos c1, if_neg c2, if_neg c3, if_neg c4, if_neg c6, if_neg c8, if_pos c9, if_neg c7]
                    exact ij2_true _ _ _ _
                · skip
                  by_cases ca : (rd_T55 l (i : Int)).f6 < (rd_T55 l (i : Int)).f3
                  · skip
                    refine ⟨false, fun e => (by cases e), ev_succ ?_, ev_succ ?_⟩
                    · simp only [spec_GoodAggs.l0, if_pos hI, if_pos h0, if_neg hr, if_pos c1, if_neg c2, if_neg c3, if_neg c4, if_neg c6, show decide ((rd_T55 l (i : Int)).f1 > 2000) = false from decide_eq_false c7]
                      refine ev_succ ?_
                      simp only [spec_GoodAggs.j2, Bool.false_eq_true, if_false, if_neg c8, if_neg c9, if_pos ca]
                      exact sj3_true _ _ _ _
                    · simp only [impl_GoodAggs.l0, if_pos hI, if_pos h0, if_neg hr, if_pos c1, if_neg c2, if_neg c3, if_neg c4, if_neg c6, if_neg c8, if_neg c9, if_pos ca, if_neg c7]
                      exact ij2_true _ _ _ _
                  · skip
                    by_cases cb : (rd_T55 l (i : Int)).f6 > (rd_T55 l (i : Int)).f4
                    · skip
                      refine ⟨false, fun e => (by cases e), ev_succ ?_, ev_succ ?_⟩
                      · simp only [spec_GoodAggs.l0, if_pos hI, if_pos h0, if_neg hr, if_pos c1, if_neg c2, if_neg c3, if_neg c4, if_neg c6, show decide ((rd_T55 l (i : Int)).f1 > 2000) = false from decide_eq_false c7]
                        refine ev_succ ?_
                        simp only [spec_GoodAggs.j2, Bool.false_eq_true, if_false, if_neg c8, if_neg c9, if_neg ca, show decide ((rd_T55 l (i : Int)).f6 > (rd_T55 l (i : Int)).f4) = true from decide_eq_true cb]
                        exact sj3_true _ _ _ _
                      · simp only [impl_GoodAggs.l0, if_pos hI, if_pos h0, if_neg hr, if_pos c1, if_neg c2, if_neg c3, if_neg c4, if_neg c6, if_neg c8, if_neg c9, if_neg ca, if_neg c7, show decide ((rd_T55 l (i : Int)).f6 > (rd_T55 l (i : Int)).f4) = true from decide_eq_true cb]
                        exact ij2_true _ _ _ _
                    · skip
                      have hok : OkAt l r i := ⟨c1, by omega, by omega, fun h => absurd h (by omega), by omega, by omega⟩
                      refine ⟨b, fun e j h1 h2 => ?_, ev_succ ?_, ev_succ ?_⟩
                      · rcases Nat.eq_or_lt_of_le h1 with rfl | h3
                        · exact hok
                        · exact hb e j h3 h2
                      · simp only [spec_GoodAggs.l0, if_pos hI, if_pos h0, if_neg hr, if_pos c1, if_neg c2, if_neg c3, if_neg c4, if_neg c6, show decide ((rd_T55 l (i : Int)).f1 > 2000) = false from decide_eq_false c7]
                        refine ev_succ ?_
                        simp only [spec_GoodAggs.j2, Bool.false_eq_true, if_false, if_neg c8, if_neg c9, if_neg ca, show decide ((rd_T55 l (i : Int)).f6 > (rd_T55 l (i : Int)).f4) = false from decide_eq_false cb]
                        exact sm
                      · simp only [impl_GoodAggs.l0, if_pos hI, if_pos h0, if_neg hr, if_pos c1, if_neg c2, if_neg c3, if_neg c4, if_neg c6, if_neg c8, if_neg c9, if_neg ca, if_neg c7, show decide ((rd_T55 l (i : Int)).f6 > (rd_T55 l (i : Int)).f4) = false from decide_eq_false cb]
                        exact im
  · skip
    refine ⟨false, fun e => (by cases e), ev_succ ?_, ev_succ ?_⟩
    · simp only [spec_GoodAggs.l0, if_pos hI, if_pos h0, if_neg hr, if_neg c1]
      exact sj2_true _ _ _ _ _ _ _ _ _ _ _ _
    · simp only [impl_GoodAggs.l0, if_pos hI, if_pos h0, if_neg hr, if_neg c1]
      exact ij2_true _ _ _ _

theorem ares_f (r : Int) : spec_l11Res.f r = some (decide (1 ≤ r ∧ r ≤ 1000000)) ∧ impl_goodRes.f r = some (decide (1 ≤ r ∧ r ≤ 1000000)) := by
  unfold spec_l11Res.f impl_goodRes.f
  by_cases h : r ≥ 1
  · rw [if_pos h]
    refine ⟨?_, ?_⟩ <;> (congr 1; rw [decide_eq_decide]; omega)
  · rw [if_neg h]
    refine ⟨?_, ?_⟩ <;> (congr 1; symm; rw [decide_eq_false_iff_not]; omega)
/-- GoodAggs: both answer alike. -/
theorem good_both (l : List S55) (r : Int) (hn : l.length ≤ 9223372036854775000) : ∃ b, (b = true → l.length ≤ 2000 ∧ 1 ≤ r ∧ r ≤ 1000000 ∧ ∀ j, j < l.length → OkAt l r j) ∧ Ev (fun k => spec_GoodAggs.f k l r) b ∧ Ev (fun k => impl_GoodAggs.f k l r) b := by
  obtain ⟨rs, ri⟩ := ares_f r
  have s1 : Ev (fun k => spec_GoodAggs.j0 k l r true) false := ev_succ (ev_now fun k => by simp [spec_GoodAggs.j0])
  have i1 : Ev (fun k => impl_GoodAggs.j0 k l r true) false := ev_succ (ev_now fun k => by simp [impl_GoodAggs.j0])
  unfold spec_GoodAggs.f impl_GoodAggs.f
  simp only [rs, ri, Option.bind_some]
  by_cases hr : 1 ≤ r ∧ r ≤ 1000000
  · simp only [show decide (1 ≤ r ∧ r ≤ 1000000) = true from decide_eq_true hr, if_true]
    by_cases h2 : (l.length : Int) > 2000
    · simp only [h2, decide_true]
      exact ⟨false, fun e => (by cases e), s1, i1⟩
    · simp only [h2, decide_false]
      obtain ⟨b, hb, hs, hm⟩ := good_loop l r (by omega) hn 0 (by omega)
      refine ⟨b, fun e => ⟨by omega, hr.1, hr.2, fun j hj => hb e j (Nat.zero_le _) hj⟩, ev_succ ?_, ev_succ ?_⟩
      · simp only [spec_GoodAggs.j0, Bool.false_eq_true, if_false]
        exact hs
      · simp only [impl_GoodAggs.j0, Bool.false_eq_true, if_false]
        exact hm
  · simp only [show decide (1 ≤ r ∧ r ≤ 1000000) = false from decide_eq_false hr, Bool.false_eq_true, if_false]
    exact ⟨false, fun e => (by cases e), s1, i1⟩


/-! ### windows put together -/
def rise (a b : Int) : Int := if b ≥ a then wrap64 (b - a) else b
theorem specRise_f (a b : Int) : spec_l11Rise.f a b = some (rise a b) := by
  unfold spec_l11Rise.f rise
  split <;> rfl
theorem implRise_f (a b : Int) : impl_riseOver.f a b = some (rise a b) := by
  unfold impl_riseOver.f rise
  split <;> rfl
theorem turn (x y t : Int) : wrap64 (wrap64 (x + t) + y) = wrap64 (wrap64 (x + y) + t) := by
  unfold wrap64
  omega
theorem implM_f (a0 a1 a2 a3 a4 a5 a6 a7 b0 b1 b2 b3 b4 b5 b6 b7 : Int) : impl_MergeAgg.f a0 a1 a2 a3 a4 a5 a6 a7 b0 b1 b2 b3 b4 b5 b6 b7 = some (b0, wrap64 (a1 + b1), wrap64 (a2 + b2), mn a3 b3, mx a4 b4, a5, b6, wrap64 (wrap64 (a7 + b7) + rise a6 b5)) := by
  unfold impl_MergeAgg.f
  rw [implRise_f]
  rfl
theorem specM_ev (a0 a1 a2 a3 a4 a5 a6 a7 b0 b1 b2 b3 b4 b5 b6 b7 : Int) : Ev (fun k => spec_MergeAgg.f k a0 a1 a2 a3 a4 a5 a6 a7 b0 b1 b2 b3 b4 b5 b6 b7) (b0, wrap64 (a1 + b1), wrap64 (a2 + b2), mn a3 b3, mx a4 b4, a5, b6, wrap64 (wrap64 (a7 + b7) + rise a6 b5)) := by
  unfold spec_MergeAgg.f
  refine ev_succ (ev_now fun k => ?_)
  simp only [spec_MergeAgg.j0, specRise_f, Option.bind_some]
  rw [turn]
  unfold mn mx
  by_cases c1 : b3 < a3
  · by_cases c2 : b4 > a4
    · have c3 : a4 < b4 := c2
      simp only [if_pos c1, if_pos c2, if_pos c3]
    · have c3 : ¬ a4 < b4 := c2
      simp only [if_pos c1, if_neg c2, if_neg c3]
  · by_cases c2 : b4 > a4
    · have c3 : a4 < b4 := c2
      simp only [if_neg c1, if_pos c2, if_pos c3]
    · have c3 : ¬ a4 < b4 := c2
      simp only [if_neg c1, if_neg c2, if_neg c3]
def mergeM (a b : S55) : S55 := ⟨b.f0, wrap64 (a.f1 + b.f1), wrap64 (a.f2 + b.f2), mn a.f3 b.f3, mx a.f4 b.f4, a.f5, b.f6, wrap64 (wrap64 (a.f7 + b.f7) + rise a.f6 b.f5)⟩
/-! ### what samples come to -/
theorem tmod_neg (a b : Int) : Int.tmod a b < 0 ↔ Int.tmod a b ≠ 0 ∧ a < 0 := by
  constructor
  · intro h1
    refine ⟨by omega, ?_⟩
    by_cases h2 : 0 ≤ a
    · have := Int.tmod_nonneg b h2
      omega
    · omega
  · rintro ⟨h, h1⟩
    have h2 : 0 ≤ Int.tmod (-a) b := Int.tmod_nonneg b (by omega)
    rw [Int.neg_tmod] at h2
    omega
theorem quot_same (a b : Int) (hb : 0 < b) : ∃ q, spec_l11Floor.f a b = some q ∧ impl_Quotient.f a b = some q := by
  unfold spec_l11Floor.f impl_Quotient.f
  have hb0 : ¬ b = 0 := by omega
  rw [if_neg hb0, if_neg hb0]
  by_cases h0 : Int.tmod a b = 0
  · exact ⟨_, by rw [if_neg (by omega)], by rw [if_pos h0]⟩
  · have hb' : decide (b < 0) = false := by simp; omega
    by_cases ha : a < 0
    · have h1 := (tmod_neg a b).2 ⟨h0, ha⟩
      exact ⟨_, by rw [if_pos h1], by rw [if_neg h0, if_pos (by simp [ha, hb'])]⟩
    · have h1 : ¬ Int.tmod a b < 0 := fun h => ha ((tmod_neg a b).1 h).2
      exact ⟨_, by rw [if_neg h1], by rw [if_neg h0, if_neg (by simp [ha, hb'])]⟩
theorem over_same (t0 t1 c s m M f l r : Int) (o : Int) (hc : 0 < c) (h1 : 1 ≤ o) (h8 : o ≤ 8) : ∃ x, spec_l11Over.f t0 c s m M f l r o = some (x, true) ∧ impl_overOf.f t1 c s m M f l r o = some x := by
  obtain ⟨q, q1, q2⟩ := quot_same s c hc
  have ho : o = 1 ∨ o = 2 ∨ o = 3 ∨ o = 4 ∨ o = 5 ∨ o = 6 ∨ o = 7 ∨ o = 8 := by omega
  unfold spec_l11Over.f impl_overOf.f
  rcases ho with rfl | rfl | rfl | rfl | rfl | rfl | rfl | rfl <;> simp [q1, q2]
theorem over_none (t0 c s m M f l r : Int) (o : Int) (h : o < 1 ∨ 8 < o) : spec_l11Over.f t0 c s m M f l r o = some (0, false) := by
  unfold spec_l11Over.f
  rw [if_neg (by omega), if_neg (by omega), if_neg (by omega), if_neg (by omega), if_neg (by omega), if_neg (by omega), if_neg (by omega), if_neg (by omega)]

theorem in1_f (a0 a1 a2 a3 a4 a5 a6 a7 u v : Int) : impl_AggOver_1_with.f a0 a1 a2 a3 a4 a5 a6 a7 [u] [v] = some (decide (u < a0) && decide (a0 ≤ v)) := by
  have e1 : rd [u] 0 = u := rfl
  have e2 : rd [v] 0 = v := rfl
  unfold impl_AggOver_1_with.f
  rw [if_pos (by simp), e1, if_pos (by simp : (0 : Int) < (([v] : List Int).length : Int)), e2]
  by_cases h : a0 > u
  · have h' : u < a0 := h
    simp [h']
  · have h' : ¬ u < a0 := h
    simp [h']
theorem implIn_loop (u v : Int) (rest : List S55) : ∀ (pre out : List S55), (pre ++ rest).length ≤ 1048576 → out.length + rest.length ≤ 1048576 →
    Ev (fun k => impl_Agg_at_impl_AggOver_1.l0 k out (pre ++ rest) ((pre ++ rest).length : Int) (pre.length : Int) [u] [v]) (out ++ rest.filter fun x => decide (u < x.f0) && decide (x.f0 ≤ v)) := by
  induction rest with
  | nil =>
    intro pre out _ _
    refine ev_succ (ev_now fun k => ?_)
    simp [impl_Agg_at_impl_AggOver_1.l0]
  | cons x rest ih =>
    intro pre out hl ho
    have hlen : (pre ++ x :: rest).length = pre.length + 1 + rest.length := by simp; omega
    have hol : out.length + (rest.length + 1) ≤ 1048576 := by simpa using ho
    have e1 : (pre.length : Int) < ((pre ++ x :: rest).length : Int) := len_mid _ _ _
    have e3 : rd_T55 (pre ++ x :: rest) (pre.length : Int) = x := by unfold rd_T55; rw [Int.toNat_natCast]; exact getD_mid _ _ _ _
    have e5 : wrap64 ((pre.length : Int) + 1) = ((pre ++ [x]).length : Int) := by rw [len_succ]; exact w64 (by omega) (by omega)
    have ec : out.length < 2199023255552 := by omega
    by_cases ht : (decide (u < x.f0) && decide (x.f0 ≤ v)) = true
    · have h := ih (pre ++ [x]) (out ++ [x]) (by simp at hl ⊢; omega) (by simp; omega)
      rw [← mid_assoc] at h
      have er : out ++ [x] ++ rest.filter (fun x => decide (u < x.f0) && decide (x.f0 ≤ v)) = out ++ (x :: rest).filter fun x => decide (u < x.f0) && decide (x.f0 ≤ v) := by rw [List.filter_cons, if_pos ht]; simp
      refine ev_eq (ev_succ (Ev.congr (fun k => ?_) h)) er
      simp only [impl_Agg_at_impl_AggOver_1.l0]
      rw [if_pos e1, if_pos (by omega : (0 : Int) ≤ pre.length), if_pos e1, e3]
      rw [in1_f, Option.bind_some, if_pos ht]
      simp only [if_pos ec, e5]
    · have h := ih (pre ++ [x]) out (by simp at hl ⊢; omega) (by omega)
      rw [← mid_assoc] at h
      have er : out ++ rest.filter (fun x => decide (u < x.f0) && decide (x.f0 ≤ v)) = out ++ (x :: rest).filter fun x => decide (u < x.f0) && decide (x.f0 ≤ v) := by rw [List.filter_cons, if_neg ht]
      refine ev_eq (ev_succ (Ev.congr (fun k => ?_) h)) er
      simp only [impl_Agg_at_impl_AggOver_1.l0]
      rw [if_pos e1, if_pos (by omega : (0 : Int) ≤ pre.length), if_pos e1, e3]
      rw [in1_f, Option.bind_some, if_neg ht]
      simp only [e5]

def inside (u v : Int) (l : List S55) : List S55 := l.filter fun x => decide (u < x.f0) && decide (x.f0 ≤ v)
def overF (a : S55) (xs : List S55) : S55 := xs.foldl (fun a x => if a.f1 = 0 then x else mergeM a x) a
def told (a : S55) (o : Int) : Option (Int × Bool) := if a.f1 < 1 then (some (0, false)) else ((spec_l11Over.f a.f0 a.f1 a.f2 a.f3 a.f4 a.f5 a.f6 a.f7 o).bind fun bt => (some (bt.1, bt.2)))
theorem spec_loop (u v o : Int) (rest : List S55) : ∀ (pre : List S55) (a : S55) (R : Int × Bool), (pre ++ rest).length ≤ 1048576 → told (overF a (inside u v rest)) o = some R →
    Ev (fun k => spec_AggOver.l0 k u v o (pre ++ rest) ((pre ++ rest).length : Int) (pre.length : Int) a.f0 a.f1 a.f2 a.f3 a.f4 a.f5 a.f6 a.f7) R := by
  induction rest with
  | nil =>
    intro pre a R _ h
    refine ev_succ (ev_now fun k => ?_)
    simp only [spec_AggOver.l0, List.append_nil, Int.lt_irrefl, if_false]
    exact h
  | cons x rest ih =>
    intro pre a R hl h
    have hlen : (pre ++ x :: rest).length = pre.length + 1 + rest.length := by simp; omega
    have e0 : (0 : Int) ≤ (pre.length : Int) := by omega
    have e1 : (pre.length : Int) < ((pre ++ x :: rest).length : Int) := len_mid _ _ _
    have e3 : rd_T55 (pre ++ x :: rest) (pre.length : Int) = x := by unfold rd_T55; rw [Int.toNat_natCast]; exact getD_mid _ _ _ _
    have e5 : wrap64 ((pre.length : Int) + 1) = ((pre ++ [x]).length : Int) := by rw [len_succ]; exact w64 (by omega) (by omega)
    have out : (decide (u < x.f0) && decide (x.f0 ≤ v)) = false → Ev (fun k => spec_AggOver.j2 k u v o (pre ++ x :: rest) ((pre ++ x :: rest).length : Int) (pre.length : Int) true a.f0 a.f1 a.f2 a.f3 a.f4 a.f5 a.f6 a.f7 x.f0 x.f1 x.f2 x.f3 x.f4 x.f5 x.f6 x.f7) R := by
      intro ht
      have h1 := ih (pre ++ [x]) a R (by simp at hl ⊢; omega) (by rw [inside, List.filter_cons, if_neg (by rw [ht]; decide)] at h; exact h)
      rw [← mid_assoc] at h1
      refine ev_succ ?_
      simp only [spec_AggOver.j2, if_true, e5]
      exact h1
    by_cases hu : x.f0 ≤ u
    · refine ev_succ ?_
      simp only [spec_AggOver.l0, if_pos e1, if_pos e0, e3, if_pos hu]
      exact out (by simp; omega)
    · by_cases hv : x.f0 > v
      · refine ev_succ ?_
        simp only [spec_AggOver.l0, if_pos e1, if_pos e0, e3, if_neg hu, hv, decide_true]
        exact out (by simp; omega)
      · refine ev_succ ?_
        simp only [spec_AggOver.l0, if_pos e1, if_pos e0, e3, if_neg hu, hv, decide_false]
        refine ev_succ ?_
        simp only [spec_AggOver.j2, Bool.false_eq_true, if_false, e5]
        have ht : (decide (u < x.f0) && decide (x.f0 ≤ v)) = true := by simp; omega
        rw [inside, List.filter_cons, if_pos ht] at h
        by_cases hc : a.f1 = 0
        · simp only [if_pos hc]
          have h1 := ih (pre ++ [x]) x R (by simp at hl ⊢; omega) (by
            have e : overF a (x :: inside u v rest) = overF x (inside u v rest) := by
              unfold overF
              rw [List.foldl_cons, if_pos hc]
            rw [← e]
            exact h)
          rw [← mid_assoc] at h1
          exact h1
        · simp only [if_neg hc]
          have h1 := ih (pre ++ [x]) (mergeM a x) R (by simp at hl ⊢; omega) (by
            have e : overF a (x :: inside u v rest) = overF (mergeM a x) (inside u v rest) := by
              unfold overF
              rw [List.foldl_cons, if_neg hc]
            rw [← e]
            exact h)
          rw [← mid_assoc] at h1
          exact Ev.bind (specM_ev _ _ _ _ _ _ _ _ _ _ _ _ _ _ _ _) h1
theorem implAll_loop (rest : List S55) : ∀ (pre : List S55) (a : S55), (pre ++ rest).length ≤ 1048576 →
    Ev (fun k => impl_allOf.l0 k (pre ++ rest) ((pre ++ rest).length : Int) (pre.length : Int) a.f0 a.f1 a.f2 a.f3 a.f4 a.f5 a.f6 a.f7)
      ((rest.foldl mergeM a).f0, (rest.foldl mergeM a).f1, (rest.foldl mergeM a).f2, (rest.foldl mergeM a).f3, (rest.foldl mergeM a).f4, (rest.foldl mergeM a).f5, (rest.foldl mergeM a).f6, (rest.foldl mergeM a).f7) := by
  induction rest with
  | nil =>
    intro pre a _
    refine ev_succ (ev_now fun k => ?_)
    simp [impl_allOf.l0]
  | cons x rest ih =>
    intro pre a hl
    have hlen : (pre ++ x :: rest).length = pre.length + 1 + rest.length := by simp; omega
    have e0 : (0 : Int) ≤ (pre.length : Int) := by omega
    have e1 : (pre.length : Int) < ((pre ++ x :: rest).length : Int) := len_mid _ _ _
    have e3 : rd_T55 (pre ++ x :: rest) (pre.length : Int) = x := by unfold rd_T55; rw [Int.toNat_natCast]; exact getD_mid _ _ _ _
    have e5 : wrap64 ((pre.length : Int) + 1) = ((pre ++ [x]).length : Int) := by rw [len_succ]; exact w64 (by omega) (by omega)
    have h1 := ih (pre ++ [x]) (mergeM a x) (by simp at hl ⊢; omega)
    rw [← mid_assoc] at h1
    refine ev_succ ?_
    simp only [impl_allOf.l0, if_pos e1, if_pos e0, e3, implM_f, Option.bind_some, e5]
    exact h1
theorem implAll_ev (y : S55) (rest : List S55) (hl : (y :: rest).length ≤ 1048576) : Ev (fun k => impl_allOf.f k (y :: rest))
      ((rest.foldl mergeM y).f0, (rest.foldl mergeM y).f1, (rest.foldl mergeM y).f2, (rest.foldl mergeM y).f3, (rest.foldl mergeM y).f4, (rest.foldl mergeM y).f5, (rest.foldl mergeM y).f6, (rest.foldl mergeM y).f7) := by
  have h := implAll_loop rest [] y (by simp at hl ⊢; omega)
  have r0 : rd_T55 (y :: rest) 0 = y := rfl
  refine Ev.congr (fun k => ?_) h
  unfold impl_allOf.f
  rw [if_pos (by simp only [List.length_cons]; omega), if_pos (by simp only [List.length_cons]; omega), r0]
  rfl
theorem over_eq (rest : List S55) : ∀ (a : S55), 1 ≤ a.f1 → a.f1 + 2000 * (rest.length : Int) ≤ 10000000000 → (∀ x ∈ rest, 1 ≤ x.f1 ∧ x.f1 ≤ 2000) → overF a rest = rest.foldl mergeM a ∧ 1 ≤ (rest.foldl mergeM a).f1 := by
  induction rest with
  | nil => intro a h _ _; exact ⟨rfl, h⟩
  | cons x rest ih =>
    intro a h1 h2 h3
    have hx := h3 x List.mem_cons_self
    have hl : (((x :: rest).length : Nat) : Int) = (rest.length : Int) + 1 := by simp
    rw [hl] at h2
    have hm : (mergeM a x).f1 = a.f1 + x.f1 := w64 (by omega) (by omega)
    have := ih (mergeM a x) (by omega) (by omega) (fun z hz => h3 z (List.mem_cons_of_mem _ hz))
    unfold overF at this ⊢
    rw [List.foldl_cons, List.foldl_cons, if_neg (by omega)]
    exact this
theorem core (l : List S55) (u v o : Int) (hl : l.length ≤ 2000) (hc : ∀ x ∈ l, 1 ≤ x.f1 ∧ x.f1 ≤ 2000) (o1 : 1 ≤ o) (o8 : o ≤ 8) :
    ∃ R, (inside u v l = [] → R = (0, false)) ∧ Ev (fun k => spec_AggOver.j0 k l u v o false) R ∧ Ev (fun k => impl_AggOver.j0 k l o false u v) R := by
  have hf : Ev (fun k => impl_Agg_at_impl_AggOver_1.f k l [u] [v]) (inside u v l) := implIn_loop u v l [] [] (by simp; omega) (by simp; omega)
  have hle : (inside u v l).length ≤ l.length := List.length_filter_le _ _
  have hmem : ∀ x ∈ inside u v l, 1 ≤ x.f1 ∧ x.f1 ≤ 2000 := fun x hx => hc x (List.mem_filter.1 hx).1
  have hs : ∀ R, told (overF ⟨0, 0, 0, 0, 0, 0, 0, 0⟩ (inside u v l)) o = some R → Ev (fun k => spec_AggOver.j0 k l u v o false) R := by
    intro R h
    have h1 := spec_loop u v o l [] ⟨0, 0, 0, 0, 0, 0, 0, 0⟩ R (by simp; omega) h
    refine ev_succ ?_
    simp only [spec_AggOver.j0, Bool.false_eq_true, if_false]
    exact h1
  cases hF : inside u v l with
  | nil =>
    refine ⟨(0, false), fun _ => rfl, hs _ (by rw [hF]; simp [overF, told]), ev_succ ?_⟩
    simp only [impl_AggOver.j0, Bool.false_eq_true, if_false]
    refine Ev.bind hf ?_
    rw [hF]
    simp only [List.length_nil]
    exact Ev.now _
  | cons y rest =>
    rw [hF] at hle hmem
    have hy := hmem y List.mem_cons_self
    obtain ⟨q1, q2⟩ := over_eq rest y (by omega) (by simp at hle; omega) (fun x hx => hmem x (List.mem_cons_of_mem _ hx))
    obtain ⟨x, x1, x2⟩ := over_same (rest.foldl mergeM y).f0 (rest.foldl mergeM y).f0 (rest.foldl mergeM y).f1 (rest.foldl mergeM y).f2 (rest.foldl mergeM y).f3 (rest.foldl mergeM y).f4 (rest.foldl mergeM y).f5 (rest.foldl mergeM y).f6 (rest.foldl mergeM y).f7 o (by omega) o1 o8
    refine ⟨(x, true), fun h => (by cases h), hs _ ?_, ev_succ ?_⟩
    · rw [hF]
      have e : overF ⟨0, 0, 0, 0, 0, 0, 0, 0⟩ (y :: rest) = overF y rest := by
        unfold overF
        rw [List.foldl_cons, if_pos rfl]
      rw [e, q1]
      unfold told
      rw [if_neg (by omega), x1]
      rfl
    · simp only [impl_AggOver.j0, Bool.false_eq_true, if_false]
      refine Ev.bind hf ?_
      rw [hF]
      simp only [if_neg (show ¬ (((y :: rest).length : Nat) : Int) = 0 by simp; omega)]
      refine Ev.bind (implAll_ev y rest (by omega)) ?_
      simp only [x2, Option.bind_some]
      exact Ev.now _
theorem span_f (u v : Int) : spec_l11Span.f u v = some (decide (-1 ≤ u ∧ -1 ≤ v ∧ u ≤ v ∧ v ≤ 1000000000000)) := by
  unfold spec_l11Span.f
  by_cases h1 : u ≥ -1
  · rw [if_pos h1]
    by_cases h2 : v ≥ -1
    · rw [if_pos h2]
      by_cases h3 : u ≤ v
      · rw [if_pos h3]
        congr 1
        rw [decide_eq_decide]
        omega
      · rw [if_neg h3]
        congr 1
        symm
        rw [decide_eq_false_iff_not]
        omega
    · rw [if_neg h2]
      congr 1
      symm
      rw [decide_eq_false_iff_not]
      omega
  · rw [if_neg h1]
    congr 1
    symm
    rw [decide_eq_false_iff_not]
    omega
theorem time_f (t : Int) : impl_isTime.f t = some (decide (0 ≤ t ∧ t ≤ 1000000000000)) := by
  unfold impl_isTime.f
  by_cases h : t ≥ 0
  · rw [if_pos h]; congr 1; rw [decide_eq_decide]; omega
  · rw [if_neg h]; congr 1; symm; rw [decide_eq_false_iff_not]; omega
theorem tail_f (u v o : Int) : (if u ≤ v then (if o ≥ 1 then (some (decide (o ≤ 8))) else (some false)) else (some false)) = some (decide (u ≤ v ∧ 1 ≤ o ∧ o ≤ 8)) := by
  by_cases h1 : u ≤ v
  · rw [if_pos h1]
    by_cases h2 : o ≥ 1
    · rw [if_pos h2]; congr 1; rw [decide_eq_decide]; omega
    · rw [if_neg h2]; congr 1; symm; rw [decide_eq_false_iff_not]; omega
  · rw [if_neg h1]; congr 1; symm; rw [decide_eq_false_iff_not]; omega
theorem over_f (u v o : Int) : impl_goodOver.f u v o = some (decide ((-1 ≤ u ∧ -1 ≤ v ∧ u ≤ v ∧ v ≤ 1000000000000) ∧ 1 ≤ o ∧ o ≤ 8)) := by
  unfold impl_goodOver.f
  simp only [tail_f, time_f, Option.bind_some]
  by_cases h1 : u = -1
  · simp only [if_pos h1]
    by_cases h2 : v = -1
    · simp only [if_pos h2]; congr 1; rw [decide_eq_decide]; omega
    · simp only [if_neg h2]
      by_cases h3 : 0 ≤ v ∧ v ≤ 1000000000000
      · simp only [show decide (0 ≤ v ∧ v ≤ 1000000000000) = true from decide_eq_true h3, if_true]; congr 1; rw [decide_eq_decide]; omega
      · simp only [show decide (0 ≤ v ∧ v ≤ 1000000000000) = false from decide_eq_false h3, Bool.false_eq_true, if_false]; congr 1; symm; rw [decide_eq_false_iff_not]; omega
  · simp only [if_neg h1]
    by_cases h4 : 0 ≤ u ∧ u ≤ 1000000000000
    · simp only [show decide (0 ≤ u ∧ u ≤ 1000000000000) = true from decide_eq_true h4, if_true]
      by_cases h2 : v = -1
      · simp only [if_pos h2]; congr 1; rw [decide_eq_decide]; omega
      · simp only [if_neg h2]
        by_cases h3 : 0 ≤ v ∧ v ≤ 1000000000000
        · simp only [show decide (0 ≤ v ∧ v ≤ 1000000000000) = true from decide_eq_true h3, if_true]; congr 1; rw [decide_eq_decide]; omega
        · simp only [show decide (0 ≤ v ∧ v ≤ 1000000000000) = false from decide_eq_false h3, Bool.false_eq_true, if_false]; congr 1; symm; rw [decide_eq_false_iff_not]; omega
    · simp only [show decide (0 ≤ u ∧ u ≤ 1000000000000) = false from decide_eq_false h4, Bool.false_eq_true, if_false]; congr 1; symm; rw [decide_eq_false_iff_not]; omega
theorem both (l : List S55) (r u v o : Int) (hl : l.length ≤ 1048576) : ∃ R, Ev (fun k => spec_AggOver.f k l r u v o) R ∧ Ev (fun k => impl_AggOver.f k l r u v o) R := by
  obtain ⟨b, hb, hs, hm⟩ := good_both l r (by omega)
  have s0 : Ev (fun k => spec_AggOver.j0 k l u v o true) (0, false) := ev_succ (ev_now fun k => by simp [spec_AggOver.j0])
  have i0 : Ev (fun k => impl_AggOver.j0 k l o true u v) (0, false) := ev_succ (ev_now fun k => by simp [impl_AggOver.j0])
  unfold spec_AggOver.f impl_AggOver.f
  cases b with
  | false =>
    refine ⟨(0, false), Ev.bind hs ?_, Ev.bind hm ?_⟩
    · simp only [Bool.false_eq_true, if_false]; exact s0
    · simp only [Bool.false_eq_true, if_false]; exact i0
  | true =>
    obtain ⟨g0, g1, g2, g3⟩ := hb rfl
    have hr0 : ¬ r = 0 := by omega
    have hc : ∀ x ∈ l, 1 ≤ x.f1 ∧ x.f1 ≤ 2000 := by
      intro x hx
      obtain ⟨i, hi, rfl⟩ := List.getElem_of_mem hx
      have hk := g3 i hi
      have e : rd_T55 l (i : Int) = l[i] := by unfold rd_T55; rw [Int.toNat_natCast]; exact getD_at _ _ _ hi
      rw [← e]
      exact ⟨hk.c1, hk.c2⟩
    suffices hh : ∃ R, Ev (fun k => (spec_l11Span.f u v).bind fun t114 => (if t114 = true then (if u ≥ 0 then (if r = 0 then (none) else (if (Int.tmod u r) = 0 then (spec_AggOver.j0 k l u v o ((Int.tmod v r) != 0)) else (spec_AggOver.j0 k l u v o true))) else (if r = 0 then (none) else (spec_AggOver.j0 k l u v o ((Int.tmod v r) != 0)))) else (spec_AggOver.j0 k l u v o true))) R ∧
        Ev (fun k => (impl_goodOver.f u v o).bind fun t187 => (if t187 = true then (if u = (-1) then (if v = (-1) then (impl_AggOver.j0 k l o false u v) else (if r = 0 then (none) else (impl_AggOver.j0 k l o ((Int.tmod v r) != 0) u v))) else (if r = 0 then (none) else (if (Int.tmod u r) = 0 then (if v = (-1) then (impl_AggOver.j0 k l o false u v) else (impl_AggOver.j0 k l o ((Int.tmod v r) != 0) u v)) else (impl_AggOver.j0 k l o true u v)))) else (impl_AggOver.j0 k l o true u v))) R by
      obtain ⟨R, h1, h2⟩ := hh
      refine ⟨R, Ev.bind hs ?_, Ev.bind hm ?_⟩
      · simp only [if_true]; exact h1
      · simp only [if_true]; exact h2
    simp only [span_f, over_f, Option.bind_some, if_neg hr0]
    by_cases hS : -1 ≤ u ∧ -1 ≤ v ∧ u ≤ v ∧ v ≤ 1000000000000
    · by_cases ho : 1 ≤ o ∧ o ≤ 8
      · simp only [show decide (-1 ≤ u ∧ -1 ≤ v ∧ u ≤ v ∧ v ≤ 1000000000000) = true from decide_eq_true hS, show decide ((-1 ≤ u ∧ -1 ≤ v ∧ u ≤ v ∧ v ≤ 1000000000000) ∧ 1 ≤ o ∧ o ≤ 8) = true from decide_eq_true ⟨hS, ho⟩, if_true]
        obtain ⟨S1, S2, S3, S4⟩ := hS
        obtain ⟨R, q0, q1, q2⟩ := core l u v o g0 hc ho.1 ho.2
        by_cases hv : v = -1
        · have hu : u = -1 := by omega
          have hin : inside u v l = [] := by
            unfold inside
            rw [List.filter_eq_nil_iff]
            intro x _
            simp
            omega
          have e := q0 hin
          subst e
          simp only [if_pos hu, if_pos hv, if_neg (show ¬ u ≥ 0 by omega)]
          refine ⟨(0, false), ?_, q2⟩
          cases hb2 : (Int.tmod v r != 0)
          · exact q1
          · exact s0
        · have same : ∃ R, Ev (fun k => spec_AggOver.j0 k l u v o (Int.tmod v r != 0)) R ∧ Ev (fun k => impl_AggOver.j0 k l o (Int.tmod v r != 0) u v) R := by
            cases hb2 : (Int.tmod v r != 0)
            · exact ⟨R, q1, q2⟩
            · exact ⟨(0, false), s0, i0⟩
          by_cases hu : u = -1
          · simp only [if_pos hu, if_neg hv, if_neg (show ¬ u ≥ 0 by omega)]
            exact same
          · simp only [if_neg hu, if_neg hv, if_pos (show u ≥ 0 by omega)]
            by_cases hm2 : Int.tmod u r = 0
            · simp only [if_pos hm2]
              exact same
            · simp only [if_neg hm2]
              exact ⟨(0, false), s0, i0⟩
      · have hno : ¬ ((-1 ≤ u ∧ -1 ≤ v ∧ u ≤ v ∧ v ≤ 1000000000000) ∧ 1 ≤ o ∧ o ≤ 8) := fun h => ho h.2
        simp only [show decide (-1 ≤ u ∧ -1 ≤ v ∧ u ≤ v ∧ v ≤ 1000000000000) = true from decide_eq_true hS, show decide ((-1 ≤ u ∧ -1 ≤ v ∧ u ≤ v ∧ v ≤ 1000000000000) ∧ 1 ≤ o ∧ o ≤ 8) = false from decide_eq_false hno, Bool.false_eq_true, if_true, if_false]
        refine ⟨(0, false), ?_, i0⟩
        have sf : Ev (fun k => spec_AggOver.j0 k l u v o false) (0, false) := by
          have h1 := spec_loop u v o l [] ⟨0, 0, 0, 0, 0, 0, 0, 0⟩ (0, false) (by simp; omega) (by
            unfold told
            split
            · rfl
            · rw [over_none _ _ _ _ _ _ _ _ _ (by omega)]; rfl)
          refine ev_succ ?_
          simp only [spec_AggOver.j0, Bool.false_eq_true, if_false]
          exact h1
        have same : Ev (fun k => spec_AggOver.j0 k l u v o (Int.tmod v r != 0)) (0, false) := by
          cases hb2 : (Int.tmod v r != 0)
          · exact sf
          · exact s0
        by_cases hu : u ≥ 0
        · simp only [if_pos hu]
          by_cases hm2 : Int.tmod u r = 0
          · simp only [if_pos hm2]; exact same
          · simp only [if_neg hm2]; exact s0
        · simp only [if_neg hu]; exact same
    · have hno : ¬ ((-1 ≤ u ∧ -1 ≤ v ∧ u ≤ v ∧ v ≤ 1000000000000) ∧ 1 ≤ o ∧ o ≤ 8) := fun h => hS h.1
      simp only [show decide (-1 ≤ u ∧ -1 ≤ v ∧ u ≤ v ∧ v ≤ 1000000000000) = false from decide_eq_false hS, show decide ((-1 ≤ u ∧ -1 ≤ v ∧ u ≤ v ∧ v ≤ 1000000000000) ∧ 1 ≤ o ∧ o ≤ 8) = false from decide_eq_false hno, Bool.false_eq_true, if_false]
      exact ⟨(0, false), s0, i0⟩

theorem FnExactAggOver : Law.Pure := by
  intro l r u v o ⟨hl, hw⟩ _ _ _ _
  refine Ev.rounds ?_
  unfold laws_FnExactAggOver.f
  rw [szAggS_f l 1048576 hl (by decide) (by decide)]
  by_cases h1 : (l.length : Int) ≤ 1048576
  · rw [if_pos h1]
    simp only [Option.bind_some, if_neg (show ¬ (1048576 : Int) - l.length < 0 by omega)]
    have ta := toAggS_ev l (by omega)
    have la : (l.map toAggM).length = l.length := List.length_map _
    obtain ⟨R, r2, r3⟩ := both (l.map toAggM) r u v o (by omega)
    refine Ev.bind ta (Ev.bind r2 (Ev.bind ta (Ev.bind r3 ?_)))
    simp only [if_true, bne_self_eq_false]
    refine ev_succ ?_
    simp only [laws_FnExactAggOver.j0, Bool.false_eq_true, if_false]
    refine Ev.bind ta (Ev.bind (eqAggS_ev _ (by omega)) ?_)
    simp only [if_true]
    exact Ev.now _
  · rw [if_neg h1]
    exact ev_now fun k => by simp

end Go.Proofs.Ytppifefhpjhmaab.Pure
