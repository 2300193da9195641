/- The given program's DownAggs and the reference's give the same windows, in memory of their own, for all arguments. No condition. -/
import Derived.Test.YtppifefhpjhmaaaPreFnExactDownAggs
import Derived.Test.YtppifefhpjhmaaaKit
namespace Go.Proofs.Ytppifefhpjhmaaa.Pure
open Go.RowKit Go.Proofs.Ytppifefhpjhmaaa.PFnExactDownAggs Go.Proofs.YtppifefhpjhmaaaW.PrintWords Go.Proofs.YtppifefhpjhmaaaW.PrintLast Go.Proofs.YtppifefhpjhmaaaW.PrintMore Go.Proofs.Ytppifefhpjhmaaa.Kit Go.Proofs.Ytppifefhpjhmaaa.PreFnExactDownAggs
set_option linter.unusedVariables false
set_option linter.unusedSimpArgs false

def toAggM (x : S78) : S24 := ⟨x.f0, x.f1, x.f2, x.f3, x.f4, x.f5, x.f6, x.f7⟩
theorem toAgg_f (x : S78) : laws_toAgg.f x.f0 x.f1 x.f2 x.f3 x.f4 x.f5 x.f6 x.f7 = some (x.f0, x.f1, x.f2, x.f3, x.f4, x.f5, x.f6, x.f7) := rfl
theorem szAggS_f (l : List S78) (m : Int) (hl : l.length ≤ 9223372036854775807) (h0 : 0 ≤ m) (h1 : m ≤ 9223372036854775807) : laws_szAggS.f l m = some (if (l.length : Int) ≤ m then m - l.length else -1) := by
  unfold laws_szAggS.f
  rw [w64 (by omega) (by omega)]
  by_cases h : (l.length : Int) ≤ m
  · rw [if_neg (by omega), if_pos h]
  · rw [if_pos (by omega), if_neg h]
theorem toAggS_loop (rest : List S78) : ∀ (pre : List S78) (zs : List S24), zs.length = rest.length → (pre ++ rest).length ≤ 9223372036854775806 →
    Ev (fun k => laws_toAggS.l0 k (pre ++ rest) (pre.map toAggM ++ zs) (pre.length : Int)) ((pre ++ rest).map toAggM) := by
  induction rest with
  | nil =>
    intro pre zs hz _
    obtain rfl : zs = [] := List.eq_nil_of_length_eq_zero hz
    refine ev_succ (ev_now fun k => ?_)
    simp [laws_toAggS.l0]
  | cons x rest ih =>
    intro pre zs hz hl
    cases zs with
    | nil => simp at hz
    | cons z zs =>
      have h := ih (pre ++ [x]) zs (by simpa using hz) (by simpa using hl)
      have hlen : (pre ++ x :: rest).length = pre.length + 1 + rest.length := by simp; omega
      refine ev_succ ?_
      have e1 : ((pre.length : Nat) : Int) < ((pre ++ x :: rest).length : Int) := len_mid _ _ _
      have e2 : ((pre.length : Nat) : Int) < ((pre.map toAggM ++ z :: zs).length : Int) := by have := len_mid (pre.map toAggM) zs z; simpa using this
      have e3 : rd_T78 (pre ++ x :: rest) (pre.length : Int) = x := by unfold rd_T78; rw [Int.toNat_natCast]; exact getD_mid _ _ _ _
      have e4 : (pre.map toAggM ++ z :: zs).set (pre.length : Int).toNat (toAggM x) = (pre ++ [x]).map toAggM ++ zs := by
        rw [Int.toNat_natCast]
        have := set_mid (pre.map toAggM) zs z (toAggM x)
        rw [List.length_map] at this
        rw [this, List.map_append]; rfl
      have e5 : wrap64 ((pre.length : Int) + 1) = ((pre ++ [x]).length : Int) := by rw [len_succ]; exact w64 (by omega) (by omega)
      rw [mid_assoc]
      refine Ev.congr (fun k => ?_) h
      simp only [laws_toAggS.l0]
      rw [mid_assoc] at e1 e3
      rw [if_pos e1, if_pos (by omega : (0 : Int) ≤ pre.length), e3, toAgg_f, Option.bind_some, if_pos e2, e5]
      exact congrArg (fun l => laws_toAggS.l0 k _ l _) e4
theorem toAggS_ev (l : List S78) (hl : l.length ≤ 1048576) : Ev (fun k => laws_toAggS.f k l) (l.map toAggM) := by
  have h := toAggS_loop l [] (List.replicate l.length z24) (by simp) (by simp; omega)
  refine Ev.congr (fun k => ?_) h
  unfold laws_toAggS.f
  rw [if_pos (by omega), if_pos (by simp; omega)]
  simp
theorem eqAgg_self (x : S24) : laws_eqAgg.f x.f0 x.f1 x.f2 x.f3 x.f4 x.f5 x.f6 x.f7 x.f0 x.f1 x.f2 x.f3 x.f4 x.f5 x.f6 x.f7 = some true := by simp [laws_eqAgg.f]
theorem eqAggS_loop (rest : List S24) : ∀ (pre : List S24), (pre ++ rest).length ≤ 9223372036854775806 → Ev (fun k => laws_eqAggS.l0 k (pre ++ rest) (pre ++ rest) (pre.length : Int)) true := by
  induction rest with
  | nil =>
    intro pre _
    refine ev_succ (ev_now fun k => ?_)
    simp [laws_eqAggS.l0]
  | cons x rest ih =>
    intro pre hl
    have h := ih (pre ++ [x]) (by simpa using hl)
    have hlen : (pre ++ x :: rest).length = pre.length + 1 + rest.length := by simp; omega
    refine ev_succ ?_
    have e1 : ((pre.length : Nat) : Int) < ((pre ++ x :: rest).length : Int) := len_mid _ _ _
    have e3 : rd_T24 (pre ++ x :: rest) (pre.length : Int) = x := by unfold rd_T24; rw [Int.toNat_natCast]; exact getD_mid _ _ _ _
    have e5 : wrap64 ((pre.length : Int) + 1) = ((pre ++ [x]).length : Int) := by rw [len_succ]; exact w64 (by omega) (by omega)
    rw [mid_assoc]
    refine Ev.congr (fun k => ?_) h
    simp only [laws_eqAggS.l0]
    rw [mid_assoc] at e1 e3
    rw [if_pos e1, if_pos (by omega : (0 : Int) ≤ pre.length), if_pos e1, e3, eqAgg_self, Option.bind_some, if_pos rfl, e5]
theorem eqAggS_ev (l : List S24) (hl : l.length ≤ 9223372036854775806) : Ev (fun k => laws_eqAggS.f k l l) true := by
  have h := eqAggS_loop l [] (by simpa using hl)
  refine Ev.congr (fun k => ?_) h
  unfold laws_eqAggS.f
  rw [if_pos rfl]
  simp
/-- The list, marked from c on. -/
def markAggM : List S24 → Int → List S24
  | [], _ => []
  | _ :: l, c => (⟨c, c + 1, c + 2, c + 3, c + 4, c + 5, c + 6, c + 7⟩ : S24) :: markAggM l (c + 8)
theorem markAggM_length (l : List S24) : ∀ c, (markAggM l c).length = l.length := by
  induction l with
  | nil => intro c; rfl
  | cons x l ih => intro c; simp [markAggM, ih]
theorem markAggS_loop (rest : List S24) : ∀ (pre : List S24) (c : Int), 0 ≤ c → c + 8 * rest.length ≤ 9223372036854775000 → (pre ++ rest).length ≤ 9223372036854775000 →
    Ev (fun k => laws_markAggS.l0 k (pre ++ rest) c (pre.length : Int)) (c + 8 * rest.length, pre ++ markAggM rest c) := by
  induction rest with
  | nil =>
    intro pre c _ _ _
    refine ev_succ (ev_now fun k => ?_)
    simp [laws_markAggS.l0, markAggM]
  | cons x rest ih =>
    intro pre c h0 h1 hl
    have hc : ((x :: rest).length : Int) = rest.length + 1 := by simp
    rw [hc] at h1
    have hlen : (pre ++ x :: rest).length = pre.length + 1 + rest.length := by simp; omega
    have h := ih (pre ++ [(⟨c, c + 1, c + 2, c + 3, c + 4, c + 5, c + 6, c + 7⟩ : S24)]) (c + 8) (by omega) (by omega) (by simp at hl ⊢; omega)
    have er : (c + 8 + 8 * (rest.length : Int), (pre ++ [(⟨c, c + 1, c + 2, c + 3, c + 4, c + 5, c + 6, c + 7⟩ : S24)]) ++ markAggM rest (c + 8)) = (c + 8 * ((x :: rest).length : Int), pre ++ markAggM (x :: rest) c) := by
      rw [hc, markAggM]
      simp only [List.append_assoc, List.singleton_append, Prod.mk.injEq, and_true]
      omega
    refine ev_succ ?_
    have e1 : ((pre.length : Nat) : Int) < ((pre ++ x :: rest).length : Int) := len_mid _ _ _
    have e3 : ∀ y : S24, rd_T24 (pre ++ y :: rest) (pre.length : Int) = y := by intro y; unfold rd_T24; rw [Int.toNat_natCast]; exact getD_mid _ _ _ _
    have e4 : ∀ y z : S24, (pre ++ y :: rest).set (pre.length : Int).toNat z = pre ++ z :: rest := by intro y z; rw [Int.toNat_natCast, set_mid, ← mid_assoc]
    have e5 : ∀ y : S24, wrap64 ((pre.length : Int) + 1) = ((pre ++ [y]).length : Int) := by intro y; rw [len_succ]; exact w64 (by omega) (by omega)
    have a1 : wrap64 (c + 1) = c + 1 := by rw [w64 (by omega) (by omega)]
    have a2 : wrap64 (c + 1 + 1) = c + 2 := by rw [w64 (by omega) (by omega)]; omega
    have a3 : wrap64 (c + 2 + 1) = c + 3 := by rw [w64 (by omega) (by omega)]; omega
    have a4 : wrap64 (c + 3 + 1) = c + 4 := by rw [w64 (by omega) (by omega)]; omega
    have a5 : wrap64 (c + 4 + 1) = c + 5 := by rw [w64 (by omega) (by omega)]; omega
    have a6 : wrap64 (c + 5 + 1) = c + 6 := by rw [w64 (by omega) (by omega)]; omega
    have a7 : wrap64 (c + 6 + 1) = c + 7 := by rw [w64 (by omega) (by omega)]; omega
    have a8 : wrap64 (c + 7 + 1) = c + 8 := by rw [w64 (by omega) (by omega)]; omega
    refine ev_eq (Ev.congr (fun k => ?_) h) er
    simp only [laws_markAggS.l0]
    rw [if_pos e1, if_pos (by omega : (0 : Int) ≤ pre.length)]
    simp only [e3, e4, Option.bind_some, a1, a2, a3, a4, a5, a6, a7, a8]
    rw [e5 (⟨c, c + 1, c + 2, c + 3, c + 4, c + 5, c + 6, c + 7⟩ : S24), mid_assoc]
theorem markAggS_ev (l : List S24) (c : Int) (h0 : 0 ≤ c) (h1 : c + 8 * l.length ≤ 9223372036854775000) : Ev (fun k => laws_markAggS.f k l c) (c + 8 * l.length, markAggM l c) := by
  have h := markAggS_loop l [] c h0 h1 (by simp; omega)
  exact h
theorem heldAggS_loop (rest : List S24) : ∀ (pre : List S24) (c : Int), 0 ≤ c → c + 8 * rest.length ≤ 9223372036854775000 → (pre ++ rest).length ≤ 9223372036854775000 →
    Ev (fun k => laws_heldAggS.l0 k (pre ++ markAggM rest c) c (pre.length : Int)) (c + 8 * rest.length) := by
  induction rest with
  | nil =>
    intro pre c _ _ _
    refine ev_succ (ev_now fun k => ?_)
    simp [laws_heldAggS.l0, markAggM]
  | cons x rest ih =>
    intro pre c h0 h1 hl
    have hc : ((x :: rest).length : Int) = rest.length + 1 := by simp
    rw [hc] at h1
    have hlen : (pre ++ x :: rest).length = pre.length + 1 + rest.length := by simp; omega
    have h := ih (pre ++ [(⟨c, c + 1, c + 2, c + 3, c + 4, c + 5, c + 6, c + 7⟩ : S24)]) (c + 8) (by omega) (by omega) (by simp at hl ⊢; omega)
    rw [markAggM]
    have e1 : ((pre.length : Nat) : Int) < ((pre ++ (⟨c, c + 1, c + 2, c + 3, c + 4, c + 5, c + 6, c + 7⟩ : S24) :: markAggM rest (c + 8)).length : Int) := len_mid _ _ _
    have e3 : rd_T24 (pre ++ (⟨c, c + 1, c + 2, c + 3, c + 4, c + 5, c + 6, c + 7⟩ : S24) :: markAggM rest (c + 8)) (pre.length : Int) = (⟨c, c + 1, c + 2, c + 3, c + 4, c + 5, c + 6, c + 7⟩ : S24) := by unfold rd_T24; rw [Int.toNat_natCast]; exact getD_mid _ _ _ _
    have e5 : ∀ y : S24, wrap64 ((pre.length : Int) + 1) = ((pre ++ [y]).length : Int) := by intro y; rw [len_succ]; exact w64 (by omega) (by omega)
    have a1 : wrap64 (c + 1) = c + 1 := by rw [w64 (by omega) (by omega)]
    have a2 : wrap64 (c + 1 + 1) = c + 2 := by rw [w64 (by omega) (by omega)]; omega
    have a3 : wrap64 (c + 2 + 1) = c + 3 := by rw [w64 (by omega) (by omega)]; omega
    have a4 : wrap64 (c + 3 + 1) = c + 4 := by rw [w64 (by omega) (by omega)]; omega
    have a5 : wrap64 (c + 4 + 1) = c + 5 := by rw [w64 (by omega) (by omega)]; omega
    have a6 : wrap64 (c + 5 + 1) = c + 6 := by rw [w64 (by omega) (by omega)]; omega
    have a7 : wrap64 (c + 6 + 1) = c + 7 := by rw [w64 (by omega) (by omega)]; omega
    have a8 : wrap64 (c + 7 + 1) = c + 8 := by rw [w64 (by omega) (by omega)]; omega
    refine ev_succ ?_
    refine ev_eq (Ev.congr (fun k => ?_) h) (by rw [hc]; omega)
    simp only [laws_heldAggS.l0]
    rw [if_pos e1, if_pos (by omega : (0 : Int) ≤ pre.length)]
    simp only [e3, a1, a2, a3, a4, a5, a6, a7, a8, if_true]
    rw [e5 (⟨c, c + 1, c + 2, c + 3, c + 4, c + 5, c + 6, c + 7⟩ : S24), mid_assoc]
theorem heldAggS_ev (l : List S24) (c : Int) (h0 : 0 ≤ c) (h1 : c + 8 * l.length ≤ 9223372036854775000) : Ev (fun k => laws_heldAggS.f k (markAggM l c) c) (c + 8 * l.length) :=
  heldAggS_loop l [] c h0 h1 (by simp; omega)

/-- What is known of a good list's window number j. -/
structure OkAt (l : List S24) (r : Int) (j : Nat) : Prop where
  div : Int.tmod (rd_T24 l (j : Int)).f0 r = 0
  lo : 0 ≤ (rd_T24 l (j : Int)).f0
  hi : (rd_T24 l (j : Int)).f0 ≤ 1000001000000
  up : 0 < j → (rd_T24 l ((j : Int) - 1)).f0 < (rd_T24 l (j : Int)).f0
  c1 : 1 ≤ (rd_T24 l (j : Int)).f1
  c2 : (rd_T24 l (j : Int)).f1 ≤ 2000
theorem sj2_true (l : List S24) (r n i a b c d e f g h : Int) : Ev (fun k => spec_GoodAggs.j2 k l r l n i true a b c d e f g h) false := ev_succ (ev_now fun k => by simp [spec_GoodAggs.j2])
theorem sj3_true (l : List S24) (r n i : Int) : Ev (fun k => spec_GoodAggs.j3 k l r l n i true) false := ev_succ (ev_now fun k => by simp [spec_GoodAggs.j3])
theorem ij2_true (l : List S24) (r n i : Int) : Ev (fun k => impl_GoodAggs.j2 k l r l n i true) false := ev_succ (ev_now fun k => by simp [impl_GoodAggs.j2])
/-- Both loops answer alike. -/
theorem good_loop (l : List S24) (r : Int) (hr : r ≠ 0) (hn : l.length ≤ 9223372036854775000) : ∀ i, i ≤ l.length → ∃ b, (b = true → ∀ j, i ≤ j → j < l.length → OkAt l r j) ∧ Ev (fun k => spec_GoodAggs.l0 k l r l (l.length : Int) (i : Int)) b ∧ Ev (fun k => impl_GoodAggs.l0 k l r l (l.length : Int) (i : Int)) b := by
  refine down ⟨true, fun _ j a b => by omega, ev_succ (ev_now fun k => by simp [spec_GoodAggs.l0]), ev_succ (ev_now fun k => by simp [impl_GoodAggs.l0])⟩ ?_
  rintro i hi ⟨b, hb, hs, hm⟩
  have hI : (i : Int) < (l.length : Int) := by omega
  have h0 : 0 ≤ (i : Int) := by omega
  have e1 : wrap64 ((i : Int) + 1) = ((i + 1 : Nat) : Int) := w64_succ hi (by omega)
  have p0 : (i : Int) > 0 → 0 ≤ wrap64 ((i : Int) - 1) := fun h => by rw [w64 (by omega) (by omega)]; omega
  have p1 : (i : Int) > 0 → wrap64 ((i : Int) - 1) < (l.length : Int) := fun h => by rw [w64 (by omega) (by omega)]; omega
  have im : Ev (fun k => impl_GoodAggs.j2 k l r l (l.length : Int) (i : Int) false) b := by
    refine ev_succ ?_
    simp only [impl_GoodAggs.j2, Bool.false_eq_true, if_false, e1]
    exact hm
  have sm : Ev (fun k => spec_GoodAggs.j3 k l r l (l.length : Int) (i : Int) false) b := by
    refine ev_succ ?_
    simp only [spec_GoodAggs.j3, Bool.false_eq_true, if_false, e1]
    exact hs

  by_cases c1 : Int.tmod (rd_T24 l (i : Int)).f0 r = 0
  · skip
    by_cases c2 : (rd_T24 l (i : Int)).f0 < 0
    · skip
      refine ⟨false, fun e => (by cases e), ev_succ ?_, ev_succ ?_⟩
      · simp only [spec_GoodAggs.l0, if_pos hI, if_pos h0, if_neg hr, if_pos c1, if_pos c2]
        exact sj2_true _ _ _ _ _ _ _ _ _ _ _ _
      · simp only [impl_GoodAggs.l0, if_pos hI, if_pos h0, if_neg hr, if_pos c1, if_pos c2]
        exact ij2_true _ _ _ _
    · skip
      by_cases c3 : (rd_T24 l (i : Int)).f0 > 1000001000000
      · skip
        refine ⟨false, fun e => (by cases e), ev_succ ?_, ev_succ ?_⟩
        · simp only [spec_GoodAggs.l0, if_pos hI, if_pos h0, if_neg hr, if_pos c1, if_neg c2, if_pos c3]
          exact sj2_true _ _ _ _ _ _ _ _ _ _ _ _
        · simp only [impl_GoodAggs.l0, if_pos hI, if_pos h0, if_neg hr, if_pos c1, if_neg c2, if_pos c3]
          exact ij2_true _ _ _ _
      · skip
        by_cases c4 : (i : Int) > 0
        · skip
          by_cases c5 : (rd_T24 l (wrap64 ((i : Int) - 1))).f0 ≥ (rd_T24 l (i : Int)).f0
          · skip
            refine ⟨false, fun e => (by cases e), ev_succ ?_, ev_succ ?_⟩
            · simp only [spec_GoodAggs.l0, if_pos hI, if_pos h0, if_neg hr, if_pos c1, if_neg c2, if_neg c3, if_pos c4, if_pos c5, if_pos (p0 c4), if_pos (p1 c4)]
              exact sj2_true _ _ _ _ _ _ _ _ _ _ _ _
            · simp only [impl_GoodAggs.l0, if_pos hI, if_pos h0, if_neg hr, if_pos c1, if_neg c2, if_neg c3, if_pos c4, if_pos c5, if_pos (p0 c4), if_pos (p1 c4)]
              exact ij2_true _ _ _ _
          · skip
            by_cases c6 : (rd_T24 l (i : Int)).f1 < 1
            · skip
              refine ⟨false, fun e => (by cases e), ev_succ ?_, ev_succ ?_⟩
              · simp only [spec_GoodAggs.l0, if_pos hI, if_pos h0, if_neg hr, if_pos c1, if_neg c2, if_neg c3, if_pos c4, if_neg c5, if_pos c6, if_pos (p0 c4), if_pos (p1 c4)]
                exact sj2_true _ _ _ _ _ _ _ _ _ _ _ _
              · simp only [impl_GoodAggs.l0, if_pos hI, if_pos h0, if_neg hr, if_pos c1, if_neg c2, if_neg c3, if_pos c4, if_neg c5, if_pos c6, if_pos (p0 c4), if_pos (p1 c4)]
                exact ij2_true _ _ _ _
            · skip
              by_cases c7 : (rd_T24 l (i : Int)).f1 > 2000
              · skip
                refine ⟨false, fun e => (by cases e), ev_succ ?_, ev_succ ?_⟩
                · simp only [spec_GoodAggs.l0, if_pos hI, if_pos h0, if_neg hr, if_pos c1, if_neg c2, if_neg c3, if_pos c4, if_neg c5, if_neg c6, if_pos (p0 c4), if_pos (p1 c4), show decide ((rd_T24 l (i : Int)).f1 > 2000) = true from decide_eq_true c7]
                  exact sj2_true _ _ _ _ _ _ _ _ _ _ _ _
                · simp only [impl_GoodAggs.l0, if_pos hI, if_pos h0, if_neg hr, if_pos c1, if_neg c2, if_neg c3, if_pos c4, if_neg c5, if_neg c6, if_pos (p0 c4), if_pos (p1 c4), if_pos c7]
                  exact ij2_true _ _ _ _
              · skip
                by_cases c8 : (rd_T24 l (i : Int)).f5 < (rd_T24 l (i : Int)).f3
                · skip
                  refine ⟨false, fun e => (by cases e), ev_succ ?_, ev_succ ?_⟩
                  · simp only [spec_GoodAggs.l0, if_pos hI, if_pos h0, if_neg hr, if_pos c1, if_neg c2, if_neg c3, if_pos c4, if_neg c5, if_neg c6, if_pos (p0 c4), if_pos (p1 c4), show decide ((rd_T24 l (i : Int)).f1 > 2000) = false from decide_eq_false c7]
                    refine ev_succ ?_
                    simp only [spec_GoodAggs.j2, Bool.false_eq_true, if_false, if_pos c8]
                    exact sj3_true _ _ _ _
                  · simp only [impl_GoodAggs.l0, if_pos hI, if_pos h0, if_neg hr, if_pos c1, if_neg c2, if_neg c3, if_pos c4, if_neg c5, if_neg c6, if_pos c8, if_pos (p0 c4), if_pos (p1 c4), if_neg c7]
                    exact ij2_true _ _ _ _
                · skip
                  by_cases c9 : (rd_T24 l (i : Int)).f5 > (rd_T24 l (i : Int)).f4
                  · skip
                    refine ⟨false, fun e => (by cases e), ev_succ ?_, ev_succ ?_⟩
                    · simp only [spec_GoodAggs.l0, if_pos hI, if_pos h0, if_neg hr, if_pos c1, if_neg c2, if_neg c3, if_pos c4, if_neg c5, if_neg c6, if_pos (p0 c4), if_pos (p1 c4), show decide ((rd_T24 l (i : Int)).f1 > 2000) = false from decide_eq_false c7]
                      refine ev_succ ?_
                      simp only [spec_GoodAggs.j2, Bool.false_eq_true, if_false, if_neg c8, if_pos c9]
                      exact sj3_true _ _ _ _
                    · simp only [impl_GoodAggs.l0, if_pos hI, if_pos h0, if_neg hr, if_pos c1, if_neg c2, if_neg c3, if_pos c4, if_neg c5, if_neg c6, if_neg c8, if_pos c9, if_pos (p0 c4), if_pos (p1 c4), if_neg c7]
                      exact ij2_true _ _ _ _
                  · skip
                    by_cases ca : (rd_T24 l (i : Int)).f6 < (rd_T24 l (i : Int)).f3
                    · skip
                      refine ⟨false, fun e => (by cases e), ev_succ ?_, ev_succ ?_⟩
                      · simp only [spec_GoodAggs.l0, if_pos hI, if_pos h0, if_neg hr, if_pos c1, if_neg c2, if_neg c3, if_pos c4, if_neg c5, if_neg c6, if_pos (p0 c4), if_pos (p1 c4), show decide ((rd_T24 l (i : Int)).f1 > 2000) = false from decide_eq_false c7]
                        refine ev_succ ?_
                        simp only [spec_GoodAggs.j2, Bool.false_eq_true, if_false, if_neg c8, if_neg c9, if_pos ca]
                        exact sj3_true _ _ _ _
                      · simp only [impl_GoodAggs.l0, if_pos hI, if_pos h0, if_neg hr, if_pos c1, if_neg c2, if_neg c3, if_pos c4, if_neg c5, if_neg c6, if_neg c8, if_neg c9, if_pos ca, if_pos (p0 c4), if_pos (p1 c4), if_neg c7]
                        exact ij2_true _ _ _ _
                    · skip
                      by_cases cb : (rd_T24 l (i : Int)).f6 > (rd_T24 l (i : Int)).f4
                      · skip
                        refine ⟨false, fun e => (by cases e), ev_succ ?_, ev_succ ?_⟩
                        · simp only [spec_GoodAggs.l0, if_pos hI, if_pos h0, if_neg hr, if_pos c1, if_neg c2, if_neg c3, if_pos c4, if_neg c5, if_neg c6, if_pos (p0 c4), if_pos (p1 c4), show decide ((rd_T24 l (i : Int)).f1 > 2000) = false from decide_eq_false c7]
                          refine ev_succ ?_
                          simp only [spec_GoodAggs.j2, Bool.false_eq_true, if_false, if_neg c8, if_neg c9, if_neg ca, show decide ((rd_T24 l (i : Int)).f6 > (rd_T24 l (i : Int)).f4) = true from decide_eq_true cb]
                          exact sj3_true _ _ _ _
                        · simp only [impl_GoodAggs.l0, if_pos hI, if_pos h0, if_neg hr, if_pos c1, if_neg c2, if_neg c3, if_pos c4, if_neg c5, if_neg c6, if_neg c8, if_neg c9, if_neg ca, if_pos (p0 c4), if_pos (p1 c4), if_neg c7, show decide ((rd_T24 l (i : Int)).f6 > (rd_T24 l (i : Int)).f4) = true from decide_eq_true cb]
                          exact ij2_true _ _ _ _
                      · skip
                        have hok : OkAt l r i := ⟨c1, by omega, by omega, fun _ => by rw [w64 (by omega) (by omega)] at c5; omega, by omega, by omega⟩
                        refine ⟨b, fun e j h1 h2 => ?_, ev_succ ?_, ev_succ ?_⟩
                        · rcases Nat.eq_or_lt_of_le h1 with rfl | h3
                          · exact hok
                          · exact hb e j h3 h2
                        · simp only [spec_GoodAggs.l0, if_pos hI, if_pos h0, if_neg hr, if_pos c1, if_neg c2, if_neg c3, if_pos c4, if_neg c5, if_neg c6, if_pos (p0 c4), if_pos (p1 c4), show decide ((rd_T24 l (i : Int)).f1 > 2000) = false from decide_eq_false c7]
                          refine ev_succ ?_
                          simp only [spec_GoodAggs.j2, Bool.false_eq_true, if_false, if_neg c8, if_neg c9, if_neg ca, show decide ((rd_T24 l (i : Int)).f6 > (rd_T24 l (i : Int)).f4) = false from decide_eq_false cb]
                          exact sm
                        · simp only [impl_GoodAggs.l0, if_pos hI, if_pos h0, if_neg hr, if_pos c1, if_neg c2, if_neg c3, if_pos c4, if_neg c5, if_neg c6, if_neg c8, if_neg c9, if_neg ca, if_pos (p0 c4), if_pos (p1 c4), if_neg c7, show decide ((rd_T24 l (i : Int)).f6 > (rd_T24 l (i : Int)).f4) = false from decide_eq_false cb]
                          exact im
        · skip
          by_cases c6 : (rd_T24 l (i : Int)).f1 < 1
          · skip
            refine ⟨false, fun e => (by cases e), ev_succ ?_, ev_succ ?_⟩
            · simp only [spec_GoodAggs.l0, if_pos hI, if_pos h0, if_neg hr, if_pos c1, if_neg c2, if_neg c3, if_neg c4, if_pos c6]
              exact sj2_true _ _ _ _ _ _ _ _ _ _ _ _
            · simp only [impl_GoodAggs.l0, if_pos hI, if_pos h0, if_neg hr, if_pos c1, if_neg c2, if_neg c3, if_neg c4, if_pos c6]
              exact ij2_true _ _ _ _
          · skip
            by_cases c7 : (rd_T24 l (i : Int)).f1 > 2000
            · skip
              refine ⟨false, fun e => (by cases e), ev_succ ?_, ev_succ ?_⟩
              · simp only [spec_GoodAggs.l0, if_pos hI, if_pos h0, if_neg hr, if_pos c1, if_neg c2, if_neg c3, if_neg c4, if_neg c6, show decide ((rd_T24 l (i : Int)).f1 > 2000) = true from decide_eq_true c7]
                exact sj2_true _ _ _ _ _ _ _ _ _ _ _ _
              · simp only [impl_GoodAggs.l0, if_pos hI, if_pos h0, if_neg hr, if_pos c1, if_neg c2, if_neg c3, if_neg c4, if_neg c6, if_pos c7]
                exact ij2_true _ _ _ _
            · skip
              by_cases c8 : (rd_T24 l (i : Int)).f5 < (rd_T24 l (i : Int)).f3
              · skip
                refine ⟨false, fun e => (by cases e), ev_succ ?_, ev_succ ?_⟩
                · simp only [spec_GoodAggs.l0, if_pos hI, if_pos h0, if_neg hr, if_pos c1, if_neg c2, if_neg c3, if_neg c4, if_neg c6, show decide ((rd_T24 l (i : Int)).f1 > 2000) = false from decide_eq_false c7]
                  refine ev_succ ?_
                  simp only [spec_GoodAggs.j2, Bool.false_eq_true, if_false, if_pos c8]
                  exact sj3_true _ _ _ _
                · simp only [impl_GoodAggs.l0, if_pos hI, if_pos h0, if_neg hr, if_pos c1, if_neg c2, if_neg c3, if_neg c4, if_neg c6, if_pos c8, if_neg c7]
                  exact ij2_true _ _ _ _
              · skip
                by_cases c9 : (rd_T24 l (i : Int)).f5 > (rd_T24 l (i : Int)).f4
                · skip
                  refine ⟨false, fun e => (by cases e), ev_succ ?_, ev_succ ?_⟩
                  · simp only [spec_GoodAggs.l0, if_pos hI, if_pos h0, if_neg hr, if_pos c1, if_neg c2, if_neg c3, if_neg c4, if_neg c6, show decide ((rd_T24 l (i : Int)).f1 > 2000) = false from decide_eq_false c7]
                    refine ev_succ ?_
                    simp only [spec_GoodAggs.j2, Bool.false_eq_true, if_false, if_neg c8, if_pos c9]
                    exact sj3_true _ _ _ _
                  · simp only [impl_GoodAggs.l0, if_pos hI, if_pos h0, if_neg hr, if_pos c1, if_neg c2, if_neg c3, if_neg c4, if_neg c6, if_neg c8, if_pos c9, if_neg c7]
                    exact ij2_true _ _ _ _
                · skip
                  by_cases ca : (rd_T24 l (i : Int)).f6 < (rd_T24 l (i : Int)).f3
                  · skip
                    refine ⟨false, fun e => (by cases e), ev_succ ?_, ev_succ ?_⟩
                    · simp only [spec_GoodAggs.l0, if_pos hI, if_pos h0, if_neg hr, if_pos c1, if_neg c2, if_neg c3, if_neg c4, if_neg c6, show decide ((rd_T24 l (i : Int)).f1 > 2000) = false from decide_eq_false c7]
                      refine ev_succ ?_
                      simp only [spec_GoodAggs.j2, Bool.false_eq_true, if_false, if_neg c8, if_neg c9, if_pos ca]
                      exact sj3_true _ _ _ _
                    · simp only [impl_GoodAggs.l0, if_pos hI, if_pos h0, if_neg hr, if_pos c1, if_neg c2, if_neg c3, if_neg c4, if_neg c6, if_neg c8, if_neg c9, if_pos ca, if_neg c7]
                      exact ij2_true _ _ _ _
                  · skip
                    by_cases cb : (rd_T24 l (i : Int)).f6 > (rd_T24 l (i : Int)).f4
                    · skip
                      refine ⟨false, fun e => (by cases e), ev_succ ?_, ev_succ ?_⟩
                      · simp only [spec_GoodAggs.l0, if_pos hI, if_pos h0, if_neg hr, if_pos c1, if_neg c2, if_neg c3, if_neg c4, if_neg c6, show decide ((rd_T24 l (i : Int)).f1 > 2000) = false from decide_eq_false c7]
                        refine ev_succ ?_
                        simp only [spec_GoodAggs.j2, Bool.false_eq_true, if_false, if_neg c8, if_neg c9, if_neg ca, show decide ((rd_T24 l (i : Int)).f6 > (rd_T24 l (i : Int)).f4) = true from decide_eq_true cb]
                        exact sj3_true _ _ _ _
                      · simp only [impl_GoodAggs.l0, if_pos hI, if_pos h0, if_neg hr, if_pos c1, if_neg c2, if_neg c3, if_neg c4, if_neg c6, if_neg c8, if_neg c9, if_neg ca, if_neg c7, show decide ((rd_T24 l (i : Int)).f6 > (rd_T24 l (i : Int)).f4) = true from decide_eq_true cb]
                        exact ij2_true _ _ _ _
                    · skip
                      have hok : OkAt l r i := ⟨c1, by omega, by omega, fun h => absurd h (by omega), by omega, by omega⟩
                      refine ⟨b, fun e j h1 h2 => ?_, ev_succ ?_, ev_succ ?_⟩
                      · rcases Nat.eq_or_lt_of_le h1 with rfl | h3
                        · exact hok
                        · exact hb e j h3 h2
                      · simp only [spec_GoodAggs.l0, if_pos hI, if_pos h0, if_neg hr, if_pos c1, if_neg c2, if_neg c3, if_neg c4, if_neg c6, show decide ((rd_T24 l (i : Int)).f1 > 2000) = false from decide_eq_false c7]
                        refine ev_succ ?_
                        simp only [spec_GoodAggs.j2, Bool.false_eq_true, if_false, if_neg c8, if_neg c9, if_neg ca, show decide ((rd_T24 l (i : Int)).f6 > (rd_T24 l (i : Int)).f4) = false from decide_eq_false cb]
                        exact sm
                      · simp only [impl_GoodAggs.l0, if_pos hI, if_pos h0, if_neg hr, if_pos c1, if_neg c2, if_neg c3, if_neg c4, if_neg c6, if_neg c8, if_neg c9, if_neg ca, if_neg c7, show decide ((rd_T24 l (i : Int)).f6 > (rd_T24 l (i : Int)).f4) = false from decide_eq_false cb]
                        exact im
  · skip
    refine ⟨false, fun e => (by cases e), ev_succ ?_, ev_succ ?_⟩
    · simp only [spec_GoodAggs.l0, if_pos hI, if_pos h0, if_neg hr, if_neg c1]
      exact sj2_true _ _ _ _ _ _ _ _ _ _ _ _
    · simp only [impl_GoodAggs.l0, if_pos hI, if_pos h0, if_neg hr, if_neg c1]
      exact ij2_true _ _ _ _

theorem ares_f (r : Int) : spec_l11Res.f r = some (decide (1 ≤ r ∧ r ≤ 1000000)) ∧ impl_goodRes.f r = some (decide (1 ≤ r ∧ r ≤ 1000000)) := by
  unfold spec_l11Res.f impl_goodRes.f
  by_cases h : r ≥ 1
  · rw [if_pos h]
    refine ⟨?_, ?_⟩ <;> (congr 1; rw [decide_eq_decide]; omega)
  · rw [if_neg h]
    refine ⟨?_, ?_⟩ <;> (congr 1; symm; rw [decide_eq_false_iff_not]; omega)
/-- GoodAggs: both answer alike. -/
theorem good_both (l : List S24) (r : Int) (hn : l.length ≤ 9223372036854775000) : ∃ b, (b = true → l.length ≤ 2000 ∧ 1 ≤ r ∧ r ≤ 1000000 ∧ ∀ j, j < l.length → OkAt l r j) ∧ Ev (fun k => spec_GoodAggs.f k l r) b ∧ Ev (fun k => impl_GoodAggs.f k l r) b := by
  obtain ⟨rs, ri⟩ := ares_f r
  have s1 : Ev (fun k => spec_GoodAggs.j0 k l r true) false := ev_succ (ev_now fun k => by simp [spec_GoodAggs.j0])
  have i1 : Ev (fun k => impl_GoodAggs.j0 k l r true) false := ev_succ (ev_now fun k => by simp [impl_GoodAggs.j0])
  unfold spec_GoodAggs.f impl_GoodAggs.f
  simp only [rs, ri, Option.bind_some]
  by_cases hr : 1 ≤ r ∧ r ≤ 1000000
  · simp only [show decide (1 ≤ r ∧ r ≤ 1000000) = true from decide_eq_true hr, if_true]
    by_cases h2 : (l.length : Int) > 2000
    · simp only [h2, decide_true]
      exact ⟨false, fun e => (by cases e), s1, i1⟩
    · simp only [h2, decide_false]
      obtain ⟨b, hb, hs, hm⟩ := good_loop l r (by omega) hn 0 (by omega)
      refine ⟨b, fun e => ⟨by omega, hr.1, hr.2, fun j hj => hb e j (Nat.zero_le _) hj⟩, ev_succ ?_, ev_succ ?_⟩
      · simp only [spec_GoodAggs.j0, Bool.false_eq_true, if_false]
        exact hs
      · simp only [impl_GoodAggs.j0, Bool.false_eq_true, if_false]
        exact hm
  · simp only [show decide (1 ≤ r ∧ r ≤ 1000000) = false from decide_eq_false hr, Bool.false_eq_true, if_false]
    exact ⟨false, fun e => (by cases e), s1, i1⟩


/-! ### windows put together -/
def rise (a b : Int) : Int := if b ≥ a then wrap64 (b - a) else b
theorem specRise_f (a b : Int) : spec_l11Rise.f a b = some (rise a b) := by
  unfold spec_l11Rise.f rise
  split <;> rfl
theorem implRise_f (a b : Int) : impl_riseOver.f a b = some (rise a b) := by
  unfold impl_riseOver.f rise
  split <;> rfl
theorem turn (x y t : Int) : wrap64 (wrap64 (x + t) + y) = wrap64 (wrap64 (x + y) + t) := by
  unfold wrap64
  omega
theorem implM_f (a0 a1 a2 a3 a4 a5 a6 a7 b0 b1 b2 b3 b4 b5 b6 b7 : Int) : impl_MergeAgg.f a0 a1 a2 a3 a4 a5 a6 a7 b0 b1 b2 b3 b4 b5 b6 b7 = some (b0, wrap64 (a1 + b1), wrap64 (a2 + b2), mn a3 b3, mx a4 b4, a5, b6, wrap64 (wrap64 (a7 + b7) + rise a6 b5)) := by
  unfold impl_MergeAgg.f
  rw [implRise_f]
  rfl
theorem specM_ev (a0 a1 a2 a3 a4 a5 a6 a7 b0 b1 b2 b3 b4 b5 b6 b7 : Int) : Ev (fun k => spec_MergeAgg.f k a0 a1 a2 a3 a4 a5 a6 a7 b0 b1 b2 b3 b4 b5 b6 b7) (b0, wrap64 (a1 + b1), wrap64 (a2 + b2), mn a3 b3, mx a4 b4, a5, b6, wrap64 (wrap64 (a7 + b7) + rise a6 b5)) := by
  unfold spec_MergeAgg.f
  refine ev_succ (ev_now fun k => ?_)
  simp only [spec_MergeAgg.j0, specRise_f, Option.bind_some]
  rw [turn]
  unfold mn mx
  by_cases c1 : b3 < a3
  · by_cases c2 : b4 > a4
    · have c3 : a4 < b4 := c2
      simp only [if_pos c1, if_pos c2, if_pos c3]
    · have c3 : ¬ a4 < b4 := c2
      simp only [if_pos c1, if_neg c2, if_neg c3]
  · by_cases c2 : b4 > a4
    · have c3 : a4 < b4 := c2
      simp only [if_neg c1, if_pos c2, if_pos c3]
    · have c3 : ¬ a4 < b4 := c2
      simp only [if_neg c1, if_neg c2, if_neg c3]
def mergeM (a b : S24) : S24 := ⟨b.f0, wrap64 (a.f1 + b.f1), wrap64 (a.f2 + b.f2), mn a.f3 b.f3, mx a.f4 b.f4, a.f5, b.f6, wrap64 (wrap64 (a.f7 + b.f7) + rise a.f6 b.f5)⟩

theorem both_loop (r m : Int) (hw : wrap64 (r * m) ≠ 0) (rest : List S24) : ∀ (pre out : List S24), (pre ++ rest).length ≤ 1048576 → out.length + rest.length ≤ 1048576 →
    ∃ R : List S24, R.length ≤ out.length + rest.length ∧ Ev (fun k => spec_DownAggs.l0 k r m out (pre ++ rest) ((pre ++ rest).length : Int) (pre.length : Int)) R ∧ Ev (fun k => impl_DownAggs.l0 k r m out (pre ++ rest) ((pre ++ rest).length : Int) (pre.length : Int)) R := by
  induction rest with
  | nil =>
    intro pre out _ _
    exact ⟨out, by simp, ev_succ (ev_now fun k => by simp [spec_DownAggs.l0]), ev_succ (ev_now fun k => by simp [impl_DownAggs.l0])⟩
  | cons x rest ih =>
    intro pre out hl ho
    have hlen : (pre ++ x :: rest).length = pre.length + 1 + rest.length := by simp; omega
    have hol : out.length + (rest.length + 1) ≤ 1048576 := by simpa using ho
    have e0 : (0 : Int) ≤ (pre.length : Int) := by omega
    have e1 : (pre.length : Int) < ((pre ++ x :: rest).length : Int) := len_mid _ _ _
    have e3 : rd_T24 (pre ++ x :: rest) (pre.length : Int) = x := by unfold rd_T24; rw [Int.toNat_natCast]; exact getD_mid _ _ _ _
    have e5 : wrap64 ((pre.length : Int) + 1) = ((pre ++ [x]).length : Int) := by rw [len_succ]; exact w64 (by omega) (by omega)
    have ec : out.length < 2199023255552 := by omega
    obtain ⟨t, ts, ti⟩ : ∃ t, spec_l11End.f x.f0 (wrap64 (r * m)) = some t ∧ impl_windowOf.f x.f0 (wrap64 (r * m)) = some t := by
      unfold spec_l11End.f impl_windowOf.f
      exact ⟨_, by rw [if_neg hw], by rw [if_neg hw]⟩
    have happ : ∃ R : List S24, R.length ≤ out.length + (x :: rest).length ∧ Ev (fun k => spec_DownAggs.l0 k r m (out ++ [(⟨t, x.f1, x.f2, x.f3, x.f4, x.f5, x.f6, x.f7⟩ : S24)]) (pre ++ x :: rest) ((pre ++ x :: rest).length : Int) ((pre ++ [x]).length : Int)) R ∧
        Ev (fun k => impl_DownAggs.l0 k r m (out ++ [(⟨t, x.f1, x.f2, x.f3, x.f4, x.f5, x.f6, x.f7⟩ : S24)]) (pre ++ x :: rest) ((pre ++ x :: rest).length : Int) ((pre ++ [x]).length : Int)) R := by
      obtain ⟨R, h1, h2, h3⟩ := ih (pre ++ [x]) (out ++ [(⟨t, x.f1, x.f2, x.f3, x.f4, x.f5, x.f6, x.f7⟩ : S24)]) (by simp at hl ⊢; omega) (by simp; omega)
      rw [← mid_assoc] at h2 h3
      exact ⟨R, by simp at h1 ⊢; omega, h2, h3⟩
    by_cases hn : (out.length : Int) > 0
    · have hw1 : wrap64 ((out.length : Int) - 1) = ((out.length - 1 : Nat) : Int) := by rw [w64 (by omega) (by omega)]; omega
      have p0 : (0 : Int) ≤ ((out.length - 1 : Nat) : Int) := by omega
      have p1 : ((out.length - 1 : Nat) : Int) < (out.length : Int) := by omega
      by_cases ht : (rd_T24 out ((out.length - 1 : Nat) : Int)).f0 = t
      · obtain ⟨R, h1, h2, h3⟩ := ih (pre ++ [x]) (out.set (out.length - 1) ⟨t, wrap64 ((rd_T24 out ((out.length - 1 : Nat) : Int)).f1 + x.f1), wrap64 ((rd_T24 out ((out.length - 1 : Nat) : Int)).f2 + x.f2), mn (rd_T24 out ((out.length - 1 : Nat) : Int)).f3 x.f3, mx (rd_T24 out ((out.length - 1 : Nat) : Int)).f4 x.f4, (rd_T24 out ((out.length - 1 : Nat) : Int)).f5, x.f6, wrap64 (wrap64 ((rd_T24 out ((out.length - 1 : Nat) : Int)).f7 + x.f7) + rise (rd_T24 out ((out.length - 1 : Nat) : Int)).f6 x.f5)⟩) (by simp at hl ⊢; omega) (by simp; omega)
        rw [← mid_assoc] at h2 h3
        refine ⟨R, by simp at h1 ⊢; omega, ev_succ ?_, ev_succ ?_⟩
        · simp only [spec_DownAggs.l0, if_pos e1, if_pos e0, e3, ts, Option.bind_some, if_pos hn, hw1, if_pos p0, if_pos p1, if_pos ht, e5, Int.toNat_natCast]
          exact Ev.bind (specM_ev _ _ _ _ _ _ _ _ _ _ _ _ _ _ _ _) h2
        · simp only [impl_DownAggs.l0, if_pos e1, if_pos e0, e3, ti, Option.bind_some, if_pos hn, hw1, if_pos p0, if_pos p1, if_pos ht, e5, Int.toNat_natCast, implM_f]
          exact h3
      · obtain ⟨R, h1, h2, h3⟩ := happ
        refine ⟨R, h1, ev_succ ?_, ev_succ ?_⟩
        · simp only [spec_DownAggs.l0, if_pos e1, if_pos e0, e3, ts, Option.bind_some, if_pos hn, hw1, if_pos p0, if_pos p1, if_neg ht, e5, if_pos ec]
          exact h2
        · simp only [impl_DownAggs.l0, if_pos e1, if_pos e0, e3, ti, Option.bind_some, if_pos hn, hw1, if_pos p0, if_pos p1, if_neg ht, e5, if_pos ec]
          exact h3
    · obtain ⟨R, h1, h2, h3⟩ := happ
      refine ⟨R, h1, ev_succ ?_, ev_succ ?_⟩
      · simp only [spec_DownAggs.l0, if_pos e1, if_pos e0, e3, ts, Option.bind_some, if_neg hn, e5, if_pos ec]
        exact h2
      · simp only [impl_DownAggs.l0, if_pos e1, if_pos e0, e3, ti, Option.bind_some, if_neg hn, e5, if_pos ec]
        exact h3
theorem both (l : List S24) (r m : Int) (hl : l.length ≤ 1048576) : ∃ R : List S24, R.length ≤ 1048576 ∧ Ev (fun k => spec_DownAggs.f k l r m) R ∧ Ev (fun k => impl_DownAggs.f k l r m) R := by
  obtain ⟨b, hb, hs, hm⟩ := good_both l r (by omega)
  have s0 : Ev (fun k => spec_DownAggs.j0 k l r m true) [] := ev_succ (ev_now fun k => by simp [spec_DownAggs.j0])
  have i0 : Ev (fun k => impl_DownAggs.j0 k l r m true) [] := ev_succ (ev_now fun k => by simp [impl_DownAggs.j0])
  unfold spec_DownAggs.f impl_DownAggs.f
  have no : (∃ R : List S24, R.length ≤ 1048576 ∧ Ev (fun k => spec_DownAggs.j0 k l r m true) R ∧ Ev (fun k => impl_DownAggs.j0 k l r m true) R) := ⟨[], by simp, s0, i0⟩
  cases b with
  | false =>
    obtain ⟨R, h0, h1, h2⟩ := no
    refine ⟨R, h0, Ev.bind hs ?_, Ev.bind hm ?_⟩
    · simp only [Bool.false_eq_true, if_false]; exact h1
    · simp only [Bool.false_eq_true, if_false]; exact h2
  | true =>
    obtain ⟨g0, g1, g2, g3⟩ := hb rfl
    suffices hh : ∃ R : List S24, R.length ≤ 1048576 ∧ Ev (fun k => if m < 1 then (spec_DownAggs.j0 k l r m true) else (if m > 1000 then (spec_DownAggs.j0 k l r m true) else (spec_DownAggs.j0 k l r m (decide ((wrap64 (r * m)) > 1000000))))) R ∧ Ev (fun k => if m < 1 then (impl_DownAggs.j0 k l r m true) else (if m > 1000 then (impl_DownAggs.j0 k l r m true) else (impl_DownAggs.j0 k l r m (decide ((wrap64 (r * m)) > 1000000))))) R by
      obtain ⟨R, h0, h1, h2⟩ := hh
      refine ⟨R, h0, Ev.bind hs ?_, Ev.bind hm ?_⟩
      · simp only [if_true]; exact h1
      · simp only [if_true]; exact h2
    by_cases m1 : m < 1
    · simp only [if_pos m1]; exact no
    · simp only [if_neg m1]
      by_cases m2 : m > 1000
      · simp only [if_pos m2]; exact no
      · simp only [if_neg m2]
        by_cases m3 : wrap64 (r * m) > 1000000
        · simp only [m3, decide_true]; exact no
        · simp only [m3, decide_false]
          have b1 : 1 ≤ r * m := by have := Int.mul_le_mul g1 (show (1 : Int) ≤ m by omega) (by omega) (by omega); omega
          have b2 : r * m ≤ 1000000 * 1000 := Int.mul_le_mul g2 (by omega) (by omega) (by omega)
          have hw : wrap64 (r * m) ≠ 0 := by rw [w64 (by omega) (by omega)]; omega
          obtain ⟨R, h0, h1, h2⟩ := both_loop r m hw l [] [] (by simpa using hl) (by simpa using hl)
          refine ⟨R, by simp at h0; omega, ev_succ ?_, ev_succ ?_⟩
          · simp only [spec_DownAggs.j0, Bool.false_eq_true, if_false]; exact h1
          · simp only [impl_DownAggs.j0, Bool.false_eq_true, if_false]; exact h2

theorem FnExactDownAggs : Law.Pure := by
  intro l res times ⟨hl, hw⟩ _ _
  refine Ev.rounds ?_
  unfold laws_FnExactDownAggs.f
  rw [szAggS_f l 1048576 hl (by decide) (by decide)]
  by_cases h1 : (l.length : Int) ≤ 1048576
  · rw [if_pos h1]
    simp only [Option.bind_some, if_neg (show ¬ (1048576 : Int) - l.length < 0 by omega)]
    have ta := toAggS_ev l (by omega)
    have la : (l.map toAggM).length = l.length := List.length_map _
    obtain ⟨R, r1, r2, r3⟩ := both (l.map toAggM) res times (by omega)
    have er := eqAggS_ev R (by omega)
    refine Ev.bind ta (Ev.bind r2 (Ev.bind ta (Ev.bind r3 (Ev.bind er ?_))))
    simp only [if_true]
    refine Ev.bind ta (Ev.bind (eqAggS_ev _ (by omega)) ?_)
    simp only [if_true]
    refine Ev.bind (markAggS_ev (l.map toAggM) 1 (by decide) (by omega)) ?_
    simp only []
    have nneg : ¬ ((1 : Int) + 8 * ((l.map toAggM).length : Int) < 0) := by omega
    simp only [if_neg nneg]
    refine Ev.bind er ?_
    simp only [Bool.not_true]
    refine ev_succ ?_
    simp only [laws_FnExactDownAggs.j0, Bool.false_eq_true, if_false]
    have hm := markAggS_ev R 1 (by decide) (by omega)
    have hh := heldAggS_ev R 1 (by decide) (by omega)
    have nneg2 : ¬ ((1 : Int) + 8 * (R.length : Int) < 0) := by omega
    refine Ev.bind hm (Ev.bind hh ?_)
    simp only [if_neg nneg2, if_true]
    refine Ev.bind ta (Ev.bind r3 (Ev.bind er ?_))
    simp only [if_true]
    refine Ev.bind hh ?_
    simp only [if_neg nneg2, if_true]
    exact Ev.now _
  · rw [if_neg h1]
    exact ev_now fun k => by simp

end Go.Proofs.Ytppifefhpjhmaaa.Pure
