/- The laws' own functions on samples: what they make, compare, mark and find again. No condition but lengths below 2^20. -/
import Derived.Test.YtogjmchhafiafaaPreFnExactDedupSamples
import Derived.Test.YtogjmchhafiafaaKit
namespace Go.Proofs.Ytogjmchhafiafaa.FlatFnExactDedupSamples
open Go.RowKit Go.Proofs.Ytogjmchhafiafaa.PFnExactDedupSamples Go.Proofs.YtogjmchhafiafaaW.PrintWords Go.Proofs.YtogjmchhafiafaaW.PrintLast Go.Proofs.Ytogjmchhafiafaa.Kit
set_option linter.unusedVariables false
set_option linter.unusedSimpArgs false
def toSampleM (x : S83) : S47 := ⟨x.f0, x.f1⟩
theorem toSample_f (x : S83) : laws_toSample.f x.f0 x.f1 = some (x.f0, x.f1) := rfl
theorem szSampleS_f (l : List S83) (m : Int) (hl : l.length ≤ 9223372036854775807) (h0 : 0 ≤ m) (h1 : m ≤ 9223372036854775807) : laws_szSampleS.f l m = some (if (l.length : Int) ≤ m then m - l.length else -1) := by
  unfold laws_szSampleS.f
  rw [w64 (by omega) (by omega)]
  by_cases h : (l.length : Int) ≤ m
  · rw [if_neg (by omega), if_pos h]
  · rw [if_pos (by omega), if_neg h]
theorem toSampleS_loop (rest : List S83) : ∀ (pre : List S83) (zs : List S47), zs.length = rest.length → (pre ++ rest).length ≤ 9223372036854775806 →
    Ev (fun k => laws_toSampleS.l0 k (pre ++ rest) (pre.map toSampleM ++ zs) (pre.length : Int)) ((pre ++ rest).map toSampleM) := by
  induction rest with
  | nil =>
    intro pre zs hz _
    obtain rfl : zs = [] := List.eq_nil_of_length_eq_zero hz
    refine ev_succ (ev_now fun k => ?_)
    simp [laws_toSampleS.l0]
  | cons x rest ih =>
    intro pre zs hz hl
    cases zs with
    | nil => simp at hz
    | cons z zs =>
      have h := ih (pre ++ [x]) zs (by simpa using hz) (by simpa using hl)
      have hlen : (pre ++ x :: rest).length = pre.length + 1 + rest.length := by simp; omega
      refine ev_succ ?_
      have e1 : ((pre.length : Nat) : Int) < ((pre ++ x :: rest).length : Int) := len_mid _ _ _
      have e2 : ((pre.length : Nat) : Int) < ((pre.map toSampleM ++ z :: zs).length : Int) := by have := len_mid (pre.map toSampleM) zs z; simpa using this
      have e3 : rd_T83 (pre ++ x :: rest) (pre.length : Int) = x := by unfold rd_T83; rw [Int.toNat_natCast]; exact getD_mid _ _ _ _
      have e4 : (pre.map toSampleM ++ z :: zs).set (pre.length : Int).toNat (toSampleM x) = (pre ++ [x]).map toSampleM ++ zs := by
        rw [Int.toNat_natCast]
        have := set_mid (pre.map toSampleM) zs z (toSampleM x)
        rw [List.length_map] at this
        rw [this, List.map_append]; rfl
      have e5 : wrap64 ((pre.length : Int) + 1) = ((pre ++ [x]).length : Int) := by rw [len_succ]; exact w64 (by omega) (by omega)
      rw [mid_assoc]
      refine Ev.congr (fun k => ?_) h
      simp only [laws_toSampleS.l0]
      rw [mid_assoc] at e1 e3
      rw [if_pos e1, if_pos (by omega : (0 : Int) ≤ pre.length), e3, toSample_f, Option.bind_some, if_pos e2, e5]
      exact congrArg (fun l => laws_toSampleS.l0 k _ l _) e4
theorem toSampleS_ev (l : List S83) (hl : l.length ≤ 1048576) : Ev (fun k => laws_toSampleS.f k l) (l.map toSampleM) := by
  have h := toSampleS_loop l [] (List.replicate l.length z47) (by simp) (by simp; omega)
  refine Ev.congr (fun k => ?_) h
  unfold laws_toSampleS.f
  rw [if_pos (by omega), if_pos (by simp; omega)]
  simp
theorem eqSample_self (x : S47) : laws_eqSample.f x.f0 x.f1 x.f0 x.f1 = some true := by simp [laws_eqSample.f]
theorem eqSampleS_loop (rest : List S47) : ∀ (pre : List S47), (pre ++ rest).length ≤ 9223372036854775806 → Ev (fun k => laws_eqSampleS.l0 k (pre ++ rest) (pre ++ rest) (pre.length : Int)) true := by
  induction rest with
  | nil =>
    intro pre _
    refine ev_succ (ev_now fun k => ?_)
    simp [laws_eqSampleS.l0]
  | cons x rest ih =>
    intro pre hl
    have h := ih (pre ++ [x]) (by simpa using hl)
    have hlen : (pre ++ x :: rest).length = pre.length + 1 + rest.length := by simp; omega
    refine ev_succ ?_
    have e1 : ((pre.length : Nat) : Int) < ((pre ++ x :: rest).length : Int) := len_mid _ _ _
    have e3 : rd_T47 (pre ++ x :: rest) (pre.length : Int) = x := by unfold rd_T47; rw [Int.toNat_natCast]; exact getD_mid _ _ _ _
    have e5 : wrap64 ((pre.length : Int) + 1) = ((pre ++ [x]).length : Int) := by rw [len_succ]; exact w64 (by omega) (by omega)
    rw [mid_assoc]
    refine Ev.congr (fun k => ?_) h
    simp only [laws_eqSampleS.l0]
    rw [mid_assoc] at e1 e3
    rw [if_pos e1, if_pos (by omega : (0 : Int) ≤ pre.length), if_pos e1, e3, eqSample_self, Option.bind_some, if_pos rfl, e5]
theorem eqSampleS_ev (l : List S47) (hl : l.length ≤ 9223372036854775806) : Ev (fun k => laws_eqSampleS.f k l l) true := by
  have h := eqSampleS_loop l [] (by simpa using hl)
  refine Ev.congr (fun k => ?_) h
  unfold laws_eqSampleS.f
  rw [if_pos rfl]
  simp
/-- The list, marked from c on. -/
def markSampleM : List S47 → Int → List S47
  | [], _ => []
  | _ :: l, c => (⟨c, c + 1⟩ : S47) :: markSampleM l (c + 2)
theorem markSampleM_length (l : List S47) : ∀ c, (markSampleM l c).length = l.length := by
  induction l with
  | nil => intro c; rfl
  | cons x l ih => intro c; simp [markSampleM, ih]
theorem markSampleS_loop (rest : List S47) : ∀ (pre : List S47) (c : Int), 0 ≤ c → c + 2 * rest.length ≤ 9223372036854775000 → (pre ++ rest).length ≤ 9223372036854775000 →
    Ev (fun k => laws_markSampleS.l0 k (pre ++ rest) c (pre.length : Int)) (c + 2 * rest.length, pre ++ markSampleM rest c) := by
  induction rest with
  | nil =>
    intro pre c _ _ _
    refine ev_succ (ev_now fun k => ?_)
    simp [laws_markSampleS.l0, markSampleM]
  | cons x rest ih =>
    intro pre c h0 h1 hl
    have hc : ((x :: rest).length : Int) = rest.length + 1 := by simp
    rw [hc] at h1
    have hlen : (pre ++ x :: rest).length = pre.length + 1 + rest.length := by simp; omega
    have h := ih (pre ++ [(⟨c, c + 1⟩ : S47)]) (c + 2) (by omega) (by omega) (by simp at hl ⊢; omega)
    have er : (c + 2 + 2 * (rest.length : Int), (pre ++ [(⟨c, c + 1⟩ : S47)]) ++ markSampleM rest (c + 2)) = (c + 2 * ((x :: rest).length : Int), pre ++ markSampleM (x :: rest) c) := by
      rw [hc, markSampleM]
      simp only [List.append_assoc, List.singleton_append, Prod.mk.injEq, and_true]
      omega
    refine ev_succ ?_
    have e1 : ((pre.length : Nat) : Int) < ((pre ++ x :: rest).length : Int) := len_mid _ _ _
    have e3 : ∀ y : S47, rd_T47 (pre ++ y :: rest) (pre.length : Int) = y := by intro y; unfold rd_T47; rw [Int.toNat_natCast]; exact getD_mid _ _ _ _
    have e4 : ∀ y z : S47, (pre ++ y :: rest).set (pre.length : Int).toNat z = pre ++ z :: rest := by intro y z; rw [Int.toNat_natCast, set_mid, ← mid_assoc]
    have e5 : ∀ y : S47, wrap64 ((pre.length : Int) + 1) = ((pre ++ [y]).length : Int) := by intro y; rw [len_succ]; exact w64 (by omega) (by omega)
    have a1 : wrap64 (c + 1) = c + 1 := by rw [w64 (by omega) (by omega)]
    have a2 : wrap64 (c + 1 + 1) = c + 2 := by rw [w64 (by omega) (by omega)]; omega
    refine ev_eq (Ev.congr (fun k => ?_) h) er
    simp only [laws_markSampleS.l0]
    rw [if_pos e1, if_pos (by omega : (0 : Int) ≤ pre.length)]
    simp only [e3, e4, Option.bind_some, a1, a2]
    rw [e5 (⟨c, c + 1⟩ : S47), mid_assoc]
theorem markSampleS_ev (l : List S47) (c : Int) (h0 : 0 ≤ c) (h1 : c + 2 * l.length ≤ 9223372036854775000) : Ev (fun k => laws_markSampleS.f k l c) (c + 2 * l.length, markSampleM l c) := by
  have h := markSampleS_loop l [] c h0 h1 (by simp; omega)
  exact h
theorem heldSampleS_loop (rest : List S47) : ∀ (pre : List S47) (c : Int), 0 ≤ c → c + 2 * rest.length ≤ 9223372036854775000 → (pre ++ rest).length ≤ 9223372036854775000 →
    Ev (fun k => laws_heldSampleS.l0 k (pre ++ markSampleM rest c) c (pre.length : Int)) (c + 2 * rest.length) := by
  induction rest with
  | nil =>
    intro pre c _ _ _
    refine ev_succ (ev_now fun k => ?_)
    simp [laws_heldSampleS.l0, markSampleM]
  | cons x rest ih =>
    intro pre c h0 h1 hl
    have hc : ((x :: rest).length : Int) = rest.length + 1 := by simp
    rw [hc] at h1
    have hlen : (pre ++ x :: rest).length = pre.length + 1 + rest.length := by simp; omega
    have h := ih (pre ++ [(⟨c, c + 1⟩ : S47)]) (c + 2) (by omega) (by omega) (by simp at hl ⊢; omega)
    rw [markSampleM]
    have e1 : ((pre.length : Nat) : Int) < ((pre ++ (⟨c, c + 1⟩ : S47) :: markSampleM rest (c + 2)).length : Int) := len_mid _ _ _
    have e3 : rd_T47 (pre ++ (⟨c, c + 1⟩ : S47) :: markSampleM rest (c + 2)) (pre.length : Int) = (⟨c, c + 1⟩ : S47) := by unfold rd_T47; rw [Int.toNat_natCast]; exact getD_mid _ _ _ _
    have e5 : ∀ y : S47, wrap64 ((pre.length : Int) + 1) = ((pre ++ [y]).length : Int) := by intro y; rw [len_succ]; exact w64 (by omega) (by omega)
    have a1 : wrap64 (c + 1) = c + 1 := by rw [w64 (by omega) (by omega)]
    have a2 : wrap64 (c + 1 + 1) = c + 2 := by rw [w64 (by omega) (by omega)]; omega
    refine ev_succ ?_
    refine ev_eq (Ev.congr (fun k => ?_) h) (by rw [hc]; omega)
    simp only [laws_heldSampleS.l0]
    rw [if_pos e1, if_pos (by omega : (0 : Int) ≤ pre.length)]
    simp only [e3, a1, a2, if_true]
    rw [e5 (⟨c, c + 1⟩ : S47), mid_assoc]
theorem heldSampleS_ev (l : List S47) (c : Int) (h0 : 0 ≤ c) (h1 : c + 2 * l.length ≤ 9223372036854775000) : Ev (fun k => laws_heldSampleS.f k (markSampleM l c) c) (c + 2 * l.length) :=
  heldSampleS_loop l [] c h0 h1 (by simp; omega)

end Go.Proofs.Ytogjmchhafiafaa.FlatFnExactDedupSamples
