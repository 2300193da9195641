-- Written by a program of this session (xprint.py, over the kit's print).
import Derived.Test.YtogjmchhafiafabPFnExactDownSamplesx0
import Derived.Test.YtogjmchhafiafabPFnExactDownSamplesx4
import Derived.Test.YtogjmchhafiafabPFnExactDownSamplesx5
namespace Go.Proofs.Ytogjmchhafiafab.PFnExactDownSamples
open Go.RowKit Go.Proofs.YtogjmchhafiafabW.PrintWords Go.Proofs.YtogjmchhafiafabW.PrintLast Go.Proofs.YtogjmchhafiafabW.PrintMore Go.Proofs.Ytogjmchhafiafab.XWords
attribute [local go_sem] max2_int min2_int max_two min_two max_three min_three max_four min_four   -- for this text's walks alone
set_option linter.unusedVariables false
set_option linter.unusedSimpArgs false

/-! ### impl_DownSamples: function 29 -/
mutual
def impl_DownSamples.j0 : Nat → List (S81) → Int → Bool → Option ((List (S78)))
 | 0, _, _, _ => none
 | k + 1, x0, x1, x17 => if x17 = true then (some ([] : List (S78))) else ((impl_live.f k x0).bind fun t211 => (impl_DownSamples.l0 k x1 ([] : List (S78)) t211 (t211.length : Int) 0))
def impl_DownSamples.l0 : Nat → Int → List (S78) → List (S81) → Int → Int → Option ((List (S78)))
 | 0, _, _, _, _, _ => none
 | k + 1, x1, x5, x19, x20, x21 => if x21 < x20 then (if 0 ≤ x21 then (if x21 < (x19.length : Int) then ((impl_windowOf.f ((rd_T81 x19 x21).f0) x1).bind fun t216 => ((impl_aggOf.f ((rd_T81 x19 x21).f0) ((rd_T81 x19 x21).f1) t216).bind fun bt217 => (if (x5.length : Int) > 0 then (if 0 ≤ (wrap64 ((x5.length : Int) - 1)) then (if (wrap64 ((x5.length : Int) - 1)) < (x5.length : Int) then (if ((rd_T78 x5 (wrap64 ((x5.length : Int) - 1))).f0) = bt217.1 then ((impl_MergeAgg.f ((rd_T78 x5 (wrap64 ((x5.length : Int) - 1))).f0) ((rd_T78 x5 (wrap64 ((x5.length : Int) - 1))).f1) ((rd_T78 x5 (wrap64 ((x5.length : Int) - 1))).f2) ((rd_T78 x5 (wrap64 ((x5.length : Int) - 1))).f3) ((rd_T78 x5 (wrap64 ((x5.length : Int) - 1))).f4) ((rd_T78 x5 (wrap64 ((x5.length : Int) - 1))).f5) ((rd_T78 x5 (wrap64 ((x5.length : Int) - 1))).f6) ((rd_T78 x5 (wrap64 ((x5.length : Int) - 1))).f7) bt217.1 bt217.2.1 bt217.2.2.1 bt217.2.2.2.1 bt217.2.2.2.2.1 bt217.2.2.2.2.2.1 bt217.2.2.2.2.2.2.1 bt217.2.2.2.2.2.2.2).bind fun bt228 => (impl_DownSamples.l0 k x1 (x5.set ((wrap64 ((x5.length : Int) - 1)) : Int).toNat (⟨bt228.1, bt228.2.1, bt228.2.2.1, bt228.2.2.2.1, bt228.2.2.2.2.1, bt228.2.2.2.2.2.1, bt228.2.2.2.2.2.2.1, bt228.2.2.2.2.2.2.2⟩ : S78)) x19 x20 (wrap64 (x21 + 1)))) else (if x5.length < 2199023255552 then (impl_DownSamples.l0 k x1 (x5 ++ [(⟨bt217.1, bt217.2.1, bt217.2.2.1, bt217.2.2.2.1, bt217.2.2.2.2.1, bt217.2.2.2.2.2.1, bt217.2.2.2.2.2.2.1, bt217.2.2.2.2.2.2.2⟩ : S78)]) x19 x20 (wrap64 (x21 + 1))) else (none))) else (none)) else (none)) else (if x5.length < 2199023255552 then (impl_DownSamples.l0 k x1 (x5 ++ [(⟨bt217.1, bt217.2.1, bt217.2.2.1, bt217.2.2.2.1, bt217.2.2.2.2.1, bt217.2.2.2.2.2.1, bt217.2.2.2.2.2.2.1, bt217.2.2.2.2.2.2.2⟩ : S78)]) x19 x20 (wrap64 (x21 + 1))) else (none))))) else (none)) else (none)) else (some x5)
end
def impl_DownSamples.f (k : Nat) (l0 : List (S81)) (a1 : Int) : Option ((List (S78))) := (impl_GoodSamples.f k l0).bind fun t209 => (if t209 = true then ((impl_goodRes.f a1).bind fun t210 => (impl_DownSamples.j0 k l0 a1 (!t210))) else (impl_DownSamples.j0 k l0 a1 true))
theorem impl_DownSamples.mono_l : ∀ k, (∀ y0 y1 y2, LeO (impl_DownSamples.j0 k y0 y1 y2) (impl_DownSamples.j0 (k + 1) y0 y1 y2)) ∧ (∀ y0 y1 y2 y3 y4, LeO (impl_DownSamples.l0 k y0 y1 y2 y3 y4) (impl_DownSamples.l0 (k + 1) y0 y1 y2 y3 y4))
 | 0 => ⟨fun _ _ _ r h => by simp [impl_DownSamples.j0] at h, fun _ _ _ _ _ r h => by simp [impl_DownSamples.l0] at h⟩
 | k + 1 => by
  obtain ⟨ih0, ih1⟩ := impl_DownSamples.mono_l k
  refine ⟨?_, ?_⟩
  ·intro y0 y1 y2
   unfold impl_DownSamples.j0
   repeat' first
   | (with_reducible exact ih0 _ _ _)
   | (with_reducible exact ih1 _ _ _ _ _)
   | (with_reducible exact impl_GoodSamples.mono _ _)
   | (with_reducible exact impl_live.mono _ _)
   | (with_reducible exact LeO.refl _)
   | (with_reducible exact LeO.none _)
   | (with_reducible refine LeO.ite ?_ ?_)
   | (with_reducible refine LeO.bind ?_ (fun _ => ?_))
   | exact ih0 _ _ _
   | exact ih1 _ _ _ _ _
   | exact impl_GoodSamples.mono _ _
   | exact impl_live.mono _ _
   | exact LeO.none _
   | refine LeO.ite ?_ ?_
   | refine LeO.bind ?_ (fun _ => ?_)
  ·intro y0 y1 y2 y3 y4
   unfold impl_DownSamples.l0
   repeat' first
   | (with_reducible exact ih0 _ _ _)
   | (with_reducible exact ih1 _ _ _ _ _)
   | (with_reducible exact impl_GoodSamples.mono _ _)
   | (with_reducible exact impl_live.mono _ _)
   | (with_reducible exact LeO.refl _)
   | (with_reducible exact LeO.none _)
   | (with_reducible refine LeO.ite ?_ ?_)
   | (with_reducible refine LeO.bind ?_ (fun _ => ?_))
   | exact ih0 _ _ _
   | exact ih1 _ _ _ _ _
   | exact impl_GoodSamples.mono _ _
   | exact impl_live.mono _ _
   | exact LeO.none _
   | refine LeO.ite ?_ ?_
   | refine LeO.bind ?_ (fun _ => ?_)
theorem impl_DownSamples.mono : ∀ a0 a1 k, LeO (impl_DownSamples.f k a0 a1) (impl_DownSamples.f (k + 1) a0 a1) := by
 intro a0 a1 k
 obtain ⟨ih0, ih1⟩ := impl_DownSamples.mono_l k
 unfold impl_DownSamples.f
 repeat' first
   | (with_reducible exact ih0 _ _ _)
   | (with_reducible exact ih1 _ _ _ _ _)
   | (with_reducible exact impl_GoodSamples.mono _ _)
   | (with_reducible exact impl_live.mono _ _)
   | (with_reducible exact LeO.refl _)
   | (with_reducible exact LeO.none _)
   | (with_reducible refine LeO.ite ?_ ?_)
   | (with_reducible refine LeO.bind ?_ (fun _ => ?_))
   | exact ih0 _ _ _
   | exact ih1 _ _ _ _ _
   | exact impl_GoodSamples.mono _ _
   | exact impl_live.mono _ _
   | exact LeO.none _
   | refine LeO.ite ?_ ?_
   | refine LeO.bind ?_ (fun _ => ?_)
def impl_DownSamples.T7 : Bool × List (List Nat × List Nat) := (true, [([], []), ([], []), ([1], [1]), ([], []), ([2, 3], [2, 3]), ([0, 4, 4], [0, 4]), ([], []), ([6, 5, 5, 0, 1, 2, 3, 4, 5, 6], [5, 6])])
def impl_DownSamples.B7 : List Nat := [0, 0, 2, 0, 14, 31, 0, 127]
theorem impl_DownSamples.tab7 : rtab .any (opsOf Try.f29 7) = impl_DownSamples.T7 := by kernel_rfl
theorem impl_DownSamples.bits7 : waitsOk impl_DownSamples.T7.2 impl_DownSamples.B7 = true := by kernel_rfl
def impl_DownSamples.T9 : Bool × List (List Nat × List Nat) := (true, [([], []), ([0], [0]), ([1], [1]), ([2], [2]), ([2], [2]), ([4, 2], [2, 4]), ([3, 5, 2], [2, 3, 5]), ([6, 2], [2, 6]), ([7, 2], [2, 7]), ([2], [2]), ([9, 2], [2, 9]), ([8, 10, 2], [2, 8, 10]), ([2, 11], [2, 11])])
def impl_DownSamples.B9 : List Nat := [0, 1, 3, 7, 7, 23, 63, 127, 255, 7, 519, 2047, 4095]
theorem impl_DownSamples.tab9 : rtab .any (opsOf Try.f29 9) = impl_DownSamples.T9 := by kernel_rfl
theorem impl_DownSamples.bits9 : waitsOk impl_DownSamples.T9.2 impl_DownSamples.B9 = true := by kernel_rfl
def impl_DownSamples.T10 : Bool × List (List Nat × List Nat) := (true, [([], []), ([], []), ([1], [1]), ([], []), ([], []), ([4], [4]), ([3, 5], [3, 5]), ([6], [6]), ([], []), ([7, 8], [7, 8]), ([0, 2, 0, 1, 2, 3, 4, 5, 6, 7, 8, 9], [0, 2]), ([10, 9, 9, 0, 1, 2, 3, 4, 5, 6, 7, 8, 9], [9, 10])])
def impl_DownSamples.B10 : List Nat := [0, 0, 2, 0, 0, 16, 56, 120, 0, 504, 1023, 2047]
theorem impl_DownSamples.tab10 : rtab .any (opsOf Try.f29 10) = impl_DownSamples.T10 := by kernel_rfl
theorem impl_DownSamples.bits10 : waitsOk impl_DownSamples.T10.2 impl_DownSamples.B10 = true := by kernel_rfl
set_option maxHeartbeats 8000000 in
set_option maxRecDepth 100000 in
theorem impl_DownSamples.calls (k : Nat) (A0 : Option Addr) (c0 : Nat) (l0 : List (S81)) (a1 : Int) (r : List (S78)) (w : World) (hr0 : Kd.C k81 w A0 l0.length l0) (hc0 : l0.length ≤ c0) (h : impl_DownSamples.f k l0 a1 = some r) :
  Calls Try.prog 29 #[.slice A0 l0.length c0, .int .i64 a1] w fun e w' => ∃ v0_ : Value, e = .returned (v0_) ∧ Kd.R k78 78 w' w.heap.size (fun _ => True) v0_ r ∧ Below w.heap.size w w' := by
 have hu81 := Try.underlying81
 have hu78 := Try.underlying78
 have HR0 := Aside0.mk hr0
 have HC0 := Aside0.mk hc0
 clear hr0 hc0
 have HB := Aside0.mk (Below.refl w.heap.size w)
 have H : ((impl_GoodSamples.f k l0).bind fun t209 => (if t209 = true then ((impl_goodRes.f a1).bind fun t210 => (impl_DownSamples.j0 k l0 a1 (!t210))) else (impl_DownSamples.j0 k l0 a1 true))) = some r := h
 clear h
 have HC3 := Aside0.mk H
 clear H
 go_enter Try.func29, Try.ntmps29
 go_upto_region 1 with (fail)
 go_cut [17] (fun v17 wc => ∃ (kq : Nat) (x17_2 : Bool), v17 = .bool x17_2 ∧ Aside0 (impl_DownSamples.j0 kq l0 a1 x17_2 = some r) ∧ Aside0 (kq ≤ k) ∧ Aside0 (Below w.heap.size w wc))
 case first =>
  have H := HC3.out
  clear HC3
  replace H := Option.bind_eq_some_iff.mp H
  obtain ⟨t209, A40, H⟩ := H
  replace H : (if t209 = true then ((impl_goodRes.f a1).bind fun t210 => (impl_DownSamples.j0 k l0 a1 (!t210))) else (impl_DownSamples.j0 k l0 a1 true)) = some r := H
  have A4 := Aside0.mk A40
  clear A40
  by_cases c5 : t209 = true
  ·subst c5
   have H1 : ((impl_goodRes.f a1).bind fun t210 => (impl_DownSamples.j0 k l0 a1 (!t210))) = some r := by rw [if_pos rfl] at H; exact H
   clear H
   have H := H1
   clear H1
   replace H := Option.bind_eq_some_iff.mp H
   obtain ⟨t210, A60, H⟩ := H
   replace H : (impl_DownSamples.j0 k l0 a1 (!t210)) = some r := H
   have A6 := Aside0.mk A60
   clear A60
   have H' := Aside0.mk H
   clear H
   go_wp2_with (first | ((with_reducible refine gate_callee (f := 48) rfl ?_); refine goesL_ (some 11) rfl rfl Try.func48 (by kernel_rfl) rfl #[.slice A0 l0.length c0] rfl (by (try simp only [List.map_toArray, List.map_cons, List.map_nil]); first | done | rfl | (simp only [List.length_drop, List.length_take]; rfl)) ?_; (with_reducible refine (impl_GoodSamples.calls k _ _ l0 true _ ?side1 ?side2 A4.out).mono ?_); (case side1 => repeat (first | exact (Kd.C_below HR0.out HB.out) | (with_reducible refine zJ ?_ _) | (with_reducible refine zK ?_ _) | (with_reducible refine zL ?_))); (case side2 => exact HC0.out); rintro e w7 ⟨rfl, hb⟩; refine ⟨_, rfl, ?_⟩; have n0_ := Aside0.mk (below_step (by repeat (first | (with_reducible first | exact HB.out | apply zA | apply zB | apply zC) | exact HB.out)) hb); clear HB; have HB := n0_; clear n0_; (try clear hb); (try clear hb2); (try clear hk); (try clear hi)) | (go_at_call 73; (with_reducible refine (impl_goodRes.calls a1 t210 _ A6.out).mono ?_); rintro e w' ⟨rfl, ⟨nd, rfl⟩⟩))
   go_meet
   case rel => exact ⟨_, (!t210), (by first | rfl | (simp; done) | (simp [*]; done)), H', ⟨by first | omega | exact Nat.le_refl _⟩, ⟨by repeat (first | (with_reducible first | exact HB.out | apply zA | apply zB | apply zC) | exact HB.out)⟩⟩
  ·replace c5 := Bool.eq_false_iff.mpr c5
   subst c5
   have H1 : (impl_DownSamples.j0 k l0 a1 true) = some r := by rw [if_neg (show ¬ (false = true) by decide)] at H; exact H
   clear H
   have H := H1
   clear H1
   have H' := Aside0.mk H
   clear H
   go_wp2_with (first | ((with_reducible refine gate_callee (f := 48) rfl ?_); refine goesL_ (some 11) rfl rfl Try.func48 (by kernel_rfl) rfl #[.slice A0 l0.length c0] rfl (by (try simp only [List.map_toArray, List.map_cons, List.map_nil]); first | done | rfl | (simp only [List.length_drop, List.length_take]; rfl)) ?_; (with_reducible refine (impl_GoodSamples.calls k _ _ l0 false _ ?side1 ?side2 A4.out).mono ?_); (case side1 => repeat (first | exact (Kd.C_below HR0.out HB.out) | (with_reducible refine zJ ?_ _) | (with_reducible refine zK ?_ _) | (with_reducible refine zL ?_))); (case side2 => exact HC0.out); rintro e w8 ⟨rfl, hb⟩; refine ⟨_, rfl, ?_⟩; have n0_ := Aside0.mk (below_step (by repeat (first | (with_reducible first | exact HB.out | apply zA | apply zB | apply zC) | exact HB.out)) hb); clear HB; have HB := n0_; clear n0_; (try clear hb); (try clear hb2); (try clear hk); (try clear hi)))
   go_meet
   case rel => exact ⟨_, (true), (by first | rfl | (simp; done) | (simp [*]; done)), H', ⟨by first | omega | exact Nat.le_refl _⟩, ⟨by repeat (first | (with_reducible first | exact HB.out | apply zA | apply zB | apply zC) | exact HB.out)⟩⟩
 case rest =>
  clear HC3
  try clear c2
  try clear p2
  try clear c4
  try clear c5
  obtain ⟨kq, x17_2, rfl, HA, HJ2, HB⟩ := hcut
  cases kq with
  | zero => exact absurd HA.out (by simp [impl_DownSamples.j0])
  | succ kj2 =>
   have H := HA.out
   clear HA
   simp only [impl_DownSamples.j0] at H
   by_cases c9 : x17_2 = true
   ·subst c9
    have H1 : (some ([] : List (S78))) = some r := by rw [if_pos rfl] at H; exact H
    clear H
    have H := H1
    clear H1
    obtain rfl := Option.some.inj H
    go_wp2
    go_ret
    exact ⟨_, by first | rfl | (simp [errW_none, errW_some] <;> rfl) | (simp [*, errW_none, errW_some] <;> rfl), by first | exact Kd.R_nil _ _ _ _ _ | exact Kd.N_nil _ _ _ _ _ | exact Kd.V_nil _ _ _ _ _ | exact Kd.Q_nil _ _ _ _ _ | exact Kd.S_nil _ _ _ _ _, by repeat (first | (with_reducible first | exact HB.out | apply zA | apply zB | apply zC) | exact HB.out)⟩
   ·replace c9 := Bool.eq_false_iff.mpr c9
    subst c9
    have H1 : ((impl_live.f kj2 l0).bind fun t211 => (impl_DownSamples.l0 kj2 a1 ([] : List (S78)) t211 (t211.length : Int) 0)) = some r := by rw [if_neg (show ¬ (false = true) by decide)] at H; exact H
    clear H
    have H := H1
    clear H1
    replace H := Option.bind_eq_some_iff.mp H
    obtain ⟨t211, A100, H⟩ := H
    replace H : (impl_DownSamples.l0 kj2 a1 ([] : List (S78)) t211 (t211.length : Int) 0) = some r := H
    have A10 := Aside0.mk A100
    clear A100
    have H' := Aside0.mk H
    clear H
    go_wp2_with (first | ((with_reducible refine gate_callee (f := 74) rfl ?_); refine goesL_ (some 19) rfl rfl Try.func74 (by kernel_rfl) rfl #[.slice A0 l0.length c0] rfl (by (try simp only [List.map_toArray, List.map_cons, List.map_nil]); first | done | rfl | (simp only [List.length_drop, List.length_take]; rfl)) ?_; (with_reducible refine (impl_live.calls kj2 _ _ l0 t211 _ ?side1 ?side2 A10.out).mono ?_); (case side1 => repeat (first | exact (Kd.C_below HR0.out HB.out) | (with_reducible refine zJ ?_ _) | (with_reducible refine zK ?_ _) | (with_reducible refine zL ?_))); (case side2 => exact HC0.out); rintro e w11 ⟨v212, rfl, ho0, hb⟩; refine ⟨_, rfl, ?_⟩; have n0_ := Aside0.mk (Kd.R_lower ho0 (zW (by repeat (first | (with_reducible first | exact HB.out | apply zA | apply zB | apply zC) | exact HB.out)))); have n1_ := Aside0.mk (below_step (by repeat (first | (with_reducible first | exact HB.out | apply zA | apply zB | apply zC) | exact HB.out)) hb); clear HB; have HO213 := n0_; have HB := n1_; clear n0_ n1_; (try clear hb); (try clear hb2); (try clear hk); (try clear hi); (try clear ho0); obtain ⟨Ao12, co12, eo12⟩ := Kd.R_slice HO213.out; subst eo12))
    go_loopg [5, 21] kj2 (fun kq v5 v21 w' => ∃ (x5_2 : List (S78)) (x21_2 : Int), v21 = .int .i64 x21_2 ∧ Aside0 (impl_DownSamples.l0 kq a1 x5_2 t211 (t211.length : Int) x21_2 = some r) ∧ Aside0 (kq ≤ kj2) ∧ Aside0 (Kd.R k78 78 w' w.heap.size (fun _ => True) v5 x5_2) ∧ Aside0 (Kd.R k81 81 w' w.heap.size (fun _ => True) (.slice Ao12 t211.length co12) t211) ∧ Aside0 (Below w.heap.size w w'))
    case atStart => exact ⟨(([] : List (S78))), (0), (by first | rfl | (simp; done) | (simp [*]; done)), H', ⟨Nat.le_refl _⟩, ⟨by first | exact Kd.R_nil _ _ _ _ _ | exact Kd.N_nil _ _ _ _ _ | exact Kd.V_nil _ _ _ _ _ | exact Kd.Q_nil _ _ _ _ _ | exact Kd.S_nil _ _ _ _ _⟩, ⟨by (with_reducible repeat (first | apply zG | apply zH | apply zI)); exact HO213.out⟩, ⟨by repeat (first | (with_reducible first | exact HB.out | apply zA | apply zB | apply zC) | exact HB.out)⟩⟩
    case round =>
     clear H'
     try clear c2
     try clear p2
     try clear c4
     try clear c5
     try clear c7
     try clear c9
     try clear p2
     obtain ⟨x5_2, x21_2, rfl, HA, HK2, HO_5, HO_19, HB⟩ := hrel
     cases gk with
     | zero => exact absurd HA.out (by simp [impl_DownSamples.l0])
     | succ k2 =>
      have H := HA.out
      clear HA
      simp only [impl_DownSamples.l0] at H
      by_cases c13 : x21_2 < (t211.length : Int)
      ·rw [if_pos c13] at H
       have c13b0 : decide (x21_2 < (t211.length : Int)) = true := decide_eq_true c13
       clear c13
       by_cases c14 : 0 ≤ x21_2
       ·rw [if_pos c14] at H
        have c14b0 : decide (0 ≤ x21_2) = true := decide_eq_true c14
        clear c14
        by_cases c15 : x21_2 < (t211.length : Int)
        ·rw [if_pos c15] at H
         have c15b0 : decide (x21_2 < (t211.length : Int)) = true := decide_eq_true c15
         clear c15
         replace H := Option.bind_eq_some_iff.mp H
         obtain ⟨t216, A160, H⟩ := H
         replace H : ((impl_aggOf.f ((rd_T81 t211 x21_2).f0) ((rd_T81 t211 x21_2).f1) t216).bind fun bt217 => (if (x5_2.length : Int) > 0 then (if 0 ≤ (wrap64 ((x5_2.length : Int) - 1)) then (if (wrap64 ((x5_2.length : Int) - 1)) < (x5_2.length : Int) then (if ((rd_T78 x5_2 (wrap64 ((x5_2.length : Int) - 1))).f0) = bt217.1 then ((impl_MergeAgg.f ((rd_T78 x5_2 (wrap64 ((x5_2.length : Int) - 1))).f0) ((rd_T78 x5_2 (wrap64 ((x5_2.length : Int) - 1))).f1) ((rd_T78 x5_2 (wrap64 ((x5_2.length : Int) - 1))).f2) ((rd_T78 x5_2 (wrap64 ((x5_2.length : Int) - 1))).f3) ((rd_T78 x5_2 (wrap64 ((x5_2.length : Int) - 1))).f4) ((rd_T78 x5_2 (wrap64 ((x5_2.length : Int) - 1))).f5) ((rd_T78 x5_2 (wrap64 ((x5_2.length : Int) - 1))).f6) ((rd_T78 x5_2 (wrap64 ((x5_2.length : Int) - 1))).f7) bt217.1 bt217.2.1 bt217.2.2.1 bt217.2.2.2.1 bt217.2.2.2.2.1 bt217.2.2.2.2.2.1 bt217.2.2.2.2.2.2.1 bt217.2.2.2.2.2.2.2).bind fun bt228 => (impl_DownSamples.l0 k2 a1 (x5_2.set ((wrap64 ((x5_2.length : Int) - 1)) : Int).toNat (⟨bt228.1, bt228.2.1, bt228.2.2.1, bt228.2.2.2.1, bt228.2.2.2.2.1, bt228.2.2.2.2.2.1, bt228.2.2.2.2.2.2.1, bt228.2.2.2.2.2.2.2⟩ : S78)) t211 (t211.length : Int) (wrap64 (x21_2 + 1)))) else (if x5_2.length < 2199023255552 then (impl_DownSamples.l0 k2 a1 (x5_2 ++ [(⟨bt217.1, bt217.2.1, bt217.2.2.1, bt217.2.2.2.1, bt217.2.2.2.2.1, bt217.2.2.2.2.2.1, bt217.2.2.2.2.2.2.1, bt217.2.2.2.2.2.2.2⟩ : S78)]) t211 (t211.length : Int) (wrap64 (x21_2 + 1))) else (none))) else (none)) else (none)) else (if x5_2.length < 2199023255552 then (impl_DownSamples.l0 k2 a1 (x5_2 ++ [(⟨bt217.1, bt217.2.1, bt217.2.2.1, bt217.2.2.2.1, bt217.2.2.2.2.1, bt217.2.2.2.2.2.1, bt217.2.2.2.2.2.2.1, bt217.2.2.2.2.2.2.2⟩ : S78)]) t211 (t211.length : Int) (wrap64 (x21_2 + 1))) else (none)))) = some r := H
         have A16 := Aside0.mk A160
         clear A160
         replace H := Option.bind_eq_some_iff.mp H
         obtain ⟨⟨t217, t218, t219, t220, t221, t222, t223, t224⟩, A170, H⟩ := H
         replace H : (if (x5_2.length : Int) > 0 then (if 0 ≤ (wrap64 ((x5_2.length : Int) - 1)) then (if (wrap64 ((x5_2.length : Int) - 1)) < (x5_2.length : Int) then (if ((rd_T78 x5_2 (wrap64 ((x5_2.length : Int) - 1))).f0) = t217 then ((impl_MergeAgg.f ((rd_T78 x5_2 (wrap64 ((x5_2.length : Int) - 1))).f0) ((rd_T78 x5_2 (wrap64 ((x5_2.length : Int) - 1))).f1) ((rd_T78 x5_2 (wrap64 ((x5_2.length : Int) - 1))).f2) ((rd_T78 x5_2 (wrap64 ((x5_2.length : Int) - 1))).f3) ((rd_T78 x5_2 (wrap64 ((x5_2.length : Int) - 1))).f4) ((rd_T78 x5_2 (wrap64 ((x5_2.length : Int) - 1))).f5) ((rd_T78 x5_2 (wrap64 ((x5_2.length : Int) - 1))).f6) ((rd_T78 x5_2 (wrap64 ((x5_2.length : Int) - 1))).f7) t217 t218 t219 t220 t221 t222 t223 t224).bind fun bt228 => (impl_DownSamples.l0 k2 a1 (x5_2.set ((wrap64 ((x5_2.length : Int) - 1)) : Int).toNat (⟨bt228.1, bt228.2.1, bt228.2.2.1, bt228.2.2.2.1, bt228.2.2.2.2.1, bt228.2.2.2.2.2.1, bt228.2.2.2.2.2.2.1, bt228.2.2.2.2.2.2.2⟩ : S78)) t211 (t211.length : Int) (wrap64 (x21_2 + 1)))) else (if x5_2.length < 2199023255552 then (impl_DownSamples.l0 k2 a1 (x5_2 ++ [(⟨t217, t218, t219, t220, t221, t222, t223, t224⟩ : S78)]) t211 (t211.length : Int) (wrap64 (x21_2 + 1))) else (none))) else (none)) else (none)) else (if x5_2.length < 2199023255552 then (impl_DownSamples.l0 k2 a1 (x5_2 ++ [(⟨t217, t218, t219, t220, t221, t222, t223, t224⟩ : S78)]) t211 (t211.length : Int) (wrap64 (x21_2 + 1))) else (none))) = some r := H
         have A17 := Aside0.mk A170
         clear A170
         by_cases c18 : (x5_2.length : Int) > 0
         ·rw [if_pos c18] at H
          have c18b0 : decide (0 < (x5_2.length : Int)) = true := decide_eq_true c18
          have c18b1 : decide (0 < x5_2.length) = true := decide_eq_true (by omega)
          clear c18
          obtain ⟨ji19, hji19⟩ : ∃ j_ : Int, (wrap64 ((x5_2.length : Int) - 1)) = j_ := ⟨_, rfl⟩
          replace H : (if 0 ≤ (ji19) then (if (ji19) < (x5_2.length : Int) then (if ((rd_T78 x5_2 (ji19)).f0) = t217 then ((impl_MergeAgg.f ((rd_T78 x5_2 (ji19)).f0) ((rd_T78 x5_2 (ji19)).f1) ((rd_T78 x5_2 (ji19)).f2) ((rd_T78 x5_2 (ji19)).f3) ((rd_T78 x5_2 (ji19)).f4) ((rd_T78 x5_2 (ji19)).f5) ((rd_T78 x5_2 (ji19)).f6) ((rd_T78 x5_2 (ji19)).f7) t217 t218 t219 t220 t221 t222 t223 t224).bind fun bt228 => (impl_DownSamples.l0 k2 a1 (x5_2.set ((ji19) : Int).toNat (⟨bt228.1, bt228.2.1, bt228.2.2.1, bt228.2.2.2.1, bt228.2.2.2.2.1, bt228.2.2.2.2.2.1, bt228.2.2.2.2.2.2.1, bt228.2.2.2.2.2.2.2⟩ : S78)) t211 (t211.length : Int) (wrap64 (x21_2 + 1)))) else (if x5_2.length < 2199023255552 then (impl_DownSamples.l0 k2 a1 (x5_2 ++ [(⟨t217, t218, t219, t220, t221, t222, t223, t224⟩ : S78)]) t211 (t211.length : Int) (wrap64 (x21_2 + 1))) else (none))) else (none)) else (none)) = some r := by first | (rw [hji19] at H; exact H) | (simp only [hji19] at H ⊢; exact H)
          (try rw [hji19] at A16)
          (try rw [hji19] at A17)
          have hji19w : (IntKind.i64.wrap ((x5_2.length : Int) - 1)) = ji19 := (i64_w _).trans hji19
          by_cases c20 : 0 ≤ (ji19)
          ·rw [if_pos c20] at H
           have c20b0 : decide (0 ≤ (ji19)) = true := decide_eq_true c20
           clear c20
           by_cases c21 : (ji19) < (x5_2.length : Int)
           ·rw [if_pos c21] at H
            have c21b0 : decide ((ji19) < (x5_2.length : Int)) = true := decide_eq_true c21
            clear c21
            by_cases c22 : ((rd_T78 x5_2 (ji19)).f0) = t217
            ·rw [if_pos c22] at H
             have c22b0 : (((rd_T78 x5_2 (ji19)).f0) == t217) = true := beq_iff_eq.mpr c22
             have c22b1 : (((rd_T78 x5_2 (ji19)).f0) != t217) = false := bne_eq_false_iff_eq.mpr c22
             clear c22
             replace H := Option.bind_eq_some_iff.mp H
             obtain ⟨⟨t228, t229, t230, t231, t232, t233, t234, t235⟩, A230, H⟩ := H
             replace H : (impl_DownSamples.l0 k2 a1 (x5_2.set ((ji19) : Int).toNat (⟨t228, t229, t230, t231, t232, t233, t234, t235⟩ : S78)) t211 (t211.length : Int) (wrap64 (x21_2 + 1))) = some r := H
             have A23 := Aside0.mk A230
             clear A230
             obtain ⟨y236, hy236⟩ : ∃ y_ : List (S78), y_ = (x5_2.set ((ji19) : Int).toNat (⟨t228, t229, t230, t231, t232, t233, t234, t235⟩ : S78)) := ⟨_, rfl⟩
             replace H : (impl_DownSamples.l0 k2 a1 y236 t211 (t211.length : Int) (wrap64 (x21_2 + 1))) = some r := by first | (rw [hy236]; with_reducible exact H) | (have H2_ := (Option.bind_some _ _).symm.trans H; rw [hy236]; with_reducible exact H2_) | (have H2_ := (Option.bind_some _ _).symm.trans H; with_reducible exact H2_) | with_reducible exact H | (rw [hy236]; exact H) | exact H
             have Ny236 := Aside0.mk hy236
             clear hy236
             have H' := Aside0.mk H
             clear H
             have p214 : 0 ≤ (x21_2 : Int) := zX (by first | (with_reducible assumption) | assumption)
             have q214 : x21_2 < (t211.length : Int) := zX (by first | (with_reducible assumption) | assumption)
             obtain ⟨ad214, e214, hx214_0, hx214_1⟩ := at_T81 (Kd.R_reads' HO_19.out).2.2 x21_2 p214 q214
             cases e214
             replace p214 := eq_true p214
             replace q214 := eq_true q214
             try go_wp2_with (first | ((with_reducible refine gate_dst (N := 7) rfl ?_); refine box_event ?hg (N := 7) ?hd (cs := #[.int .i64 0, .int .i64 0]) (t := 81) ?hr ?_; (case hd => rfl); (case hg => rfl); (case hr => first | (go_simp; done) | (go_simp; rfl)); intro gb215 hg w25 hbox hb; have n0_ := Aside0.mk (Kd.R_below (by (with_reducible repeat (first | apply zG | apply zH | apply zI)); exact HO_5.out) hb); have n1_ := Aside0.mk (Kd.R_below (Kd.R_elderB (by (with_reducible repeat (first | apply zG | apply zH | apply zI)); exact HO_19.out) gb215 (Nat.le_of_eq hg.symm)) hb); have n2_ := Aside0.mk (below_step (by repeat (first | (with_reducible first | exact HB.out | apply zA | apply zB | apply zC) | exact HB.out)) hb); have n3_ := Aside0.mk (hbox); have n4_ := Aside0.mk ((by rw [hg]; exact (zW (by repeat (first | (with_reducible first | exact HB.out | apply zA | apply zB | apply zC) | exact HB.out))) : w.heap.size ≤ gb215)); have n5_ := Aside0.mk ((by rw [hg]; exact (zW (by repeat (first | (with_reducible first | exact HB.out | apply zA | apply zB | apply zC) | exact HB.out))) : w.heap.size ≤ gb215)); clear HO_5; clear HO_19; clear HB; have HO_5 := n0_; have HO_19 := n1_; have HB := n2_; have BK215 := n3_; have GW215 := n4_; have GE215 := n5_; clear n0_ n1_ n2_ n3_ n4_ n5_; clear hb hbox hg; have hcz26_0 : w25.cell? ⟨gb215, 0, none⟩ = some (.int .i64 0) := (zQ BK215.out 0).trans rfl; have hcz26_1 : w25.cell? ⟨gb215, 1, none⟩ = some (.int .i64 0) := (zQ BK215.out 1).trans rfl; have hfz26_0 := blk_frozen BK215.out 0; have hfz26_1 := blk_frozen BK215.out 1))
             have n0_ : Aside0 (Kd.R k78 78 ((w25.setCell ⟨gb215, 0, none⟩ (.int .i64 ((rd_T81 t211 x21_2).f0))).setCell ⟨gb215, 1, none⟩ (.int .i64 ((rd_T81 t211 x21_2).f1))) w.heap.size (fun _ => True) u5 x5_2) := ⟨by (with_reducible repeat (first | apply zG | apply zH | apply zI)); exact Kd.R_mono (Kd.R_far (p := ⟨gb215, 1, none⟩) (Kd.R_far (p := ⟨gb215, 0, none⟩) (Kd.R_types HO_5.out BK215.out (by decide)) (fun _ hk => hk.2) (.int .i64 ((rd_T81 t211 x21_2).f0))) (fun _ hk => hk.2) (.int .i64 ((rd_T81 t211 x21_2).f1))) (fun _ hk => trivial)⟩
             have n1_ : Aside0 (Kd.R k81 81 ((w25.setCell ⟨gb215, 0, none⟩ (.int .i64 ((rd_T81 t211 x21_2).f0))).setCell ⟨gb215, 1, none⟩ (.int .i64 ((rd_T81 t211 x21_2).f1))) w.heap.size (fun k_ => k_ ≠ gb215) (.slice (some ad214) t211.length co12) t211) := ⟨by (with_reducible repeat (first | apply zG | apply zH | apply zI)); exact Kd.R_mono (Kd.R_far (p := ⟨gb215, 1, none⟩) (Kd.R_far (p := ⟨gb215, 0, none⟩) (Kd.R_mono HO_19.out (fun k_ hk => (⟨hk, hk.2⟩ : _ ∧ k_ ≠ gb215))) (fun _ hk => hk.2) (.int .i64 ((rd_T81 t211 x21_2).f0))) (fun _ hk => hk.2) (.int .i64 ((rd_T81 t211 x21_2).f1))) (fun _ hk => hk.1.2)⟩
             have n2_ : Aside0 (((w25.setCell ⟨gb215, 0, none⟩ (.int .i64 ((rd_T81 t211 x21_2).f0))).setCell ⟨gb215, 1, none⟩ (.int .i64 ((rd_T81 t211 x21_2).f1))).heap[gb215]? = some (.cells #[.int .i64 ((rd_T81 t211 x21_2).f0), .int .i64 ((rd_T81 t211 x21_2).f1)] 81 (0, 0))) := ⟨by (with_reducible repeat (first | refine zE ?_ _ | refine zF ?_ | refine zD ?_ _)); refine blk_put (cs := #[.int .i64 ((rd_T81 t211 x21_2).f0), .int .i64 0]) ?_ 1 _ rfl; (with_reducible repeat (first | refine zE ?_ _ | refine zF ?_ | refine zD ?_ _)); refine blk_put (cs := #[.int .i64 0, .int .i64 0]) ?_ 0 _ rfl; (with_reducible repeat (first | refine zE ?_ _ | refine zF ?_ | refine zD ?_ _)); exact BK215.out⟩
             have n3_ : Aside0 (Below w.heap.size w ((w25.setCell ⟨gb215, 0, none⟩ (.int .i64 ((rd_T81 t211 x21_2).f0))).setCell ⟨gb215, 1, none⟩ (.int .i64 ((rd_T81 t211 x21_2).f1)))) := ⟨by repeat (first | (with_reducible first | exact HB.out | apply zA | apply zB | apply zC | refine below_set ?_ GE215.out) | exact HB.out)⟩
             (try clear HO_5)
             (try clear HO_19)
             (try clear BK215)
             (try clear HB)
             generalize ((w25.setCell ⟨gb215, 0, none⟩ (.int .i64 ((rd_T81 t211 x21_2).f0))).setCell ⟨gb215, 1, none⟩ (.int .i64 ((rd_T81 t211 x21_2).f1))) = w27 at n0_ n1_ n2_ n3_ ⊢
             have HO_5 := n0_
             have HO_19 := n1_
             have BK215 := n2_
             have HB := n3_
             clear n0_ n1_ n2_ n3_
             have n0_ := Aside0.mk (zI HO_5.out)
             have n1_ := Aside0.mk (zI HO_19.out)
             have n2_ := Aside0.mk (zF BK215.out)
             have n3_ := Aside0.mk (zC HB.out)
             clear HO_5
             clear HO_19
             clear BK215
             clear HB
             have HO_5 := n0_
             have HO_19 := n1_
             have BK215 := n2_
             have HB := n3_
             clear n0_ n1_ n2_ n3_
             refine start_ (n := 8) (S := fun w' => w'.cell? ⟨gb215, 0, none⟩ = some (.int .i64 ((rd_T81 t211 x21_2).f0)) ∧ w'.cell? ⟨gb215, 1, none⟩ = some (.int .i64 ((rd_T81 t211 x21_2).f1))) (ds := []) #[false, false, false, false, false, false, false, false] (by kernel_rfl) rfl rfl ⟨(zQ BK215.out 0).trans rfl, (zQ BK215.out 1).trans rfl⟩ (fun hHeld => ?_); refine with_tabW impl_DownSamples.tab7 impl_DownSamples.bits7 (fun HT_ HW_ => ?_)
             generalize w27.drew = w28 at HO_5 HO_19 BK215 HB hHeld ⊢
             refine pure_ (i := 1) (N := some 26) (v := ?_) (a' := ?_) #[false, true, false, false, false, false, false, false] rfl rfl (any_of HT_.out (by kernel_rfl)) (fun _ _ _ h => h) (Or.inl ⟨by rfl, ?_⟩) ?_ ?_
             rotate_left
             ·intro w'
              go_simp
              with_reducible rfl
             rotate_left
             ·simp only [Act.put, zT, zU, zV, i64_w, i32_w]
              rfl
             refine pure_ (i := 3) (N := some 28) (v := ?_) (a' := ?_) #[false, true, false, true, false, false, false, false] rfl rfl (any_of HT_.out (by kernel_rfl)) (fun _ _ _ h => h) (Or.inl ⟨by rfl, ?_⟩) ?_ ?_
             rotate_left
             ·intro w'
              go_simp
              with_reducible rfl
             rotate_left
             ·simp only [Act.put, zT, zU, zV, i64_w, i32_w]
              rfl
             refine take_ (i := 0) (N := some 25) (v := ?_) (a' := ?_) #[true, true, false, true, false, false, false, false] rfl rfl (take_ofW HT_.out HW_.out (by kernel_rfl)) (fun _ _ _ h => h) (Or.inl ⟨by rfl, ?_⟩) hHeld ?_ ?_
             rotate_left
             ·rintro w' ⟨s0, s1⟩
              go_simp
              with_reducible rfl
             rotate_left
             ·simp only [Act.put, zT, zU, zV, i64_w, i32_w]
              rfl
             refine take_ (i := 2) (N := some 27) (v := ?_) (a' := ?_) #[true, true, true, true, false, false, false, false] rfl rfl (take_ofW HT_.out HW_.out (by kernel_rfl)) (fun _ _ _ h => h) (Or.inl ⟨by rfl, ?_⟩) hHeld ?_ ?_
             rotate_left
             ·rintro w' ⟨s0, s1⟩
              go_simp
              with_reducible rfl
             rotate_left
             ·simp only [Act.put, zT, zU, zV, i64_w, i32_w]
              rfl
             refine join_ (σ := Nat) 1 #[true, true, true, true, true, true, true, false] (fun s_ => [(29, .int .i64 t216), (30, .agg #[.int .i64 t217, .int .i64 t218, .int .i64 t219, .int .i64 t220, .int .i64 t221, .int .i64 t222, .int .i64 t223, .int .i64 t224]), (8, .pointer (some ⟨s_, 0, none⟩))]) (fun s_ w' => (w'.cell? ⟨gb215, 0, none⟩ = some (.int .i64 ((rd_T81 t211 x21_2).f0)) ∧ w'.cell? ⟨gb215, 1, none⟩ = some (.int .i64 ((rd_T81 t211 x21_2).f1))) ∧ (Kd.R k81 81 w' w.heap.size (fun k_ => k_ ≠ gb215) (.slice (some ad214) t211.length co12) t211) ∧ (Kd.R k78 78 w' w.heap.size (fun k_ => k_ ≠ s_) u5 x5_2) ∧ (w'.heap[gb215]? = some (.cells #[.int .i64 ((rd_T81 t211 x21_2).f0), .int .i64 ((rd_T81 t211 x21_2).f1)] 81 (0, 0))) ∧ (w'.heap[s_]? = some (.cells #[.int .i64 0, .int .i64 0, .int .i64 0, .int .i64 0, .int .i64 0, .int .i64 0, .int .i64 0, .int .i64 0] 78 (0, 0))) ∧ (w.heap.size ≤ s_) ∧ (w.heap.size ≤ s_) ∧ (gb215 ≠ s_) ∧ (s_ ≠ gb215) ∧ (Below w.heap.size w w')) ?_ ?_
             rotate_left
             ·intro hCont
              refine two_ (i := 4) (j := 6) (Ni := some 29) (Nj := some 8) #[true, true, true, true, true, false, false, false] #[true, true, true, true, false, false, true, false] rfl rfl rfl rfl (two_of HT_.out (by kernel_rfl)) (by decide) (by decide) (fun K hK => ?_) (fun K hK => ?_)
              ·skip
               refine goes_ Try.func76 (by kernel_rfl) rfl #[.int .i64 ((rd_T81 t211 x21_2).f0), .int .i64 a1] (by rfl) rfl rfl (by (try simp only [List.map_toArray, List.map_cons, List.map_nil]); first | done | rfl | (simp only [List.length_drop, List.length_take]; rfl)) ?_
               with_reducible refine (impl_windowOf.calls ((rd_T81 t211 x21_2).f0) a1 t216 _ A16.out).mono ?_
               rintro e w' ⟨rfl, ⟨nd, rfl⟩⟩
               refine ⟨_, rfl, ?_⟩
               refine hK.out _ _ ⟨(zQ BK215.out 0).trans rfl, (zQ BK215.out 1).trans rfl⟩ (fun hHeld => ?_)
               clear hK K
               refine norm_ (a' := ?_) ?_ ?_
               rotate_left
               ·show Act.put _ (some 29) _ = _
                simp only [Act.put, zT, zU, zV, i64_w, i32_w]
                rfl
               refine two_ (i := 5) (j := 6) (Ni := some 30) (Nj := some 8) #[true, true, true, true, true, true, false, false] #[true, true, true, true, true, false, true, false] rfl rfl rfl rfl (two_of HT_.out (by kernel_rfl)) (by decide) (by decide) (fun K hK => ?_) (fun K hK => ?_)
               ·skip
                refine goes_ Try.func75 (by kernel_rfl) rfl #[.agg #[.int .i64 ((rd_T81 t211 x21_2).f0), .int .i64 ((rd_T81 t211 x21_2).f1)], .int .i64 t216] (by rfl) rfl rfl (by (try simp only [List.map_toArray, List.map_cons, List.map_nil]); first | done | rfl | (simp only [List.length_drop, List.length_take]; rfl)) ?_
                with_reducible refine (impl_aggOf.calls ((rd_T81 t211 x21_2).f0) ((rd_T81 t211 x21_2).f1) t216 t217 t218 t219 t220 t221 t222 t223 t224 _ A17.out).mono ?_
                rintro e w29 ⟨rfl, hb⟩
                refine ⟨_, rfl, ?_⟩
                have n0_ := Aside0.mk (Kd.R_below (by (with_reducible repeat (first | apply zG | apply zH | apply zI)); exact HO_5.out) hb)
                have n1_ := Aside0.mk (Kd.R_below (by (with_reducible repeat (first | apply zG | apply zH | apply zI)); exact HO_19.out) hb)
                have n2_ := Aside0.mk (blk_below (g := gb215) (o := .cells #[.int .i64 ((rd_T81 t211 x21_2).f0), .int .i64 ((rd_T81 t211 x21_2).f1)] 81 (0, 0)) (by (with_reducible repeat (first | refine zE ?_ _ | refine zF ?_ | refine zD ?_ _)); exact BK215.out) hb)
                have n3_ := Aside0.mk (below_step (by repeat (first | (with_reducible first | exact HB.out | apply zA | apply zB | apply zC | refine below_set ?_ GE215.out) | exact HB.out)) hb)
                clear HO_5
                clear HO_19
                clear BK215
                clear HB
                have HO_5 := n0_
                have HO_19 := n1_
                have BK215 := n2_
                have HB := n3_
                clear n0_ n1_ n2_ n3_
                (try clear hb)
                (try clear hb2)
                (try clear hk)
                (try clear hi)
                refine hK.out _ _ ⟨(zQ BK215.out 0).trans rfl, (zQ BK215.out 1).trans rfl⟩ (fun hHeld => ?_)
                clear hK K
                refine norm_ (a' := ?_) ?_ ?_
                rotate_left
                ·show Act.put _ (some 30) _ = _
                 simp only [Act.put, zT, zU, zV, i64_w, i32_w]
                 rfl
                refine one_ (i := 6) (N := some 8) #[true, true, true, true, true, true, true, false] rfl rfl (one_of HT_.out (by kernel_rfl)) (by decide) (fun K hK => ?_)
                refine box_step ?hg (N := 8) ?hd (cs := #[.int .i64 0, .int .i64 0, .int .i64 0, .int .i64 0, .int .i64 0, .int .i64 0, .int .i64 0, .int .i64 0]) (t := 78) ?hr ?_; (case hd => rfl); (case hg => rfl); (case hr => first | (go_simp; done) | (go_simp; rfl))
                intro gb225 hg w30 hbox hb
                have n0_ := Aside0.mk (Kd.R_below (Kd.R_elderB (by (with_reducible repeat (first | apply zG | apply zH | apply zI)); exact HO_5.out) gb225 (Nat.le_of_eq hg.symm)) hb)
                have n1_ := Aside0.mk (Kd.R_below (by (with_reducible repeat (first | apply zG | apply zH | apply zI)); exact HO_19.out) hb)
                have n2_ := Aside0.mk (blk_below (g := gb215) (o := .cells #[.int .i64 ((rd_T81 t211 x21_2).f0), .int .i64 ((rd_T81 t211 x21_2).f1)] 81 (0, 0)) (by (with_reducible repeat (first | refine zE ?_ _ | refine zF ?_ | refine zD ?_ _)); exact BK215.out) hb)
                have n3_ := Aside0.mk (below_step (by repeat (first | (with_reducible first | exact HB.out | apply zA | apply zB | apply zC | refine below_set ?_ GE215.out) | exact HB.out)) hb)
                have n4_ := Aside0.mk (hbox)
                have n5_ := Aside0.mk ((by rw [hg]; exact (zW (by repeat (first | (with_reducible first | exact HB.out | apply zA | apply zB | apply zC | refine below_set ?_ GE215.out) | exact HB.out))) : w.heap.size ≤ gb225))
                have n6_ := Aside0.mk ((by rw [hg]; exact (zW (by repeat (first | (with_reducible first | exact HB.out | apply zA | apply zB | apply zC | refine below_set ?_ GE215.out) | exact HB.out))) : w.heap.size ≤ gb225))
                have n7_ := Aside0.mk ((by rw [hg]; exact Nat.ne_of_lt (blk_lt (g := gb215) (o := .cells #[.int .i64 ((rd_T81 t211 x21_2).f0), .int .i64 ((rd_T81 t211 x21_2).f1)] 81 (0, 0)) (by (with_reducible repeat (first | refine zE ?_ _ | refine zF ?_ | refine zD ?_ _)); exact BK215.out)) : gb215 ≠ gb225))
                have n8_ := Aside0.mk ((by rw [hg]; exact Nat.ne_of_gt (blk_lt (g := gb215) (o := .cells #[.int .i64 ((rd_T81 t211 x21_2).f0), .int .i64 ((rd_T81 t211 x21_2).f1)] 81 (0, 0)) (by (with_reducible repeat (first | refine zE ?_ _ | refine zF ?_ | refine zD ?_ _)); exact BK215.out)) : gb225 ≠ gb215))
                clear HO_5
                clear HO_19
                clear BK215
                clear HB
                have HO_5 := n0_
                have HO_19 := n1_
                have BK215 := n2_
                have HB := n3_
                have BK225 := n4_
                have GW225 := n5_
                have GE225 := n6_
                have NB215_225 := n7_
                have NB225_215 := n8_
                clear n0_ n1_ n2_ n3_ n4_ n5_ n6_ n7_ n8_
                clear hb hbox hg
                refine hK.out _ _ ⟨(zQ BK215.out 0).trans rfl, (zQ BK215.out 1).trans rfl⟩ (fun hHeld => ?_)
                clear hK K
                refine norm_ (a' := ?_) ?_ ?_
                rotate_left
                ·show Act.put _ (some 8) _ = _
                 simp only [Act.put, zT, zU, zV, i64_w, i32_w]
                 rfl
                exact norm_ (by simp only [putAll, Act.put, zT, zU, zV]) (hCont (gb225) _ ⟨hHeld, (by (with_reducible repeat (first | apply zG | apply zH | apply zI)); exact HO_19.out), (by (with_reducible repeat (first | apply zG | apply zH | apply zI)); exact Kd.R_mono HO_5.out (fun _ hk => hk.2)), (by (with_reducible repeat (first | refine zE ?_ _ | refine zF ?_ | refine zD ?_ _)); exact BK215.out), (by (with_reducible repeat (first | refine zE ?_ _ | refine zF ?_ | refine zD ?_ _)); exact BK225.out), GW225.out, GE225.out, NB215_225.out, NB225_215.out, (by repeat (first | (with_reducible first | exact HB.out | apply zA | apply zB | apply zC | refine below_set ?_ GE215.out | refine below_set ?_ GE225.out) | exact HB.out))⟩)
               ·skip
                refine box_step ?hg (N := 8) ?hd (cs := #[.int .i64 0, .int .i64 0, .int .i64 0, .int .i64 0, .int .i64 0, .int .i64 0, .int .i64 0, .int .i64 0]) (t := 78) ?hr ?_; (case hd => rfl); (case hg => rfl); (case hr => first | (go_simp; done) | (go_simp; rfl))
                intro gb225 hg w29 hbox hb
                have n0_ := Aside0.mk (Kd.R_below (Kd.R_elderB (by (with_reducible repeat (first | apply zG | apply zH | apply zI)); exact HO_5.out) gb225 (Nat.le_of_eq hg.symm)) hb)
                have n1_ := Aside0.mk (Kd.R_below (by (with_reducible repeat (first | apply zG | apply zH | apply zI)); exact HO_19.out) hb)
                have n2_ := Aside0.mk (blk_below (g := gb215) (o := .cells #[.int .i64 ((rd_T81 t211 x21_2).f0), .int .i64 ((rd_T81 t211 x21_2).f1)] 81 (0, 0)) (by (with_reducible repeat (first | refine zE ?_ _ | refine zF ?_ | refine zD ?_ _)); exact BK215.out) hb)
                have n3_ := Aside0.mk (below_step (by repeat (first | (with_reducible first | exact HB.out | apply zA | apply zB | apply zC | refine below_set ?_ GE215.out) | exact HB.out)) hb)
                have n4_ := Aside0.mk (hbox)
                have n5_ := Aside0.mk ((by rw [hg]; exact (zW (by repeat (first | (with_reducible first | exact HB.out | apply zA | apply zB | apply zC | refine below_set ?_ GE215.out) | exact HB.out))) : w.heap.size ≤ gb225))
                have n6_ := Aside0.mk ((by rw [hg]; exact (zW (by repeat (first | (with_reducible first | exact HB.out | apply zA | apply zB | apply zC | refine below_set ?_ GE215.out) | exact HB.out))) : w.heap.size ≤ gb225))
                have n7_ := Aside0.mk ((by rw [hg]; exact Nat.ne_of_lt (blk_lt (g := gb215) (o := .cells #[.int .i64 ((rd_T81 t211 x21_2).f0), .int .i64 ((rd_T81 t211 x21_2).f1)] 81 (0, 0)) (by (with_reducible repeat (first | refine zE ?_ _ | refine zF ?_ | refine zD ?_ _)); exact BK215.out)) : gb215 ≠ gb225))
                have n8_ := Aside0.mk ((by rw [hg]; exact Nat.ne_of_gt (blk_lt (g := gb215) (o := .cells #[.int .i64 ((rd_T81 t211 x21_2).f0), .int .i64 ((rd_T81 t211 x21_2).f1)] 81 (0, 0)) (by (with_reducible repeat (first | refine zE ?_ _ | refine zF ?_ | refine zD ?_ _)); exact BK215.out)) : gb225 ≠ gb215))
                clear HO_5
                clear HO_19
                clear BK215
                clear HB
                have HO_5 := n0_
                have HO_19 := n1_
                have BK215 := n2_
                have HB := n3_
                have BK225 := n4_
                have GW225 := n5_
                have GE225 := n6_
                have NB215_225 := n7_
                have NB225_215 := n8_
                clear n0_ n1_ n2_ n3_ n4_ n5_ n6_ n7_ n8_
                clear hb hbox hg
                refine hK.out _ _ ⟨(zQ BK215.out 0).trans rfl, (zQ BK215.out 1).trans rfl⟩ (fun hHeld => ?_)
                clear hK K
                refine norm_ (a' := ?_) ?_ ?_
                rotate_left
                ·show Act.put _ (some 8) _ = _
                 simp only [Act.put, zT, zU, zV, i64_w, i32_w]
                 rfl
                refine one_ (i := 5) (N := some 30) #[true, true, true, true, true, true, true, false] rfl rfl (one_of HT_.out (by kernel_rfl)) (by decide) (fun K hK => ?_)
                refine goes_ Try.func75 (by kernel_rfl) rfl #[.agg #[.int .i64 ((rd_T81 t211 x21_2).f0), .int .i64 ((rd_T81 t211 x21_2).f1)], .int .i64 t216] (by rfl) rfl rfl (by (try simp only [List.map_toArray, List.map_cons, List.map_nil]); first | done | rfl | (simp only [List.length_drop, List.length_take]; rfl)) ?_
                with_reducible refine (impl_aggOf.calls ((rd_T81 t211 x21_2).f0) ((rd_T81 t211 x21_2).f1) t216 t217 t218 t219 t220 t221 t222 t223 t224 _ A17.out).mono ?_
                rintro e w30 ⟨rfl, hb⟩
                refine ⟨_, rfl, ?_⟩
                have n0_ := Aside0.mk (Kd.R_below (by (with_reducible repeat (first | apply zG | apply zH | apply zI)); exact HO_5.out) hb)
                have n1_ := Aside0.mk (Kd.R_below (by (with_reducible repeat (first | apply zG | apply zH | apply zI)); exact HO_19.out) hb)
                have n2_ := Aside0.mk (blk_below (g := gb215) (o := .cells #[.int .i64 ((rd_T81 t211 x21_2).f0), .int .i64 ((rd_T81 t211 x21_2).f1)] 81 (0, 0)) (by (with_reducible repeat (first | refine zE ?_ _ | refine zF ?_ | refine zD ?_ _)); exact BK215.out) hb)
                have n3_ := Aside0.mk (blk_below (g := gb225) (o := cs8 78 0 0 0 0 0 0 0 0) (by (with_reducible repeat (first | refine zE ?_ _ | refine zF ?_ | refine zD ?_ _)); exact BK225.out) hb)
                have n4_ := Aside0.mk (below_step (by repeat (first | (with_reducible first | exact HB.out | apply zA | apply zB | apply zC | refine below_set ?_ GE215.out | refine below_set ?_ GE225.out) | exact HB.out)) hb)
                clear HO_5
                clear HO_19
                clear BK215
                clear BK225
                clear HB
                have HO_5 := n0_
                have HO_19 := n1_
                have BK215 := n2_
                have BK225 := n3_
                have HB := n4_
                clear n0_ n1_ n2_ n3_ n4_
                (try clear hb)
                (try clear hb2)
                (try clear hk)
                (try clear hi)
                refine hK.out _ _ ⟨(zQ BK215.out 0).trans rfl, (zQ BK215.out 1).trans rfl⟩ (fun hHeld => ?_)
                clear hK K
                refine norm_ (a' := ?_) ?_ ?_
                rotate_left
                ·show Act.put _ (some 30) _ = _
                 simp only [Act.put, zT, zU, zV, i64_w, i32_w]
                 rfl
                exact norm_ (by simp only [putAll, Act.put, zT, zU, zV]) (hCont (gb225) _ ⟨hHeld, (by (with_reducible repeat (first | apply zG | apply zH | apply zI)); exact HO_19.out), (by (with_reducible repeat (first | apply zG | apply zH | apply zI)); exact Kd.R_mono HO_5.out (fun _ hk => hk.2)), (by (with_reducible repeat (first | refine zE ?_ _ | refine zF ?_ | refine zD ?_ _)); exact BK215.out), (by (with_reducible repeat (first | refine zE ?_ _ | refine zF ?_ | refine zD ?_ _)); exact BK225.out), GW225.out, GE225.out, NB215_225.out, NB225_215.out, (by repeat (first | (with_reducible first | exact HB.out | apply zA | apply zB | apply zC | refine below_set ?_ GE215.out | refine below_set ?_ GE225.out) | exact HB.out))⟩)
              ·skip
               refine box_step ?hg (N := 8) ?hd (cs := #[.int .i64 0, .int .i64 0, .int .i64 0, .int .i64 0, .int .i64 0, .int .i64 0, .int .i64 0, .int .i64 0]) (t := 78) ?hr ?_; (case hd => rfl); (case hg => rfl); (case hr => first | (go_simp; done) | (go_simp; rfl))
               intro gb225 hg w29 hbox hb
               have n0_ := Aside0.mk (Kd.R_below (Kd.R_elderB (by (with_reducible repeat (first | apply zG | apply zH | apply zI)); exact HO_5.out) gb225 (Nat.le_of_eq hg.symm)) hb)
               have n1_ := Aside0.mk (Kd.R_below (by (with_reducible repeat (first | apply zG | apply zH | apply zI)); exact HO_19.out) hb)
               have n2_ := Aside0.mk (blk_below (g := gb215) (o := .cells #[.int .i64 ((rd_T81 t211 x21_2).f0), .int .i64 ((rd_T81 t211 x21_2).f1)] 81 (0, 0)) (by (with_reducible repeat (first | refine zE ?_ _ | refine zF ?_ | refine zD ?_ _)); exact BK215.out) hb)
               have n3_ := Aside0.mk (below_step (by repeat (first | (with_reducible first | exact HB.out | apply zA | apply zB | apply zC | refine below_set ?_ GE215.out) | exact HB.out)) hb)
               have n4_ := Aside0.mk (hbox)
               have n5_ := Aside0.mk ((by rw [hg]; exact (zW (by repeat (first | (with_reducible first | exact HB.out | apply zA | apply zB | apply zC | refine below_set ?_ GE215.out) | exact HB.out))) : w.heap.size ≤ gb225))
               have n6_ := Aside0.mk ((by rw [hg]; exact (zW (by repeat (first | (with_reducible first | exact HB.out | apply zA | apply zB | apply zC | refine below_set ?_ GE215.out) | exact HB.out))) : w.heap.size ≤ gb225))
               have n7_ := Aside0.mk ((by rw [hg]; exact Nat.ne_of_lt (blk_lt (g := gb215) (o := .cells #[.int .i64 ((rd_T81 t211 x21_2).f0), .int .i64 ((rd_T81 t211 x21_2).f1)] 81 (0, 0)) (by (with_reducible repeat (first | refine zE ?_ _ | refine zF ?_ | refine zD ?_ _)); exact BK215.out)) : gb215 ≠ gb225))
               have n8_ := Aside0.mk ((by rw [hg]; exact Nat.ne_of_gt (blk_lt (g := gb215) (o := .cells #[.int .i64 ((rd_T81 t211 x21_2).f0), .int .i64 ((rd_T81 t211 x21_2).f1)] 81 (0, 0)) (by (with_reducible repeat (first | refine zE ?_ _ | refine zF ?_ | refine zD ?_ _)); exact BK215.out)) : gb225 ≠ gb215))
               clear HO_5
               clear HO_19
               clear BK215
               clear HB
               have HO_5 := n0_
               have HO_19 := n1_
               have BK215 := n2_
               have HB := n3_
               have BK225 := n4_
               have GW225 := n5_
               have GE225 := n6_
               have NB215_225 := n7_
               have NB225_215 := n8_
               clear n0_ n1_ n2_ n3_ n4_ n5_ n6_ n7_ n8_
               clear hb hbox hg
               refine hK.out _ _ ⟨(zQ BK215.out 0).trans rfl, (zQ BK215.out 1).trans rfl⟩ (fun hHeld => ?_)
               clear hK K
               refine norm_ (a' := ?_) ?_ ?_
               rotate_left
               ·show Act.put _ (some 8) _ = _
                simp only [Act.put, zT, zU, zV, i64_w, i32_w]
                rfl
               refine one_ (i := 4) (N := some 29) #[true, true, true, true, true, false, true, false] rfl rfl (one_of HT_.out (by kernel_rfl)) (by decide) (fun K hK => ?_)
               refine goes_ Try.func76 (by kernel_rfl) rfl #[.int .i64 ((rd_T81 t211 x21_2).f0), .int .i64 a1] (by rfl) rfl rfl (by (try simp only [List.map_toArray, List.map_cons, List.map_nil]); first | done | rfl | (simp only [List.length_drop, List.length_take]; rfl)) ?_
               with_reducible refine (impl_windowOf.calls ((rd_T81 t211 x21_2).f0) a1 t216 _ A16.out).mono ?_
               rintro e w' ⟨rfl, ⟨nd, rfl⟩⟩
               refine ⟨_, rfl, ?_⟩
               refine hK.out _ _ ⟨(zQ BK215.out 0).trans rfl, (zQ BK215.out 1).trans rfl⟩ (fun hHeld => ?_)
               clear hK K
               refine norm_ (a' := ?_) ?_ ?_
               rotate_left
               ·show Act.put _ (some 29) _ = _
                simp only [Act.put, zT, zU, zV, i64_w, i32_w]
                rfl
               refine one_ (i := 5) (N := some 30) #[true, true, true, true, true, true, true, false] rfl rfl (one_of HT_.out (by kernel_rfl)) (by decide) (fun K hK => ?_)
               refine goes_ Try.func75 (by kernel_rfl) rfl #[.agg #[.int .i64 ((rd_T81 t211 x21_2).f0), .int .i64 ((rd_T81 t211 x21_2).f1)], .int .i64 t216] (by rfl) rfl rfl (by (try simp only [List.map_toArray, List.map_cons, List.map_nil]); first | done | rfl | (simp only [List.length_drop, List.length_take]; rfl)) ?_
               with_reducible refine (impl_aggOf.calls ((rd_T81 t211 x21_2).f0) ((rd_T81 t211 x21_2).f1) t216 t217 t218 t219 t220 t221 t222 t223 t224 _ A17.out).mono ?_
               rintro e w30 ⟨rfl, hb⟩
               refine ⟨_, rfl, ?_⟩
               have n0_ := Aside0.mk (Kd.R_below (by (with_reducible repeat (first | apply zG | apply zH | apply zI)); exact HO_5.out) hb)
               have n1_ := Aside0.mk (Kd.R_below (by (with_reducible repeat (first | apply zG | apply zH | apply zI)); exact HO_19.out) hb)
               have n2_ := Aside0.mk (blk_below (g := gb215) (o := .cells #[.int .i64 ((rd_T81 t211 x21_2).f0), .int .i64 ((rd_T81 t211 x21_2).f1)] 81 (0, 0)) (by (with_reducible repeat (first | refine zE ?_ _ | refine zF ?_ | refine zD ?_ _)); exact BK215.out) hb)
               have n3_ := Aside0.mk (blk_below (g := gb225) (o := cs8 78 0 0 0 0 0 0 0 0) (by (with_reducible repeat (first | refine zE ?_ _ | refine zF ?_ | refine zD ?_ _)); exact BK225.out) hb)
               have n4_ := Aside0.mk (below_step (by repeat (first | (with_reducible first | exact HB.out | apply zA | apply zB | apply zC | refine below_set ?_ GE215.out | refine below_set ?_ GE225.out) | exact HB.out)) hb)
               clear HO_5
               clear HO_19
               clear BK215
               clear BK225
               clear HB
               have HO_5 := n0_
               have HO_19 := n1_
               have BK215 := n2_
               have BK225 := n3_
               have HB := n4_
               clear n0_ n1_ n2_ n3_ n4_
               (try clear hb)
               (try clear hb2)
               (try clear hk)
               (try clear hi)
               refine hK.out _ _ ⟨(zQ BK215.out 0).trans rfl, (zQ BK215.out 1).trans rfl⟩ (fun hHeld => ?_)
               clear hK K
               refine norm_ (a' := ?_) ?_ ?_
               rotate_left
               ·show Act.put _ (some 30) _ = _
                simp only [Act.put, zT, zU, zV, i64_w, i32_w]
                rfl
               exact norm_ (by simp only [putAll, Act.put, zT, zU, zV]) (hCont (gb225) _ ⟨hHeld, (by (with_reducible repeat (first | apply zG | apply zH | apply zI)); exact HO_19.out), (by (with_reducible repeat (first | apply zG | apply zH | apply zI)); exact Kd.R_mono HO_5.out (fun _ hk => hk.2)), (by (with_reducible repeat (first | refine zE ?_ _ | refine zF ?_ | refine zD ?_ _)); exact BK215.out), (by (with_reducible repeat (first | refine zE ?_ _ | refine zF ?_ | refine zD ?_ _)); exact BK225.out), GW225.out, GE225.out, NB215_225.out, NB225_215.out, (by repeat (first | (with_reducible first | exact HB.out | apply zA | apply zB | apply zC | refine below_set ?_ GE215.out | refine below_set ?_ GE225.out) | exact HB.out))⟩)
             rintro gb225 w31 ⟨hS_, h0_, h1_, h2_, h3_, h4_, h5_, h6_, h7_, h8_⟩
             have n0_ : Aside0 (Kd.R k81 81 w31 w.heap.size (fun k_ => k_ ≠ gb215) (.slice (some ad214) t211.length co12) t211) := ⟨h0_⟩
             have n1_ : Aside0 (Kd.R k78 78 w31 w.heap.size (fun k_ => k_ ≠ gb225) u5 x5_2) := ⟨h1_⟩
             have n2_ : Aside0 (w31.heap[gb215]? = some (.cells #[.int .i64 ((rd_T81 t211 x21_2).f0), .int .i64 ((rd_T81 t211 x21_2).f1)] 81 (0, 0))) := ⟨h2_⟩
             have n3_ : Aside0 (w31.heap[gb225]? = some (.cells #[.int .i64 0, .int .i64 0, .int .i64 0, .int .i64 0, .int .i64 0, .int .i64 0, .int .i64 0, .int .i64 0] 78 (0, 0))) := ⟨h3_⟩
             have n4_ : Aside0 (w.heap.size ≤ gb225) := ⟨h4_⟩
             have n5_ : Aside0 (w.heap.size ≤ gb225) := ⟨h5_⟩
             have n6_ : Aside0 (gb215 ≠ gb225) := ⟨h6_⟩
             have n7_ : Aside0 (gb225 ≠ gb215) := ⟨h7_⟩
             have n8_ : Aside0 (Below w.heap.size w w31) := ⟨h8_⟩
             clear HO_5
             clear HO_19
             clear BK215
             clear HB
             clear h0_ h1_ h2_ h3_ h4_ h5_ h6_ h7_ h8_
             have HO_19 := n0_
             have HO_5 := n1_
             have BK215 := n2_
             have BK225 := n3_
             have GW225 := n4_
             have GE225 := n5_
             have NB215_225 := n6_
             have NB225_215 := n7_
             have HB := n8_
             clear n0_ n1_ n2_ n3_ n4_ n5_ n6_ n7_ n8_
             have hHeld : w31.cell? ⟨gb215, 0, none⟩ = some (.int .i64 ((rd_T81 t211 x21_2).f0)) ∧ w31.cell? ⟨gb215, 1, none⟩ = some (.int .i64 ((rd_T81 t211 x21_2).f1)) := hS_
             refine norm_ (a' := ?_) ?_ ?_
             rotate_left
             ·simp only [putAll, Act.put, zT, zU, zV]
              rfl
             refine one_ (i := 7) (N := none) #[true, true, true, true, true, true, true, true] rfl rfl (one_of HT_.out (by kernel_rfl)) (by decide) (fun K hK => ?_)
             have hs32 : w31.cell? ⟨gb225, 0, none⟩ = some (.int .i64 0) := (zQ BK225.out 0).trans rfl
             have hfs32 := blk_frozen BK225.out 0
             have hns32_0 := NB215_225.out
             have hms32_0 := NB225_215.out
             have hs33 : w31.cell? ⟨gb225, 1, none⟩ = some (.int .i64 0) := (zQ BK225.out 1).trans rfl
             have hfs33 := blk_frozen BK225.out 1
             have hns33_0 := NB215_225.out
             have hms33_0 := NB225_215.out
             have hs34 : w31.cell? ⟨gb225, 2, none⟩ = some (.int .i64 0) := (zQ BK225.out 2).trans rfl
             have hfs34 := blk_frozen BK225.out 2
             have hns34_0 := NB215_225.out
             have hms34_0 := NB225_215.out
             have hs35 : w31.cell? ⟨gb225, 3, none⟩ = some (.int .i64 0) := (zQ BK225.out 3).trans rfl
             have hfs35 := blk_frozen BK225.out 3
             have hns35_0 := NB215_225.out
             have hms35_0 := NB225_215.out
             have hs36 : w31.cell? ⟨gb225, 4, none⟩ = some (.int .i64 0) := (zQ BK225.out 4).trans rfl
             have hfs36 := blk_frozen BK225.out 4
             have hns36_0 := NB215_225.out
             have hms36_0 := NB225_215.out
             have hs37 : w31.cell? ⟨gb225, 5, none⟩ = some (.int .i64 0) := (zQ BK225.out 5).trans rfl
             have hfs37 := blk_frozen BK225.out 5
             have hns37_0 := NB215_225.out
             have hms37_0 := NB225_215.out
             have hs38 : w31.cell? ⟨gb225, 6, none⟩ = some (.int .i64 0) := (zQ BK225.out 6).trans rfl
             have hfs38 := blk_frozen BK225.out 6
             have hns38_0 := NB215_225.out
             have hms38_0 := NB225_215.out
             have hs39 : w31.cell? ⟨gb225, 7, none⟩ = some (.int .i64 0) := (zQ BK225.out 7).trans rfl
             have hfs39 := blk_frozen BK225.out 7
             have hns39_0 := NB215_225.out
             have hms39_0 := NB225_215.out
             refine skip_ (w1 := ?_) (by rfl) rfl ?_ ?_
             rotate_left
             ·go_simp
              rfl
             refine hK.out _ _ ⟨((far8 (g := gb225) NB215_225.out).trans (hHeld.1)), ((far8 (g := gb225) NB215_225.out).trans (hHeld.2))⟩ (fun hHeld => ?_)
             clear hK K
             refine done_ (done_of HT_.out (by kernel_rfl)) ?_
             obtain ⟨Ao40, co40, eo40⟩ := Kd.R_slice HO_5.out
             subst eo40
             try go_wp2
             have n0_ : Aside0 (Kd.R k78 78 ((((((((w31.setCell ⟨gb225, 0, none⟩ (.int .i64 t217)).setCell ⟨gb225, 1, none⟩ (.int .i64 t218)).setCell ⟨gb225, 2, none⟩ (.int .i64 t219)).setCell ⟨gb225, 3, none⟩ (.int .i64 t220)).setCell ⟨gb225, 4, none⟩ (.int .i64 t221)).setCell ⟨gb225, 5, none⟩ (.int .i64 t222)).setCell ⟨gb225, 6, none⟩ (.int .i64 t223)).setCell ⟨gb225, 7, none⟩ (.int .i64 t224)) w.heap.size (fun k_ => k_ ≠ gb225) (.slice Ao40 x5_2.length co40) x5_2) := ⟨by (with_reducible repeat (first | apply zG | apply zH | apply zI)); exact Kd.R_mono (Kd.R_far (p := ⟨gb225, 7, none⟩) (Kd.R_far (p := ⟨gb225, 6, none⟩) (Kd.R_far (p := ⟨gb225, 5, none⟩) (Kd.R_far (p := ⟨gb225, 4, none⟩) (Kd.R_far (p := ⟨gb225, 3, none⟩) (Kd.R_far (p := ⟨gb225, 2, none⟩) (Kd.R_far (p := ⟨gb225, 1, none⟩) (Kd.R_far (p := ⟨gb225, 0, none⟩) (Kd.R_mono HO_5.out (fun k_ hk => (⟨hk, hk⟩ : _ ∧ k_ ≠ gb225))) (fun _ hk => hk.2) (.int .i64 t217)) (fun _ hk => hk.2) (.int .i64 t218)) (fun _ hk => hk.2) (.int .i64 t219)) (fun _ hk => hk.2) (.int .i64 t220)) (fun _ hk => hk.2) (.int .i64 t221)) (fun _ hk => hk.2) (.int .i64 t222)) (fun _ hk => hk.2) (.int .i64 t223)) (fun _ hk => hk.2) (.int .i64 t224)) (fun _ hk => hk.1)⟩
             have n1_ : Aside0 (Kd.R k81 81 ((((((((w31.setCell ⟨gb225, 0, none⟩ (.int .i64 t217)).setCell ⟨gb225, 1, none⟩ (.int .i64 t218)).setCell ⟨gb225, 2, none⟩ (.int .i64 t219)).setCell ⟨gb225, 3, none⟩ (.int .i64 t220)).setCell ⟨gb225, 4, none⟩ (.int .i64 t221)).setCell ⟨gb225, 5, none⟩ (.int .i64 t222)).setCell ⟨gb225, 6, none⟩ (.int .i64 t223)).setCell ⟨gb225, 7, none⟩ (.int .i64 t224)) w.heap.size (fun k_ => k_ ≠ gb215) (.slice (some ad214) t211.length co12) t211) := ⟨by (with_reducible repeat (first | apply zG | apply zH | apply zI)); exact Kd.R_mono (Kd.R_far (p := ⟨gb225, 7, none⟩) (Kd.R_far (p := ⟨gb225, 6, none⟩) (Kd.R_far (p := ⟨gb225, 5, none⟩) (Kd.R_far (p := ⟨gb225, 4, none⟩) (Kd.R_far (p := ⟨gb225, 3, none⟩) (Kd.R_far (p := ⟨gb225, 2, none⟩) (Kd.R_far (p := ⟨gb225, 1, none⟩) (Kd.R_far (p := ⟨gb225, 0, none⟩) (Kd.R_types HO_19.out BK225.out (by decide)) (fun _ hk => hk.2) (.int .i64 t217)) (fun _ hk => hk.2) (.int .i64 t218)) (fun _ hk => hk.2) (.int .i64 t219)) (fun _ hk => hk.2) (.int .i64 t220)) (fun _ hk => hk.2) (.int .i64 t221)) (fun _ hk => hk.2) (.int .i64 t222)) (fun _ hk => hk.2) (.int .i64 t223)) (fun _ hk => hk.2) (.int .i64 t224)) (fun _ hk => hk.1)⟩
             have n2_ : Aside0 (((((((((w31.setCell ⟨gb225, 0, none⟩ (.int .i64 t217)).setCell ⟨gb225, 1, none⟩ (.int .i64 t218)).setCell ⟨gb225, 2, none⟩ (.int .i64 t219)).setCell ⟨gb225, 3, none⟩ (.int .i64 t220)).setCell ⟨gb225, 4, none⟩ (.int .i64 t221)).setCell ⟨gb225, 5, none⟩ (.int .i64 t222)).setCell ⟨gb225, 6, none⟩ (.int .i64 t223)).setCell ⟨gb225, 7, none⟩ (.int .i64 t224)).heap[gb215]? = some (.cells #[.int .i64 ((rd_T81 t211 x21_2).f0), .int .i64 ((rd_T81 t211 x21_2).f1)] 81 (0, 0))) := ⟨by (with_reducible repeat (first | refine zE ?_ _ | refine zF ?_ | refine zD ?_ _)); refine blk_far ?_ NB215_225.out _; (with_reducible repeat (first | refine zE ?_ _ | refine zF ?_ | refine zD ?_ _)); refine blk_far ?_ NB215_225.out _; (with_reducible repeat (first | refine zE ?_ _ | refine zF ?_ | refine zD ?_ _)); refine blk_far ?_ NB215_225.out _; (with_reducible repeat (first | refine zE ?_ _ | refine zF ?_ | refine zD ?_ _)); refine blk_far ?_ NB215_225.out _; (with_reducible repeat (first | refine zE ?_ _ | refine zF ?_ | refine zD ?_ _)); refine blk_far ?_ NB215_225.out _; (with_reducible repeat (first | refine zE ?_ _ | refine zF ?_ | refine zD ?_ _)); refine blk_far ?_ NB215_225.out _; (with_reducible repeat (first | refine zE ?_ _ | refine zF ?_ | refine zD ?_ _)); refine blk_far ?_ NB215_225.out _; (with_reducible repeat (first | refine zE ?_ _ | refine zF ?_ | refine zD ?_ _)); refine blk_far ?_ NB215_225.out _; (with_reducible repeat (first | refine zE ?_ _ | refine zF ?_ | refine zD ?_ _)); exact BK215.out⟩
             have n3_ : Aside0 (((((((((w31.setCell ⟨gb225, 0, none⟩ (.int .i64 t217)).setCell ⟨gb225, 1, none⟩ (.int .i64 t218)).setCell ⟨gb225, 2, none⟩ (.int .i64 t219)).setCell ⟨gb225, 3, none⟩ (.int .i64 t220)).setCell ⟨gb225, 4, none⟩ (.int .i64 t221)).setCell ⟨gb225, 5, none⟩ (.int .i64 t222)).setCell ⟨gb225, 6, none⟩ (.int .i64 t223)).setCell ⟨gb225, 7, none⟩ (.int .i64 t224)).heap[gb225]? = some (.cells #[.int .i64 t217, .int .i64 t218, .int .i64 t219, .int .i64 t220, .int .i64 t221, .int .i64 t222, .int .i64 t223, .int .i64 t224] 78 (0, 0))) := ⟨by (with_reducible repeat (first | refine zE ?_ _ | refine zF ?_ | refine zD ?_ _)); refine blk_put (cs := #[.int .i64 t217, .int .i64 t218, .int .i64 t219, .int .i64 t220, .int .i64 t221, .int .i64 t222, .int .i64 t223, .int .i64 0]) ?_ 7 _ rfl; (with_reducible repeat (first | refine zE ?_ _ | refine zF ?_ | refine zD ?_ _)); refine blk_put (cs := #[.int .i64 t217, .int .i64 t218, .int .i64 t219, .int .i64 t220, .int .i64 t221, .int .i64 t222, .int .i64 0, .int .i64 0]) ?_ 6 _ rfl; (with_reducible repeat (first | refine zE ?_ _ | refine zF ?_ | refine zD ?_ _)); refine blk_put (cs := #[.int .i64 t217, .int .i64 t218, .int .i64 t219, .int .i64 t220, .int .i64 t221, .int .i64 0, .int .i64 0, .int .i64 0]) ?_ 5 _ rfl; (with_reducible repeat (first | refine zE ?_ _ | refine zF ?_ | refine zD ?_ _)); refine blk_put (cs := #[.int .i64 t217, .int .i64 t218, .int .i64 t219, .int .i64 t220, .int .i64 0, .int .i64 0, .int .i64 0, .int .i64 0]) ?_ 4 _ rfl; (with_reducible repeat (first | refine zE ?_ _ | refine zF ?_ | refine zD ?_ _)); refine blk_put (cs := #[.int .i64 t217, .int .i64 t218, .int .i64 t219, .int .i64 0, .int .i64 0, .int .i64 0, .int .i64 0, .int .i64 0]) ?_ 3 _ rfl; (with_reducible repeat (first | refine zE ?_ _ | refine zF ?_ | refine zD ?_ _)); refine blk_put (cs := #[.int .i64 t217, .int .i64 t218, .int .i64 0, .int .i64 0, .int .i64 0, .int .i64 0, .int .i64 0, .int .i64 0]) ?_ 2 _ rfl; (with_reducible repeat (first | refine zE ?_ _ | refine zF ?_ | refine zD ?_ _)); refine blk_put (cs := #[.int .i64 t217, .int .i64 0, .int .i64 0, .int .i64 0, .int .i64 0, .int .i64 0, .int .i64 0, .int .i64 0]) ?_ 1 _ rfl; (with_reducible repeat (first | refine zE ?_ _ | refine zF ?_ | refine zD ?_ _)); refine blk_put (cs := #[.int .i64 0, .int .i64 0, .int .i64 0, .int .i64 0, .int .i64 0, .int .i64 0, .int .i64 0, .int .i64 0]) ?_ 0 _ rfl; (with_reducible repeat (first | refine zE ?_ _ | refine zF ?_ | refine zD ?_ _)); exact BK225.out⟩
             have n4_ : Aside0 (Below w.heap.size w ((((((((w31.setCell ⟨gb225, 0, none⟩ (.int .i64 t217)).setCell ⟨gb225, 1, none⟩ (.int .i64 t218)).setCell ⟨gb225, 2, none⟩ (.int .i64 t219)).setCell ⟨gb225, 3, none⟩ (.int .i64 t220)).setCell ⟨gb225, 4, none⟩ (.int .i64 t221)).setCell ⟨gb225, 5, none⟩ (.int .i64 t222)).setCell ⟨gb225, 6, none⟩ (.int .i64 t223)).setCell ⟨gb225, 7, none⟩ (.int .i64 t224))) := ⟨by repeat (first | (with_reducible first | exact HB.out | apply zA | apply zB | apply zC | refine below_set ?_ GE215.out | refine below_set ?_ GE225.out) | exact HB.out)⟩
             (try clear HO_5)
             (try clear HO_19)
             (try clear BK215)
             (try clear BK225)
             (try clear HB)
             generalize ((((((((w31.setCell ⟨gb225, 0, none⟩ (.int .i64 t217)).setCell ⟨gb225, 1, none⟩ (.int .i64 t218)).setCell ⟨gb225, 2, none⟩ (.int .i64 t219)).setCell ⟨gb225, 3, none⟩ (.int .i64 t220)).setCell ⟨gb225, 4, none⟩ (.int .i64 t221)).setCell ⟨gb225, 5, none⟩ (.int .i64 t222)).setCell ⟨gb225, 6, none⟩ (.int .i64 t223)).setCell ⟨gb225, 7, none⟩ (.int .i64 t224)) = w41 at n0_ n1_ n2_ n3_ n4_ ⊢
             have HO_5 := n0_
             have HO_19 := n1_
             have BK215 := n2_
             have BK225 := n3_
             have HB := n4_
             clear n0_ n1_ n2_ n3_ n4_
             have n0_ := Aside0.mk (zI HO_5.out)
             have n1_ := Aside0.mk (zI HO_19.out)
             have n2_ := Aside0.mk (zF BK215.out)
             have n3_ := Aside0.mk (zF BK225.out)
             have n4_ := Aside0.mk (zC HB.out)
             clear HO_5
             clear HO_19
             clear BK215
             clear BK225
             clear HB
             have HO_5 := n0_
             have HO_19 := n1_
             have BK215 := n2_
             have BK225 := n3_
             have HB := n4_
             clear n0_ n1_ n2_ n3_ n4_
             have p226 : 0 ≤ ((ji19) : Int) := zX (by first | (with_reducible assumption) | assumption)
             have q226 : (ji19) < (x5_2.length : Int) := zX (by first | (with_reducible assumption) | assumption)
             obtain ⟨ad226, e226, hx226_0, hx226_1, hx226_2, hx226_3, hx226_4, hx226_5, hx226_6, hx226_7⟩ := at_T78 (Kd.R_reads' HO_5.out).2.2 (ji19) p226 q226
             cases e226
             replace p226 := eq_true p226
             replace q226 := eq_true q226
             refine start_ (n := 13) (S := fun w' => w'.cell? ⟨gb225, 0, none⟩ = some (.int .i64 t217) ∧ w'.cell? ⟨gb225, 1, none⟩ = some (.int .i64 t218) ∧ w'.cell? ⟨gb225, 2, none⟩ = some (.int .i64 t219) ∧ w'.cell? ⟨gb225, 3, none⟩ = some (.int .i64 t220) ∧ w'.cell? ⟨gb225, 4, none⟩ = some (.int .i64 t221) ∧ w'.cell? ⟨gb225, 5, none⟩ = some (.int .i64 t222) ∧ w'.cell? ⟨gb225, 6, none⟩ = some (.int .i64 t223) ∧ w'.cell? ⟨gb225, 7, none⟩ = some (.int .i64 t224) ∧ w'.cell? (ad226.add (((ji19)).toNat * 8)) = some (.int .i64 ((rd_T78 x5_2 (ji19)).f0)) ∧ w'.cell? ⟨(ad226.add (((ji19)).toNat * 8)).block, (ad226.add (((ji19)).toNat * 8)).off + 1, none⟩ = some (.int .i64 ((rd_T78 x5_2 (ji19)).f1)) ∧ w'.cell? ⟨(ad226.add (((ji19)).toNat * 8)).block, (ad226.add (((ji19)).toNat * 8)).off + 2, none⟩ = some (.int .i64 ((rd_T78 x5_2 (ji19)).f2)) ∧ w'.cell? ⟨(ad226.add (((ji19)).toNat * 8)).block, (ad226.add (((ji19)).toNat * 8)).off + 3, none⟩ = some (.int .i64 ((rd_T78 x5_2 (ji19)).f3)) ∧ w'.cell? ⟨(ad226.add (((ji19)).toNat * 8)).block, (ad226.add (((ji19)).toNat * 8)).off + 4, none⟩ = some (.int .i64 ((rd_T78 x5_2 (ji19)).f4)) ∧ w'.cell? ⟨(ad226.add (((ji19)).toNat * 8)).block, (ad226.add (((ji19)).toNat * 8)).off + 5, none⟩ = some (.int .i64 ((rd_T78 x5_2 (ji19)).f5)) ∧ w'.cell? ⟨(ad226.add (((ji19)).toNat * 8)).block, (ad226.add (((ji19)).toNat * 8)).off + 6, none⟩ = some (.int .i64 ((rd_T78 x5_2 (ji19)).f6)) ∧ w'.cell? ⟨(ad226.add (((ji19)).toNat * 8)).block, (ad226.add (((ji19)).toNat * 8)).off + 7, none⟩ = some (.int .i64 ((rd_T78 x5_2 (ji19)).f7))) (ds := []) #[false, false, false, false, false, false, false, false, false, false, false, false, false] (by kernel_rfl) rfl rfl ⟨(zQ BK225.out 0).trans rfl, (zQ BK225.out 1).trans rfl, (zQ BK225.out 2).trans rfl, (zQ BK225.out 3).trans rfl, (zQ BK225.out 4).trans rfl, (zQ BK225.out 5).trans rfl, (zQ BK225.out 6).trans rfl, (zQ BK225.out 7).trans rfl, hx226_0, hx226_1, hx226_2, hx226_3, hx226_4, hx226_5, hx226_6, hx226_7⟩ (fun hHeld => ?_); refine with_tabW impl_DownSamples.tab9 impl_DownSamples.bits9 (fun HT_ HW_ => ?_)
             generalize w41.drew = w42 at HO_5 HO_19 BK215 BK225 HB hx226_0 hx226_1 hx226_2 hx226_3 hx226_4 hx226_5 hx226_6 hx226_7 hHeld ⊢
             refine pure_ (i := 0) (N := some 33) (v := ?_) (a' := ?_) #[true, false, false, false, false, false, false, false, false, false, false, false, false] rfl rfl (any_of HT_.out (by kernel_rfl)) (fun _ _ _ h => h) (Or.inl ⟨by rfl, ?_⟩) ?_ ?_
             rotate_left
             ·intro w'
              go_simp
              with_reducible rfl
             rotate_left
             ·simp only [Act.put, zT, zU, zV, i64_w, i32_w]
              rfl
             refine pure_ (i := 1) (N := some 34) (v := ?_) (a' := ?_) #[true, true, false, false, false, false, false, false, false, false, false, false, false] rfl rfl (any_of HT_.out (by kernel_rfl)) (fun _ _ _ h => h) (Or.inl ⟨by rfl, ?_⟩) ?_ ?_
             rotate_left
             ·intro w'
              go_simp
              with_reducible rfl
             rotate_left
             ·simp only [Act.put, zT, zU, zV, i64_w, i32_w]
              rfl
             refine pure_ (i := 2) (N := some 35) (v := ?_) (a' := ?_) #[true, true, true, false, false, false, false, false, false, false, false, false, false] rfl rfl (any_of HT_.out (by kernel_rfl)) (fun _ _ _ h => h) (Or.inl ⟨by rfl, ?_⟩) ?_ ?_
             rotate_left
             ·intro w'
              go_simp
              with_reducible rfl
             rotate_left
             ·simp only [Act.put, zT, zU, zV, i64_w, i32_w]
              rfl
             refine pure_ (i := 3) (N := some 36) (v := ?_) (a' := ?_) #[true, true, true, true, false, false, false, false, false, false, false, false, false] rfl rfl (any_of HT_.out (by kernel_rfl)) (fun _ _ _ h => h) (Or.inl ⟨by rfl, ?_⟩) ?_ ?_
             rotate_left
             ·intro w'
              go_simp
              with_reducible rfl
             rotate_left
             ·simp only [Act.put, zT, zU, zV, i64_w, i32_w]
              rfl
             refine pure_ (i := 4) (N := some 37) (v := ?_) (a' := ?_) #[true, true, true, true, true, false, false, false, false, false, false, false, false] rfl rfl (any_of HT_.out (by kernel_rfl)) (fun _ _ _ h => h) (Or.inl ⟨by rfl, ?_⟩) ?_ ?_
             rotate_left
             ·intro w'
              go_simp
              with_reducible rfl
             rotate_left
             ·simp only [Act.put, zT, zU, zV, i64_w, i32_w]
              rfl
             refine pure_ (i := 5) (N := some 38) (v := ?_) (a' := ?_) #[true, true, true, true, true, true, false, false, false, false, false, false, false] rfl rfl (any_of HT_.out (by kernel_rfl)) (fun _ _ _ h => h) (Or.inl ⟨by rfl, ?_⟩) ?_ ?_
             rotate_left
             ·intro w'
              go_simp
              with_reducible rfl
             rotate_left
             ·simp only [Act.put, zT, zU, zV, i64_w, i32_w]
              rfl
             refine pure_ (i := 6) (N := some 39) (v := ?_) (a' := ?_) #[true, true, true, true, true, true, true, false, false, false, false, false, false] rfl rfl (any_of HT_.out (by kernel_rfl)) (fun _ _ _ h => h) (Or.inl ⟨by rfl, ?_⟩) ?_ ?_
             rotate_left
             ·intro w'
              go_simp
              with_reducible rfl
             rotate_left
             ·simp only [Act.put, zT, zU, zV, i64_w, i32_w]
              rfl
             refine pure_ (i := 7) (N := some 40) (v := ?_) (a' := ?_) #[true, true, true, true, true, true, true, true, false, false, false, false, false] rfl rfl (any_of HT_.out (by kernel_rfl)) (fun _ _ _ h => h) (Or.inl ⟨by rfl, ?_⟩) ?_ ?_
             rotate_left
             ·intro w'
              go_simp
              with_reducible rfl
             rotate_left
             ·simp only [Act.put, zT, zU, zV, i64_w, i32_w]
              rfl
             refine pure_ (i := 9) (N := some 42) (v := ?_) (a' := ?_) #[true, true, true, true, true, true, true, true, false, true, false, false, false] rfl rfl (any_of HT_.out (by kernel_rfl)) (fun _ _ _ h => h) (Or.inl ⟨by rfl, ?_⟩) ?_ ?_
             rotate_left
             ·intro w'
              go_simp
              with_reducible rfl
             rotate_left
             ·simp only [Act.put, zT, zU, zV, i64_w, i32_w]
              rfl
             refine take_ (i := 8) (N := some 41) (v := ?_) (a' := ?_) #[true, true, true, true, true, true, true, true, true, true, false, false, false] rfl rfl (take_ofW HT_.out HW_.out (by kernel_rfl)) (fun _ _ _ h => h) (Or.inl ⟨by rfl, ?_⟩) hHeld ?_ ?_
             rotate_left
             ·rintro w' ⟨s0, s1, s2, s3, s4, s5, s6, s7, s8, s9, s10, s11, s12, s13, s14, s15⟩
              go_simp
              with_reducible rfl
             rotate_left
             ·simp only [Act.put, zT, zU, zV, i64_w, i32_w]
              rfl
             refine take_ (i := 10) (N := some 43) (v := ?_) (a' := ?_) #[true, true, true, true, true, true, true, true, true, true, true, false, false] rfl rfl (take_ofW HT_.out HW_.out (by kernel_rfl)) (fun _ _ _ h => h) (Or.inl ⟨by rfl, ?_⟩) hHeld ?_ ?_
             rotate_left
             ·rintro w' ⟨s0, s1, s2, s3, s4, s5, s6, s7, s8, s9, s10, s11, s12, s13, s14, s15⟩
              go_simp
              with_reducible rfl
             rotate_left
             ·simp only [Act.put, zT, zU, zV, i64_w, i32_w]
              rfl
             refine pure_ (i := 11) (N := some 44) (v := ?_) (a' := ?_) #[true, true, true, true, true, true, true, true, true, true, true, true, false] rfl rfl (any_of HT_.out (by kernel_rfl)) (fun _ _ _ h => h) (Or.inl ⟨by rfl, ?_⟩) ?_ ?_
             rotate_left
             ·intro w'
              go_simp
              with_reducible rfl
             rotate_left
             ·simp only [Act.put, zT, zU, zV, i64_w, i32_w]
              rfl
             refine pure_ (i := 12) (N := some 45) (v := ?_) (a' := ?_) #[true, true, true, true, true, true, true, true, true, true, true, true, true] rfl rfl (any_of HT_.out (by kernel_rfl)) (fun _ _ _ h => h) (Or.inl ⟨by rfl, ?_⟩) ?_ ?_
             rotate_left
             ·intro w'
              go_simp
              with_reducible rfl
             rotate_left
             ·simp only [Act.put, zT, zU, zV, i64_w, i32_w]
              rfl
             refine done_ (done_of HT_.out (by kernel_rfl)) ?_
             try go_wp2
             have n0_ := Aside0.mk (zI HO_5.out)
             have n1_ := Aside0.mk (zI HO_19.out)
             have n2_ := Aside0.mk (zF BK215.out)
             have n3_ := Aside0.mk (zF BK225.out)
             have n4_ := Aside0.mk (zC HB.out)
             clear HO_5
             clear HO_19
             clear BK215
             clear BK225
             clear HB
             have HO_5 := n0_
             have HO_19 := n1_
             have BK215 := n2_
             have BK225 := n3_
             have HB := n4_
             clear n0_ n1_ n2_ n3_ n4_
             have p227 : 0 ≤ ((ji19) : Int) := zX (by first | (with_reducible assumption) | assumption)
             have q227 : (ji19) < (x5_2.length : Int) := zX (by first | (with_reducible assumption) | assumption)
             obtain ⟨ad227, e227, hx227_0, hx227_1, hx227_2, hx227_3, hx227_4, hx227_5, hx227_6, hx227_7⟩ := at_T78 (Kd.R_reads' HO_5.out).2.2 (ji19) p227 q227
             obtain rfl : ad226 = ad227 := (by injection e227)
             replace p227 := eq_true p227
             replace q227 := eq_true q227
             refine start_ (n := 12) (S := fun w' => w'.cell? ⟨gb225, 0, none⟩ = some (.int .i64 t217) ∧ w'.cell? ⟨gb225, 1, none⟩ = some (.int .i64 t218) ∧ w'.cell? ⟨gb225, 2, none⟩ = some (.int .i64 t219) ∧ w'.cell? ⟨gb225, 3, none⟩ = some (.int .i64 t220) ∧ w'.cell? ⟨gb225, 4, none⟩ = some (.int .i64 t221) ∧ w'.cell? ⟨gb225, 5, none⟩ = some (.int .i64 t222) ∧ w'.cell? ⟨gb225, 6, none⟩ = some (.int .i64 t223) ∧ w'.cell? ⟨gb225, 7, none⟩ = some (.int .i64 t224) ∧ w'.cell? (ad226.add (((ji19)).toNat * 8)) = some (.int .i64 ((rd_T78 x5_2 (ji19)).f0)) ∧ w'.cell? ⟨(ad226.add (((ji19)).toNat * 8)).block, (ad226.add (((ji19)).toNat * 8)).off + 1, none⟩ = some (.int .i64 ((rd_T78 x5_2 (ji19)).f1)) ∧ w'.cell? ⟨(ad226.add (((ji19)).toNat * 8)).block, (ad226.add (((ji19)).toNat * 8)).off + 2, none⟩ = some (.int .i64 ((rd_T78 x5_2 (ji19)).f2)) ∧ w'.cell? ⟨(ad226.add (((ji19)).toNat * 8)).block, (ad226.add (((ji19)).toNat * 8)).off + 3, none⟩ = some (.int .i64 ((rd_T78 x5_2 (ji19)).f3)) ∧ w'.cell? ⟨(ad226.add (((ji19)).toNat * 8)).block, (ad226.add (((ji19)).toNat * 8)).off + 4, none⟩ = some (.int .i64 ((rd_T78 x5_2 (ji19)).f4)) ∧ w'.cell? ⟨(ad226.add (((ji19)).toNat * 8)).block, (ad226.add (((ji19)).toNat * 8)).off + 5, none⟩ = some (.int .i64 ((rd_T78 x5_2 (ji19)).f5)) ∧ w'.cell? ⟨(ad226.add (((ji19)).toNat * 8)).block, (ad226.add (((ji19)).toNat * 8)).off + 6, none⟩ = some (.int .i64 ((rd_T78 x5_2 (ji19)).f6)) ∧ w'.cell? ⟨(ad226.add (((ji19)).toNat * 8)).block, (ad226.add (((ji19)).toNat * 8)).off + 7, none⟩ = some (.int .i64 ((rd_T78 x5_2 (ji19)).f7))) (ds := [11]) #[false, false, false, false, false, false, false, false, false, false, false, false] (by kernel_rfl) rfl rfl ⟨(zQ BK225.out 0).trans rfl, (zQ BK225.out 1).trans rfl, (zQ BK225.out 2).trans rfl, (zQ BK225.out 3).trans rfl, (zQ BK225.out 4).trans rfl, (zQ BK225.out 5).trans rfl, (zQ BK225.out 6).trans rfl, (zQ BK225.out 7).trans rfl, hx227_0, hx227_1, hx227_2, hx227_3, hx227_4, hx227_5, hx227_6, hx227_7⟩ (fun hHeld => ?_); refine with_tabW impl_DownSamples.tab10 impl_DownSamples.bits10 (fun HT_ HW_ => ?_)
             generalize w42.drew = w43 at HO_5 HO_19 BK215 BK225 HB hx227_0 hx227_1 hx227_2 hx227_3 hx227_4 hx227_5 hx227_6 hx227_7 hHeld ⊢
             refine pure_ (i := 0) (N := some 46) (v := ?_) (a' := ?_) #[true, false, false, false, false, false, false, false, false, false, false, false] rfl rfl (any_of HT_.out (by kernel_rfl)) (fun _ _ _ h => h) (Or.inl ⟨by rfl, ?_⟩) ?_ ?_
             rotate_left
             ·intro w'
              go_simp
              with_reducible rfl
             rotate_left
             ·simp only [Act.put, zT, zU, zV, i64_w, i32_w]
              rfl
             refine pure_ (i := 1) (N := some 47) (v := ?_) (a' := ?_) #[true, true, false, false, false, false, false, false, false, false, false, false] rfl rfl (any_of HT_.out (by kernel_rfl)) (fun _ _ _ h => h) (Or.inl ⟨by rfl, ?_⟩) ?_ ?_
             rotate_left
             ·intro w'
              go_simp
              with_reducible rfl
             rotate_left
             ·simp only [Act.put, zT, zU, zV, i64_w, i32_w]
              rfl
             refine pure_ (i := 2) (N := some 48) (v := ?_) (a' := ?_) #[true, true, true, false, false, false, false, false, false, false, false, false] rfl rfl (any_of HT_.out (by kernel_rfl)) (fun _ _ _ h => h) (Or.inl ⟨by rfl, ?_⟩) ?_ ?_
             rotate_left
             ·intro w'
              go_simp
              with_reducible rfl
             rotate_left
             ·simp only [Act.put, zT, zU, zV, i64_w, i32_w]
              rfl
             refine pure_ (i := 3) (N := some 49) (v := ?_) (a' := ?_) #[true, true, true, true, false, false, false, false, false, false, false, false] rfl rfl (any_of HT_.out (by kernel_rfl)) (fun _ _ _ h => h) (Or.inl ⟨by rfl, ?_⟩) ?_ ?_
             rotate_left
             ·intro w'
              go_simp
              with_reducible rfl
             rotate_left
             ·simp only [Act.put, zT, zU, zV, i64_w, i32_w]
              rfl
             refine pure_ (i := 4) (N := some 50) (v := ?_) (a' := ?_) #[true, true, true, true, true, false, false, false, false, false, false, false] rfl rfl (any_of HT_.out (by kernel_rfl)) (fun _ _ _ h => h) (Or.inl ⟨by rfl, ?_⟩) ?_ ?_
             rotate_left
             ·intro w'
              go_simp
              with_reducible rfl
             rotate_left
             ·simp only [Act.put, zT, zU, zV, i64_w, i32_w]
              rfl
             refine pure_ (i := 5) (N := some 51) (v := ?_) (a' := ?_) #[true, true, true, true, true, true, false, false, false, false, false, false] rfl rfl (any_of HT_.out (by kernel_rfl)) (fun _ _ _ h => h) (Or.inl ⟨by rfl, ?_⟩) ?_ ?_
             rotate_left
             ·intro w'
              go_simp
              with_reducible rfl
             rotate_left
             ·simp only [Act.put, zT, zU, zV, i64_w, i32_w]
              rfl
             refine pure_ (i := 6) (N := some 52) (v := ?_) (a' := ?_) #[true, true, true, true, true, true, true, false, false, false, false, false] rfl rfl (any_of HT_.out (by kernel_rfl)) (fun _ _ _ h => h) (Or.inl ⟨by rfl, ?_⟩) ?_ ?_
             rotate_left
             ·intro w'
              go_simp
              with_reducible rfl
             rotate_left
             ·simp only [Act.put, zT, zU, zV, i64_w, i32_w]
              rfl
             refine take_ (i := 7) (N := some 53) (v := ?_) (a' := ?_) #[true, true, true, true, true, true, true, true, false, false, false, false] rfl rfl (take_ofW HT_.out HW_.out (by kernel_rfl)) (fun _ _ _ h => h) (Or.inl ⟨by rfl, ?_⟩) hHeld ?_ ?_
             rotate_left
             ·rintro w' ⟨s0, s1, s2, s3, s4, s5, s6, s7, s8, s9, s10, s11, s12, s13, s14, s15⟩
              go_simp
              with_reducible rfl
             rotate_left
             ·simp only [Act.put, zT, zU, zV, i64_w, i32_w]
              rfl
             refine take_ (i := 8) (N := some 54) (v := ?_) (a' := ?_) #[true, true, true, true, true, true, true, true, true, false, false, false] rfl rfl (take_ofW HT_.out HW_.out (by kernel_rfl)) (fun _ _ _ h => h) (Or.inl ⟨by rfl, ?_⟩) hHeld ?_ ?_
             rotate_left
             ·rintro w' ⟨s0, s1, s2, s3, s4, s5, s6, s7, s8, s9, s10, s11, s12, s13, s14, s15⟩
              go_simp
              with_reducible rfl
             rotate_left
             ·simp only [Act.put, zT, zU, zV, i64_w, i32_w]
              rfl
             refine one_ (i := 9) (N := some 55) #[true, true, true, true, true, true, true, true, true, true, false, false] rfl rfl (one_of HT_.out (by kernel_rfl)) (by decide) (fun K hK => ?_)
             refine goes_ Try.func77 (by kernel_rfl) rfl #[.agg #[.int .i64 ((rd_T78 x5_2 (ji19)).f0), .int .i64 ((rd_T78 x5_2 (ji19)).f1), .int .i64 ((rd_T78 x5_2 (ji19)).f2), .int .i64 ((rd_T78 x5_2 (ji19)).f3), .int .i64 ((rd_T78 x5_2 (ji19)).f4), .int .i64 ((rd_T78 x5_2 (ji19)).f5), .int .i64 ((rd_T78 x5_2 (ji19)).f6), .int .i64 ((rd_T78 x5_2 (ji19)).f7)], .agg #[.int .i64 t217, .int .i64 t218, .int .i64 t219, .int .i64 t220, .int .i64 t221, .int .i64 t222, .int .i64 t223, .int .i64 t224]] (by rfl) rfl rfl (by (try simp only [List.map_toArray, List.map_cons, List.map_nil]); first | done | (simp only [hji19]; rfl) | rfl | (simp only [List.length_drop, List.length_take]; rfl)) ?_
             with_reducible refine (impl_MergeAgg.calls ((rd_T78 x5_2 (ji19)).f0) ((rd_T78 x5_2 (ji19)).f1) ((rd_T78 x5_2 (ji19)).f2) ((rd_T78 x5_2 (ji19)).f3) ((rd_T78 x5_2 (ji19)).f4) ((rd_T78 x5_2 (ji19)).f5) ((rd_T78 x5_2 (ji19)).f6) ((rd_T78 x5_2 (ji19)).f7) t217 t218 t219 t220 t221 t222 t223 t224 t228 t229 t230 t231 t232 t233 t234 t235 _ A23.out).mono ?_
             rintro e w44 ⟨rfl, hb⟩
             have HS8_ := (hb.cell (zR _ _ (hHeld.2.2.2.2.2.2.2.2.1))).trans (hHeld.2.2.2.2.2.2.2.2.1)
             have HS9_ := (hb.cell (zR _ _ (hHeld.2.2.2.2.2.2.2.2.2.1))).trans (hHeld.2.2.2.2.2.2.2.2.2.1)
             have HS10_ := (hb.cell (zR _ _ (hHeld.2.2.2.2.2.2.2.2.2.2.1))).trans (hHeld.2.2.2.2.2.2.2.2.2.2.1)
             have HS11_ := (hb.cell (zR _ _ (hHeld.2.2.2.2.2.2.2.2.2.2.2.1))).trans (hHeld.2.2.2.2.2.2.2.2.2.2.2.1)
             have HS12_ := (hb.cell (zR _ _ (hHeld.2.2.2.2.2.2.2.2.2.2.2.2.1))).trans (hHeld.2.2.2.2.2.2.2.2.2.2.2.2.1)
             have HS13_ := (hb.cell (zR _ _ (hHeld.2.2.2.2.2.2.2.2.2.2.2.2.2.1))).trans (hHeld.2.2.2.2.2.2.2.2.2.2.2.2.2.1)
             have HS14_ := (hb.cell (zR _ _ (hHeld.2.2.2.2.2.2.2.2.2.2.2.2.2.2.1))).trans (hHeld.2.2.2.2.2.2.2.2.2.2.2.2.2.2.1)
             have HS15_ := (hb.cell (zR _ _ (hHeld.2.2.2.2.2.2.2.2.2.2.2.2.2.2.2))).trans (hHeld.2.2.2.2.2.2.2.2.2.2.2.2.2.2.2)
             refine ⟨_, rfl, ?_⟩
             have n0_ := Aside0.mk (Kd.R_below (by (with_reducible repeat (first | apply zG | apply zH | apply zI)); exact HO_5.out) hb)
             have n1_ := Aside0.mk (Kd.R_below (by (with_reducible repeat (first | apply zG | apply zH | apply zI)); exact HO_19.out) hb)
             have n2_ := Aside0.mk (blk_below (g := gb215) (o := .cells #[.int .i64 ((rd_T81 t211 x21_2).f0), .int .i64 ((rd_T81 t211 x21_2).f1)] 81 (0, 0)) (by (with_reducible repeat (first | refine zE ?_ _ | refine zF ?_ | refine zD ?_ _)); exact BK215.out) hb)
             have n3_ := Aside0.mk (blk_below (g := gb225) (o := cs8 78 t217 t218 t219 t220 t221 t222 t223 t224) (by (with_reducible repeat (first | refine zE ?_ _ | refine zF ?_ | refine zD ?_ _)); exact BK225.out) hb)
             have n4_ := Aside0.mk (below_step (by repeat (first | (with_reducible first | exact HB.out | apply zA | apply zB | apply zC | refine below_set ?_ GE215.out | refine below_set ?_ GE225.out) | exact HB.out)) hb)
             clear HO_5
             clear HO_19
             clear BK215
             clear BK225
             clear HB
             have HO_5 := n0_
             have HO_19 := n1_
             have BK215 := n2_
             have BK225 := n3_
             have HB := n4_
             clear n0_ n1_ n2_ n3_ n4_
             (try clear hb)
             (try clear hb2)
             (try clear hk)
             (try clear hi)
             have p24 : 0 ≤ ((ji19) : Int) := zX (by first | (with_reducible assumption) | assumption)
             have q24 : ((ji19) : Int) < ((x5_2.length : Int) : Int) := zX (by first | (with_reducible assumption) | assumption)
             obtain ⟨go24, co24, eo24, gb24, gl24, cl24, HG24⟩ := Kd.R_form HO_5.out (by omega)
             (first | cases eo24 | (injection eo24 with ea_ en_ ec_; (first | subst ea_ | (injection ea_ with ea_; subst ea_)); subst ec_; clear en_))
             have GB24 := Aside0.mk gb24
             have GG24 := Aside0.mk HG24
             clear gb24 gl24 HG24
             (first | simp only [add_plain] at hx226_0 | skip)
             (first | simp only [add_plain] at hx226_1 | skip)
             (first | simp only [add_plain] at hx226_2 | skip)
             (first | simp only [add_plain] at hx226_3 | skip)
             (first | simp only [add_plain] at hx226_4 | skip)
             (first | simp only [add_plain] at hx226_5 | skip)
             (first | simp only [add_plain] at hx226_6 | skip)
             (first | simp only [add_plain] at hx226_7 | skip)
             (first | simp only [add_plain] at hx227_0 | skip)
             (first | simp only [add_plain] at hx227_1 | skip)
             (first | simp only [add_plain] at hx227_2 | skip)
             (first | simp only [add_plain] at hx227_3 | skip)
             (first | simp only [add_plain] at hx227_4 | skip)
             (first | simp only [add_plain] at hx227_5 | skip)
             (first | simp only [add_plain] at hx227_6 | skip)
             (first | simp only [add_plain] at hx227_7 | skip)
             obtain ⟨ce24, hcl24, hM24, hcc24, hfr24⟩ := Kd.R_elem HO_5.out z78 ((ji19) : Int) p24 q24
             obtain rfl := k78_openM hM24
             have hx24_0 : World.cell? _ ⟨go24, ((ji19) : Int).toNat * 8, none⟩ = some (.int .i64 ((rd_T78 x5_2 (ji19)).f0)) := hcc24 0 _ rfl
             have hx24_1 : World.cell? _ ⟨go24, ((ji19) : Int).toNat * 8 + 1, none⟩ = some (.int .i64 ((rd_T78 x5_2 (ji19)).f1)) := hcc24 1 _ rfl
             have hx24_2 : World.cell? _ ⟨go24, ((ji19) : Int).toNat * 8 + 2, none⟩ = some (.int .i64 ((rd_T78 x5_2 (ji19)).f2)) := hcc24 2 _ rfl
             have hx24_3 : World.cell? _ ⟨go24, ((ji19) : Int).toNat * 8 + 3, none⟩ = some (.int .i64 ((rd_T78 x5_2 (ji19)).f3)) := hcc24 3 _ rfl
             have hx24_4 : World.cell? _ ⟨go24, ((ji19) : Int).toNat * 8 + 4, none⟩ = some (.int .i64 ((rd_T78 x5_2 (ji19)).f4)) := hcc24 4 _ rfl
             have hx24_5 : World.cell? _ ⟨go24, ((ji19) : Int).toNat * 8 + 5, none⟩ = some (.int .i64 ((rd_T78 x5_2 (ji19)).f5)) := hcc24 5 _ rfl
             have hx24_6 : World.cell? _ ⟨go24, ((ji19) : Int).toNat * 8 + 6, none⟩ = some (.int .i64 ((rd_T78 x5_2 (ji19)).f6)) := hcc24 6 _ rfl
             have hx24_7 : World.cell? _ ⟨go24, ((ji19) : Int).toNat * 8 + 7, none⟩ = some (.int .i64 ((rd_T78 x5_2 (ji19)).f7)) := hcc24 7 _ rfl
             have hf24_0 : World.frozen? _ ⟨go24, ((ji19) : Int).toNat * 8, none⟩ = false := hfr24 0
             have hf24_1 : World.frozen? _ ⟨go24, ((ji19) : Int).toNat * 8 + 1, none⟩ = false := hfr24 1
             have hf24_2 : World.frozen? _ ⟨go24, ((ji19) : Int).toNat * 8 + 2, none⟩ = false := hfr24 2
             have hf24_3 : World.frozen? _ ⟨go24, ((ji19) : Int).toNat * 8 + 3, none⟩ = false := hfr24 3
             have hf24_4 : World.frozen? _ ⟨go24, ((ji19) : Int).toNat * 8 + 4, none⟩ = false := hfr24 4
             have hf24_5 : World.frozen? _ ⟨go24, ((ji19) : Int).toNat * 8 + 5, none⟩ = false := hfr24 5
             have hf24_6 : World.frozen? _ ⟨go24, ((ji19) : Int).toNat * 8 + 6, none⟩ = false := hfr24 6
             have hf24_7 : World.frozen? _ ⟨go24, ((ji19) : Int).toNat * 8 + 7, none⟩ = false := hfr24 7
             clear hcl24 hcc24 hfr24 hM24
             replace p24 := eq_true p24
             replace q24 := eq_true q24
             obtain ⟨ce45, hcl45, hM45, hcc45, hfr45⟩ := Kd.R_elem HO_5.out z78 ((ji19) : Int) (zX (by first | (with_reducible assumption) | assumption)) (by have h_ : ((ji19) : Int) < ((x5_2.length : Int) : Int) := zX (by first | (with_reducible assumption) | assumption); first | exact h_ | (have e_ := (Kd.R_reads' HO_5.out).1; omega) | simpa using h_)
             obtain rfl := k78_openM hM45
             have HP45 := (Kd.R_seg HO_5.out ((ji19) : Int) (zX (by first | (with_reducible assumption) | assumption)) (by have h_ : ((ji19) : Int) < ((x5_2.length : Int) : Int) := zX (by first | (with_reducible assumption) | assumption); first | exact h_ | (have e_ := (Kd.R_reads' HO_5.out).1; omega) | simpa using h_) (seg := [.int .i64 t228, .int .i64 t229, .int .i64 t230, .int .i64 t231, .int .i64 t232, .int .i64 t233, .int .i64 t234, .int .i64 t235]) (j := 0) hcl45 hcc45 (show 8 ≤ 8 from by decide) (x' := (⟨t228, t229, t230, t231, t232, t233, t234, t235⟩ : S78)) (k78_mkM _ _ _ (⟨t228, t229, t230, t231, t232, t233, t234, t235⟩ : S78) ) (fun _ hk => hk)).1
             rw [← Ny236.out] at HP45
             have HQ45 := Aside0.mk HP45
             clear hcl45 hcc45 hfr45 hM45 HP45
             refine hK.out _ _ ⟨(zQ BK225.out 0).trans rfl, (zQ BK225.out 1).trans rfl, (zQ BK225.out 2).trans rfl, (zQ BK225.out 3).trans rfl, (zQ BK225.out 4).trans rfl, (zQ BK225.out 5).trans rfl, (zQ BK225.out 6).trans rfl, (zQ BK225.out 7).trans rfl, HS8_, HS9_, HS10_, HS11_, HS12_, HS13_, HS14_, HS15_⟩ (fun hHeld => ?_)
             clear hK K
             refine norm_ (a' := ?_) ?_ ?_
             rotate_left
             ·show Act.put _ (some 55) _ = _
              simp only [Act.put, zT, zU, zV, i64_w, i32_w]
              rfl
             refine pure_ (i := 10) (N := some 56) (v := ?_) (a' := ?_) #[true, true, true, true, true, true, true, true, true, true, true, false] rfl rfl (any_of HT_.out (by kernel_rfl)) (fun _ _ _ h => h) (Or.inl ⟨by rfl, ?_⟩) ?_ ?_
             rotate_left
             ·intro w'
              go_simp
              with_reducible rfl
             rotate_left
             ·simp only [Act.put, zT, zU, zV, i64_w, i32_w]
              rfl
             refine last_ (i := 11) (N := none) #[true, true, true, true, true, true, true, true, true, true, true, true] rfl rfl (one_of HT_.out (by kernel_rfl)) (by decide) (fun K hK => ?_)
             refine skip_ (w1 := ?_) (by rfl) rfl ?_ ?_
             rotate_left
             ·go_simp
              rfl
             refine hK.out _ _ ?_
             clear hK K
             refine done_ (done_of HT_.out (by kernel_rfl)) ?_
             try go_wp2
             go_roundg k2
             case measure => have := HJ2.out; have := HK2.out; omega
             case rel => exact ⟨(y236), (wrap64 (x21_2 + 1)), (by first | rfl | (simp; done) | (simp [*]; done)), H', ⟨by have := HJ2.out; have := HK2.out; omega⟩, ⟨by (with_reducible repeat (first | apply zG | apply zH | apply zI)); exact Kd.R_mono HQ45.out (fun _ hk => trivial)⟩, ⟨by (with_reducible repeat (first | apply zG | apply zH | apply zI)); exact Kd.R_mono (Kd.R_far (p := ⟨go24, ((ji19) : Int).toNat * 8 + 7, none⟩) (Kd.R_far (p := ⟨go24, ((ji19) : Int).toNat * 8 + 6, none⟩) (Kd.R_far (p := ⟨go24, ((ji19) : Int).toNat * 8 + 5, none⟩) (Kd.R_far (p := ⟨go24, ((ji19) : Int).toNat * 8 + 4, none⟩) (Kd.R_far (p := ⟨go24, ((ji19) : Int).toNat * 8 + 3, none⟩) (Kd.R_far (p := ⟨go24, ((ji19) : Int).toNat * 8 + 2, none⟩) (Kd.R_far (p := ⟨go24, ((ji19) : Int).toNat * 8 + 1, none⟩) (Kd.R_far (p := ⟨go24, ((ji19) : Int).toNat * 8, none⟩) (Kd.R_types HO_19.out GG24.out (by decide)) (fun _ hk => hk.2) (.int .i64 t228)) (fun _ hk => hk.2) (.int .i64 t229)) (fun _ hk => hk.2) (.int .i64 t230)) (fun _ hk => hk.2) (.int .i64 t231)) (fun _ hk => hk.2) (.int .i64 t232)) (fun _ hk => hk.2) (.int .i64 t233)) (fun _ hk => hk.2) (.int .i64 t234)) (fun _ hk => hk.2) (.int .i64 t235)) (fun _ hk => trivial)⟩, ⟨by repeat (first | (with_reducible first | exact HB.out | apply zA | apply zB | apply zC | refine below_set ?_ GB24.out | refine below_set ?_ GB24.out | refine below_set ?_ GB24.out | refine below_set ?_ GB24.out | refine below_set ?_ GB24.out | refine below_set ?_ GB24.out | refine below_set ?_ GB24.out | refine below_set ?_ GB24.out | refine below_set ?_ GE215.out | refine below_set ?_ GE225.out) | exact HB.out)⟩⟩
            ·rw [if_neg c22] at H
             have c22b0 : (((rd_T78 x5_2 (ji19)).f0) == t217) = false := beq_eq_false_iff_ne.mpr c22
             have c22b1 : (((rd_T78 x5_2 (ji19)).f0) != t217) = true := bne_iff_ne.mpr c22
             by_cases c46 : x5_2.length < 2199023255552
             ·rw [if_pos c46] at H
              have LMc46 := Aside0.mk c46
              clear c46
              obtain ⟨y237, hy237⟩ : ∃ y_ : List (S78), y_ = (x5_2 ++ [(⟨t217, t218, t219, t220, t221, t222, t223, t224⟩ : S78)]) := ⟨_, rfl⟩
              replace H : (impl_DownSamples.l0 k2 a1 y237 t211 (t211.length : Int) (wrap64 (x21_2 + 1))) = some r := by first | (rw [hy237]; with_reducible exact H) | (have H2_ := (Option.bind_some _ _).symm.trans H; rw [hy237]; with_reducible exact H2_) | (have H2_ := (Option.bind_some _ _).symm.trans H; with_reducible exact H2_) | with_reducible exact H | (rw [hy237]; exact H) | exact H
              have Ny237 := Aside0.mk hy237
              clear hy237
              have H' := Aside0.mk H
              clear H
              have p214 : 0 ≤ (x21_2 : Int) := zX (by first | (with_reducible assumption) | assumption)
              have q214 : x21_2 < (t211.length : Int) := zX (by first | (with_reducible assumption) | assumption)
              obtain ⟨ad214, e214, hx214_0, hx214_1⟩ := at_T81 (Kd.R_reads' HO_19.out).2.2 x21_2 p214 q214
              cases e214
              replace p214 := eq_true p214
              replace q214 := eq_true q214
              try go_wp2_with (first | ((with_reducible refine gate_dst (N := 7) rfl ?_); refine box_event ?hg (N := 7) ?hd (cs := #[.int .i64 0, .int .i64 0]) (t := 81) ?hr ?_; (case hd => rfl); (case hg => rfl); (case hr => first | (go_simp; done) | (go_simp; rfl)); intro gb215 hg w47 hbox hb; have n0_ := Aside0.mk (Kd.R_below (by (with_reducible repeat (first | apply zG | apply zH | apply zI)); exact HO_5.out) hb); have n1_ := Aside0.mk (Kd.R_below (Kd.R_elderB (by (with_reducible repeat (first | apply zG | apply zH | apply zI)); exact HO_19.out) gb215 (Nat.le_of_eq hg.symm)) hb); have n2_ := Aside0.mk (below_step (by repeat (first | (with_reducible first | exact HB.out | apply zA | apply zB | apply zC) | exact HB.out)) hb); have n3_ := Aside0.mk (hbox); have n4_ := Aside0.mk ((by rw [hg]; exact (zW (by repeat (first | (with_reducible first | exact HB.out | apply zA | apply zB | apply zC) | exact HB.out))) : w.heap.size ≤ gb215)); have n5_ := Aside0.mk ((by rw [hg]; exact (zW (by repeat (first | (with_reducible first | exact HB.out | apply zA | apply zB | apply zC) | exact HB.out))) : w.heap.size ≤ gb215)); clear HO_5; clear HO_19; clear HB; have HO_5 := n0_; have HO_19 := n1_; have HB := n2_; have BK215 := n3_; have GW215 := n4_; have GE215 := n5_; clear n0_ n1_ n2_ n3_ n4_ n5_; clear hb hbox hg; have hcz48_0 : w47.cell? ⟨gb215, 0, none⟩ = some (.int .i64 0) := (zQ BK215.out 0).trans rfl; have hcz48_1 : w47.cell? ⟨gb215, 1, none⟩ = some (.int .i64 0) := (zQ BK215.out 1).trans rfl; have hfz48_0 := blk_frozen BK215.out 0; have hfz48_1 := blk_frozen BK215.out 1))
              have n0_ : Aside0 (Kd.R k78 78 ((w47.setCell ⟨gb215, 0, none⟩ (.int .i64 ((rd_T81 t211 x21_2).f0))).setCell ⟨gb215, 1, none⟩ (.int .i64 ((rd_T81 t211 x21_2).f1))) w.heap.size (fun _ => True) u5 x5_2) := ⟨by (with_reducible repeat (first | apply zG | apply zH | apply zI)); exact Kd.R_mono (Kd.R_far (p := ⟨gb215, 1, none⟩) (Kd.R_far (p := ⟨gb215, 0, none⟩) (Kd.R_types HO_5.out BK215.out (by decide)) (fun _ hk => hk.2) (.int .i64 ((rd_T81 t211 x21_2).f0))) (fun _ hk => hk.2) (.int .i64 ((rd_T81 t211 x21_2).f1))) (fun _ hk => trivial)⟩
              have n1_ : Aside0 (Kd.R k81 81 ((w47.setCell ⟨gb215, 0, none⟩ (.int .i64 ((rd_T81 t211 x21_2).f0))).setCell ⟨gb215, 1, none⟩ (.int .i64 ((rd_T81 t211 x21_2).f1))) w.heap.size (fun k_ => k_ ≠ gb215) (.slice (some ad214) t211.length co12) t211) := ⟨by (with_reducible repeat (first | apply zG | apply zH | apply zI)); exact Kd.R_mono (Kd.R_far (p := ⟨gb215, 1, none⟩) (Kd.R_far (p := ⟨gb215, 0, none⟩) (Kd.R_mono HO_19.out (fun k_ hk => (⟨hk, hk.2⟩ : _ ∧ k_ ≠ gb215))) (fun _ hk => hk.2) (.int .i64 ((rd_T81 t211 x21_2).f0))) (fun _ hk => hk.2) (.int .i64 ((rd_T81 t211 x21_2).f1))) (fun _ hk => hk.1.2)⟩
              have n2_ : Aside0 (((w47.setCell ⟨gb215, 0, none⟩ (.int .i64 ((rd_T81 t211 x21_2).f0))).setCell ⟨gb215, 1, none⟩ (.int .i64 ((rd_T81 t211 x21_2).f1))).heap[gb215]? = some (.cells #[.int .i64 ((rd_T81 t211 x21_2).f0), .int .i64 ((rd_T81 t211 x21_2).f1)] 81 (0, 0))) := ⟨by (with_reducible repeat (first | refine zE ?_ _ | refine zF ?_ | refine zD ?_ _)); refine blk_put (cs := #[.int .i64 ((rd_T81 t211 x21_2).f0), .int .i64 0]) ?_ 1 _ rfl; (with_reducible repeat (first | refine zE ?_ _ | refine zF ?_ | refine zD ?_ _)); refine blk_put (cs := #[.int .i64 0, .int .i64 0]) ?_ 0 _ rfl; (with_reducible repeat (first | refine zE ?_ _ | refine zF ?_ | refine zD ?_ _)); exact BK215.out⟩
              have n3_ : Aside0 (Below w.heap.size w ((w47.setCell ⟨gb215, 0, none⟩ (.int .i64 ((rd_T81 t211 x21_2).f0))).setCell ⟨gb215, 1, none⟩ (.int .i64 ((rd_T81 t211 x21_2).f1)))) := ⟨by repeat (first | (with_reducible first | exact HB.out | apply zA | apply zB | apply zC | refine below_set ?_ GE215.out) | exact HB.out)⟩
              (try clear HO_5)
              (try clear HO_19)
              (try clear BK215)
              (try clear HB)
              generalize ((w47.setCell ⟨gb215, 0, none⟩ (.int .i64 ((rd_T81 t211 x21_2).f0))).setCell ⟨gb215, 1, none⟩ (.int .i64 ((rd_T81 t211 x21_2).f1))) = w49 at n0_ n1_ n2_ n3_ ⊢
              have HO_5 := n0_
              have HO_19 := n1_
              have BK215 := n2_
              have HB := n3_
              clear n0_ n1_ n2_ n3_
              have n0_ := Aside0.mk (zI HO_5.out)
              have n1_ := Aside0.mk (zI HO_19.out)
              have n2_ := Aside0.mk (zF BK215.out)
              have n3_ := Aside0.mk (zC HB.out)
              clear HO_5
              clear HO_19
              clear BK215
              clear HB
              have HO_5 := n0_
              have HO_19 := n1_
              have BK215 := n2_
              have HB := n3_
              clear n0_ n1_ n2_ n3_
              refine start_ (n := 8) (S := fun w' => w'.cell? ⟨gb215, 0, none⟩ = some (.int .i64 ((rd_T81 t211 x21_2).f0)) ∧ w'.cell? ⟨gb215, 1, none⟩ = some (.int .i64 ((rd_T81 t211 x21_2).f1))) (ds := []) #[false, false, false, false, false, false, false, false] (by kernel_rfl) rfl rfl ⟨(zQ BK215.out 0).trans rfl, (zQ BK215.out 1).trans rfl⟩ (fun hHeld => ?_); refine with_tabW impl_DownSamples.tab7 impl_DownSamples.bits7 (fun HT_ HW_ => ?_)
              generalize w49.drew = w50 at HO_5 HO_19 BK215 HB hHeld ⊢
              refine pure_ (i := 1) (N := some 26) (v := ?_) (a' := ?_) #[false, true, false, false, false, false, false, false] rfl rfl (any_of HT_.out (by kernel_rfl)) (fun _ _ _ h => h) (Or.inl ⟨by rfl, ?_⟩) ?_ ?_
              rotate_left
              ·intro w'
               go_simp
               with_reducible rfl
              rotate_left
              ·simp only [Act.put, zT, zU, zV, i64_w, i32_w]
               rfl
              refine pure_ (i := 3) (N := some 28) (v := ?_) (a' := ?_) #[false, true, false, true, false, false, false, false] rfl rfl (any_of HT_.out (by kernel_rfl)) (fun _ _ _ h => h) (Or.inl ⟨by rfl, ?_⟩) ?_ ?_
              rotate_left
              ·intro w'
               go_simp
               with_reducible rfl
              rotate_left
              ·simp only [Act.put, zT, zU, zV, i64_w, i32_w]
               rfl
              refine take_ (i := 0) (N := some 25) (v := ?_) (a' := ?_) #[true, true, false, true, false, false, false, false] rfl rfl (take_ofW HT_.out HW_.out (by kernel_rfl)) (fun _ _ _ h => h) (Or.inl ⟨by rfl, ?_⟩) hHeld ?_ ?_
              rotate_left
              ·rintro w' ⟨s0, s1⟩
               go_simp
               with_reducible rfl
              rotate_left
              ·simp only [Act.put, zT, zU, zV, i64_w, i32_w]
               rfl
              refine take_ (i := 2) (N := some 27) (v := ?_) (a' := ?_) #[true, true, true, true, false, false, false, false] rfl rfl (take_ofW HT_.out HW_.out (by kernel_rfl)) (fun _ _ _ h => h) (Or.inl ⟨by rfl, ?_⟩) hHeld ?_ ?_
              rotate_left
              ·rintro w' ⟨s0, s1⟩
               go_simp
               with_reducible rfl
              rotate_left
              ·simp only [Act.put, zT, zU, zV, i64_w, i32_w]
               rfl
              refine join_ (σ := Nat) 1 #[true, true, true, true, true, true, true, false] (fun s_ => [(29, .int .i64 t216), (30, .agg #[.int .i64 t217, .int .i64 t218, .int .i64 t219, .int .i64 t220, .int .i64 t221, .int .i64 t222, .int .i64 t223, .int .i64 t224]), (8, .pointer (some ⟨s_, 0, none⟩))]) (fun s_ w' => (w'.cell? ⟨gb215, 0, none⟩ = some (.int .i64 ((rd_T81 t211 x21_2).f0)) ∧ w'.cell? ⟨gb215, 1, none⟩ = some (.int .i64 ((rd_T81 t211 x21_2).f1))) ∧ (Kd.R k81 81 w' w.heap.size (fun k_ => k_ ≠ gb215) (.slice (some ad214) t211.length co12) t211) ∧ (Kd.R k78 78 w' w.heap.size (fun k_ => k_ ≠ s_) u5 x5_2) ∧ (w'.heap[gb215]? = some (.cells #[.int .i64 ((rd_T81 t211 x21_2).f0), .int .i64 ((rd_T81 t211 x21_2).f1)] 81 (0, 0))) ∧ (w'.heap[s_]? = some (.cells #[.int .i64 0, .int .i64 0, .int .i64 0, .int .i64 0, .int .i64 0, .int .i64 0, .int .i64 0, .int .i64 0] 78 (0, 0))) ∧ (w.heap.size ≤ s_) ∧ (w.heap.size ≤ s_) ∧ (gb215 ≠ s_) ∧ (s_ ≠ gb215) ∧ (Below w.heap.size w w')) ?_ ?_
              rotate_left
              ·intro hCont
               refine two_ (i := 4) (j := 6) (Ni := some 29) (Nj := some 8) #[true, true, true, true, true, false, false, false] #[true, true, true, true, false, false, true, false] rfl rfl rfl rfl (two_of HT_.out (by kernel_rfl)) (by decide) (by decide) (fun K hK => ?_) (fun K hK => ?_)
               ·skip
                refine goes_ Try.func76 (by kernel_rfl) rfl #[.int .i64 ((rd_T81 t211 x21_2).f0), .int .i64 a1] (by rfl) rfl rfl (by (try simp only [List.map_toArray, List.map_cons, List.map_nil]); first | done | rfl | (simp only [List.length_drop, List.length_take]; rfl)) ?_
                with_reducible refine (impl_windowOf.calls ((rd_T81 t211 x21_2).f0) a1 t216 _ A16.out).mono ?_
                rintro e w' ⟨rfl, ⟨nd, rfl⟩⟩
                refine ⟨_, rfl, ?_⟩
                refine hK.out _ _ ⟨(zQ BK215.out 0).trans rfl, (zQ BK215.out 1).trans rfl⟩ (fun hHeld => ?_)
                clear hK K
                refine norm_ (a' := ?_) ?_ ?_
                rotate_left
                ·show Act.put _ (some 29) _ = _
                 simp only [Act.put, zT, zU, zV, i64_w, i32_w]
                 rfl
                refine two_ (i := 5) (j := 6) (Ni := some 30) (Nj := some 8) #[true, true, true, true, true, true, false, false] #[true, true, true, true, true, false, true, false] rfl rfl rfl rfl (two_of HT_.out (by kernel_rfl)) (by decide) (by decide) (fun K hK => ?_) (fun K hK => ?_)
                ·skip
                 refine goes_ Try.func75 (by kernel_rfl) rfl #[.agg #[.int .i64 ((rd_T81 t211 x21_2).f0), .int .i64 ((rd_T81 t211 x21_2).f1)], .int .i64 t216] (by rfl) rfl rfl (by (try simp only [List.map_toArray, List.map_cons, List.map_nil]); first | done | rfl | (simp only [List.length_drop, List.length_take]; rfl)) ?_
                 with_reducible refine (impl_aggOf.calls ((rd_T81 t211 x21_2).f0) ((rd_T81 t211 x21_2).f1) t216 t217 t218 t219 t220 t221 t222 t223 t224 _ A17.out).mono ?_
                 rintro e w51 ⟨rfl, hb⟩
                 refine ⟨_, rfl, ?_⟩
                 have n0_ := Aside0.mk (Kd.R_below (by (with_reducible repeat (first | apply zG | apply zH | apply zI)); exact HO_5.out) hb)
                 have n1_ := Aside0.mk (Kd.R_below (by (with_reducible repeat (first | apply zG | apply zH | apply zI)); exact HO_19.out) hb)
                 have n2_ := Aside0.mk (blk_below (g := gb215) (o := .cells #[.int .i64 ((rd_T81 t211 x21_2).f0), .int .i64 ((rd_T81 t211 x21_2).f1)] 81 (0, 0)) (by (with_reducible repeat (first | refine zE ?_ _ | refine zF ?_ | refine zD ?_ _)); exact BK215.out) hb)
                 have n3_ := Aside0.mk (below_step (by repeat (first | (with_reducible first | exact HB.out | apply zA | apply zB | apply zC | refine below_set ?_ GE215.out) | exact HB.out)) hb)
                 clear HO_5
                 clear HO_19
                 clear BK215
                 clear HB
                 have HO_5 := n0_
                 have HO_19 := n1_
                 have BK215 := n2_
                 have HB := n3_
                 clear n0_ n1_ n2_ n3_
                 (try clear hb)
                 (try clear hb2)
                 (try clear hk)
                 (try clear hi)
                 refine hK.out _ _ ⟨(zQ BK215.out 0).trans rfl, (zQ BK215.out 1).trans rfl⟩ (fun hHeld => ?_)
                 clear hK K
                 refine norm_ (a' := ?_) ?_ ?_
                 rotate_left
                 ·show Act.put _ (some 30) _ = _
                  simp only [Act.put, zT, zU, zV, i64_w, i32_w]
                  rfl
                 refine one_ (i := 6) (N := some 8) #[true, true, true, true, true, true, true, false] rfl rfl (one_of HT_.out (by kernel_rfl)) (by decide) (fun K hK => ?_)
                 refine box_step ?hg (N := 8) ?hd (cs := #[.int .i64 0, .int .i64 0, .int .i64 0, .int .i64 0, .int .i64 0, .int .i64 0, .int .i64 0, .int .i64 0]) (t := 78) ?hr ?_; (case hd => rfl); (case hg => rfl); (case hr => first | (go_simp; done) | (go_simp; rfl))
                 intro gb225 hg w52 hbox hb
                 have n0_ := Aside0.mk (Kd.R_below (Kd.R_elderB (by (with_reducible repeat (first | apply zG | apply zH | apply zI)); exact HO_5.out) gb225 (Nat.le_of_eq hg.symm)) hb)
                 have n1_ := Aside0.mk (Kd.R_below (by (with_reducible repeat (first | apply zG | apply zH | apply zI)); exact HO_19.out) hb)
                 have n2_ := Aside0.mk (blk_below (g := gb215) (o := .cells #[.int .i64 ((rd_T81 t211 x21_2).f0), .int .i64 ((rd_T81 t211 x21_2).f1)] 81 (0, 0)) (by (with_reducible repeat (first | refine zE ?_ _ | refine zF ?_ | refine zD ?_ _)); exact BK215.out) hb)
                 have n3_ := Aside0.mk (below_step (by repeat (first | (with_reducible first | exact HB.out | apply zA | apply zB | apply zC | refine below_set ?_ GE215.out) | exact HB.out)) hb)
                 have n4_ := Aside0.mk (hbox)
                 have n5_ := Aside0.mk ((by rw [hg]; exact (zW (by repeat (first | (with_reducible first | exact HB.out | apply zA | apply zB | apply zC | refine below_set ?_ GE215.out) | exact HB.out))) : w.heap.size ≤ gb225))
                 have n6_ := Aside0.mk ((by rw [hg]; exact (zW (by repeat (first | (with_reducible first | exact HB.out | apply zA | apply zB | apply zC | refine below_set ?_ GE215.out) | exact HB.out))) : w.heap.size ≤ gb225))
                 have n7_ := Aside0.mk ((by rw [hg]; exact Nat.ne_of_lt (blk_lt (g := gb215) (o := .cells #[.int .i64 ((rd_T81 t211 x21_2).f0), .int .i64 ((rd_T81 t211 x21_2).f1)] 81 (0, 0)) (by (with_reducible repeat (first | refine zE ?_ _ | refine zF ?_ | refine zD ?_ _)); exact BK215.out)) : gb215 ≠ gb225))
                 have n8_ := Aside0.mk ((by rw [hg]; exact Nat.ne_of_gt (blk_lt (g := gb215) (o := .cells #[.int .i64 ((rd_T81 t211 x21_2).f0), .int .i64 ((rd_T81 t211 x21_2).f1)] 81 (0, 0)) (by (with_reducible repeat (first | refine zE ?_ _ | refine zF ?_ | refine zD ?_ _)); exact BK215.out)) : gb225 ≠ gb215))
                 clear HO_5
                 clear HO_19
                 clear BK215
                 clear HB
                 have HO_5 := n0_
                 have HO_19 := n1_
                 have BK215 := n2_
                 have HB := n3_
                 have BK225 := n4_
                 have GW225 := n5_
                 have GE225 := n6_
                 have NB215_225 := n7_
                 have NB225_215 := n8_
                 clear n0_ n1_ n2_ n3_ n4_ n5_ n6_ n7_ n8_
                 clear hb hbox hg
                 refine hK.out _ _ ⟨(zQ BK215.out 0).trans rfl, (zQ BK215.out 1).trans rfl⟩ (fun hHeld => ?_)
                 clear hK K
                 refine norm_ (a' := ?_) ?_ ?_
                 rotate_left
                 ·show Act.put _ (some 8) _ = _
                  simp only [Act.put, zT, zU, zV, i64_w, i32_w]
                  rfl
                 exact norm_ (by simp only [putAll, Act.put, zT, zU, zV]) (hCont (gb225) _ ⟨hHeld, (by (with_reducible repeat (first | apply zG | apply zH | apply zI)); exact HO_19.out), (by (with_reducible repeat (first | apply zG | apply zH | apply zI)); exact Kd.R_mono HO_5.out (fun _ hk => hk.2)), (by (with_reducible repeat (first | refine zE ?_ _ | refine zF ?_ | refine zD ?_ _)); exact BK215.out), (by (with_reducible repeat (first | refine zE ?_ _ | refine zF ?_ | refine zD ?_ _)); exact BK225.out), GW225.out, GE225.out, NB215_225.out, NB225_215.out, (by repeat (first | (with_reducible first | exact HB.out | apply zA | apply zB | apply zC | refine below_set ?_ GE215.out | refine below_set ?_ GE225.out) | exact HB.out))⟩)
                ·skip
                 refine box_step ?hg (N := 8) ?hd (cs := #[.int .i64 0, .int .i64 0, .int .i64 0, .int .i64 0, .int .i64 0, .int .i64 0, .int .i64 0, .int .i64 0]) (t := 78) ?hr ?_; (case hd => rfl); (case hg => rfl); (case hr => first | (go_simp; done) | (go_simp; rfl))
                 intro gb225 hg w51 hbox hb
                 have n0_ := Aside0.mk (Kd.R_below (Kd.R_elderB (by (with_reducible repeat (first | apply zG | apply zH | apply zI)); exact HO_5.out) gb225 (Nat.le_of_eq hg.symm)) hb)
                 have n1_ := Aside0.mk (Kd.R_below (by (with_reducible repeat (first | apply zG | apply zH | apply zI)); exact HO_19.out) hb)
                 have n2_ := Aside0.mk (blk_below (g := gb215) (o := .cells #[.int .i64 ((rd_T81 t211 x21_2).f0), .int .i64 ((rd_T81 t211 x21_2).f1)] 81 (0, 0)) (by (with_reducible repeat (first | refine zE ?_ _ | refine zF ?_ | refine zD ?_ _)); exact BK215.out) hb)
                 have n3_ := Aside0.mk (below_step (by repeat (first | (with_reducible first | exact HB.out | apply zA | apply zB | apply zC | refine below_set ?_ GE215.out) | exact HB.out)) hb)
                 have n4_ := Aside0.mk (hbox)
                 have n5_ := Aside0.mk ((by rw [hg]; exact (zW (by repeat (first | (with_reducible first | exact HB.out | apply zA | apply zB | apply zC | refine below_set ?_ GE215.out) | exact HB.out))) : w.heap.size ≤ gb225))
                 have n6_ := Aside0.mk ((by rw [hg]; exact (zW (by repeat (first | (with_reducible first | exact HB.out | apply zA | apply zB | apply zC | refine below_set ?_ GE215.out) | exact HB.out))) : w.heap.size ≤ gb225))
                 have n7_ := Aside0.mk ((by rw [hg]; exact Nat.ne_of_lt (blk_lt (g := gb215) (o := .cells #[.int .i64 ((rd_T81 t211 x21_2).f0), .int .i64 ((rd_T81 t211 x21_2).f1)] 81 (0, 0)) (by (with_reducible repeat (first | refine zE ?_ _ | refine zF ?_ | refine zD ?_ _)); exact BK215.out)) : gb215 ≠ gb225))
                 have n8_ := Aside0.mk ((by rw [hg]; exact Nat.ne_of_gt (blk_lt (g := gb215) (o := .cells #[.int .i64 ((rd_T81 t211 x21_2).f0), .int .i64 ((rd_T81 t211 x21_2).f1)] 81 (0, 0)) (by (with_reducible repeat (first | refine zE ?_ _ | refine zF ?_ | refine zD ?_ _)); exact BK215.out)) : gb225 ≠ gb215))
                 clear HO_5
                 clear HO_19
                 clear BK215
                 clear HB
                 have HO_5 := n0_
                 have HO_19 := n1_
                 have BK215 := n2_
                 have HB := n3_
                 have BK225 := n4_
                 have GW225 := n5_
                 have GE225 := n6_
                 have NB215_225 := n7_
                 have NB225_215 := n8_
                 clear n0_ n1_ n2_ n3_ n4_ n5_ n6_ n7_ n8_
                 clear hb hbox hg
                 refine hK.out _ _ ⟨(zQ BK215.out 0).trans rfl, (zQ BK215.out 1).trans rfl⟩ (fun hHeld => ?_)
                 clear hK K
                 refine norm_ (a' := ?_) ?_ ?_
                 rotate_left
                 ·show Act.put _ (some 8) _ = _
                  simp only [Act.put, zT, zU, zV, i64_w, i32_w]
                  rfl
                 refine one_ (i := 5) (N := some 30) #[true, true, true, true, true, true, true, false] rfl rfl (one_of HT_.out (by kernel_rfl)) (by decide) (fun K hK => ?_)
                 refine goes_ Try.func75 (by kernel_rfl) rfl #[.agg #[.int .i64 ((rd_T81 t211 x21_2).f0), .int .i64 ((rd_T81 t211 x21_2).f1)], .int .i64 t216] (by rfl) rfl rfl (by (try simp only [List.map_toArray, List.map_cons, List.map_nil]); first | done | rfl | (simp only [List.length_drop, List.length_take]; rfl)) ?_
                 with_reducible refine (impl_aggOf.calls ((rd_T81 t211 x21_2).f0) ((rd_T81 t211 x21_2).f1) t216 t217 t218 t219 t220 t221 t222 t223 t224 _ A17.out).mono ?_
                 rintro e w52 ⟨rfl, hb⟩
                 refine ⟨_, rfl, ?_⟩
                 have n0_ := Aside0.mk (Kd.R_below (by (with_reducible repeat (first | apply zG | apply zH | apply zI)); exact HO_5.out) hb)
                 have n1_ := Aside0.mk (Kd.R_below (by (with_reducible repeat (first | apply zG | apply zH | apply zI)); exact HO_19.out) hb)
                 have n2_ := Aside0.mk (blk_below (g := gb215) (o := .cells #[.int .i64 ((rd_T81 t211 x21_2).f0), .int .i64 ((rd_T81 t211 x21_2).f1)] 81 (0, 0)) (by (with_reducible repeat (first | refine zE ?_ _ | refine zF ?_ | refine zD ?_ _)); exact BK215.out) hb)
                 have n3_ := Aside0.mk (blk_below (g := gb225) (o := cs8 78 0 0 0 0 0 0 0 0) (by (with_reducible repeat (first | refine zE ?_ _ | refine zF ?_ | refine zD ?_ _)); exact BK225.out) hb)
                 have n4_ := Aside0.mk (below_step (by repeat (first | (with_reducible first | exact HB.out | apply zA | apply zB | apply zC | refine below_set ?_ GE215.out | refine below_set ?_ GE225.out) | exact HB.out)) hb)
                 clear HO_5
                 clear HO_19
                 clear BK215
                 clear BK225
                 clear HB
                 have HO_5 := n0_
                 have HO_19 := n1_
                 have BK215 := n2_
                 have BK225 := n3_
                 have HB := n4_
                 clear n0_ n1_ n2_ n3_ n4_
                 (try clear hb)
                 (try clear hb2)
                 (try clear hk)
                 (try clear hi)
                 refine hK.out _ _ ⟨(zQ BK215.out 0).trans rfl, (zQ BK215.out 1).trans rfl⟩ (fun hHeld => ?_)
                 clear hK K
                 refine norm_ (a' := ?_) ?_ ?_
                 rotate_left
                 ·show Act.put _ (some 30) _ = _
                  simp only [Act.put, zT, zU, zV, i64_w, i32_w]
                  rfl
                 exact norm_ (by simp only [putAll, Act.put, zT, zU, zV]) (hCont (gb225) _ ⟨hHeld, (by (with_reducible repeat (first | apply zG | apply zH | apply zI)); exact HO_19.out), (by (with_reducible repeat (first | apply zG | apply zH | apply zI)); exact Kd.R_mono HO_5.out (fun _ hk => hk.2)), (by (with_reducible repeat (first | refine zE ?_ _ | refine zF ?_ | refine zD ?_ _)); exact BK215.out), (by (with_reducible repeat (first | refine zE ?_ _ | refine zF ?_ | refine zD ?_ _)); exact BK225.out), GW225.out, GE225.out, NB215_225.out, NB225_215.out, (by repeat (first | (with_reducible first | exact HB.out | apply zA | apply zB | apply zC | refine below_set ?_ GE215.out | refine below_set ?_ GE225.out) | exact HB.out))⟩)
               ·skip
                refine box_step ?hg (N := 8) ?hd (cs := #[.int .i64 0, .int .i64 0, .int .i64 0, .int .i64 0, .int .i64 0, .int .i64 0, .int .i64 0, .int .i64 0]) (t := 78) ?hr ?_; (case hd => rfl); (case hg => rfl); (case hr => first | (go_simp; done) | (go_simp; rfl))
                intro gb225 hg w51 hbox hb
                have n0_ := Aside0.mk (Kd.R_below (Kd.R_elderB (by (with_reducible repeat (first | apply zG | apply zH | apply zI)); exact HO_5.out) gb225 (Nat.le_of_eq hg.symm)) hb)
                have n1_ := Aside0.mk (Kd.R_below (by (with_reducible repeat (first | apply zG | apply zH | apply zI)); exact HO_19.out) hb)
                have n2_ := Aside0.mk (blk_below (g := gb215) (o := .cells #[.int .i64 ((rd_T81 t211 x21_2).f0), .int .i64 ((rd_T81 t211 x21_2).f1)] 81 (0, 0)) (by (with_reducible repeat (first | refine zE ?_ _ | refine zF ?_ | refine zD ?_ _)); exact BK215.out) hb)
                have n3_ := Aside0.mk (below_step (by repeat (first | (with_reducible first | exact HB.out | apply zA | apply zB | apply zC | refine below_set ?_ GE215.out) | exact HB.out)) hb)
                have n4_ := Aside0.mk (hbox)
                have n5_ := Aside0.mk ((by rw [hg]; exact (zW (by repeat (first | (with_reducible first | exact HB.out | apply zA | apply zB | apply zC | refine below_set ?_ GE215.out) | exact HB.out))) : w.heap.size ≤ gb225))
                have n6_ := Aside0.mk ((by rw [hg]; exact (zW (by repeat (first | (with_reducible first | exact HB.out | apply zA | apply zB | apply zC | refine below_set ?_ GE215.out) | exact HB.out))) : w.heap.size ≤ gb225))
                have n7_ := Aside0.mk ((by rw [hg]; exact Nat.ne_of_lt (blk_lt (g := gb215) (o := .cells #[.int .i64 ((rd_T81 t211 x21_2).f0), .int .i64 ((rd_T81 t211 x21_2).f1)] 81 (0, 0)) (by (with_reducible repeat (first | refine zE ?_ _ | refine zF ?_ | refine zD ?_ _)); exact BK215.out)) : gb215 ≠ gb225))
                have n8_ := Aside0.mk ((by rw [hg]; exact Nat.ne_of_gt (blk_lt (g := gb215) (o := .cells #[.int .i64 ((rd_T81 t211 x21_2).f0), .int .i64 ((rd_T81 t211 x21_2).f1)] 81 (0, 0)) (by (with_reducible repeat (first | refine zE ?_ _ | refine zF ?_ | refine zD ?_ _)); exact BK215.out)) : gb225 ≠ gb215))
                clear HO_5
                clear HO_19
                clear BK215
                clear HB
                have HO_5 := n0_
                have HO_19 := n1_
                have BK215 := n2_
                have HB := n3_
                have BK225 := n4_
                have GW225 := n5_
                have GE225 := n6_
                have NB215_225 := n7_
                have NB225_215 := n8_
                clear n0_ n1_ n2_ n3_ n4_ n5_ n6_ n7_ n8_
                clear hb hbox hg
                refine hK.out _ _ ⟨(zQ BK215.out 0).trans rfl, (zQ BK215.out 1).trans rfl⟩ (fun hHeld => ?_)
                clear hK K
                refine norm_ (a' := ?_) ?_ ?_
                rotate_left
                ·show Act.put _ (some 8) _ = _
                 simp only [Act.put, zT, zU, zV, i64_w, i32_w]
                 rfl
                refine one_ (i := 4) (N := some 29) #[true, true, true, true, true, false, true, false] rfl rfl (one_of HT_.out (by kernel_rfl)) (by decide) (fun K hK => ?_)
                refine goes_ Try.func76 (by kernel_rfl) rfl #[.int .i64 ((rd_T81 t211 x21_2).f0), .int .i64 a1] (by rfl) rfl rfl (by (try simp only [List.map_toArray, List.map_cons, List.map_nil]); first | done | rfl | (simp only [List.length_drop, List.length_take]; rfl)) ?_
                with_reducible refine (impl_windowOf.calls ((rd_T81 t211 x21_2).f0) a1 t216 _ A16.out).mono ?_
                rintro e w' ⟨rfl, ⟨nd, rfl⟩⟩
                refine ⟨_, rfl, ?_⟩
                refine hK.out _ _ ⟨(zQ BK215.out 0).trans rfl, (zQ BK215.out 1).trans rfl⟩ (fun hHeld => ?_)
                clear hK K
                refine norm_ (a' := ?_) ?_ ?_
                rotate_left
                ·show Act.put _ (some 29) _ = _
                 simp only [Act.put, zT, zU, zV, i64_w, i32_w]
                 rfl
                refine one_ (i := 5) (N := some 30) #[true, true, true, true, true, true, true, false] rfl rfl (one_of HT_.out (by kernel_rfl)) (by decide) (fun K hK => ?_)
                refine goes_ Try.func75 (by kernel_rfl) rfl #[.agg #[.int .i64 ((rd_T81 t211 x21_2).f0), .int .i64 ((rd_T81 t211 x21_2).f1)], .int .i64 t216] (by rfl) rfl rfl (by (try simp only [List.map_toArray, List.map_cons, List.map_nil]); first | done | rfl | (simp only [List.length_drop, List.length_take]; rfl)) ?_
                with_reducible refine (impl_aggOf.calls ((rd_T81 t211 x21_2).f0) ((rd_T81 t211 x21_2).f1) t216 t217 t218 t219 t220 t221 t222 t223 t224 _ A17.out).mono ?_
                rintro e w52 ⟨rfl, hb⟩
                refine ⟨_, rfl, ?_⟩
                have n0_ := Aside0.mk (Kd.R_below (by (with_reducible repeat (first | apply zG | apply zH | apply zI)); exact HO_5.out) hb)
                have n1_ := Aside0.mk (Kd.R_below (by (with_reducible repeat (first | apply zG | apply zH | apply zI)); exact HO_19.out) hb)
                have n2_ := Aside0.mk (blk_below (g := gb215) (o := .cells #[.int .i64 ((rd_T81 t211 x21_2).f0), .int .i64 ((rd_T81 t211 x21_2).f1)] 81 (0, 0)) (by (with_reducible repeat (first | refine zE ?_ _ | refine zF ?_ | refine zD ?_ _)); exact BK215.out) hb)
                have n3_ := Aside0.mk (blk_below (g := gb225) (o := cs8 78 0 0 0 0 0 0 0 0) (by (with_reducible repeat (first | refine zE ?_ _ | refine zF ?_ | refine zD ?_ _)); exact BK225.out) hb)
                have n4_ := Aside0.mk (below_step (by repeat (first | (with_reducible first | exact HB.out | apply zA | apply zB | apply zC | refine below_set ?_ GE215.out | refine below_set ?_ GE225.out) | exact HB.out)) hb)
                clear HO_5
                clear HO_19
                clear BK215
                clear BK225
                clear HB
                have HO_5 := n0_
                have HO_19 := n1_
                have BK215 := n2_
                have BK225 := n3_
                have HB := n4_
                clear n0_ n1_ n2_ n3_ n4_
                (try clear hb)
                (try clear hb2)
                (try clear hk)
                (try clear hi)
                refine hK.out _ _ ⟨(zQ BK215.out 0).trans rfl, (zQ BK215.out 1).trans rfl⟩ (fun hHeld => ?_)
                clear hK K
                refine norm_ (a' := ?_) ?_ ?_
                rotate_left
                ·show Act.put _ (some 30) _ = _
                 simp only [Act.put, zT, zU, zV, i64_w, i32_w]
                 rfl
                exact norm_ (by simp only [putAll, Act.put, zT, zU, zV]) (hCont (gb225) _ ⟨hHeld, (by (with_reducible repeat (first | apply zG | apply zH | apply zI)); exact HO_19.out), (by (with_reducible repeat (first | apply zG | apply zH | apply zI)); exact Kd.R_mono HO_5.out (fun _ hk => hk.2)), (by (with_reducible repeat (first | refine zE ?_ _ | refine zF ?_ | refine zD ?_ _)); exact BK215.out), (by (with_reducible repeat (first | refine zE ?_ _ | refine zF ?_ | refine zD ?_ _)); exact BK225.out), GW225.out, GE225.out, NB215_225.out, NB225_215.out, (by repeat (first | (with_reducible first | exact HB.out | apply zA | apply zB | apply zC | refine below_set ?_ GE215.out | refine below_set ?_ GE225.out) | exact HB.out))⟩)
              rintro gb225 w53 ⟨hS_, h0_, h1_, h2_, h3_, h4_, h5_, h6_, h7_, h8_⟩
              have n0_ : Aside0 (Kd.R k81 81 w53 w.heap.size (fun k_ => k_ ≠ gb215) (.slice (some ad214) t211.length co12) t211) := ⟨h0_⟩
              have n1_ : Aside0 (Kd.R k78 78 w53 w.heap.size (fun k_ => k_ ≠ gb225) u5 x5_2) := ⟨h1_⟩
              have n2_ : Aside0 (w53.heap[gb215]? = some (.cells #[.int .i64 ((rd_T81 t211 x21_2).f0), .int .i64 ((rd_T81 t211 x21_2).f1)] 81 (0, 0))) := ⟨h2_⟩
              have n3_ : Aside0 (w53.heap[gb225]? = some (.cells #[.int .i64 0, .int .i64 0, .int .i64 0, .int .i64 0, .int .i64 0, .int .i64 0, .int .i64 0, .int .i64 0] 78 (0, 0))) := ⟨h3_⟩
              have n4_ : Aside0 (w.heap.size ≤ gb225) := ⟨h4_⟩
              have n5_ : Aside0 (w.heap.size ≤ gb225) := ⟨h5_⟩
              have n6_ : Aside0 (gb215 ≠ gb225) := ⟨h6_⟩
              have n7_ : Aside0 (gb225 ≠ gb215) := ⟨h7_⟩
              have n8_ : Aside0 (Below w.heap.size w w53) := ⟨h8_⟩
              clear HO_5
              clear HO_19
              clear BK215
              clear HB
              clear h0_ h1_ h2_ h3_ h4_ h5_ h6_ h7_ h8_
              have HO_19 := n0_
              have HO_5 := n1_
              have BK215 := n2_
              have BK225 := n3_
              have GW225 := n4_
              have GE225 := n5_
              have NB215_225 := n6_
              have NB225_215 := n7_
              have HB := n8_
              clear n0_ n1_ n2_ n3_ n4_ n5_ n6_ n7_ n8_
              have hHeld : w53.cell? ⟨gb215, 0, none⟩ = some (.int .i64 ((rd_T81 t211 x21_2).f0)) ∧ w53.cell? ⟨gb215, 1, none⟩ = some (.int .i64 ((rd_T81 t211 x21_2).f1)) := hS_
              refine norm_ (a' := ?_) ?_ ?_
              rotate_left
              ·simp only [putAll, Act.put, zT, zU, zV]
               rfl
              refine one_ (i := 7) (N := none) #[true, true, true, true, true, true, true, true] rfl rfl (one_of HT_.out (by kernel_rfl)) (by decide) (fun K hK => ?_)
              have hs54 : w53.cell? ⟨gb225, 0, none⟩ = some (.int .i64 0) := (zQ BK225.out 0).trans rfl
              have hfs54 := blk_frozen BK225.out 0
              have hns54_0 := NB215_225.out
              have hms54_0 := NB225_215.out
              have hs55 : w53.cell? ⟨gb225, 1, none⟩ = some (.int .i64 0) := (zQ BK225.out 1).trans rfl
              have hfs55 := blk_frozen BK225.out 1
              have hns55_0 := NB215_225.out
              have hms55_0 := NB225_215.out
              have hs56 : w53.cell? ⟨gb225, 2, none⟩ = some (.int .i64 0) := (zQ BK225.out 2).trans rfl
              have hfs56 := blk_frozen BK225.out 2
              have hns56_0 := NB215_225.out
              have hms56_0 := NB225_215.out
              have hs57 : w53.cell? ⟨gb225, 3, none⟩ = some (.int .i64 0) := (zQ BK225.out 3).trans rfl
              have hfs57 := blk_frozen BK225.out 3
              have hns57_0 := NB215_225.out
              have hms57_0 := NB225_215.out
              have hs58 : w53.cell? ⟨gb225, 4, none⟩ = some (.int .i64 0) := (zQ BK225.out 4).trans rfl
              have hfs58 := blk_frozen BK225.out 4
              have hns58_0 := NB215_225.out
              have hms58_0 := NB225_215.out
              have hs59 : w53.cell? ⟨gb225, 5, none⟩ = some (.int .i64 0) := (zQ BK225.out 5).trans rfl
              have hfs59 := blk_frozen BK225.out 5
              have hns59_0 := NB215_225.out
              have hms59_0 := NB225_215.out
              have hs60 : w53.cell? ⟨gb225, 6, none⟩ = some (.int .i64 0) := (zQ BK225.out 6).trans rfl
              have hfs60 := blk_frozen BK225.out 6
              have hns60_0 := NB215_225.out
              have hms60_0 := NB225_215.out
              have hs61 : w53.cell? ⟨gb225, 7, none⟩ = some (.int .i64 0) := (zQ BK225.out 7).trans rfl
              have hfs61 := blk_frozen BK225.out 7
              have hns61_0 := NB215_225.out
              have hms61_0 := NB225_215.out
              refine skip_ (w1 := ?_) (by rfl) rfl ?_ ?_
              rotate_left
              ·go_simp
               rfl
              refine hK.out _ _ ⟨((far8 (g := gb225) NB215_225.out).trans (hHeld.1)), ((far8 (g := gb225) NB215_225.out).trans (hHeld.2))⟩ (fun hHeld => ?_)
              clear hK K
              refine done_ (done_of HT_.out (by kernel_rfl)) ?_
              obtain ⟨Ao62, co62, eo62⟩ := Kd.R_slice HO_5.out
              subst eo62
              try go_wp2
              have n0_ : Aside0 (Kd.R k78 78 ((((((((w53.setCell ⟨gb225, 0, none⟩ (.int .i64 t217)).setCell ⟨gb225, 1, none⟩ (.int .i64 t218)).setCell ⟨gb225, 2, none⟩ (.int .i64 t219)).setCell ⟨gb225, 3, none⟩ (.int .i64 t220)).setCell ⟨gb225, 4, none⟩ (.int .i64 t221)).setCell ⟨gb225, 5, none⟩ (.int .i64 t222)).setCell ⟨gb225, 6, none⟩ (.int .i64 t223)).setCell ⟨gb225, 7, none⟩ (.int .i64 t224)) w.heap.size (fun k_ => k_ ≠ gb225) (.slice Ao62 x5_2.length co62) x5_2) := ⟨by (with_reducible repeat (first | apply zG | apply zH | apply zI)); exact Kd.R_mono (Kd.R_far (p := ⟨gb225, 7, none⟩) (Kd.R_far (p := ⟨gb225, 6, none⟩) (Kd.R_far (p := ⟨gb225, 5, none⟩) (Kd.R_far (p := ⟨gb225, 4, none⟩) (Kd.R_far (p := ⟨gb225, 3, none⟩) (Kd.R_far (p := ⟨gb225, 2, none⟩) (Kd.R_far (p := ⟨gb225, 1, none⟩) (Kd.R_far (p := ⟨gb225, 0, none⟩) (Kd.R_mono HO_5.out (fun k_ hk => (⟨hk, hk⟩ : _ ∧ k_ ≠ gb225))) (fun _ hk => hk.2) (.int .i64 t217)) (fun _ hk => hk.2) (.int .i64 t218)) (fun _ hk => hk.2) (.int .i64 t219)) (fun _ hk => hk.2) (.int .i64 t220)) (fun _ hk => hk.2) (.int .i64 t221)) (fun _ hk => hk.2) (.int .i64 t222)) (fun _ hk => hk.2) (.int .i64 t223)) (fun _ hk => hk.2) (.int .i64 t224)) (fun _ hk => hk.1)⟩
              have n1_ : Aside0 (Kd.R k81 81 ((((((((w53.setCell ⟨gb225, 0, none⟩ (.int .i64 t217)).setCell ⟨gb225, 1, none⟩ (.int .i64 t218)).setCell ⟨gb225, 2, none⟩ (.int .i64 t219)).setCell ⟨gb225, 3, none⟩ (.int .i64 t220)).setCell ⟨gb225, 4, none⟩ (.int .i64 t221)).setCell ⟨gb225, 5, none⟩ (.int .i64 t222)).setCell ⟨gb225, 6, none⟩ (.int .i64 t223)).setCell ⟨gb225, 7, none⟩ (.int .i64 t224)) w.heap.size (fun k_ => k_ ≠ gb215) (.slice (some ad214) t211.length co12) t211) := ⟨by (with_reducible repeat (first | apply zG | apply zH | apply zI)); exact Kd.R_mono (Kd.R_far (p := ⟨gb225, 7, none⟩) (Kd.R_far (p := ⟨gb225, 6, none⟩) (Kd.R_far (p := ⟨gb225, 5, none⟩) (Kd.R_far (p := ⟨gb225, 4, none⟩) (Kd.R_far (p := ⟨gb225, 3, none⟩) (Kd.R_far (p := ⟨gb225, 2, none⟩) (Kd.R_far (p := ⟨gb225, 1, none⟩) (Kd.R_far (p := ⟨gb225, 0, none⟩) (Kd.R_types HO_19.out BK225.out (by decide)) (fun _ hk => hk.2) (.int .i64 t217)) (fun _ hk => hk.2) (.int .i64 t218)) (fun _ hk => hk.2) (.int .i64 t219)) (fun _ hk => hk.2) (.int .i64 t220)) (fun _ hk => hk.2) (.int .i64 t221)) (fun _ hk => hk.2) (.int .i64 t222)) (fun _ hk => hk.2) (.int .i64 t223)) (fun _ hk => hk.2) (.int .i64 t224)) (fun _ hk => hk.1)⟩
              have n2_ : Aside0 (((((((((w53.setCell ⟨gb225, 0, none⟩ (.int .i64 t217)).setCell ⟨gb225, 1, none⟩ (.int .i64 t218)).setCell ⟨gb225, 2, none⟩ (.int .i64 t219)).setCell ⟨gb225, 3, none⟩ (.int .i64 t220)).setCell ⟨gb225, 4, none⟩ (.int .i64 t221)).setCell ⟨gb225, 5, none⟩ (.int .i64 t222)).setCell ⟨gb225, 6, none⟩ (.int .i64 t223)).setCell ⟨gb225, 7, none⟩ (.int .i64 t224)).heap[gb215]? = some (.cells #[.int .i64 ((rd_T81 t211 x21_2).f0), .int .i64 ((rd_T81 t211 x21_2).f1)] 81 (0, 0))) := ⟨by (with_reducible repeat (first | refine zE ?_ _ | refine zF ?_ | refine zD ?_ _)); refine blk_far ?_ NB215_225.out _; (with_reducible repeat (first | refine zE ?_ _ | refine zF ?_ | refine zD ?_ _)); refine blk_far ?_ NB215_225.out _; (with_reducible repeat (first | refine zE ?_ _ | refine zF ?_ | refine zD ?_ _)); refine blk_far ?_ NB215_225.out _; (with_reducible repeat (first | refine zE ?_ _ | refine zF ?_ | refine zD ?_ _)); refine blk_far ?_ NB215_225.out _; (with_reducible repeat (first | refine zE ?_ _ | refine zF ?_ | refine zD ?_ _)); refine blk_far ?_ NB215_225.out _; (with_reducible repeat (first | refine zE ?_ _ | refine zF ?_ | refine zD ?_ _)); refine blk_far ?_ NB215_225.out _; (with_reducible repeat (first | refine zE ?_ _ | refine zF ?_ | refine zD ?_ _)); refine blk_far ?_ NB215_225.out _; (with_reducible repeat (first | refine zE ?_ _ | refine zF ?_ | refine zD ?_ _)); refine blk_far ?_ NB215_225.out _; (with_reducible repeat (first | refine zE ?_ _ | refine zF ?_ | refine zD ?_ _)); exact BK215.out⟩
              have n3_ : Aside0 (((((((((w53.setCell ⟨gb225, 0, none⟩ (.int .i64 t217)).setCell ⟨gb225, 1, none⟩ (.int .i64 t218)).setCell ⟨gb225, 2, none⟩ (.int .i64 t219)).setCell ⟨gb225, 3, none⟩ (.int .i64 t220)).setCell ⟨gb225, 4, none⟩ (.int .i64 t221)).setCell ⟨gb225, 5, none⟩ (.int .i64 t222)).setCell ⟨gb225, 6, none⟩ (.int .i64 t223)).setCell ⟨gb225, 7, none⟩ (.int .i64 t224)).heap[gb225]? = some (.cells #[.int .i64 t217, .int .i64 t218, .int .i64 t219, .int .i64 t220, .int .i64 t221, .int .i64 t222, .int .i64 t223, .int .i64 t224] 78 (0, 0))) := ⟨by (with_reducible repeat (first | refine zE ?_ _ | refine zF ?_ | refine zD ?_ _)); refine blk_put (cs := #[.int .i64 t217, .int .i64 t218, .int .i64 t219, .int .i64 t220, .int .i64 t221, .int .i64 t222, .int .i64 t223, .int .i64 0]) ?_ 7 _ rfl; (with_reducible repeat (first | refine zE ?_ _ | refine zF ?_ | refine zD ?_ _)); refine blk_put (cs := #[.int .i64 t217, .int .i64 t218, .int .i64 t219, .int .i64 t220, .int .i64 t221, .int .i64 t222, .int .i64 0, .int .i64 0]) ?_ 6 _ rfl; (with_reducible repeat (first | refine zE ?_ _ | refine zF ?_ | refine zD ?_ _)); refine blk_put (cs := #[.int .i64 t217, .int .i64 t218, .int .i64 t219, .int .i64 t220, .int .i64 t221, .int .i64 0, .int .i64 0, .int .i64 0]) ?_ 5 _ rfl; (with_reducible repeat (first | refine zE ?_ _ | refine zF ?_ | refine zD ?_ _)); refine blk_put (cs := #[.int .i64 t217, .int .i64 t218, .int .i64 t219, .int .i64 t220, .int .i64 0, .int .i64 0, .int .i64 0, .int .i64 0]) ?_ 4 _ rfl; (with_reducible repeat (first | refine zE ?_ _ | refine zF ?_ | refine zD ?_ _)); refine blk_put (cs := #[.int .i64 t217, .int .i64 t218, .int .i64 t219, .int .i64 0, .int .i64 0, .int .i64 0, .int .i64 0, .int .i64 0]) ?_ 3 _ rfl; (with_reducible repeat (first | refine zE ?_ _ | refine zF ?_ | refine zD ?_ _)); refine blk_put (cs := #[.int .i64 t217, .int .i64 t218, .int .i64 0, .int .i64 0, .int .i64 0, .int .i64 0, .int .i64 0, .int .i64 0]) ?_ 2 _ rfl; (with_reducible repeat (first | refine zE ?_ _ | refine zF ?_ | refine zD ?_ _)); refine blk_put (cs := #[.int .i64 t217, .int .i64 0, .int .i64 0, .int .i64 0, .int .i64 0, .int .i64 0, .int .i64 0, .int .i64 0]) ?_ 1 _ rfl; (with_reducible repeat (first | refine zE ?_ _ | refine zF ?_ | refine zD ?_ _)); refine blk_put (cs := #[.int .i64 0, .int .i64 0, .int .i64 0, .int .i64 0, .int .i64 0, .int .i64 0, .int .i64 0, .int .i64 0]) ?_ 0 _ rfl; (with_reducible repeat (first | refine zE ?_ _ | refine zF ?_ | refine zD ?_ _)); exact BK225.out⟩
              have n4_ : Aside0 (Below w.heap.size w ((((((((w53.setCell ⟨gb225, 0, none⟩ (.int .i64 t217)).setCell ⟨gb225, 1, none⟩ (.int .i64 t218)).setCell ⟨gb225, 2, none⟩ (.int .i64 t219)).setCell ⟨gb225, 3, none⟩ (.int .i64 t220)).setCell ⟨gb225, 4, none⟩ (.int .i64 t221)).setCell ⟨gb225, 5, none⟩ (.int .i64 t222)).setCell ⟨gb225, 6, none⟩ (.int .i64 t223)).setCell ⟨gb225, 7, none⟩ (.int .i64 t224))) := ⟨by repeat (first | (with_reducible first | exact HB.out | apply zA | apply zB | apply zC | refine below_set ?_ GE215.out | refine below_set ?_ GE225.out) | exact HB.out)⟩
              (try clear HO_5)
              (try clear HO_19)
              (try clear BK215)
              (try clear BK225)
              (try clear HB)
              generalize ((((((((w53.setCell ⟨gb225, 0, none⟩ (.int .i64 t217)).setCell ⟨gb225, 1, none⟩ (.int .i64 t218)).setCell ⟨gb225, 2, none⟩ (.int .i64 t219)).setCell ⟨gb225, 3, none⟩ (.int .i64 t220)).setCell ⟨gb225, 4, none⟩ (.int .i64 t221)).setCell ⟨gb225, 5, none⟩ (.int .i64 t222)).setCell ⟨gb225, 6, none⟩ (.int .i64 t223)).setCell ⟨gb225, 7, none⟩ (.int .i64 t224)) = w63 at n0_ n1_ n2_ n3_ n4_ ⊢
              have HO_5 := n0_
              have HO_19 := n1_
              have BK215 := n2_
              have BK225 := n3_
              have HB := n4_
              clear n0_ n1_ n2_ n3_ n4_
              have n0_ := Aside0.mk (zI HO_5.out)
              have n1_ := Aside0.mk (zI HO_19.out)
              have n2_ := Aside0.mk (zF BK215.out)
              have n3_ := Aside0.mk (zF BK225.out)
              have n4_ := Aside0.mk (zC HB.out)
              clear HO_5
              clear HO_19
              clear BK215
              clear BK225
              clear HB
              have HO_5 := n0_
              have HO_19 := n1_
              have BK215 := n2_
              have BK225 := n3_
              have HB := n4_
              clear n0_ n1_ n2_ n3_ n4_
              have p226 : 0 ≤ ((ji19) : Int) := zX (by first | (with_reducible assumption) | assumption)
              have q226 : (ji19) < (x5_2.length : Int) := zX (by first | (with_reducible assumption) | assumption)
              obtain ⟨ad226, e226, hx226_0, hx226_1, hx226_2, hx226_3, hx226_4, hx226_5, hx226_6, hx226_7⟩ := at_T78 (Kd.R_reads' HO_5.out).2.2 (ji19) p226 q226
              cases e226
              replace p226 := eq_true p226
              replace q226 := eq_true q226
              refine start_ (n := 13) (S := fun w' => w'.cell? ⟨gb225, 0, none⟩ = some (.int .i64 t217) ∧ w'.cell? ⟨gb225, 1, none⟩ = some (.int .i64 t218) ∧ w'.cell? ⟨gb225, 2, none⟩ = some (.int .i64 t219) ∧ w'.cell? ⟨gb225, 3, none⟩ = some (.int .i64 t220) ∧ w'.cell? ⟨gb225, 4, none⟩ = some (.int .i64 t221) ∧ w'.cell? ⟨gb225, 5, none⟩ = some (.int .i64 t222) ∧ w'.cell? ⟨gb225, 6, none⟩ = some (.int .i64 t223) ∧ w'.cell? ⟨gb225, 7, none⟩ = some (.int .i64 t224) ∧ w'.cell? (ad226.add (((ji19)).toNat * 8)) = some (.int .i64 ((rd_T78 x5_2 (ji19)).f0)) ∧ w'.cell? ⟨(ad226.add (((ji19)).toNat * 8)).block, (ad226.add (((ji19)).toNat * 8)).off + 1, none⟩ = some (.int .i64 ((rd_T78 x5_2 (ji19)).f1)) ∧ w'.cell? ⟨(ad226.add (((ji19)).toNat * 8)).block, (ad226.add (((ji19)).toNat * 8)).off + 2, none⟩ = some (.int .i64 ((rd_T78 x5_2 (ji19)).f2)) ∧ w'.cell? ⟨(ad226.add (((ji19)).toNat * 8)).block, (ad226.add (((ji19)).toNat * 8)).off + 3, none⟩ = some (.int .i64 ((rd_T78 x5_2 (ji19)).f3)) ∧ w'.cell? ⟨(ad226.add (((ji19)).toNat * 8)).block, (ad226.add (((ji19)).toNat * 8)).off + 4, none⟩ = some (.int .i64 ((rd_T78 x5_2 (ji19)).f4)) ∧ w'.cell? ⟨(ad226.add (((ji19)).toNat * 8)).block, (ad226.add (((ji19)).toNat * 8)).off + 5, none⟩ = some (.int .i64 ((rd_T78 x5_2 (ji19)).f5)) ∧ w'.cell? ⟨(ad226.add (((ji19)).toNat * 8)).block, (ad226.add (((ji19)).toNat * 8)).off + 6, none⟩ = some (.int .i64 ((rd_T78 x5_2 (ji19)).f6)) ∧ w'.cell? ⟨(ad226.add (((ji19)).toNat * 8)).block, (ad226.add (((ji19)).toNat * 8)).off + 7, none⟩ = some (.int .i64 ((rd_T78 x5_2 (ji19)).f7))) (ds := []) #[false, false, false, false, false, false, false, false, false, false, false, false, false] (by kernel_rfl) rfl rfl ⟨(zQ BK225.out 0).trans rfl, (zQ BK225.out 1).trans rfl, (zQ BK225.out 2).trans rfl, (zQ BK225.out 3).trans rfl, (zQ BK225.out 4).trans rfl, (zQ BK225.out 5).trans rfl, (zQ BK225.out 6).trans rfl, (zQ BK225.out 7).trans rfl, hx226_0, hx226_1, hx226_2, hx226_3, hx226_4, hx226_5, hx226_6, hx226_7⟩ (fun hHeld => ?_); refine with_tabW impl_DownSamples.tab9 impl_DownSamples.bits9 (fun HT_ HW_ => ?_)
              generalize w63.drew = w64 at HO_5 HO_19 BK215 BK225 HB hx226_0 hx226_1 hx226_2 hx226_3 hx226_4 hx226_5 hx226_6 hx226_7 hHeld ⊢
              refine pure_ (i := 0) (N := some 33) (v := ?_) (a' := ?_) #[true, false, false, false, false, false, false, false, false, false, false, false, false] rfl rfl (any_of HT_.out (by kernel_rfl)) (fun _ _ _ h => h) (Or.inl ⟨by rfl, ?_⟩) ?_ ?_
              rotate_left
              ·intro w'
               go_simp
               with_reducible rfl
              rotate_left
              ·simp only [Act.put, zT, zU, zV, i64_w, i32_w]
               rfl
              refine pure_ (i := 1) (N := some 34) (v := ?_) (a' := ?_) #[true, true, false, false, false, false, false, false, false, false, false, false, false] rfl rfl (any_of HT_.out (by kernel_rfl)) (fun _ _ _ h => h) (Or.inl ⟨by rfl, ?_⟩) ?_ ?_
              rotate_left
              ·intro w'
               go_simp
               with_reducible rfl
              rotate_left
              ·simp only [Act.put, zT, zU, zV, i64_w, i32_w]
               rfl
              refine pure_ (i := 2) (N := some 35) (v := ?_) (a' := ?_) #[true, true, true, false, false, false, false, false, false, false, false, false, false] rfl rfl (any_of HT_.out (by kernel_rfl)) (fun _ _ _ h => h) (Or.inl ⟨by rfl, ?_⟩) ?_ ?_
              rotate_left
              ·intro w'
               go_simp
               with_reducible rfl
              rotate_left
              ·simp only [Act.put, zT, zU, zV, i64_w, i32_w]
               rfl
              refine pure_ (i := 3) (N := some 36) (v := ?_) (a' := ?_) #[true, true, true, true, false, false, false, false, false, false, false, false, false] rfl rfl (any_of HT_.out (by kernel_rfl)) (fun _ _ _ h => h) (Or.inl ⟨by rfl, ?_⟩) ?_ ?_
              rotate_left
              ·intro w'
               go_simp
               with_reducible rfl
              rotate_left
              ·simp only [Act.put, zT, zU, zV, i64_w, i32_w]
               rfl
              refine pure_ (i := 4) (N := some 37) (v := ?_) (a' := ?_) #[true, true, true, true, true, false, false, false, false, false, false, false, false] rfl rfl (any_of HT_.out (by kernel_rfl)) (fun _ _ _ h => h) (Or.inl ⟨by rfl, ?_⟩) ?_ ?_
              rotate_left
              ·intro w'
               go_simp
               with_reducible rfl
              rotate_left
              ·simp only [Act.put, zT, zU, zV, i64_w, i32_w]
               rfl
              refine pure_ (i := 5) (N := some 38) (v := ?_) (a' := ?_) #[true, true, true, true, true, true, false, false, false, false, false, false, false] rfl rfl (any_of HT_.out (by kernel_rfl)) (fun _ _ _ h => h) (Or.inl ⟨by rfl, ?_⟩) ?_ ?_
              rotate_left
              ·intro w'
               go_simp
               with_reducible rfl
              rotate_left
              ·simp only [Act.put, zT, zU, zV, i64_w, i32_w]
               rfl
              refine pure_ (i := 6) (N := some 39) (v := ?_) (a' := ?_) #[true, true, true, true, true, true, true, false, false, false, false, false, false] rfl rfl (any_of HT_.out (by kernel_rfl)) (fun _ _ _ h => h) (Or.inl ⟨by rfl, ?_⟩) ?_ ?_
              rotate_left
              ·intro w'
               go_simp
               with_reducible rfl
              rotate_left
              ·simp only [Act.put, zT, zU, zV, i64_w, i32_w]
               rfl
              refine pure_ (i := 7) (N := some 40) (v := ?_) (a' := ?_) #[true, true, true, true, true, true, true, true, false, false, false, false, false] rfl rfl (any_of HT_.out (by kernel_rfl)) (fun _ _ _ h => h) (Or.inl ⟨by rfl, ?_⟩) ?_ ?_
              rotate_left
              ·intro w'
               go_simp
               with_reducible rfl
              rotate_left
              ·simp only [Act.put, zT, zU, zV, i64_w, i32_w]
               rfl
              refine pure_ (i := 9) (N := some 42) (v := ?_) (a' := ?_) #[true, true, true, true, true, true, true, true, false, true, false, false, false] rfl rfl (any_of HT_.out (by kernel_rfl)) (fun _ _ _ h => h) (Or.inl ⟨by rfl, ?_⟩) ?_ ?_
              rotate_left
              ·intro w'
               go_simp
               with_reducible rfl
              rotate_left
              ·simp only [Act.put, zT, zU, zV, i64_w, i32_w]
               rfl
              refine take_ (i := 8) (N := some 41) (v := ?_) (a' := ?_) #[true, true, true, true, true, true, true, true, true, true, false, false, false] rfl rfl (take_ofW HT_.out HW_.out (by kernel_rfl)) (fun _ _ _ h => h) (Or.inl ⟨by rfl, ?_⟩) hHeld ?_ ?_
              rotate_left
              ·rintro w' ⟨s0, s1, s2, s3, s4, s5, s6, s7, s8, s9, s10, s11, s12, s13, s14, s15⟩
               go_simp
               with_reducible rfl
              rotate_left
              ·simp only [Act.put, zT, zU, zV, i64_w, i32_w]
               rfl
              refine take_ (i := 10) (N := some 43) (v := ?_) (a' := ?_) #[true, true, true, true, true, true, true, true, true, true, true, false, false] rfl rfl (take_ofW HT_.out HW_.out (by kernel_rfl)) (fun _ _ _ h => h) (Or.inl ⟨by rfl, ?_⟩) hHeld ?_ ?_
              rotate_left
              ·rintro w' ⟨s0, s1, s2, s3, s4, s5, s6, s7, s8, s9, s10, s11, s12, s13, s14, s15⟩
               go_simp
               with_reducible rfl
              rotate_left
              ·simp only [Act.put, zT, zU, zV, i64_w, i32_w]
               rfl
              refine pure_ (i := 11) (N := some 44) (v := ?_) (a' := ?_) #[true, true, true, true, true, true, true, true, true, true, true, true, false] rfl rfl (any_of HT_.out (by kernel_rfl)) (fun _ _ _ h => h) (Or.inl ⟨by rfl, ?_⟩) ?_ ?_
              rotate_left
              ·intro w'
               go_simp
               with_reducible rfl
              rotate_left
              ·simp only [Act.put, zT, zU, zV, i64_w, i32_w]
               rfl
              refine pure_ (i := 12) (N := some 45) (v := ?_) (a' := ?_) #[true, true, true, true, true, true, true, true, true, true, true, true, true] rfl rfl (any_of HT_.out (by kernel_rfl)) (fun _ _ _ h => h) (Or.inl ⟨by rfl, ?_⟩) ?_ ?_
              rotate_left
              ·intro w'
               go_simp
               with_reducible rfl
              rotate_left
              ·simp only [Act.put, zT, zU, zV, i64_w, i32_w]
               rfl
              refine done_ (done_of HT_.out (by kernel_rfl)) ?_
              have hnb65 := NB225_215.out
              have hnc65 := NB215_225.out
              have hcz66_0 : w64.cell? ⟨gb225, 0, none⟩ = some (.int .i64 t217) := (zQ BK225.out 0).trans rfl
              have hcz66_1 : w64.cell? ⟨gb225, 1, none⟩ = some (.int .i64 t218) := (zQ BK225.out 1).trans rfl
              have hcz66_2 : w64.cell? ⟨gb225, 2, none⟩ = some (.int .i64 t219) := (zQ BK225.out 2).trans rfl
              have hcz66_3 : w64.cell? ⟨gb225, 3, none⟩ = some (.int .i64 t220) := (zQ BK225.out 3).trans rfl
              have hcz66_4 : w64.cell? ⟨gb225, 4, none⟩ = some (.int .i64 t221) := (zQ BK225.out 4).trans rfl
              have hcz66_5 : w64.cell? ⟨gb225, 5, none⟩ = some (.int .i64 t222) := (zQ BK225.out 5).trans rfl
              have hcz66_6 : w64.cell? ⟨gb225, 6, none⟩ = some (.int .i64 t223) := (zQ BK225.out 6).trans rfl
              have hcz66_7 : w64.cell? ⟨gb225, 7, none⟩ = some (.int .i64 t224) := (zQ BK225.out 7).trans rfl
              have hfz66_0 := blk_frozen BK225.out 0
              have hfz66_1 := blk_frozen BK225.out 1
              have hfz66_2 := blk_frozen BK225.out 2
              have hfz66_3 := blk_frozen BK225.out 3
              have hfz66_4 := blk_frozen BK225.out 4
              have hfz66_5 := blk_frozen BK225.out 5
              have hfz66_6 := blk_frozen BK225.out 6
              have hfz66_7 := blk_frozen BK225.out 7
              try go_wp2_with (first | ((with_reducible refine gate_builtin (b := .append) (xs := #[.tmp 57, .tmp 59]) rfl ?_); at_builtin; refine Kd.R_append k78 (w0 := w) w.heap.size rfl (.tmp 57) (.tmp 59) 44 78 (.agg #[(.int .i64 0), (.int .i64 0), (.int .i64 0), (.int .i64 0), (.int .i64 0), (.int .i64 0), (.int .i64 0), (.int .i64 0)]) 64 rfl Try.underlying44 info78 rfl (by decide) (by omega) (.slice (some ad226) x5_2.length co62) x5_2 (⟨t217, t218, t219, t220, t221, t222, t223, t224⟩ : S78) [.int .i64 t217, .int .i64 t218, .int .i64 t219, .int .i64 t220, .int .i64 t221, .int .i64 t222, .int .i64 t223, .int .i64 t224] (fun k_ => k_ ≠ gb225) (fun _ => False) rfl rfl ?aP (fun _ hk => hk.elim) ?aF ?aO ?aB ?aS ?aL ?_; (case aP => exact k78_mkM _ _ _ (⟨t217, t218, t219, t220, t221, t222, t223, t224⟩ : S78)); (case aB => exact (by repeat (first | (with_reducible first | exact HB.out | apply zA | apply zB | apply zC | refine below_set ?_ GE215.out | refine below_set ?_ GE225.out) | exact HB.out))); (case aF => exact (fun k_ hk => Kd.freshB (g := gb225) (o := cs8 78 t217 t218 t219 t220 t221 t222 t223 t224) (by (with_reducible repeat (first | refine zE ?_ _ | refine zF ?_ | refine zD ?_ _)); exact BK225.out) k_ hk)); (case aO => exact (by (with_reducible repeat (first | apply zG | apply zH | apply zI)); exact HO_5.out)); (case aS => exact (zW (by repeat (first | (with_reducible first | exact HB.out | apply zA | apply zB | apply zC | refine below_set ?_ GE215.out | refine below_set ?_ GE225.out) | exact HB.out)))); (case aL => have := LMc46.out; omega); intro v238 w67 ho hb hg hat; rw [← Ny237.out] at ho; have n0_ := Aside0.mk (Kd.R_over' (by (with_reducible repeat (first | apply zG | apply zH | apply zI)); exact HO_19.out) (Kd.R_typed (by (with_reducible repeat (first | apply zG | apply zH | apply zI)); exact HO_5.out)) (by decide) hg); have n1_ := Aside0.mk (blk_grown (g := gb215) (o := .cells #[.int .i64 ((rd_T81 t211 x21_2).f0), .int .i64 ((rd_T81 t211 x21_2).f1)] 81 (0, 0)) (by (with_reducible repeat (first | refine zE ?_ _ | refine zF ?_ | refine zD ?_ _)); exact BK215.out) hg (Kd.R_ne HO_5.out BK215.out (by decide))); have n2_ := Aside0.mk (blk_grown (g := gb225) (o := cs8 78 t217 t218 t219 t220 t221 t222 t223 t224) (by (with_reducible repeat (first | refine zE ?_ _ | refine zF ?_ | refine zD ?_ _)); exact BK225.out) hg (Kd.R_away HO_5.out (fun _ hk => hk))); have n3_ := Aside0.mk (hb); have n4_ := Aside0.mk (ho); clear HO_19; clear BK215; clear BK225; clear HB; clear HO_5; have HO_19 := n0_; have BK215 := n1_; have BK225 := n2_; have HB := n3_; have HO239 := n4_; clear n0_ n1_ n2_ n3_ n4_; clear ho hb hg hat))
              go_roundg k2
              case measure => have := HJ2.out; have := HK2.out; omega
              case rel => exact ⟨(y237), (wrap64 (x21_2 + 1)), (by first | rfl | (simp; done) | (simp [*]; done)), H', ⟨by have := HJ2.out; have := HK2.out; omega⟩, ⟨by (with_reducible repeat (first | apply zG | apply zH | apply zI)); exact Kd.R_mono HO239.out (fun _ hk => trivial)⟩, ⟨by (with_reducible repeat (first | apply zG | apply zH | apply zI)); exact Kd.R_mono HO_19.out (fun _ hk => trivial)⟩, ⟨by repeat (first | (with_reducible first | exact HB.out | apply zA | apply zB | apply zC | refine below_set ?_ GE215.out | refine below_set ?_ GE225.out) | exact HB.out)⟩⟩
             ·rw [if_neg c46] at H
              exact absurd H (by simp)
           ·rw [if_neg c21] at H
            exact absurd H (by simp)
          ·rw [if_neg c20] at H
           exact absurd H (by simp)
         ·rw [if_neg c18] at H
          have c18b0 : decide (0 < (x5_2.length : Int)) = false := decide_eq_false c18
          have c18b1 : decide (0 < x5_2.length) = false := decide_eq_false (by omega)
          clear c18
          by_cases c68 : x5_2.length < 2199023255552
          ·rw [if_pos c68] at H
           have LMc68 := Aside0.mk c68
           clear c68
           obtain ⟨y240, hy240⟩ : ∃ y_ : List (S78), y_ = (x5_2 ++ [(⟨t217, t218, t219, t220, t221, t222, t223, t224⟩ : S78)]) := ⟨_, rfl⟩
           replace H : (impl_DownSamples.l0 k2 a1 y240 t211 (t211.length : Int) (wrap64 (x21_2 + 1))) = some r := by first | (rw [hy240]; with_reducible exact H) | (have H2_ := (Option.bind_some _ _).symm.trans H; rw [hy240]; with_reducible exact H2_) | (have H2_ := (Option.bind_some _ _).symm.trans H; with_reducible exact H2_) | with_reducible exact H | (rw [hy240]; exact H) | exact H
           have Ny240 := Aside0.mk hy240
           clear hy240
           have H' := Aside0.mk H
           clear H
           have p214 : 0 ≤ (x21_2 : Int) := zX (by first | (with_reducible assumption) | assumption)
           have q214 : x21_2 < (t211.length : Int) := zX (by first | (with_reducible assumption) | assumption)
           obtain ⟨ad214, e214, hx214_0, hx214_1⟩ := at_T81 (Kd.R_reads' HO_19.out).2.2 x21_2 p214 q214
           cases e214
           replace p214 := eq_true p214
           replace q214 := eq_true q214
           try go_wp2_with (first | ((with_reducible refine gate_dst (N := 7) rfl ?_); refine box_event ?hg (N := 7) ?hd (cs := #[.int .i64 0, .int .i64 0]) (t := 81) ?hr ?_; (case hd => rfl); (case hg => rfl); (case hr => first | (go_simp; done) | (go_simp; rfl)); intro gb215 hg w69 hbox hb; have n0_ := Aside0.mk (Kd.R_below (by (with_reducible repeat (first | apply zG | apply zH | apply zI)); exact HO_5.out) hb); have n1_ := Aside0.mk (Kd.R_below (Kd.R_elderB (by (with_reducible repeat (first | apply zG | apply zH | apply zI)); exact HO_19.out) gb215 (Nat.le_of_eq hg.symm)) hb); have n2_ := Aside0.mk (below_step (by repeat (first | (with_reducible first | exact HB.out | apply zA | apply zB | apply zC) | exact HB.out)) hb); have n3_ := Aside0.mk (hbox); have n4_ := Aside0.mk ((by rw [hg]; exact (zW (by repeat (first | (with_reducible first | exact HB.out | apply zA | apply zB | apply zC) | exact HB.out))) : w.heap.size ≤ gb215)); have n5_ := Aside0.mk ((by rw [hg]; exact (zW (by repeat (first | (with_reducible first | exact HB.out | apply zA | apply zB | apply zC) | exact HB.out))) : w.heap.size ≤ gb215)); clear HO_5; clear HO_19; clear HB; have HO_5 := n0_; have HO_19 := n1_; have HB := n2_; have BK215 := n3_; have GW215 := n4_; have GE215 := n5_; clear n0_ n1_ n2_ n3_ n4_ n5_; clear hb hbox hg; have hcz70_0 : w69.cell? ⟨gb215, 0, none⟩ = some (.int .i64 0) := (zQ BK215.out 0).trans rfl; have hcz70_1 : w69.cell? ⟨gb215, 1, none⟩ = some (.int .i64 0) := (zQ BK215.out 1).trans rfl; have hfz70_0 := blk_frozen BK215.out 0; have hfz70_1 := blk_frozen BK215.out 1))
           have n0_ : Aside0 (Kd.R k78 78 ((w69.setCell ⟨gb215, 0, none⟩ (.int .i64 ((rd_T81 t211 x21_2).f0))).setCell ⟨gb215, 1, none⟩ (.int .i64 ((rd_T81 t211 x21_2).f1))) w.heap.size (fun _ => True) u5 x5_2) := ⟨by (with_reducible repeat (first | apply zG | apply zH | apply zI)); exact Kd.R_mono (Kd.R_far (p := ⟨gb215, 1, none⟩) (Kd.R_far (p := ⟨gb215, 0, none⟩) (Kd.R_types HO_5.out BK215.out (by decide)) (fun _ hk => hk.2) (.int .i64 ((rd_T81 t211 x21_2).f0))) (fun _ hk => hk.2) (.int .i64 ((rd_T81 t211 x21_2).f1))) (fun _ hk => trivial)⟩
           have n1_ : Aside0 (Kd.R k81 81 ((w69.setCell ⟨gb215, 0, none⟩ (.int .i64 ((rd_T81 t211 x21_2).f0))).setCell ⟨gb215, 1, none⟩ (.int .i64 ((rd_T81 t211 x21_2).f1))) w.heap.size (fun k_ => k_ ≠ gb215) (.slice (some ad214) t211.length co12) t211) := ⟨by (with_reducible repeat (first | apply zG | apply zH | apply zI)); exact Kd.R_mono (Kd.R_far (p := ⟨gb215, 1, none⟩) (Kd.R_far (p := ⟨gb215, 0, none⟩) (Kd.R_mono HO_19.out (fun k_ hk => (⟨hk, hk.2⟩ : _ ∧ k_ ≠ gb215))) (fun _ hk => hk.2) (.int .i64 ((rd_T81 t211 x21_2).f0))) (fun _ hk => hk.2) (.int .i64 ((rd_T81 t211 x21_2).f1))) (fun _ hk => hk.1.2)⟩
           have n2_ : Aside0 (((w69.setCell ⟨gb215, 0, none⟩ (.int .i64 ((rd_T81 t211 x21_2).f0))).setCell ⟨gb215, 1, none⟩ (.int .i64 ((rd_T81 t211 x21_2).f1))).heap[gb215]? = some (.cells #[.int .i64 ((rd_T81 t211 x21_2).f0), .int .i64 ((rd_T81 t211 x21_2).f1)] 81 (0, 0))) := ⟨by (with_reducible repeat (first | refine zE ?_ _ | refine zF ?_ | refine zD ?_ _)); refine blk_put (cs := #[.int .i64 ((rd_T81 t211 x21_2).f0), .int .i64 0]) ?_ 1 _ rfl; (with_reducible repeat (first | refine zE ?_ _ | refine zF ?_ | refine zD ?_ _)); refine blk_put (cs := #[.int .i64 0, .int .i64 0]) ?_ 0 _ rfl; (with_reducible repeat (first | refine zE ?_ _ | refine zF ?_ | refine zD ?_ _)); exact BK215.out⟩
           have n3_ : Aside0 (Below w.heap.size w ((w69.setCell ⟨gb215, 0, none⟩ (.int .i64 ((rd_T81 t211 x21_2).f0))).setCell ⟨gb215, 1, none⟩ (.int .i64 ((rd_T81 t211 x21_2).f1)))) := ⟨by repeat (first | (with_reducible first | exact HB.out | apply zA | apply zB | apply zC | refine below_set ?_ GE215.out) | exact HB.out)⟩
           (try clear HO_5)
           (try clear HO_19)
           (try clear BK215)
           (try clear HB)
           generalize ((w69.setCell ⟨gb215, 0, none⟩ (.int .i64 ((rd_T81 t211 x21_2).f0))).setCell ⟨gb215, 1, none⟩ (.int .i64 ((rd_T81 t211 x21_2).f1))) = w71 at n0_ n1_ n2_ n3_ ⊢
           have HO_5 := n0_
           have HO_19 := n1_
           have BK215 := n2_
           have HB := n3_
           clear n0_ n1_ n2_ n3_
           have n0_ := Aside0.mk (zI HO_5.out)
           have n1_ := Aside0.mk (zI HO_19.out)
           have n2_ := Aside0.mk (zF BK215.out)
           have n3_ := Aside0.mk (zC HB.out)
           clear HO_5
           clear HO_19
           clear BK215
           clear HB
           have HO_5 := n0_
           have HO_19 := n1_
           have BK215 := n2_
           have HB := n3_
           clear n0_ n1_ n2_ n3_
           refine start_ (n := 8) (S := fun w' => w'.cell? ⟨gb215, 0, none⟩ = some (.int .i64 ((rd_T81 t211 x21_2).f0)) ∧ w'.cell? ⟨gb215, 1, none⟩ = some (.int .i64 ((rd_T81 t211 x21_2).f1))) (ds := []) #[false, false, false, false, false, false, false, false] (by kernel_rfl) rfl rfl ⟨(zQ BK215.out 0).trans rfl, (zQ BK215.out 1).trans rfl⟩ (fun hHeld => ?_); refine with_tabW impl_DownSamples.tab7 impl_DownSamples.bits7 (fun HT_ HW_ => ?_)
           generalize w71.drew = w72 at HO_5 HO_19 BK215 HB hHeld ⊢
           refine pure_ (i := 1) (N := some 26) (v := ?_) (a' := ?_) #[false, true, false, false, false, false, false, false] rfl rfl (any_of HT_.out (by kernel_rfl)) (fun _ _ _ h => h) (Or.inl ⟨by rfl, ?_⟩) ?_ ?_
           rotate_left
           ·intro w'
            go_simp
            with_reducible rfl
           rotate_left
           ·simp only [Act.put, zT, zU, zV, i64_w, i32_w]
            rfl
           refine pure_ (i := 3) (N := some 28) (v := ?_) (a' := ?_) #[false, true, false, true, false, false, false, false] rfl rfl (any_of HT_.out (by kernel_rfl)) (fun _ _ _ h => h) (Or.inl ⟨by rfl, ?_⟩) ?_ ?_
           rotate_left
           ·intro w'
            go_simp
            with_reducible rfl
           rotate_left
           ·simp only [Act.put, zT, zU, zV, i64_w, i32_w]
            rfl
           refine take_ (i := 0) (N := some 25) (v := ?_) (a' := ?_) #[true, true, false, true, false, false, false, false] rfl rfl (take_ofW HT_.out HW_.out (by kernel_rfl)) (fun _ _ _ h => h) (Or.inl ⟨by rfl, ?_⟩) hHeld ?_ ?_
           rotate_left
           ·rintro w' ⟨s0, s1⟩
            go_simp
            with_reducible rfl
           rotate_left
           ·simp only [Act.put, zT, zU, zV, i64_w, i32_w]
            rfl
           refine take_ (i := 2) (N := some 27) (v := ?_) (a' := ?_) #[true, true, true, true, false, false, false, false] rfl rfl (take_ofW HT_.out HW_.out (by kernel_rfl)) (fun _ _ _ h => h) (Or.inl ⟨by rfl, ?_⟩) hHeld ?_ ?_
           rotate_left
           ·rintro w' ⟨s0, s1⟩
            go_simp
            with_reducible rfl
           rotate_left
           ·simp only [Act.put, zT, zU, zV, i64_w, i32_w]
            rfl
           refine join_ (σ := Nat) 1 #[true, true, true, true, true, true, true, false] (fun s_ => [(29, .int .i64 t216), (30, .agg #[.int .i64 t217, .int .i64 t218, .int .i64 t219, .int .i64 t220, .int .i64 t221, .int .i64 t222, .int .i64 t223, .int .i64 t224]), (8, .pointer (some ⟨s_, 0, none⟩))]) (fun s_ w' => (w'.cell? ⟨gb215, 0, none⟩ = some (.int .i64 ((rd_T81 t211 x21_2).f0)) ∧ w'.cell? ⟨gb215, 1, none⟩ = some (.int .i64 ((rd_T81 t211 x21_2).f1))) ∧ (Kd.R k81 81 w' w.heap.size (fun k_ => k_ ≠ gb215) (.slice (some ad214) t211.length co12) t211) ∧ (Kd.R k78 78 w' w.heap.size (fun k_ => k_ ≠ s_) u5 x5_2) ∧ (w'.heap[gb215]? = some (.cells #[.int .i64 ((rd_T81 t211 x21_2).f0), .int .i64 ((rd_T81 t211 x21_2).f1)] 81 (0, 0))) ∧ (w'.heap[s_]? = some (.cells #[.int .i64 0, .int .i64 0, .int .i64 0, .int .i64 0, .int .i64 0, .int .i64 0, .int .i64 0, .int .i64 0] 78 (0, 0))) ∧ (w.heap.size ≤ s_) ∧ (w.heap.size ≤ s_) ∧ (gb215 ≠ s_) ∧ (s_ ≠ gb215) ∧ (Below w.heap.size w w')) ?_ ?_
           rotate_left
           ·intro hCont
            refine two_ (i := 4) (j := 6) (Ni := some 29) (Nj := some 8) #[true, true, true, true, true, false, false, false] #[true, true, true, true, false, false, true, false] rfl rfl rfl rfl (two_of HT_.out (by kernel_rfl)) (by decide) (by decide) (fun K hK => ?_) (fun K hK => ?_)
            ·skip
             refine goes_ Try.func76 (by kernel_rfl) rfl #[.int .i64 ((rd_T81 t211 x21_2).f0), .int .i64 a1] (by rfl) rfl rfl (by (try simp only [List.map_toArray, List.map_cons, List.map_nil]); first | done | rfl | (simp only [List.length_drop, List.length_take]; rfl)) ?_
             with_reducible refine (impl_windowOf.calls ((rd_T81 t211 x21_2).f0) a1 t216 _ A16.out).mono ?_
             rintro e w' ⟨rfl, ⟨nd, rfl⟩⟩
             refine ⟨_, rfl, ?_⟩
             refine hK.out _ _ ⟨(zQ BK215.out 0).trans rfl, (zQ BK215.out 1).trans rfl⟩ (fun hHeld => ?_)
             clear hK K
             refine norm_ (a' := ?_) ?_ ?_
             rotate_left
             ·show Act.put _ (some 29) _ = _
              simp only [Act.put, zT, zU, zV, i64_w, i32_w]
              rfl
             refine two_ (i := 5) (j := 6) (Ni := some 30) (Nj := some 8) #[true, true, true, true, true, true, false, false] #[true, true, true, true, true, false, true, false] rfl rfl rfl rfl (two_of HT_.out (by kernel_rfl)) (by decide) (by decide) (fun K hK => ?_) (fun K hK => ?_)
             ·skip
              refine goes_ Try.func75 (by kernel_rfl) rfl #[.agg #[.int .i64 ((rd_T81 t211 x21_2).f0), .int .i64 ((rd_T81 t211 x21_2).f1)], .int .i64 t216] (by rfl) rfl rfl (by (try simp only [List.map_toArray, List.map_cons, List.map_nil]); first | done | rfl | (simp only [List.length_drop, List.length_take]; rfl)) ?_
              with_reducible refine (impl_aggOf.calls ((rd_T81 t211 x21_2).f0) ((rd_T81 t211 x21_2).f1) t216 t217 t218 t219 t220 t221 t222 t223 t224 _ A17.out).mono ?_
              rintro e w73 ⟨rfl, hb⟩
              refine ⟨_, rfl, ?_⟩
              have n0_ := Aside0.mk (Kd.R_below (by (with_reducible repeat (first | apply zG | apply zH | apply zI)); exact HO_5.out) hb)
              have n1_ := Aside0.mk (Kd.R_below (by (with_reducible repeat (first | apply zG | apply zH | apply zI)); exact HO_19.out) hb)
              have n2_ := Aside0.mk (blk_below (g := gb215) (o := .cells #[.int .i64 ((rd_T81 t211 x21_2).f0), .int .i64 ((rd_T81 t211 x21_2).f1)] 81 (0, 0)) (by (with_reducible repeat (first | refine zE ?_ _ | refine zF ?_ | refine zD ?_ _)); exact BK215.out) hb)
              have n3_ := Aside0.mk (below_step (by repeat (first | (with_reducible first | exact HB.out | apply zA | apply zB | apply zC | refine below_set ?_ GE215.out) | exact HB.out)) hb)
              clear HO_5
              clear HO_19
              clear BK215
              clear HB
              have HO_5 := n0_
              have HO_19 := n1_
              have BK215 := n2_
              have HB := n3_
              clear n0_ n1_ n2_ n3_
              (try clear hb)
              (try clear hb2)
              (try clear hk)
              (try clear hi)
              refine hK.out _ _ ⟨(zQ BK215.out 0).trans rfl, (zQ BK215.out 1).trans rfl⟩ (fun hHeld => ?_)
              clear hK K
              refine norm_ (a' := ?_) ?_ ?_
              rotate_left
              ·show Act.put _ (some 30) _ = _
               simp only [Act.put, zT, zU, zV, i64_w, i32_w]
               rfl
              refine one_ (i := 6) (N := some 8) #[true, true, true, true, true, true, true, false] rfl rfl (one_of HT_.out (by kernel_rfl)) (by decide) (fun K hK => ?_)
              refine box_step ?hg (N := 8) ?hd (cs := #[.int .i64 0, .int .i64 0, .int .i64 0, .int .i64 0, .int .i64 0, .int .i64 0, .int .i64 0, .int .i64 0]) (t := 78) ?hr ?_; (case hd => rfl); (case hg => rfl); (case hr => first | (go_simp; done) | (go_simp; rfl))
              intro gb225 hg w74 hbox hb
              have n0_ := Aside0.mk (Kd.R_below (Kd.R_elderB (by (with_reducible repeat (first | apply zG | apply zH | apply zI)); exact HO_5.out) gb225 (Nat.le_of_eq hg.symm)) hb)
              have n1_ := Aside0.mk (Kd.R_below (by (with_reducible repeat (first | apply zG | apply zH | apply zI)); exact HO_19.out) hb)
              have n2_ := Aside0.mk (blk_below (g := gb215) (o := .cells #[.int .i64 ((rd_T81 t211 x21_2).f0), .int .i64 ((rd_T81 t211 x21_2).f1)] 81 (0, 0)) (by (with_reducible repeat (first | refine zE ?_ _ | refine zF ?_ | refine zD ?_ _)); exact BK215.out) hb)
              have n3_ := Aside0.mk (below_step (by repeat (first | (with_reducible first | exact HB.out | apply zA | apply zB | apply zC | refine below_set ?_ GE215.out) | exact HB.out)) hb)
              have n4_ := Aside0.mk (hbox)
              have n5_ := Aside0.mk ((by rw [hg]; exact (zW (by repeat (first | (with_reducible first | exact HB.out | apply zA | apply zB | apply zC | refine below_set ?_ GE215.out) | exact HB.out))) : w.heap.size ≤ gb225))
              have n6_ := Aside0.mk ((by rw [hg]; exact (zW (by repeat (first | (with_reducible first | exact HB.out | apply zA | apply zB | apply zC | refine below_set ?_ GE215.out) | exact HB.out))) : w.heap.size ≤ gb225))
              have n7_ := Aside0.mk ((by rw [hg]; exact Nat.ne_of_lt (blk_lt (g := gb215) (o := .cells #[.int .i64 ((rd_T81 t211 x21_2).f0), .int .i64 ((rd_T81 t211 x21_2).f1)] 81 (0, 0)) (by (with_reducible repeat (first | refine zE ?_ _ | refine zF ?_ | refine zD ?_ _)); exact BK215.out)) : gb215 ≠ gb225))
              have n8_ := Aside0.mk ((by rw [hg]; exact Nat.ne_of_gt (blk_lt (g := gb215) (o := .cells #[.int .i64 ((rd_T81 t211 x21_2).f0), .int .i64 ((rd_T81 t211 x21_2).f1)] 81 (0, 0)) (by (with_reducible repeat (first | refine zE ?_ _ | refine zF ?_ | refine zD ?_ _)); exact BK215.out)) : gb225 ≠ gb215))
              clear HO_5
              clear HO_19
              clear BK215
              clear HB
              have HO_5 := n0_
              have HO_19 := n1_
              have BK215 := n2_
              have HB := n3_
              have BK225 := n4_
              have GW225 := n5_
              have GE225 := n6_
              have NB215_225 := n7_
              have NB225_215 := n8_
              clear n0_ n1_ n2_ n3_ n4_ n5_ n6_ n7_ n8_
              clear hb hbox hg
              refine hK.out _ _ ⟨(zQ BK215.out 0).trans rfl, (zQ BK215.out 1).trans rfl⟩ (fun hHeld => ?_)
              clear hK K
              refine norm_ (a' := ?_) ?_ ?_
              rotate_left
              ·show Act.put _ (some 8) _ = _
               simp only [Act.put, zT, zU, zV, i64_w, i32_w]
               rfl
              exact norm_ (by simp only [putAll, Act.put, zT, zU, zV]) (hCont (gb225) _ ⟨hHeld, (by (with_reducible repeat (first | apply zG | apply zH | apply zI)); exact HO_19.out), (by (with_reducible repeat (first | apply zG | apply zH | apply zI)); exact Kd.R_mono HO_5.out (fun _ hk => hk.2)), (by (with_reducible repeat (first | refine zE ?_ _ | refine zF ?_ | refine zD ?_ _)); exact BK215.out), (by (with_reducible repeat (first | refine zE ?_ _ | refine zF ?_ | refine zD ?_ _)); exact BK225.out), GW225.out, GE225.out, NB215_225.out, NB225_215.out, (by repeat (first | (with_reducible first | exact HB.out | apply zA | apply zB | apply zC | refine below_set ?_ GE215.out | refine below_set ?_ GE225.out) | exact HB.out))⟩)
             ·skip
              refine box_step ?hg (N := 8) ?hd (cs := #[.int .i64 0, .int .i64 0, .int .i64 0, .int .i64 0, .int .i64 0, .int .i64 0, .int .i64 0, .int .i64 0]) (t := 78) ?hr ?_; (case hd => rfl); (case hg => rfl); (case hr => first | (go_simp; done) | (go_simp; rfl))
              intro gb225 hg w73 hbox hb
              have n0_ := Aside0.mk (Kd.R_below (Kd.R_elderB (by (with_reducible repeat (first | apply zG | apply zH | apply zI)); exact HO_5.out) gb225 (Nat.le_of_eq hg.symm)) hb)
              have n1_ := Aside0.mk (Kd.R_below (by (with_reducible repeat (first | apply zG | apply zH | apply zI)); exact HO_19.out) hb)
              have n2_ := Aside0.mk (blk_below (g := gb215) (o := .cells #[.int .i64 ((rd_T81 t211 x21_2).f0), .int .i64 ((rd_T81 t211 x21_2).f1)] 81 (0, 0)) (by (with_reducible repeat (first | refine zE ?_ _ | refine zF ?_ | refine zD ?_ _)); exact BK215.out) hb)
              have n3_ := Aside0.mk (below_step (by repeat (first | (with_reducible first | exact HB.out | apply zA | apply zB | apply zC | refine below_set ?_ GE215.out) | exact HB.out)) hb)
              have n4_ := Aside0.mk (hbox)
              have n5_ := Aside0.mk ((by rw [hg]; exact (zW (by repeat (first | (with_reducible first | exact HB.out | apply zA | apply zB | apply zC | refine below_set ?_ GE215.out) | exact HB.out))) : w.heap.size ≤ gb225))
              have n6_ := Aside0.mk ((by rw [hg]; exact (zW (by repeat (first | (with_reducible first | exact HB.out | apply zA | apply zB | apply zC | refine below_set ?_ GE215.out) | exact HB.out))) : w.heap.size ≤ gb225))
              have n7_ := Aside0.mk ((by rw [hg]; exact Nat.ne_of_lt (blk_lt (g := gb215) (o := .cells #[.int .i64 ((rd_T81 t211 x21_2).f0), .int .i64 ((rd_T81 t211 x21_2).f1)] 81 (0, 0)) (by (with_reducible repeat (first | refine zE ?_ _ | refine zF ?_ | refine zD ?_ _)); exact BK215.out)) : gb215 ≠ gb225))
              have n8_ := Aside0.mk ((by rw [hg]; exact Nat.ne_of_gt (blk_lt (g := gb215) (o := .cells #[.int .i64 ((rd_T81 t211 x21_2).f0), .int .i64 ((rd_T81 t211 x21_2).f1)] 81 (0, 0)) (by (with_reducible repeat (first | refine zE ?_ _ | refine zF ?_ | refine zD ?_ _)); exact BK215.out)) : gb225 ≠ gb215))
              clear HO_5
              clear HO_19
              clear BK215
              clear HB
              have HO_5 := n0_
              have HO_19 := n1_
              have BK215 := n2_
              have HB := n3_
              have BK225 := n4_
              have GW225 := n5_
              have GE225 := n6_
              have NB215_225 := n7_
              have NB225_215 := n8_
              clear n0_ n1_ n2_ n3_ n4_ n5_ n6_ n7_ n8_
              clear hb hbox hg
              refine hK.out _ _ ⟨(zQ BK215.out 0).trans rfl, (zQ BK215.out 1).trans rfl⟩ (fun hHeld => ?_)
              clear hK K
              refine norm_ (a' := ?_) ?_ ?_
              rotate_left
              ·show Act.put _ (some 8) _ = _
               simp only [Act.put, zT, zU, zV, i64_w, i32_w]
               rfl
              refine one_ (i := 5) (N := some 30) #[true, true, true, true, true, true, true, false] rfl rfl (one_of HT_.out (by kernel_rfl)) (by decide) (fun K hK => ?_)
              refine goes_ Try.func75 (by kernel_rfl) rfl #[.agg #[.int .i64 ((rd_T81 t211 x21_2).f0), .int .i64 ((rd_T81 t211 x21_2).f1)], .int .i64 t216] (by rfl) rfl rfl (by (try simp only [List.map_toArray, List.map_cons, List.map_nil]); first | done | rfl | (simp only [List.length_drop, List.length_take]; rfl)) ?_
              with_reducible refine (impl_aggOf.calls ((rd_T81 t211 x21_2).f0) ((rd_T81 t211 x21_2).f1) t216 t217 t218 t219 t220 t221 t222 t223 t224 _ A17.out).mono ?_
              rintro e w74 ⟨rfl, hb⟩
              refine ⟨_, rfl, ?_⟩
              have n0_ := Aside0.mk (Kd.R_below (by (with_reducible repeat (first | apply zG | apply zH | apply zI)); exact HO_5.out) hb)
              have n1_ := Aside0.mk (Kd.R_below (by (with_reducible repeat (first | apply zG | apply zH | apply zI)); exact HO_19.out) hb)
              have n2_ := Aside0.mk (blk_below (g := gb215) (o := .cells #[.int .i64 ((rd_T81 t211 x21_2).f0), .int .i64 ((rd_T81 t211 x21_2).f1)] 81 (0, 0)) (by (with_reducible repeat (first | refine zE ?_ _ | refine zF ?_ | refine zD ?_ _)); exact BK215.out) hb)
              have n3_ := Aside0.mk (blk_below (g := gb225) (o := cs8 78 0 0 0 0 0 0 0 0) (by (with_reducible repeat (first | refine zE ?_ _ | refine zF ?_ | refine zD ?_ _)); exact BK225.out) hb)
              have n4_ := Aside0.mk (below_step (by repeat (first | (with_reducible first | exact HB.out | apply zA | apply zB | apply zC | refine below_set ?_ GE215.out | refine below_set ?_ GE225.out) | exact HB.out)) hb)
              clear HO_5
              clear HO_19
              clear BK215
              clear BK225
              clear HB
              have HO_5 := n0_
              have HO_19 := n1_
              have BK215 := n2_
              have BK225 := n3_
              have HB := n4_
              clear n0_ n1_ n2_ n3_ n4_
              (try clear hb)
              (try clear hb2)
              (try clear hk)
              (try clear hi)
              refine hK.out _ _ ⟨(zQ BK215.out 0).trans rfl, (zQ BK215.out 1).trans rfl⟩ (fun hHeld => ?_)
              clear hK K
              refine norm_ (a' := ?_) ?_ ?_
              rotate_left
              ·show Act.put _ (some 30) _ = _
               simp only [Act.put, zT, zU, zV, i64_w, i32_w]
               rfl
              exact norm_ (by simp only [putAll, Act.put, zT, zU, zV]) (hCont (gb225) _ ⟨hHeld, (by (with_reducible repeat (first | apply zG | apply zH | apply zI)); exact HO_19.out), (by (with_reducible repeat (first | apply zG | apply zH | apply zI)); exact Kd.R_mono HO_5.out (fun _ hk => hk.2)), (by (with_reducible repeat (first | refine zE ?_ _ | refine zF ?_ | refine zD ?_ _)); exact BK215.out), (by (with_reducible repeat (first | refine zE ?_ _ | refine zF ?_ | refine zD ?_ _)); exact BK225.out), GW225.out, GE225.out, NB215_225.out, NB225_215.out, (by repeat (first | (with_reducible first | exact HB.out | apply zA | apply zB | apply zC | refine below_set ?_ GE215.out | refine below_set ?_ GE225.out) | exact HB.out))⟩)
            ·skip
             refine box_step ?hg (N := 8) ?hd (cs := #[.int .i64 0, .int .i64 0, .int .i64 0, .int .i64 0, .int .i64 0, .int .i64 0, .int .i64 0, .int .i64 0]) (t := 78) ?hr ?_; (case hd => rfl); (case hg => rfl); (case hr => first | (go_simp; done) | (go_simp; rfl))
             intro gb225 hg w73 hbox hb
             have n0_ := Aside0.mk (Kd.R_below (Kd.R_elderB (by (with_reducible repeat (first | apply zG | apply zH | apply zI)); exact HO_5.out) gb225 (Nat.le_of_eq hg.symm)) hb)
             have n1_ := Aside0.mk (Kd.R_below (by (with_reducible repeat (first | apply zG | apply zH | apply zI)); exact HO_19.out) hb)
             have n2_ := Aside0.mk (blk_below (g := gb215) (o := .cells #[.int .i64 ((rd_T81 t211 x21_2).f0), .int .i64 ((rd_T81 t211 x21_2).f1)] 81 (0, 0)) (by (with_reducible repeat (first | refine zE ?_ _ | refine zF ?_ | refine zD ?_ _)); exact BK215.out) hb)
             have n3_ := Aside0.mk (below_step (by repeat (first | (with_reducible first | exact HB.out | apply zA | apply zB | apply zC | refine below_set ?_ GE215.out) | exact HB.out)) hb)
             have n4_ := Aside0.mk (hbox)
             have n5_ := Aside0.mk ((by rw [hg]; exact (zW (by repeat (first | (with_reducible first | exact HB.out | apply zA | apply zB | apply zC | refine below_set ?_ GE215.out) | exact HB.out))) : w.heap.size ≤ gb225))
             have n6_ := Aside0.mk ((by rw [hg]; exact (zW (by repeat (first | (with_reducible first | exact HB.out | apply zA | apply zB | apply zC | refine below_set ?_ GE215.out) | exact HB.out))) : w.heap.size ≤ gb225))
             have n7_ := Aside0.mk ((by rw [hg]; exact Nat.ne_of_lt (blk_lt (g := gb215) (o := .cells #[.int .i64 ((rd_T81 t211 x21_2).f0), .int .i64 ((rd_T81 t211 x21_2).f1)] 81 (0, 0)) (by (with_reducible repeat (first | refine zE ?_ _ | refine zF ?_ | refine zD ?_ _)); exact BK215.out)) : gb215 ≠ gb225))
             have n8_ := Aside0.mk ((by rw [hg]; exact Nat.ne_of_gt (blk_lt (g := gb215) (o := .cells #[.int .i64 ((rd_T81 t211 x21_2).f0), .int .i64 ((rd_T81 t211 x21_2).f1)] 81 (0, 0)) (by (with_reducible repeat (first | refine zE ?_ _ | refine zF ?_ | refine zD ?_ _)); exact BK215.out)) : gb225 ≠ gb215))
             clear HO_5
             clear HO_19
             clear BK215
             clear HB
             have HO_5 := n0_
             have HO_19 := n1_
             have BK215 := n2_
             have HB := n3_
             have BK225 := n4_
             have GW225 := n5_
             have GE225 := n6_
             have NB215_225 := n7_
             have NB225_215 := n8_
             clear n0_ n1_ n2_ n3_ n4_ n5_ n6_ n7_ n8_
             clear hb hbox hg
             refine hK.out _ _ ⟨(zQ BK215.out 0).trans rfl, (zQ BK215.out 1).trans rfl⟩ (fun hHeld => ?_)
             clear hK K
             refine norm_ (a' := ?_) ?_ ?_
             rotate_left
             ·show Act.put _ (some 8) _ = _
              simp only [Act.put, zT, zU, zV, i64_w, i32_w]
              rfl
             refine one_ (i := 4) (N := some 29) #[true, true, true, true, true, false, true, false] rfl rfl (one_of HT_.out (by kernel_rfl)) (by decide) (fun K hK => ?_)
             refine goes_ Try.func76 (by kernel_rfl) rfl #[.int .i64 ((rd_T81 t211 x21_2).f0), .int .i64 a1] (by rfl) rfl rfl (by (try simp only [List.map_toArray, List.map_cons, List.map_nil]); first | done | rfl | (simp only [List.length_drop, List.length_take]; rfl)) ?_
             with_reducible refine (impl_windowOf.calls ((rd_T81 t211 x21_2).f0) a1 t216 _ A16.out).mono ?_
             rintro e w' ⟨rfl, ⟨nd, rfl⟩⟩
             refine ⟨_, rfl, ?_⟩
             refine hK.out _ _ ⟨(zQ BK215.out 0).trans rfl, (zQ BK215.out 1).trans rfl⟩ (fun hHeld => ?_)
             clear hK K
             refine norm_ (a' := ?_) ?_ ?_
             rotate_left
             ·show Act.put _ (some 29) _ = _
              simp only [Act.put, zT, zU, zV, i64_w, i32_w]
              rfl
             refine one_ (i := 5) (N := some 30) #[true, true, true, true, true, true, true, false] rfl rfl (one_of HT_.out (by kernel_rfl)) (by decide) (fun K hK => ?_)
             refine goes_ Try.func75 (by kernel_rfl) rfl #[.agg #[.int .i64 ((rd_T81 t211 x21_2).f0), .int .i64 ((rd_T81 t211 x21_2).f1)], .int .i64 t216] (by rfl) rfl rfl (by (try simp only [List.map_toArray, List.map_cons, List.map_nil]); first | done | rfl | (simp only [List.length_drop, List.length_take]; rfl)) ?_
             with_reducible refine (impl_aggOf.calls ((rd_T81 t211 x21_2).f0) ((rd_T81 t211 x21_2).f1) t216 t217 t218 t219 t220 t221 t222 t223 t224 _ A17.out).mono ?_
             rintro e w74 ⟨rfl, hb⟩
             refine ⟨_, rfl, ?_⟩
             have n0_ := Aside0.mk (Kd.R_below (by (with_reducible repeat (first | apply zG | apply zH | apply zI)); exact HO_5.out) hb)
             have n1_ := Aside0.mk (Kd.R_below (by (with_reducible repeat (first | apply zG | apply zH | apply zI)); exact HO_19.out) hb)
             have n2_ := Aside0.mk (blk_below (g := gb215) (o := .cells #[.int .i64 ((rd_T81 t211 x21_2).f0), .int .i64 ((rd_T81 t211 x21_2).f1)] 81 (0, 0)) (by (with_reducible repeat (first | refine zE ?_ _ | refine zF ?_ | refine zD ?_ _)); exact BK215.out) hb)
             have n3_ := Aside0.mk (blk_below (g := gb225) (o := cs8 78 0 0 0 0 0 0 0 0) (by (with_reducible repeat (first | refine zE ?_ _ | refine zF ?_ | refine zD ?_ _)); exact BK225.out) hb)
             have n4_ := Aside0.mk (below_step (by repeat (first | (with_reducible first | exact HB.out | apply zA | apply zB | apply zC | refine below_set ?_ GE215.out | refine below_set ?_ GE225.out) | exact HB.out)) hb)
             clear HO_5
             clear HO_19
             clear BK215
             clear BK225
             clear HB
             have HO_5 := n0_
             have HO_19 := n1_
             have BK215 := n2_
             have BK225 := n3_
             have HB := n4_
             clear n0_ n1_ n2_ n3_ n4_
             (try clear hb)
             (try clear hb2)
             (try clear hk)
             (try clear hi)
             refine hK.out _ _ ⟨(zQ BK215.out 0).trans rfl, (zQ BK215.out 1).trans rfl⟩ (fun hHeld => ?_)
             clear hK K
             refine norm_ (a' := ?_) ?_ ?_
             rotate_left
             ·show Act.put _ (some 30) _ = _
              simp only [Act.put, zT, zU, zV, i64_w, i32_w]
              rfl
             exact norm_ (by simp only [putAll, Act.put, zT, zU, zV]) (hCont (gb225) _ ⟨hHeld, (by (with_reducible repeat (first | apply zG | apply zH | apply zI)); exact HO_19.out), (by (with_reducible repeat (first | apply zG | apply zH | apply zI)); exact Kd.R_mono HO_5.out (fun _ hk => hk.2)), (by (with_reducible repeat (first | refine zE ?_ _ | refine zF ?_ | refine zD ?_ _)); exact BK215.out), (by (with_reducible repeat (first | refine zE ?_ _ | refine zF ?_ | refine zD ?_ _)); exact BK225.out), GW225.out, GE225.out, NB215_225.out, NB225_215.out, (by repeat (first | (with_reducible first | exact HB.out | apply zA | apply zB | apply zC | refine below_set ?_ GE215.out | refine below_set ?_ GE225.out) | exact HB.out))⟩)
           rintro gb225 w75 ⟨hS_, h0_, h1_, h2_, h3_, h4_, h5_, h6_, h7_, h8_⟩
           have n0_ : Aside0 (Kd.R k81 81 w75 w.heap.size (fun k_ => k_ ≠ gb215) (.slice (some ad214) t211.length co12) t211) := ⟨h0_⟩
           have n1_ : Aside0 (Kd.R k78 78 w75 w.heap.size (fun k_ => k_ ≠ gb225) u5 x5_2) := ⟨h1_⟩
           have n2_ : Aside0 (w75.heap[gb215]? = some (.cells #[.int .i64 ((rd_T81 t211 x21_2).f0), .int .i64 ((rd_T81 t211 x21_2).f1)] 81 (0, 0))) := ⟨h2_⟩
           have n3_ : Aside0 (w75.heap[gb225]? = some (.cells #[.int .i64 0, .int .i64 0, .int .i64 0, .int .i64 0, .int .i64 0, .int .i64 0, .int .i64 0, .int .i64 0] 78 (0, 0))) := ⟨h3_⟩
           have n4_ : Aside0 (w.heap.size ≤ gb225) := ⟨h4_⟩
           have n5_ : Aside0 (w.heap.size ≤ gb225) := ⟨h5_⟩
           have n6_ : Aside0 (gb215 ≠ gb225) := ⟨h6_⟩
           have n7_ : Aside0 (gb225 ≠ gb215) := ⟨h7_⟩
           have n8_ : Aside0 (Below w.heap.size w w75) := ⟨h8_⟩
           clear HO_5
           clear HO_19
           clear BK215
           clear HB
           clear h0_ h1_ h2_ h3_ h4_ h5_ h6_ h7_ h8_
           have HO_19 := n0_
           have HO_5 := n1_
           have BK215 := n2_
           have BK225 := n3_
           have GW225 := n4_
           have GE225 := n5_
           have NB215_225 := n6_
           have NB225_215 := n7_
           have HB := n8_
           clear n0_ n1_ n2_ n3_ n4_ n5_ n6_ n7_ n8_
           have hHeld : w75.cell? ⟨gb215, 0, none⟩ = some (.int .i64 ((rd_T81 t211 x21_2).f0)) ∧ w75.cell? ⟨gb215, 1, none⟩ = some (.int .i64 ((rd_T81 t211 x21_2).f1)) := hS_
           refine norm_ (a' := ?_) ?_ ?_
           rotate_left
           ·simp only [putAll, Act.put, zT, zU, zV]
            rfl
           refine one_ (i := 7) (N := none) #[true, true, true, true, true, true, true, true] rfl rfl (one_of HT_.out (by kernel_rfl)) (by decide) (fun K hK => ?_)
           have hs76 : w75.cell? ⟨gb225, 0, none⟩ = some (.int .i64 0) := (zQ BK225.out 0).trans rfl
           have hfs76 := blk_frozen BK225.out 0
           have hns76_0 := NB215_225.out
           have hms76_0 := NB225_215.out
           have hs77 : w75.cell? ⟨gb225, 1, none⟩ = some (.int .i64 0) := (zQ BK225.out 1).trans rfl
           have hfs77 := blk_frozen BK225.out 1
           have hns77_0 := NB215_225.out
           have hms77_0 := NB225_215.out
           have hs78 : w75.cell? ⟨gb225, 2, none⟩ = some (.int .i64 0) := (zQ BK225.out 2).trans rfl
           have hfs78 := blk_frozen BK225.out 2
           have hns78_0 := NB215_225.out
           have hms78_0 := NB225_215.out
           have hs79 : w75.cell? ⟨gb225, 3, none⟩ = some (.int .i64 0) := (zQ BK225.out 3).trans rfl
           have hfs79 := blk_frozen BK225.out 3
           have hns79_0 := NB215_225.out
           have hms79_0 := NB225_215.out
           have hs80 : w75.cell? ⟨gb225, 4, none⟩ = some (.int .i64 0) := (zQ BK225.out 4).trans rfl
           have hfs80 := blk_frozen BK225.out 4
           have hns80_0 := NB215_225.out
           have hms80_0 := NB225_215.out
           have hs81 : w75.cell? ⟨gb225, 5, none⟩ = some (.int .i64 0) := (zQ BK225.out 5).trans rfl
           have hfs81 := blk_frozen BK225.out 5
           have hns81_0 := NB215_225.out
           have hms81_0 := NB225_215.out
           have hs82 : w75.cell? ⟨gb225, 6, none⟩ = some (.int .i64 0) := (zQ BK225.out 6).trans rfl
           have hfs82 := blk_frozen BK225.out 6
           have hns82_0 := NB215_225.out
           have hms82_0 := NB225_215.out
           have hs83 : w75.cell? ⟨gb225, 7, none⟩ = some (.int .i64 0) := (zQ BK225.out 7).trans rfl
           have hfs83 := blk_frozen BK225.out 7
           have hns83_0 := NB215_225.out
           have hms83_0 := NB225_215.out
           refine skip_ (w1 := ?_) (by rfl) rfl ?_ ?_
           rotate_left
           ·go_simp
            rfl
           refine hK.out _ _ ⟨((far8 (g := gb225) NB215_225.out).trans (hHeld.1)), ((far8 (g := gb225) NB215_225.out).trans (hHeld.2))⟩ (fun hHeld => ?_)
           clear hK K
           refine done_ (done_of HT_.out (by kernel_rfl)) ?_
           obtain ⟨Ao84, co84, eo84⟩ := Kd.R_slice HO_5.out
           subst eo84
           try go_wp2
           have n0_ : Aside0 (Kd.R k78 78 ((((((((w75.setCell ⟨gb225, 0, none⟩ (.int .i64 t217)).setCell ⟨gb225, 1, none⟩ (.int .i64 t218)).setCell ⟨gb225, 2, none⟩ (.int .i64 t219)).setCell ⟨gb225, 3, none⟩ (.int .i64 t220)).setCell ⟨gb225, 4, none⟩ (.int .i64 t221)).setCell ⟨gb225, 5, none⟩ (.int .i64 t222)).setCell ⟨gb225, 6, none⟩ (.int .i64 t223)).setCell ⟨gb225, 7, none⟩ (.int .i64 t224)) w.heap.size (fun k_ => k_ ≠ gb225) (.slice Ao84 x5_2.length co84) x5_2) := ⟨by (with_reducible repeat (first | apply zG | apply zH | apply zI)); exact Kd.R_mono (Kd.R_far (p := ⟨gb225, 7, none⟩) (Kd.R_far (p := ⟨gb225, 6, none⟩) (Kd.R_far (p := ⟨gb225, 5, none⟩) (Kd.R_far (p := ⟨gb225, 4, none⟩) (Kd.R_far (p := ⟨gb225, 3, none⟩) (Kd.R_far (p := ⟨gb225, 2, none⟩) (Kd.R_far (p := ⟨gb225, 1, none⟩) (Kd.R_far (p := ⟨gb225, 0, none⟩) (Kd.R_mono HO_5.out (fun k_ hk => (⟨hk, hk⟩ : _ ∧ k_ ≠ gb225))) (fun _ hk => hk.2) (.int .i64 t217)) (fun _ hk => hk.2) (.int .i64 t218)) (fun _ hk => hk.2) (.int .i64 t219)) (fun _ hk => hk.2) (.int .i64 t220)) (fun _ hk => hk.2) (.int .i64 t221)) (fun _ hk => hk.2) (.int .i64 t222)) (fun _ hk => hk.2) (.int .i64 t223)) (fun _ hk => hk.2) (.int .i64 t224)) (fun _ hk => hk.1)⟩
           have n1_ : Aside0 (Kd.R k81 81 ((((((((w75.setCell ⟨gb225, 0, none⟩ (.int .i64 t217)).setCell ⟨gb225, 1, none⟩ (.int .i64 t218)).setCell ⟨gb225, 2, none⟩ (.int .i64 t219)).setCell ⟨gb225, 3, none⟩ (.int .i64 t220)).setCell ⟨gb225, 4, none⟩ (.int .i64 t221)).setCell ⟨gb225, 5, none⟩ (.int .i64 t222)).setCell ⟨gb225, 6, none⟩ (.int .i64 t223)).setCell ⟨gb225, 7, none⟩ (.int .i64 t224)) w.heap.size (fun k_ => k_ ≠ gb215) (.slice (some ad214) t211.length co12) t211) := ⟨by (with_reducible repeat (first | apply zG | apply zH | apply zI)); exact Kd.R_mono (Kd.R_far (p := ⟨gb225, 7, none⟩) (Kd.R_far (p := ⟨gb225, 6, none⟩) (Kd.R_far (p := ⟨gb225, 5, none⟩) (Kd.R_far (p := ⟨gb225, 4, none⟩) (Kd.R_far (p := ⟨gb225, 3, none⟩) (Kd.R_far (p := ⟨gb225, 2, none⟩) (Kd.R_far (p := ⟨gb225, 1, none⟩) (Kd.R_far (p := ⟨gb225, 0, none⟩) (Kd.R_types HO_19.out BK225.out (by decide)) (fun _ hk => hk.2) (.int .i64 t217)) (fun _ hk => hk.2) (.int .i64 t218)) (fun _ hk => hk.2) (.int .i64 t219)) (fun _ hk => hk.2) (.int .i64 t220)) (fun _ hk => hk.2) (.int .i64 t221)) (fun _ hk => hk.2) (.int .i64 t222)) (fun _ hk => hk.2) (.int .i64 t223)) (fun _ hk => hk.2) (.int .i64 t224)) (fun _ hk => hk.1)⟩
           have n2_ : Aside0 (((((((((w75.setCell ⟨gb225, 0, none⟩ (.int .i64 t217)).setCell ⟨gb225, 1, none⟩ (.int .i64 t218)).setCell ⟨gb225, 2, none⟩ (.int .i64 t219)).setCell ⟨gb225, 3, none⟩ (.int .i64 t220)).setCell ⟨gb225, 4, none⟩ (.int .i64 t221)).setCell ⟨gb225, 5, none⟩ (.int .i64 t222)).setCell ⟨gb225, 6, none⟩ (.int .i64 t223)).setCell ⟨gb225, 7, none⟩ (.int .i64 t224)).heap[gb215]? = some (.cells #[.int .i64 ((rd_T81 t211 x21_2).f0), .int .i64 ((rd_T81 t211 x21_2).f1)] 81 (0, 0))) := ⟨by (with_reducible repeat (first | refine zE ?_ _ | refine zF ?_ | refine zD ?_ _)); refine blk_far ?_ NB215_225.out _; (with_reducible repeat (first | refine zE ?_ _ | refine zF ?_ | refine zD ?_ _)); refine blk_far ?_ NB215_225.out _; (with_reducible repeat (first | refine zE ?_ _ | refine zF ?_ | refine zD ?_ _)); refine blk_far ?_ NB215_225.out _; (with_reducible repeat (first | refine zE ?_ _ | refine zF ?_ | refine zD ?_ _)); refine blk_far ?_ NB215_225.out _; (with_reducible repeat (first | refine zE ?_ _ | refine zF ?_ | refine zD ?_ _)); refine blk_far ?_ NB215_225.out _; (with_reducible repeat (first | refine zE ?_ _ | refine zF ?_ | refine zD ?_ _)); refine blk_far ?_ NB215_225.out _; (with_reducible repeat (first | refine zE ?_ _ | refine zF ?_ | refine zD ?_ _)); refine blk_far ?_ NB215_225.out _; (with_reducible repeat (first | refine zE ?_ _ | refine zF ?_ | refine zD ?_ _)); refine blk_far ?_ NB215_225.out _; (with_reducible repeat (first | refine zE ?_ _ | refine zF ?_ | refine zD ?_ _)); exact BK215.out⟩
           have n3_ : Aside0 (((((((((w75.setCell ⟨gb225, 0, none⟩ (.int .i64 t217)).setCell ⟨gb225, 1, none⟩ (.int .i64 t218)).setCell ⟨gb225, 2, none⟩ (.int .i64 t219)).setCell ⟨gb225, 3, none⟩ (.int .i64 t220)).setCell ⟨gb225, 4, none⟩ (.int .i64 t221)).setCell ⟨gb225, 5, none⟩ (.int .i64 t222)).setCell ⟨gb225, 6, none⟩ (.int .i64 t223)).setCell ⟨gb225, 7, none⟩ (.int .i64 t224)).heap[gb225]? = some (.cells #[.int .i64 t217, .int .i64 t218, .int .i64 t219, .int .i64 t220, .int .i64 t221, .int .i64 t222, .int .i64 t223, .int .i64 t224] 78 (0, 0))) := ⟨by (with_reducible repeat (first | refine zE ?_ _ | refine zF ?_ | refine zD ?_ _)); refine blk_put (cs := #[.int .i64 t217, .int .i64 t218, .int .i64 t219, .int .i64 t220, .int .i64 t221, .int .i64 t222, .int .i64 t223, .int .i64 0]) ?_ 7 _ rfl; (with_reducible repeat (first | refine zE ?_ _ | refine zF ?_ | refine zD ?_ _)); refine blk_put (cs := #[.int .i64 t217, .int .i64 t218, .int .i64 t219, .int .i64 t220, .int .i64 t221, .int .i64 t222, .int .i64 0, .int .i64 0]) ?_ 6 _ rfl; (with_reducible repeat (first | refine zE ?_ _ | refine zF ?_ | refine zD ?_ _)); refine blk_put (cs := #[.int .i64 t217, .int .i64 t218, .int .i64 t219, .int .i64 t220, .int .i64 t221, .int .i64 0, .int .i64 0, .int .i64 0]) ?_ 5 _ rfl; (with_reducible repeat (first | refine zE ?_ _ | refine zF ?_ | refine zD ?_ _)); refine blk_put (cs := #[.int .i64 t217, .int .i64 t218, .int .i64 t219, .int .i64 t220, .int .i64 0, .int .i64 0, .int .i64 0, .int .i64 0]) ?_ 4 _ rfl; (with_reducible repeat (first | refine zE ?_ _ | refine zF ?_ | refine zD ?_ _)); refine blk_put (cs := #[.int .i64 t217, .int .i64 t218, .int .i64 t219, .int .i64 0, .int .i64 0, .int .i64 0, .int .i64 0, .int .i64 0]) ?_ 3 _ rfl; (with_reducible repeat (first | refine zE ?_ _ | refine zF ?_ | refine zD ?_ _)); refine blk_put (cs := #[.int .i64 t217, .int .i64 t218, .int .i64 0, .int .i64 0, .int .i64 0, .int .i64 0, .int .i64 0, .int .i64 0]) ?_ 2 _ rfl; (with_reducible repeat (first | refine zE ?_ _ | refine zF ?_ | refine zD ?_ _)); refine blk_put (cs := #[.int .i64 t217, .int .i64 0, .int .i64 0, .int .i64 0, .int .i64 0, .int .i64 0, .int .i64 0, .int .i64 0]) ?_ 1 _ rfl; (with_reducible repeat (first | refine zE ?_ _ | refine zF ?_ | refine zD ?_ _)); refine blk_put (cs := #[.int .i64 0, .int .i64 0, .int .i64 0, .int .i64 0, .int .i64 0, .int .i64 0, .int .i64 0, .int .i64 0]) ?_ 0 _ rfl; (with_reducible repeat (first | refine zE ?_ _ | refine zF ?_ | refine zD ?_ _)); exact BK225.out⟩
           have n4_ : Aside0 (Below w.heap.size w ((((((((w75.setCell ⟨gb225, 0, none⟩ (.int .i64 t217)).setCell ⟨gb225, 1, none⟩ (.int .i64 t218)).setCell ⟨gb225, 2, none⟩ (.int .i64 t219)).setCell ⟨gb225, 3, none⟩ (.int .i64 t220)).setCell ⟨gb225, 4, none⟩ (.int .i64 t221)).setCell ⟨gb225, 5, none⟩ (.int .i64 t222)).setCell ⟨gb225, 6, none⟩ (.int .i64 t223)).setCell ⟨gb225, 7, none⟩ (.int .i64 t224))) := ⟨by repeat (first | (with_reducible first | exact HB.out | apply zA | apply zB | apply zC | refine below_set ?_ GE215.out | refine below_set ?_ GE225.out) | exact HB.out)⟩
           (try clear HO_5)
           (try clear HO_19)
           (try clear BK215)
           (try clear BK225)
           (try clear HB)
           generalize ((((((((w75.setCell ⟨gb225, 0, none⟩ (.int .i64 t217)).setCell ⟨gb225, 1, none⟩ (.int .i64 t218)).setCell ⟨gb225, 2, none⟩ (.int .i64 t219)).setCell ⟨gb225, 3, none⟩ (.int .i64 t220)).setCell ⟨gb225, 4, none⟩ (.int .i64 t221)).setCell ⟨gb225, 5, none⟩ (.int .i64 t222)).setCell ⟨gb225, 6, none⟩ (.int .i64 t223)).setCell ⟨gb225, 7, none⟩ (.int .i64 t224)) = w85 at n0_ n1_ n2_ n3_ n4_ ⊢
           have HO_5 := n0_
           have HO_19 := n1_
           have BK215 := n2_
           have BK225 := n3_
           have HB := n4_
           clear n0_ n1_ n2_ n3_ n4_
           have n0_ := Aside0.mk (zI HO_5.out)
           have n1_ := Aside0.mk (zI HO_19.out)
           have n2_ := Aside0.mk (zF BK215.out)
           have n3_ := Aside0.mk (zF BK225.out)
           have n4_ := Aside0.mk (zC HB.out)
           clear HO_5
           clear HO_19
           clear BK215
           clear BK225
           clear HB
           have HO_5 := n0_
           have HO_19 := n1_
           have BK215 := n2_
           have BK225 := n3_
           have HB := n4_
           clear n0_ n1_ n2_ n3_ n4_
           refine start_ (n := 13) (S := fun w' => True) (ds := []) #[false, false, false, false, false, false, false, false, false, false, false, false, false] (by kernel_rfl) rfl rfl trivial (fun hHeld => ?_); refine with_tabW impl_DownSamples.tab9 impl_DownSamples.bits9 (fun HT_ HW_ => ?_)
           generalize w85.drew = w86 at HO_5 HO_19 BK215 BK225 HB hHeld ⊢
           refine pure_ (i := 0) (N := some 33) (v := ?_) (a' := ?_) #[true, false, false, false, false, false, false, false, false, false, false, false, false] rfl rfl (any_of HT_.out (by kernel_rfl)) (fun _ _ _ h => h) (Or.inl ⟨by rfl, ?_⟩) ?_ ?_
           rotate_left
           ·intro w'
            go_simp
            with_reducible rfl
           rotate_left
           ·simp only [Act.put, zT, zU, zV, i64_w, i32_w]
            rfl
           refine pure_ (i := 1) (N := some 34) (v := ?_) (a' := ?_) #[true, true, false, false, false, false, false, false, false, false, false, false, false] rfl rfl (any_of HT_.out (by kernel_rfl)) (fun _ _ _ h => h) (Or.inl ⟨by rfl, ?_⟩) ?_ ?_
           rotate_left
           ·intro w'
            go_simp
            with_reducible rfl
           rotate_left
           ·simp only [Act.put, zT, zU, zV, i64_w, i32_w]
            rfl
           refine pure_ (i := 2) (N := some 35) (v := ?_) (a' := ?_) #[true, true, true, false, false, false, false, false, false, false, false, false, false] rfl rfl (any_of HT_.out (by kernel_rfl)) (fun _ _ _ h => h) (Or.inl ⟨by rfl, ?_⟩) ?_ ?_
           rotate_left
           ·intro w'
            go_simp
            with_reducible rfl
           rotate_left
           ·simp only [Act.put, zT, zU, zV, i64_w, i32_w]
            rfl
           refine pure_ (i := 3) (N := some 36) (v := undef) (a' := ?_) #[true, true, true, true, false, false, false, false, false, false, false, false, false] rfl rfl (any_of HT_.out (by kernel_rfl)) (fun _ _ _ h => h) (Or.inr ⟨by rfl, rfl⟩) ?_ ?_
           rotate_left
           ·simp only [Act.put, zT, zU, zV, i64_w, i32_w]
            rfl
           refine pure_ (i := 4) (N := some 37) (v := undef) (a' := ?_) #[true, true, true, true, true, false, false, false, false, false, false, false, false] rfl rfl (any_of HT_.out (by kernel_rfl)) (fun _ _ _ h => h) (Or.inr ⟨by rfl, rfl⟩) ?_ ?_
           rotate_left
           ·simp only [Act.put, zT, zU, zV, i64_w, i32_w]
            rfl
           refine pure_ (i := 5) (N := some 38) (v := undef) (a' := ?_) #[true, true, true, true, true, true, false, false, false, false, false, false, false] rfl rfl (any_of HT_.out (by kernel_rfl)) (fun _ _ _ h => h) (Or.inr ⟨by rfl, rfl⟩) ?_ ?_
           rotate_left
           ·simp only [Act.put, zT, zU, zV, i64_w, i32_w]
            rfl
           refine pure_ (i := 6) (N := some 39) (v := undef) (a' := ?_) #[true, true, true, true, true, true, true, false, false, false, false, false, false] rfl rfl (any_of HT_.out (by kernel_rfl)) (fun _ _ _ h => h) (Or.inr ⟨by rfl, rfl⟩) ?_ ?_
           rotate_left
           ·simp only [Act.put, zT, zU, zV, i64_w, i32_w]
            rfl
           refine pure_ (i := 7) (N := some 40) (v := undef) (a' := ?_) #[true, true, true, true, true, true, true, true, false, false, false, false, false] rfl rfl (any_of HT_.out (by kernel_rfl)) (fun _ _ _ h => h) (Or.inr ⟨by rfl, rfl⟩) ?_ ?_
           rotate_left
           ·simp only [Act.put, zT, zU, zV, i64_w, i32_w]
            rfl
           refine pure_ (i := 8) (N := some 41) (v := undef) (a' := ?_) #[true, true, true, true, true, true, true, true, true, false, false, false, false] rfl rfl (any_of HT_.out (by kernel_rfl)) (fun _ _ _ h => h) (Or.inr ⟨by rfl, rfl⟩) ?_ ?_
           rotate_left
           ·simp only [Act.put, zT, zU, zV, i64_w, i32_w]
            rfl
           refine pure_ (i := 9) (N := some 42) (v := undef) (a' := ?_) #[true, true, true, true, true, true, true, true, true, true, false, false, false] rfl rfl (any_of HT_.out (by kernel_rfl)) (fun _ _ _ h => h) (Or.inr ⟨by rfl, rfl⟩) ?_ ?_
           rotate_left
           ·simp only [Act.put, zT, zU, zV, i64_w, i32_w]
            rfl
           refine pure_ (i := 10) (N := some 43) (v := undef) (a' := ?_) #[true, true, true, true, true, true, true, true, true, true, true, false, false] rfl rfl (any_of HT_.out (by kernel_rfl)) (fun _ _ _ h => h) (Or.inr ⟨by rfl, rfl⟩) ?_ ?_
           rotate_left
           ·simp only [Act.put, zT, zU, zV, i64_w, i32_w]
            rfl
           refine pure_ (i := 11) (N := some 44) (v := undef) (a' := ?_) #[true, true, true, true, true, true, true, true, true, true, true, true, false] rfl rfl (any_of HT_.out (by kernel_rfl)) (fun _ _ _ h => h) (Or.inr ⟨by rfl, rfl⟩) ?_ ?_
           rotate_left
           ·simp only [Act.put, zT, zU, zV, i64_w, i32_w]
            rfl
           refine pure_ (i := 12) (N := some 45) (v := ?_) (a' := ?_) #[true, true, true, true, true, true, true, true, true, true, true, true, true] rfl rfl (any_of HT_.out (by kernel_rfl)) (fun _ _ _ h => h) (Or.inl ⟨by rfl, ?_⟩) ?_ ?_
           rotate_left
           ·intro w'
            go_simp
            with_reducible rfl
           rotate_left
           ·simp only [Act.put, zT, zU, zV, i64_w, i32_w]
            rfl
           refine done_ (done_of HT_.out (by kernel_rfl)) ?_
           have hnb87 := NB225_215.out
           have hnc87 := NB215_225.out
           have hcz88_0 : w86.cell? ⟨gb225, 0, none⟩ = some (.int .i64 t217) := (zQ BK225.out 0).trans rfl
           have hcz88_1 : w86.cell? ⟨gb225, 1, none⟩ = some (.int .i64 t218) := (zQ BK225.out 1).trans rfl
           have hcz88_2 : w86.cell? ⟨gb225, 2, none⟩ = some (.int .i64 t219) := (zQ BK225.out 2).trans rfl
           have hcz88_3 : w86.cell? ⟨gb225, 3, none⟩ = some (.int .i64 t220) := (zQ BK225.out 3).trans rfl
           have hcz88_4 : w86.cell? ⟨gb225, 4, none⟩ = some (.int .i64 t221) := (zQ BK225.out 4).trans rfl
           have hcz88_5 : w86.cell? ⟨gb225, 5, none⟩ = some (.int .i64 t222) := (zQ BK225.out 5).trans rfl
           have hcz88_6 : w86.cell? ⟨gb225, 6, none⟩ = some (.int .i64 t223) := (zQ BK225.out 6).trans rfl
           have hcz88_7 : w86.cell? ⟨gb225, 7, none⟩ = some (.int .i64 t224) := (zQ BK225.out 7).trans rfl
           have hfz88_0 := blk_frozen BK225.out 0
           have hfz88_1 := blk_frozen BK225.out 1
           have hfz88_2 := blk_frozen BK225.out 2
           have hfz88_3 := blk_frozen BK225.out 3
           have hfz88_4 := blk_frozen BK225.out 4
           have hfz88_5 := blk_frozen BK225.out 5
           have hfz88_6 := blk_frozen BK225.out 6
           have hfz88_7 := blk_frozen BK225.out 7
           try go_wp2_with (first | ((with_reducible refine gate_builtin (b := .append) (xs := #[.tmp 57, .tmp 59]) rfl ?_); at_builtin; refine Kd.R_append k78 (w0 := w) w.heap.size rfl (.tmp 57) (.tmp 59) 44 78 (.agg #[(.int .i64 0), (.int .i64 0), (.int .i64 0), (.int .i64 0), (.int .i64 0), (.int .i64 0), (.int .i64 0), (.int .i64 0)]) 64 rfl Try.underlying44 info78 rfl (by decide) (by omega) (.slice Ao84 x5_2.length co84) x5_2 (⟨t217, t218, t219, t220, t221, t222, t223, t224⟩ : S78) [.int .i64 t217, .int .i64 t218, .int .i64 t219, .int .i64 t220, .int .i64 t221, .int .i64 t222, .int .i64 t223, .int .i64 t224] (fun k_ => k_ ≠ gb225) (fun _ => False) rfl rfl ?aP (fun _ hk => hk.elim) ?aF ?aO ?aB ?aS ?aL ?_; (case aP => exact k78_mkM _ _ _ (⟨t217, t218, t219, t220, t221, t222, t223, t224⟩ : S78)); (case aB => exact (by repeat (first | (with_reducible first | exact HB.out | apply zA | apply zB | apply zC | refine below_set ?_ GE215.out | refine below_set ?_ GE225.out) | exact HB.out))); (case aF => exact (fun k_ hk => Kd.freshB (g := gb225) (o := cs8 78 t217 t218 t219 t220 t221 t222 t223 t224) (by (with_reducible repeat (first | refine zE ?_ _ | refine zF ?_ | refine zD ?_ _)); exact BK225.out) k_ hk)); (case aO => exact (by (with_reducible repeat (first | apply zG | apply zH | apply zI)); exact HO_5.out)); (case aS => exact (zW (by repeat (first | (with_reducible first | exact HB.out | apply zA | apply zB | apply zC | refine below_set ?_ GE215.out | refine below_set ?_ GE225.out) | exact HB.out)))); (case aL => have := LMc68.out; omega); intro v241 w89 ho hb hg hat; rw [← Ny240.out] at ho; have n0_ := Aside0.mk (Kd.R_over' (by (with_reducible repeat (first | apply zG | apply zH | apply zI)); exact HO_19.out) (Kd.R_typed (by (with_reducible repeat (first | apply zG | apply zH | apply zI)); exact HO_5.out)) (by decide) hg); have n1_ := Aside0.mk (blk_grown (g := gb215) (o := .cells #[.int .i64 ((rd_T81 t211 x21_2).f0), .int .i64 ((rd_T81 t211 x21_2).f1)] 81 (0, 0)) (by (with_reducible repeat (first | refine zE ?_ _ | refine zF ?_ | refine zD ?_ _)); exact BK215.out) hg (Kd.R_ne HO_5.out BK215.out (by decide))); have n2_ := Aside0.mk (blk_grown (g := gb225) (o := cs8 78 t217 t218 t219 t220 t221 t222 t223 t224) (by (with_reducible repeat (first | refine zE ?_ _ | refine zF ?_ | refine zD ?_ _)); exact BK225.out) hg (Kd.R_away HO_5.out (fun _ hk => hk))); have n3_ := Aside0.mk (hb); have n4_ := Aside0.mk (ho); clear HO_19; clear BK215; clear BK225; clear HB; clear HO_5; have HO_19 := n0_; have BK215 := n1_; have BK225 := n2_; have HB := n3_; have HO242 := n4_; clear n0_ n1_ n2_ n3_ n4_; clear ho hb hg hat))
           go_roundg k2
           case measure => have := HJ2.out; have := HK2.out; omega
           case rel => exact ⟨(y240), (wrap64 (x21_2 + 1)), (by first | rfl | (simp; done) | (simp [*]; done)), H', ⟨by have := HJ2.out; have := HK2.out; omega⟩, ⟨by (with_reducible repeat (first | apply zG | apply zH | apply zI)); exact Kd.R_mono HO242.out (fun _ hk => trivial)⟩, ⟨by (with_reducible repeat (first | apply zG | apply zH | apply zI)); exact Kd.R_mono HO_19.out (fun _ hk => trivial)⟩, ⟨by repeat (first | (with_reducible first | exact HB.out | apply zA | apply zB | apply zC | refine below_set ?_ GE215.out | refine below_set ?_ GE225.out) | exact HB.out)⟩⟩
          ·rw [if_neg c68] at H
           exact absurd H (by simp)
        ·rw [if_neg c15] at H
         exact absurd H (by simp)
       ·rw [if_neg c14] at H
        exact absurd H (by simp)
      ·rw [if_neg c13] at H
       have c13b0 : decide (x21_2 < (t211.length : Int)) = false := decide_eq_false c13
       clear c13
       obtain rfl := Option.some.inj H
       go_wp2
       go_ret
       exact ⟨_, by first | rfl | (simp [errW_none, errW_some] <;> rfl) | (simp [*, errW_none, errW_some] <;> rfl), by (with_reducible repeat (first | apply zG | apply zH | apply zI)); exact HO_5.out, by repeat (first | (with_reducible first | exact HB.out | apply zA | apply zB | apply zC) | exact HB.out)⟩

end Go.Proofs.Ytogjmchhafiafab.PFnExactDownSamples
