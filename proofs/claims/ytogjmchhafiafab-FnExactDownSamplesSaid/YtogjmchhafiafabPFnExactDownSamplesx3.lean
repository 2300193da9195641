-- Written by a program of this session (xprint.py, over the kit's print).
import Derived.Test.YtogjmchhafiafabPFnExactDownSamplesx0
import Derived.Test.YtogjmchhafiafabPFnExactDownSamplesx2
namespace Go.Proofs.Ytogjmchhafiafab.PFnExactDownSamples
open Go.RowKit Go.Proofs.YtogjmchhafiafabW.PrintWords Go.Proofs.YtogjmchhafiafabW.PrintLast Go.Proofs.YtogjmchhafiafabW.PrintMore Go.Proofs.Ytogjmchhafiafab.XWords
attribute [local go_sem] max2_int min2_int max_two min_two max_three min_three max_four min_four   -- for this text's walks alone
set_option linter.unusedVariables false
set_option linter.unusedSimpArgs false

/-! ### spec_l11Agg: function 46 -/
mutual
def spec_l11Agg.l0 : Nat → List (S81) → List (S81) → Int → Int → Int → Int → Int → Int → Int → Int → Int → Int → Option (Int × Int × Int × Int × Int × Int × Int × Int)
 | 0, _, _, _, _, _, _, _, _, _, _, _, _ => none
 | k + 1, x0, x31, x32, x33, x136000, x136001, x136002, x136003, x136004, x136005, x136006, x136007 => if x33 < x32 then (if 0 ≤ x33 then (if x33 < (x31.length : Int) then (if ((rd_T81 x31 x33).f1) < x136003 then (spec_l11Agg.j1 k x0 x33 x31 x32 x33 x136000 x136001 (wrap64 (x136002 + ((rd_T81 x31 x33).f1))) ((rd_T81 x31 x33).f1) x136004 x136005 x136006 x136007 ((rd_T81 x31 x33).f0) ((rd_T81 x31 x33).f1)) else (spec_l11Agg.j1 k x0 x33 x31 x32 x33 x136000 x136001 (wrap64 (x136002 + ((rd_T81 x31 x33).f1))) x136003 x136004 x136005 x136006 x136007 ((rd_T81 x31 x33).f0) ((rd_T81 x31 x33).f1))) else (none)) else (none)) else (some (x136000, x136001, x136002, x136003, x136004, x136005, x136006, x136007))
def spec_l11Agg.j1 : Nat → List (S81) → Int → List (S81) → Int → Int → Int → Int → Int → Int → Int → Int → Int → Int → Int → Int → Option (Int × Int × Int × Int × Int × Int × Int × Int)
 | 0, _, _, _, _, _, _, _, _, _, _, _, _, _, _, _ => none
 | k + 1, x0, x6, x31, x32, x33, x136000, x136001, x136002, x136003, x136004, x136005, x136006, x136007, x138000, x138001 => if x138001 > x136004 then (if x6 > 0 then (if 0 ≤ (wrap64 (x6 - 1)) then (if (wrap64 (x6 - 1)) < (x0.length : Int) then ((spec_l11Rise.f ((rd_T81 x0 (wrap64 (x6 - 1))).f1) x138001).bind fun t139 => (spec_l11Agg.l0 k x0 x31 x32 (wrap64 (x33 + 1)) x136000 x136001 x136002 x136003 x138001 x136005 x136006 (wrap64 (x136007 + t139)))) else (none)) else (none)) else (spec_l11Agg.l0 k x0 x31 x32 (wrap64 (x33 + 1)) x136000 x136001 x136002 x136003 x138001 x136005 x136006 x136007)) else (if x6 > 0 then (if 0 ≤ (wrap64 (x6 - 1)) then (if (wrap64 (x6 - 1)) < (x0.length : Int) then ((spec_l11Rise.f ((rd_T81 x0 (wrap64 (x6 - 1))).f1) x138001).bind fun t141 => (spec_l11Agg.l0 k x0 x31 x32 (wrap64 (x33 + 1)) x136000 x136001 x136002 x136003 x136004 x136005 x136006 (wrap64 (x136007 + t141)))) else (none)) else (none)) else (spec_l11Agg.l0 k x0 x31 x32 (wrap64 (x33 + 1)) x136000 x136001 x136002 x136003 x136004 x136005 x136006 x136007))
end
def spec_l11Agg.f (k : Nat) (l0 : List (S81)) (a1 : Int) : Option (Int × Int × Int × Int × Int × Int × Int × Int) := if 0 < (l0.length : Int) then (if 0 ≤ (wrap64 ((l0.length : Int) - 1)) then (if (wrap64 ((l0.length : Int) - 1)) < (l0.length : Int) then (spec_l11Agg.l0 k l0 l0 (l0.length : Int) 0 a1 (l0.length : Int) 0 ((rd_T81 l0 0).f1) ((rd_T81 l0 0).f1) ((rd_T81 l0 0).f1) ((rd_T81 l0 (wrap64 ((l0.length : Int) - 1))).f1) 0) else (none)) else (none)) else (none)
theorem spec_l11Agg.mono_l : ∀ k, (∀ y0 y1 y2 y3 y4 y5 y6 y7 y8 y9 y10 y11, LeO (spec_l11Agg.l0 k y0 y1 y2 y3 y4 y5 y6 y7 y8 y9 y10 y11) (spec_l11Agg.l0 (k + 1) y0 y1 y2 y3 y4 y5 y6 y7 y8 y9 y10 y11)) ∧ (∀ y0 y1 y2 y3 y4 y5 y6 y7 y8 y9 y10 y11 y12 y13 y14, LeO (spec_l11Agg.j1 k y0 y1 y2 y3 y4 y5 y6 y7 y8 y9 y10 y11 y12 y13 y14) (spec_l11Agg.j1 (k + 1) y0 y1 y2 y3 y4 y5 y6 y7 y8 y9 y10 y11 y12 y13 y14))
 | 0 => ⟨fun _ _ _ _ _ _ _ _ _ _ _ _ r h => by simp [spec_l11Agg.l0] at h, fun _ _ _ _ _ _ _ _ _ _ _ _ _ _ _ r h => by simp [spec_l11Agg.j1] at h⟩
 | k + 1 => by
  obtain ⟨ih0, ih1⟩ := spec_l11Agg.mono_l k
  refine ⟨?_, ?_⟩
  ·intro y0 y1 y2 y3 y4 y5 y6 y7 y8 y9 y10 y11
   unfold spec_l11Agg.l0
   repeat' first
   | (with_reducible exact ih0 _ _ _ _ _ _ _ _ _ _ _ _)
   | (with_reducible exact ih1 _ _ _ _ _ _ _ _ _ _ _ _ _ _ _)
   | (with_reducible exact LeO.refl _)
   | (with_reducible exact LeO.none _)
   | (with_reducible refine LeO.ite ?_ ?_)
   | (with_reducible refine LeO.bind ?_ (fun _ => ?_))
   | exact ih0 _ _ _ _ _ _ _ _ _ _ _ _
   | exact ih1 _ _ _ _ _ _ _ _ _ _ _ _ _ _ _
   | exact LeO.none _
   | refine LeO.ite ?_ ?_
   | refine LeO.bind ?_ (fun _ => ?_)
  ·intro y0 y1 y2 y3 y4 y5 y6 y7 y8 y9 y10 y11 y12 y13 y14
   unfold spec_l11Agg.j1
   repeat' first
   | (with_reducible exact ih0 _ _ _ _ _ _ _ _ _ _ _ _)
   | (with_reducible exact ih1 _ _ _ _ _ _ _ _ _ _ _ _ _ _ _)
   | (with_reducible exact LeO.refl _)
   | (with_reducible exact LeO.none _)
   | (with_reducible refine LeO.ite ?_ ?_)
   | (with_reducible refine LeO.bind ?_ (fun _ => ?_))
   | exact ih0 _ _ _ _ _ _ _ _ _ _ _ _
   | exact ih1 _ _ _ _ _ _ _ _ _ _ _ _ _ _ _
   | exact LeO.none _
   | refine LeO.ite ?_ ?_
   | refine LeO.bind ?_ (fun _ => ?_)
theorem spec_l11Agg.mono : ∀ a0 a1 k, LeO (spec_l11Agg.f k a0 a1) (spec_l11Agg.f (k + 1) a0 a1) := by
 intro a0 a1 k
 obtain ⟨ih0, ih1⟩ := spec_l11Agg.mono_l k
 unfold spec_l11Agg.f
 repeat' first
   | (with_reducible exact ih0 _ _ _ _ _ _ _ _ _ _ _ _)
   | (with_reducible exact ih1 _ _ _ _ _ _ _ _ _ _ _ _ _ _ _)
   | (with_reducible exact LeO.refl _)
   | (with_reducible exact LeO.none _)
   | (with_reducible refine LeO.ite ?_ ?_)
   | (with_reducible refine LeO.bind ?_ (fun _ => ?_))
   | exact ih0 _ _ _ _ _ _ _ _ _ _ _ _
   | exact ih1 _ _ _ _ _ _ _ _ _ _ _ _ _ _ _
   | exact LeO.none _
   | refine LeO.ite ?_ ?_
   | refine LeO.bind ?_ (fun _ => ?_)
def spec_l11Agg.T1 : Bool × List (List Nat × List Nat) := (true, [([], []), ([], []), ([1], [1]), ([], []), ([3], [3]), ([4], [4]), ([5], [5]), ([], []), ([7], [7]), ([8], [8]), ([9], [9]), ([], []), ([11], [11]), ([12], [12]), ([13], [13]), ([], []), ([], []), ([16], [16]), ([17], [17]), ([15, 18], [15, 18]), ([19], [19]), ([20], [20]), ([0, 2, 6, 10, 14, 21], [0, 2, 6, 10, 14, 21]), ([], []), ([23, 22, 0, 1, 2, 3, 4, 5, 6, 7, 8, 9, 10, 11, 12, 13, 14, 15, 16, 17, 18, 19, 20, 21, 22, 23], [22, 23])])
def spec_l11Agg.B1 : List Nat := [0, 0, 2, 0, 8, 24, 56, 0, 128, 384, 896, 0, 2048, 6144, 14336, 0, 0, 65536, 196608, 491520, 1015808, 2064384, 4194303, 0, 16777215]
theorem spec_l11Agg.tab1 : rtab .any (opsOf Try.f46 1) = spec_l11Agg.T1 := by kernel_rfl
theorem spec_l11Agg.bits1 : waitsOk spec_l11Agg.T1.2 spec_l11Agg.B1 = true := by kernel_rfl
def spec_l11Agg.T11 : Bool × List (List Nat × List Nat) := (true, [([], []), ([0], [0]), ([], []), ([], []), ([3], [3]), ([2, 4], [2, 4]), ([5], [5]), ([6], [6]), ([], []), ([8], [8]), ([7, 9], [7, 9]), ([1, 10], [1, 10]), ([0, 1, 2, 3, 4, 5, 6, 7, 8, 9, 10, 11], []), ([12, 11, 10, 0, 1, 2, 3, 4, 5, 6, 7, 8, 9, 10, 11], [11, 12])])
def spec_l11Agg.B11 : List Nat := [0, 1, 0, 0, 8, 28, 60, 124, 0, 256, 1020, 2047, 4095, 8191]
theorem spec_l11Agg.tab11 : rtab .any (opsOf Try.f46 11) = spec_l11Agg.T11 := by kernel_rfl
theorem spec_l11Agg.bits11 : waitsOk spec_l11Agg.T11.2 spec_l11Agg.B11 = true := by kernel_rfl
set_option maxHeartbeats 8000000 in
set_option maxRecDepth 100000 in
theorem spec_l11Agg.calls (k : Nat) (A0 : Option Addr) (c0 : Nat) (l0 : List (S81)) (a1 : Int) (r1 : Int) (r2 : Int) (r3 : Int) (r4 : Int) (r5 : Int) (r6 : Int) (r7 : Int) (r8 : Int) (w : World) (hr0 : Kd.C k81 w A0 l0.length l0) (hc0 : l0.length ≤ c0) (h : spec_l11Agg.f k l0 a1 = some (r1, r2, r3, r4, r5, r6, r7, r8)) :
  Calls Try.prog 46 #[.slice A0 l0.length c0, .int .i64 a1] w fun e w' => e = .returned (.agg #[.int .i64 r1, .int .i64 r2, .int .i64 r3, .int .i64 r4, .int .i64 r5, .int .i64 r6, .int .i64 r7, .int .i64 r8]) ∧ Below w.heap.size w w' := by
 have hu78 := Try.underlying78
 have hu81 := Try.underlying81
 have HR0 := Aside0.mk hr0
 have HC0 := Aside0.mk hc0
 clear hr0 hc0
 have HB := Aside0.mk (Below.refl w.heap.size w)
 have H : (if 0 < (l0.length : Int) then (if 0 ≤ (wrap64 ((l0.length : Int) - 1)) then (if (wrap64 ((l0.length : Int) - 1)) < (l0.length : Int) then (spec_l11Agg.l0 k l0 l0 (l0.length : Int) 0 a1 (l0.length : Int) 0 ((rd_T81 l0 0).f1) ((rd_T81 l0 0).f1) ((rd_T81 l0 0).f1) ((rd_T81 l0 (wrap64 ((l0.length : Int) - 1))).f1) 0) else (none)) else (none)) else (none)) = some (r1, r2, r3, r4, r5, r6, r7, r8) := h
 clear h
 by_cases c3 : 0 < (l0.length : Int)
 ·rw [if_pos c3] at H
  have c3b0 : decide (0 < (l0.length : Int)) = true := decide_eq_true c3
  have c3b1 : decide (0 < l0.length) = true := decide_eq_true (by omega)
  clear c3
  obtain ⟨ji4, hji4⟩ : ∃ j_ : Int, (wrap64 ((l0.length : Int) - 1)) = j_ := ⟨_, rfl⟩
  replace H : (if 0 ≤ (ji4) then (if (ji4) < (l0.length : Int) then (spec_l11Agg.l0 k l0 l0 (l0.length : Int) 0 a1 (l0.length : Int) 0 ((rd_T81 l0 0).f1) ((rd_T81 l0 0).f1) ((rd_T81 l0 0).f1) ((rd_T81 l0 (ji4)).f1) 0) else (none)) else (none)) = some (r1, r2, r3, r4, r5, r6, r7, r8) := by first | (rw [hji4] at H; exact H) | (simp only [hji4] at H ⊢; exact H)
  have hji4w : (IntKind.i64.wrap ((l0.length : Int) - 1)) = ji4 := (i64_w _).trans hji4
  by_cases c5 : 0 ≤ (ji4)
  ·rw [if_pos c5] at H
   have c5b0 : decide (0 ≤ (ji4)) = true := decide_eq_true c5
   clear c5
   by_cases c6 : (ji4) < (l0.length : Int)
   ·rw [if_pos c6] at H
    have c6b0 : decide ((ji4) < (l0.length : Int)) = true := decide_eq_true c6
    clear c6
    have H' := Aside0.mk H
    clear H
    go_enter Try.func46, Try.ntmps46
    try go_wp2_with (first | ((with_reducible refine gate_dst (N := 4) rfl ?_); refine box_event ?hg (N := 4) ?hd (cs := #[.int .i64 0, .int .i64 0, .int .i64 0, .int .i64 0, .int .i64 0, .int .i64 0, .int .i64 0, .int .i64 0]) (t := 78) ?hr ?_; (case hd => rfl); (case hg => rfl); (case hr => first | (go_simp; done) | (go_simp; rfl)); intro gb130 hg w7 hbox hb; have n0_ := Aside0.mk (below_step (by repeat (first | (with_reducible first | exact HB.out | apply zA | apply zB | apply zC) | exact HB.out)) hb); have n1_ := Aside0.mk (hbox); have n2_ := Aside0.mk ((by rw [hg]; exact (zW (by repeat (first | (with_reducible first | exact HB.out | apply zA | apply zB | apply zC) | exact HB.out))) : w.heap.size ≤ gb130)); have n3_ := Aside0.mk ((by rw [hg]; exact (zW (by repeat (first | (with_reducible first | exact HB.out | apply zA | apply zB | apply zC) | exact HB.out))) : w.heap.size ≤ gb130)); clear HB; have HB := n0_; have BK130 := n1_; have GW130 := n2_; have GE130 := n3_; clear n0_ n1_ n2_ n3_; clear hb hbox hg))
    have n0_ := Aside0.mk (zF BK130.out)
    have n1_ := Aside0.mk (zC HB.out)
    clear BK130
    clear HB
    have BK130 := n0_
    have HB := n1_
    clear n0_ n1_
    have p131 : 0 ≤ (0 : Int) := (by omega)
    have q131 : 0 < (l0.length : Int) := zX (by first | (with_reducible assumption) | assumption)
    obtain ⟨ad131, e131, hx131_0, hx131_1⟩ := at_T81 HR0.out 0 p131 q131
    have hw131_1 := hx131_1
    (try rw [show ((0 : Int)).toNat = 0 from rfl] at hw131_1)
    (try rw [show 0 * 2 = 0 from rfl] at hw131_1)
    (try rw [Addr.add_zero'] at hw131_1)
    have hw131_0 := hx131_0
    (try rw [show ((0 : Int)).toNat = 0 from rfl] at hw131_0)
    (try rw [show 0 * 2 = 0 from rfl] at hw131_0)
    (try rw [Addr.add_zero'] at hw131_0)
    cases e131
    have qi131 : (0 < l0.length) = True := eq_true (by omega)
    (try rw [show ((0 : Int)).toNat = 0 from rfl] at hx131_0)
    (try rw [show 0 * 2 = 0 from rfl] at hx131_0)
    (try rw [Addr.add_zero'] at hx131_0)
    (try rw [show ((0 : Int)).toNat = 0 from rfl] at hx131_1)
    (try rw [show 0 * 2 = 0 from rfl] at hx131_1)
    (try rw [Addr.add_zero'] at hx131_1)
    replace hx131_0 := (HB.out.cell (zR w _ hx131_0)).trans hx131_0
    replace hx131_1 := (HB.out.cell (zR w _ hx131_1)).trans hx131_1
    replace p131 := eq_true p131
    replace q131 := eq_true q131
    have p132 : 0 ≤ (0 : Int) := (by omega)
    have q132 : 0 < (l0.length : Int) := zX (by first | (with_reducible assumption) | assumption)
    obtain ⟨ad132, e132, hx132_0, hx132_1⟩ := at_T81 HR0.out 0 p132 q132
    have hw132_1 := hx132_1
    (try rw [show ((0 : Int)).toNat = 0 from rfl] at hw132_1)
    (try rw [show 0 * 2 = 0 from rfl] at hw132_1)
    (try rw [Addr.add_zero'] at hw132_1)
    have hw132_0 := hx132_0
    (try rw [show ((0 : Int)).toNat = 0 from rfl] at hw132_0)
    (try rw [show 0 * 2 = 0 from rfl] at hw132_0)
    (try rw [Addr.add_zero'] at hw132_0)
    obtain rfl : ad131 = ad132 := (by injection e132)
    have qi132 : (0 < l0.length) = True := eq_true (by omega)
    (try rw [show ((0 : Int)).toNat = 0 from rfl] at hx132_0)
    (try rw [show 0 * 2 = 0 from rfl] at hx132_0)
    (try rw [Addr.add_zero'] at hx132_0)
    (try rw [show ((0 : Int)).toNat = 0 from rfl] at hx132_1)
    (try rw [show 0 * 2 = 0 from rfl] at hx132_1)
    (try rw [Addr.add_zero'] at hx132_1)
    replace hx132_0 := (HB.out.cell (zR w _ hx132_0)).trans hx132_0
    replace hx132_1 := (HB.out.cell (zR w _ hx132_1)).trans hx132_1
    replace p132 := eq_true p132
    replace q132 := eq_true q132
    have p133 : 0 ≤ (0 : Int) := (by omega)
    have q133 : 0 < (l0.length : Int) := zX (by first | (with_reducible assumption) | assumption)
    obtain ⟨ad133, e133, hx133_0, hx133_1⟩ := at_T81 HR0.out 0 p133 q133
    have hw133_1 := hx133_1
    (try rw [show ((0 : Int)).toNat = 0 from rfl] at hw133_1)
    (try rw [show 0 * 2 = 0 from rfl] at hw133_1)
    (try rw [Addr.add_zero'] at hw133_1)
    have hw133_0 := hx133_0
    (try rw [show ((0 : Int)).toNat = 0 from rfl] at hw133_0)
    (try rw [show 0 * 2 = 0 from rfl] at hw133_0)
    (try rw [Addr.add_zero'] at hw133_0)
    obtain rfl : ad131 = ad133 := (by injection e133)
    have qi133 : (0 < l0.length) = True := eq_true (by omega)
    (try rw [show ((0 : Int)).toNat = 0 from rfl] at hx133_0)
    (try rw [show 0 * 2 = 0 from rfl] at hx133_0)
    (try rw [Addr.add_zero'] at hx133_0)
    (try rw [show ((0 : Int)).toNat = 0 from rfl] at hx133_1)
    (try rw [show 0 * 2 = 0 from rfl] at hx133_1)
    (try rw [Addr.add_zero'] at hx133_1)
    replace hx133_0 := (HB.out.cell (zR w _ hx133_0)).trans hx133_0
    replace hx133_1 := (HB.out.cell (zR w _ hx133_1)).trans hx133_1
    replace p133 := eq_true p133
    replace q133 := eq_true q133
    have p134 : 0 ≤ ((ji4) : Int) := zX (by first | (with_reducible assumption) | assumption)
    have q134 : (ji4) < (l0.length : Int) := zX (by first | (with_reducible assumption) | assumption)
    obtain ⟨ad134, e134, hx134_0, hx134_1⟩ := at_T81 HR0.out (ji4) p134 q134
    have hw134_1 := hx134_1
    have hw134_0 := hx134_0
    obtain rfl : ad131 = ad134 := (by injection e134)
    replace hx134_0 := (HB.out.cell (zR w _ hx134_0)).trans hx134_0
    replace hx134_1 := (HB.out.cell (zR w _ hx134_1)).trans hx134_1
    replace p134 := eq_true p134
    replace q134 := eq_true q134
    refine start_ (n := 25) (S := fun w' => w'.cell? ad131 = some (.int .i64 ((rd_T81 l0 0).f0)) ∧ w'.cell? ⟨ad131.block, ad131.off + 1, none⟩ = some (.int .i64 ((rd_T81 l0 0).f1)) ∧ w'.cell? ad131 = some (.int .i64 ((rd_T81 l0 0).f0)) ∧ w'.cell? ⟨ad131.block, ad131.off + 1, none⟩ = some (.int .i64 ((rd_T81 l0 0).f1)) ∧ w'.cell? ad131 = some (.int .i64 ((rd_T81 l0 0).f0)) ∧ w'.cell? ⟨ad131.block, ad131.off + 1, none⟩ = some (.int .i64 ((rd_T81 l0 0).f1)) ∧ w'.cell? (ad131.add (((ji4)).toNat * 2)) = some (.int .i64 ((rd_T81 l0 (ji4)).f0)) ∧ w'.cell? ⟨(ad131.add (((ji4)).toNat * 2)).block, (ad131.add (((ji4)).toNat * 2)).off + 1, none⟩ = some (.int .i64 ((rd_T81 l0 (ji4)).f1))) (ds := []) #[false, false, false, false, false, false, false, false, false, false, false, false, false, false, false, false, false, false, false, false, false, false, false, false, false] (by kernel_rfl) rfl rfl ⟨((HB.out.cell (zR w _ hw131_0)).trans hw131_0), ((HB.out.cell (zR w _ hw131_1)).trans hw131_1), ((HB.out.cell (zR w _ hw132_0)).trans hw132_0), ((HB.out.cell (zR w _ hw132_1)).trans hw132_1), ((HB.out.cell (zR w _ hw133_0)).trans hw133_0), ((HB.out.cell (zR w _ hw133_1)).trans hw133_1), ((HB.out.cell (zR w _ hw134_0)).trans hw134_0), ((HB.out.cell (zR w _ hw134_1)).trans hw134_1)⟩ (fun hHeld => ?_); refine with_tabW spec_l11Agg.tab1 spec_l11Agg.bits1 (fun HT_ HW_ => ?_)
    generalize w7.drew = w8 at BK130 HB hx131_0 hx131_1 hx132_0 hx132_1 hx133_0 hx133_1 hx134_0 hx134_1 hHeld ⊢
    refine pure_ (i := 0) (N := some 8) (v := ?_) (a' := ?_) #[true, false, false, false, false, false, false, false, false, false, false, false, false, false, false, false, false, false, false, false, false, false, false, false, false] rfl rfl (any_of HT_.out (by kernel_rfl)) (fun _ _ _ h => h) (Or.inl ⟨by rfl, ?_⟩) ?_ ?_
    rotate_left
    ·intro w'
     go_simp
     with_reducible rfl
    rotate_left
    ·simp only [Act.put, zT, zU, zV, i64_w, i32_w]
     rfl
    refine pure_ (i := 1) (N := some 9) (v := ?_) (a' := ?_) #[true, true, false, false, false, false, false, false, false, false, false, false, false, false, false, false, false, false, false, false, false, false, false, false, false] rfl rfl (any_of HT_.out (by kernel_rfl)) (fun _ _ _ h => h) (Or.inl ⟨by rfl, ?_⟩) ?_ ?_
    rotate_left
    ·intro w'
     go_simp
     with_reducible rfl
    rotate_left
    ·simp only [Act.put, zT, zU, zV, i64_w, i32_w]
     rfl
    refine pure_ (i := 2) (N := some 10) (v := ?_) (a' := ?_) #[true, true, true, false, false, false, false, false, false, false, false, false, false, false, false, false, false, false, false, false, false, false, false, false, false] rfl rfl (any_of HT_.out (by kernel_rfl)) (fun _ _ _ h => h) (Or.inl ⟨by rfl, ?_⟩) ?_ ?_
    rotate_left
    ·intro w'
     go_simp
     with_reducible rfl
    rotate_left
    ·simp only [Act.put, zT, zU, zV, i64_w, i32_w]
     rfl
    refine pure_ (i := 3) (N := some 11) (v := ?_) (a' := ?_) #[true, true, true, true, false, false, false, false, false, false, false, false, false, false, false, false, false, false, false, false, false, false, false, false, false] rfl rfl (any_of HT_.out (by kernel_rfl)) (fun _ _ _ h => h) (Or.inl ⟨by rfl, ?_⟩) ?_ ?_
    rotate_left
    ·intro w'
     go_simp
     with_reducible rfl
    rotate_left
    ·simp only [Act.put, zT, zU, zV, i64_w, i32_w]
     rfl
    refine pure_ (i := 4) (N := some 12) (v := ?_) (a' := ?_) #[true, true, true, true, true, false, false, false, false, false, false, false, false, false, false, false, false, false, false, false, false, false, false, false, false] rfl rfl (any_of HT_.out (by kernel_rfl)) (fun _ _ _ h => h) (Or.inl ⟨by rfl, ?_⟩) ?_ ?_
    rotate_left
    ·intro w'
     go_simp
     with_reducible rfl
    rotate_left
    ·simp only [Act.put, zT, zU, zV, i64_w, i32_w]
     rfl
    refine pure_ (i := 5) (N := some 13) (v := ?_) (a' := ?_) #[true, true, true, true, true, true, false, false, false, false, false, false, false, false, false, false, false, false, false, false, false, false, false, false, false] rfl rfl (any_of HT_.out (by kernel_rfl)) (fun _ _ _ h => h) (Or.inl ⟨by rfl, ?_⟩) ?_ ?_
    rotate_left
    ·intro w'
     go_simp
     with_reducible rfl
    rotate_left
    ·simp only [Act.put, zT, zU, zV, i64_w, i32_w]
     rfl
    refine pure_ (i := 7) (N := some 15) (v := ?_) (a' := ?_) #[true, true, true, true, true, true, false, true, false, false, false, false, false, false, false, false, false, false, false, false, false, false, false, false, false] rfl rfl (any_of HT_.out (by kernel_rfl)) (fun _ _ _ h => h) (Or.inl ⟨by rfl, ?_⟩) ?_ ?_
    rotate_left
    ·intro w'
     go_simp
     with_reducible rfl
    rotate_left
    ·simp only [Act.put, zT, zU, zV, i64_w, i32_w]
     rfl
    refine pure_ (i := 8) (N := some 16) (v := ?_) (a' := ?_) #[true, true, true, true, true, true, false, true, true, false, false, false, false, false, false, false, false, false, false, false, false, false, false, false, false] rfl rfl (any_of HT_.out (by kernel_rfl)) (fun _ _ _ h => h) (Or.inl ⟨by rfl, ?_⟩) ?_ ?_
    rotate_left
    ·intro w'
     go_simp
     with_reducible rfl
    rotate_left
    ·simp only [Act.put, zT, zU, zV, i64_w, i32_w]
     rfl
    refine pure_ (i := 9) (N := some 17) (v := ?_) (a' := ?_) #[true, true, true, true, true, true, false, true, true, true, false, false, false, false, false, false, false, false, false, false, false, false, false, false, false] rfl rfl (any_of HT_.out (by kernel_rfl)) (fun _ _ _ h => h) (Or.inl ⟨by rfl, ?_⟩) ?_ ?_
    rotate_left
    ·intro w'
     go_simp
     with_reducible rfl
    rotate_left
    ·simp only [Act.put, zT, zU, zV, i64_w, i32_w]
     rfl
    refine pure_ (i := 11) (N := some 19) (v := ?_) (a' := ?_) #[true, true, true, true, true, true, false, true, true, true, false, true, false, false, false, false, false, false, false, false, false, false, false, false, false] rfl rfl (any_of HT_.out (by kernel_rfl)) (fun _ _ _ h => h) (Or.inl ⟨by rfl, ?_⟩) ?_ ?_
    rotate_left
    ·intro w'
     go_simp
     with_reducible rfl
    rotate_left
    ·simp only [Act.put, zT, zU, zV, i64_w, i32_w]
     rfl
    refine pure_ (i := 12) (N := some 20) (v := ?_) (a' := ?_) #[true, true, true, true, true, true, false, true, true, true, false, true, true, false, false, false, false, false, false, false, false, false, false, false, false] rfl rfl (any_of HT_.out (by kernel_rfl)) (fun _ _ _ h => h) (Or.inl ⟨by rfl, ?_⟩) ?_ ?_
    rotate_left
    ·intro w'
     go_simp
     with_reducible rfl
    rotate_left
    ·simp only [Act.put, zT, zU, zV, i64_w, i32_w]
     rfl
    refine pure_ (i := 13) (N := some 21) (v := ?_) (a' := ?_) #[true, true, true, true, true, true, false, true, true, true, false, true, true, true, false, false, false, false, false, false, false, false, false, false, false] rfl rfl (any_of HT_.out (by kernel_rfl)) (fun _ _ _ h => h) (Or.inl ⟨by rfl, ?_⟩) ?_ ?_
    rotate_left
    ·intro w'
     go_simp
     with_reducible rfl
    rotate_left
    ·simp only [Act.put, zT, zU, zV, i64_w, i32_w]
     rfl
    refine pure_ (i := 15) (N := some 23) (v := ?_) (a' := ?_) #[true, true, true, true, true, true, false, true, true, true, false, true, true, true, false, true, false, false, false, false, false, false, false, false, false] rfl rfl (any_of HT_.out (by kernel_rfl)) (fun _ _ _ h => h) (Or.inl ⟨by rfl, ?_⟩) ?_ ?_
    rotate_left
    ·intro w'
     go_simp
     with_reducible rfl
    rotate_left
    ·simp only [Act.put, zT, zU, zV, i64_w, i32_w]
     rfl
    refine pure_ (i := 16) (N := some 24) (v := ?_) (a' := ?_) #[true, true, true, true, true, true, false, true, true, true, false, true, true, true, false, true, true, false, false, false, false, false, false, false, false] rfl rfl (any_of HT_.out (by kernel_rfl)) (fun _ _ _ h => h) (Or.inl ⟨by rfl, ?_⟩) ?_ ?_
    rotate_left
    ·intro w'
     go_simp
     with_reducible rfl
    rotate_left
    ·simp only [Act.put, zT, zU, zV, i64_w, i32_w]
     rfl
    refine pure_ (i := 17) (N := some 25) (v := ?_) (a' := ?_) #[true, true, true, true, true, true, false, true, true, true, false, true, true, true, false, true, true, true, false, false, false, false, false, false, false] rfl rfl (any_of HT_.out (by kernel_rfl)) (fun _ _ _ h => h) (Or.inl ⟨by rfl, ?_⟩) ?_ ?_
    rotate_left
    ·intro w'
     go_simp
     with_reducible rfl
    rotate_left
    ·simp only [Act.put, zT, zU, zV, i64_w, i32_w]
     rfl
    refine pure_ (i := 18) (N := some 26) (v := ?_) (a' := ?_) #[true, true, true, true, true, true, false, true, true, true, false, true, true, true, false, true, true, true, true, false, false, false, false, false, false] rfl rfl (any_of HT_.out (by kernel_rfl)) (fun _ _ _ h => h) (Or.inl ⟨by rfl, ?_⟩) ?_ ?_
    rotate_left
    ·intro w'
     go_simp
     with_reducible rfl
    rotate_left
    ·simp only [Act.put, zT, zU, zV, i64_w, i32_w]
     rfl
    refine pure_ (i := 19) (N := some 27) (v := ?_) (a' := ?_) #[true, true, true, true, true, true, false, true, true, true, false, true, true, true, false, true, true, true, true, true, false, false, false, false, false] rfl rfl (any_of HT_.out (by kernel_rfl)) (fun _ _ _ h => h) (Or.inl ⟨by rfl, ?_⟩) ?_ ?_
    rotate_left
    ·intro w'
     go_simp
     with_reducible rfl
    rotate_left
    ·simp only [Act.put, zT, zU, zV, i64_w, i32_w]
     rfl
    refine pure_ (i := 20) (N := some 28) (v := ?_) (a' := ?_) #[true, true, true, true, true, true, false, true, true, true, false, true, true, true, false, true, true, true, true, true, true, false, false, false, false] rfl rfl (any_of HT_.out (by kernel_rfl)) (fun _ _ _ h => h) (Or.inl ⟨by rfl, ?_⟩) ?_ ?_
    rotate_left
    ·intro w'
     go_simp
     with_reducible rfl
    rotate_left
    ·simp only [Act.put, zT, zU, zV, i64_w, i32_w]
     rfl
    refine take_ (i := 6) (N := some 14) (v := ?_) (a' := ?_) #[true, true, true, true, true, true, true, true, true, true, false, true, true, true, false, true, true, true, true, true, true, false, false, false, false] rfl rfl (take_ofW HT_.out HW_.out (by kernel_rfl)) (fun _ _ _ h => h) (Or.inl ⟨by rfl, ?_⟩) hHeld ?_ ?_
    rotate_left
    ·rintro w' ⟨s0, s1, s2, s3, s4, s5, s6, s7⟩
     go_simp
     with_reducible rfl
    rotate_left
    ·simp only [Act.put, zT, zU, zV, i64_w, i32_w]
     rfl
    refine take_ (i := 10) (N := some 18) (v := ?_) (a' := ?_) #[true, true, true, true, true, true, true, true, true, true, true, true, true, true, false, true, true, true, true, true, true, false, false, false, false] rfl rfl (take_ofW HT_.out HW_.out (by kernel_rfl)) (fun _ _ _ h => h) (Or.inl ⟨by rfl, ?_⟩) hHeld ?_ ?_
    rotate_left
    ·rintro w' ⟨s0, s1, s2, s3, s4, s5, s6, s7⟩
     go_simp
     with_reducible rfl
    rotate_left
    ·simp only [Act.put, zT, zU, zV, i64_w, i32_w]
     rfl
    refine take_ (i := 14) (N := some 22) (v := ?_) (a' := ?_) #[true, true, true, true, true, true, true, true, true, true, true, true, true, true, true, true, true, true, true, true, true, false, false, false, false] rfl rfl (take_ofW HT_.out HW_.out (by kernel_rfl)) (fun _ _ _ h => h) (Or.inl ⟨by rfl, ?_⟩) hHeld ?_ ?_
    rotate_left
    ·rintro w' ⟨s0, s1, s2, s3, s4, s5, s6, s7⟩
     go_simp
     with_reducible rfl
    rotate_left
    ·simp only [Act.put, zT, zU, zV, i64_w, i32_w]
     rfl
    refine take_ (i := 21) (N := some 29) (v := ?_) (a' := ?_) #[true, true, true, true, true, true, true, true, true, true, true, true, true, true, true, true, true, true, true, true, true, true, false, false, false] rfl rfl (take_ofW HT_.out HW_.out (by kernel_rfl)) (fun _ _ _ h => h) (Or.inl ⟨by rfl, ?_⟩) hHeld ?_ ?_
    rotate_left
    ·rintro w' ⟨s0, s1, s2, s3, s4, s5, s6, s7⟩
     go_simp
     with_reducible rfl
    rotate_left
    ·simp only [Act.put, zT, zU, zV, i64_w, i32_w]
     rfl
    refine pure_ (i := 22) (N := some 30) (v := ?_) (a' := ?_) #[true, true, true, true, true, true, true, true, true, true, true, true, true, true, true, true, true, true, true, true, true, true, true, false, false] rfl rfl (any_of HT_.out (by kernel_rfl)) (fun _ _ _ h => h) (Or.inl ⟨by rfl, ?_⟩) ?_ ?_
    rotate_left
    ·intro w'
     go_simp
     with_reducible rfl
    rotate_left
    ·simp only [Act.put, zT, zU, zV, i64_w, i32_w]
     rfl
    refine one_ (i := 23) (N := some 5) #[true, true, true, true, true, true, true, true, true, true, true, true, true, true, true, true, true, true, true, true, true, true, true, true, false] rfl rfl (one_of HT_.out (by kernel_rfl)) (by decide) (fun K hK => ?_)
    refine box_step ?hg (N := 5) ?hd (cs := #[.int .i64 0, .int .i64 0, .int .i64 0, .int .i64 0, .int .i64 0, .int .i64 0, .int .i64 0, .int .i64 0]) (t := 78) ?hr ?_; (case hd => rfl); (case hg => rfl); (case hr => first | (go_simp; done) | (go_simp; rfl))
    intro gb135 hg w9 hbox hb
    have n0_ := Aside0.mk (blk_below (g := gb130) (o := cs8 78 0 0 0 0 0 0 0 0) (by (with_reducible repeat (first | refine zE ?_ _ | refine zF ?_ | refine zD ?_ _)); exact BK130.out) hb)
    have n1_ := Aside0.mk (below_step (by repeat (first | (with_reducible first | exact HB.out | apply zA | apply zB | apply zC | refine below_set ?_ GE130.out) | exact HB.out)) hb)
    have n2_ := Aside0.mk (hbox)
    have n3_ := Aside0.mk ((by rw [hg]; exact (zW (by repeat (first | (with_reducible first | exact HB.out | apply zA | apply zB | apply zC | refine below_set ?_ GE130.out) | exact HB.out))) : w.heap.size ≤ gb135))
    have n4_ := Aside0.mk ((by rw [hg]; exact (zW (by repeat (first | (with_reducible first | exact HB.out | apply zA | apply zB | apply zC | refine below_set ?_ GE130.out) | exact HB.out))) : w.heap.size ≤ gb135))
    have n5_ := Aside0.mk ((by rw [hg]; exact Nat.ne_of_lt (blk_lt (g := gb130) (o := cs8 78 0 0 0 0 0 0 0 0) (by (with_reducible repeat (first | refine zE ?_ _ | refine zF ?_ | refine zD ?_ _)); exact BK130.out)) : gb130 ≠ gb135))
    have n6_ := Aside0.mk ((by rw [hg]; exact Nat.ne_of_gt (blk_lt (g := gb130) (o := cs8 78 0 0 0 0 0 0 0 0) (by (with_reducible repeat (first | refine zE ?_ _ | refine zF ?_ | refine zD ?_ _)); exact BK130.out)) : gb135 ≠ gb130))
    clear BK130
    clear HB
    have BK130 := n0_
    have HB := n1_
    have BK135 := n2_
    have GW135 := n3_
    have GE135 := n4_
    have NB130_135 := n5_
    have NB135_130 := n6_
    clear n0_ n1_ n2_ n3_ n4_ n5_ n6_
    clear hb hbox hg
    refine hK.out _ _ ⟨((HB.out.cell (zR w _ hw131_0)).trans hw131_0), ((HB.out.cell (zR w _ hw131_1)).trans hw131_1), ((HB.out.cell (zR w _ hw132_0)).trans hw132_0), ((HB.out.cell (zR w _ hw132_1)).trans hw132_1), ((HB.out.cell (zR w _ hw133_0)).trans hw133_0), ((HB.out.cell (zR w _ hw133_1)).trans hw133_1), ((HB.out.cell (zR w _ hw134_0)).trans hw134_0), ((HB.out.cell (zR w _ hw134_1)).trans hw134_1)⟩ (fun hHeld => ?_)
    clear hK K
    refine norm_ (a' := ?_) ?_ ?_
    rotate_left
    ·show Act.put _ (some 5) _ = _
     simp only [Act.put, zT, zU, zV, i64_w, i32_w]
     rfl
    refine one_ (i := 24) (N := none) #[true, true, true, true, true, true, true, true, true, true, true, true, true, true, true, true, true, true, true, true, true, true, true, true, true] rfl rfl (one_of HT_.out (by kernel_rfl)) (by decide) (fun K hK => ?_)
    have hs10 : w9.cell? ⟨gb135, 0, none⟩ = some (.int .i64 0) := (zQ BK135.out 0).trans rfl
    have hfs10 := blk_frozen BK135.out 0
    have hns10_0 := NB130_135.out
    have hms10_0 := NB135_130.out
    have hs11 : w9.cell? ⟨gb135, 1, none⟩ = some (.int .i64 0) := (zQ BK135.out 1).trans rfl
    have hfs11 := blk_frozen BK135.out 1
    have hns11_0 := NB130_135.out
    have hms11_0 := NB135_130.out
    have hs12 : w9.cell? ⟨gb135, 2, none⟩ = some (.int .i64 0) := (zQ BK135.out 2).trans rfl
    have hfs12 := blk_frozen BK135.out 2
    have hns12_0 := NB130_135.out
    have hms12_0 := NB135_130.out
    have hs13 : w9.cell? ⟨gb135, 3, none⟩ = some (.int .i64 0) := (zQ BK135.out 3).trans rfl
    have hfs13 := blk_frozen BK135.out 3
    have hns13_0 := NB130_135.out
    have hms13_0 := NB135_130.out
    have hs14 : w9.cell? ⟨gb135, 4, none⟩ = some (.int .i64 0) := (zQ BK135.out 4).trans rfl
    have hfs14 := blk_frozen BK135.out 4
    have hns14_0 := NB130_135.out
    have hms14_0 := NB135_130.out
    have hs15 : w9.cell? ⟨gb135, 5, none⟩ = some (.int .i64 0) := (zQ BK135.out 5).trans rfl
    have hfs15 := blk_frozen BK135.out 5
    have hns15_0 := NB130_135.out
    have hms15_0 := NB135_130.out
    have hs16 : w9.cell? ⟨gb135, 6, none⟩ = some (.int .i64 0) := (zQ BK135.out 6).trans rfl
    have hfs16 := blk_frozen BK135.out 6
    have hns16_0 := NB130_135.out
    have hms16_0 := NB135_130.out
    have hs17 : w9.cell? ⟨gb135, 7, none⟩ = some (.int .i64 0) := (zQ BK135.out 7).trans rfl
    have hfs17 := blk_frozen BK135.out 7
    have hns17_0 := NB130_135.out
    have hms17_0 := NB135_130.out
    refine skip_ (w1 := ?_) (by rfl) rfl ?_ ?_
    rotate_left
    ·go_simp
     rfl
    refine hK.out _ _ ⟨((zP (p := ⟨gb135, _, none⟩) (by first | exact Nat.ne_of_lt (zS (by have := zR _ _ hw131_0; first | rwa [add_block] at this | exact this) GW135.out) | (rw [add_block]; exact Nat.ne_of_lt (zS (by have := zR _ _ hw131_0; first | rwa [add_block] at this | exact this) GW135.out)) | (show (Addr.add _ _).block ≠ _; rw [add_block]; exact Nat.ne_of_lt (zS (by have := zR _ _ hw131_0; first | rwa [add_block] at this | exact this) GW135.out)) | (dsimp only; exact Nat.ne_of_lt (zS (by have := zR _ _ hw131_0; first | rwa [add_block] at this | exact this) GW135.out))) _).trans (((zP (p := ⟨gb135, _, none⟩) (by first | exact Nat.ne_of_lt (zS (by have := zR _ _ hw131_0; first | rwa [add_block] at this | exact this) GW135.out) | (rw [add_block]; exact Nat.ne_of_lt (zS (by have := zR _ _ hw131_0; first | rwa [add_block] at this | exact this) GW135.out)) | (show (Addr.add _ _).block ≠ _; rw [add_block]; exact Nat.ne_of_lt (zS (by have := zR _ _ hw131_0; first | rwa [add_block] at this | exact this) GW135.out)) | (dsimp only; exact Nat.ne_of_lt (zS (by have := zR _ _ hw131_0; first | rwa [add_block] at this | exact this) GW135.out))) _).trans (((zP (p := ⟨gb135, _, none⟩) (by first | exact Nat.ne_of_lt (zS (by have := zR _ _ hw131_0; first | rwa [add_block] at this | exact this) GW135.out) | (rw [add_block]; exact Nat.ne_of_lt (zS (by have := zR _ _ hw131_0; first | rwa [add_block] at this | exact this) GW135.out)) | (show (Addr.add _ _).block ≠ _; rw [add_block]; exact Nat.ne_of_lt (zS (by have := zR _ _ hw131_0; first | rwa [add_block] at this | exact this) GW135.out)) | (dsimp only; exact Nat.ne_of_lt (zS (by have := zR _ _ hw131_0; first | rwa [add_block] at this | exact this) GW135.out))) _).trans (((zP (p := ⟨gb135, _, none⟩) (by first | exact Nat.ne_of_lt (zS (by have := zR _ _ hw131_0; first | rwa [add_block] at this | exact this) GW135.out) | (rw [add_block]; exact Nat.ne_of_lt (zS (by have := zR _ _ hw131_0; first | rwa [add_block] at this | exact this) GW135.out)) | (show (Addr.add _ _).block ≠ _; rw [add_block]; exact Nat.ne_of_lt (zS (by have := zR _ _ hw131_0; first | rwa [add_block] at this | exact this) GW135.out)) | (dsimp only; exact Nat.ne_of_lt (zS (by have := zR _ _ hw131_0; first | rwa [add_block] at this | exact this) GW135.out))) _).trans (((zP (p := ⟨gb135, _, none⟩) (by first | exact Nat.ne_of_lt (zS (by have := zR _ _ hw131_0; first | rwa [add_block] at this | exact this) GW135.out) | (rw [add_block]; exact Nat.ne_of_lt (zS (by have := zR _ _ hw131_0; first | rwa [add_block] at this | exact this) GW135.out)) | (show (Addr.add _ _).block ≠ _; rw [add_block]; exact Nat.ne_of_lt (zS (by have := zR _ _ hw131_0; first | rwa [add_block] at this | exact this) GW135.out)) | (dsimp only; exact Nat.ne_of_lt (zS (by have := zR _ _ hw131_0; first | rwa [add_block] at this | exact this) GW135.out))) _).trans (((zP (p := ⟨gb135, _, none⟩) (by first | exact Nat.ne_of_lt (zS (by have := zR _ _ hw131_0; first | rwa [add_block] at this | exact this) GW135.out) | (rw [add_block]; exact Nat.ne_of_lt (zS (by have := zR _ _ hw131_0; first | rwa [add_block] at this | exact this) GW135.out)) | (show (Addr.add _ _).block ≠ _; rw [add_block]; exact Nat.ne_of_lt (zS (by have := zR _ _ hw131_0; first | rwa [add_block] at this | exact this) GW135.out)) | (dsimp only; exact Nat.ne_of_lt (zS (by have := zR _ _ hw131_0; first | rwa [add_block] at this | exact this) GW135.out))) _).trans (((zP (p := ⟨gb135, _, none⟩) (by first | exact Nat.ne_of_lt (zS (by have := zR _ _ hw131_0; first | rwa [add_block] at this | exact this) GW135.out) | (rw [add_block]; exact Nat.ne_of_lt (zS (by have := zR _ _ hw131_0; first | rwa [add_block] at this | exact this) GW135.out)) | (show (Addr.add _ _).block ≠ _; rw [add_block]; exact Nat.ne_of_lt (zS (by have := zR _ _ hw131_0; first | rwa [add_block] at this | exact this) GW135.out)) | (dsimp only; exact Nat.ne_of_lt (zS (by have := zR _ _ hw131_0; first | rwa [add_block] at this | exact this) GW135.out))) _).trans (((zP (p := ⟨gb135, _, none⟩) (by first | exact Nat.ne_of_lt (zS (by have := zR _ _ hw131_0; first | rwa [add_block] at this | exact this) GW135.out) | (rw [add_block]; exact Nat.ne_of_lt (zS (by have := zR _ _ hw131_0; first | rwa [add_block] at this | exact this) GW135.out)) | (show (Addr.add _ _).block ≠ _; rw [add_block]; exact Nat.ne_of_lt (zS (by have := zR _ _ hw131_0; first | rwa [add_block] at this | exact this) GW135.out)) | (dsimp only; exact Nat.ne_of_lt (zS (by have := zR _ _ hw131_0; first | rwa [add_block] at this | exact this) GW135.out))) _).trans (hHeld.1)))))))))))))))), ((zP (p := ⟨gb135, _, none⟩) (by first | exact Nat.ne_of_lt (zS (by have := zR _ _ hw131_1; first | rwa [add_block] at this | exact this) GW135.out) | (rw [add_block]; exact Nat.ne_of_lt (zS (by have := zR _ _ hw131_1; first | rwa [add_block] at this | exact this) GW135.out)) | (show (Addr.add _ _).block ≠ _; rw [add_block]; exact Nat.ne_of_lt (zS (by have := zR _ _ hw131_1; first | rwa [add_block] at this | exact this) GW135.out)) | (dsimp only; exact Nat.ne_of_lt (zS (by have := zR _ _ hw131_1; first | rwa [add_block] at this | exact this) GW135.out))) _).trans (((zP (p := ⟨gb135, _, none⟩) (by first | exact Nat.ne_of_lt (zS (by have := zR _ _ hw131_1; first | rwa [add_block] at this | exact this) GW135.out) | (rw [add_block]; exact Nat.ne_of_lt (zS (by have := zR _ _ hw131_1; first | rwa [add_block] at this | exact this) GW135.out)) | (show (Addr.add _ _).block ≠ _; rw [add_block]; exact Nat.ne_of_lt (zS (by have := zR _ _ hw131_1; first | rwa [add_block] at this | exact this) GW135.out)) | (dsimp only; exact Nat.ne_of_lt (zS (by have := zR _ _ hw131_1; first | rwa [add_block] at this | exact this) GW135.out))) _).trans (((zP (p := ⟨gb135, _, none⟩) (by first | exact Nat.ne_of_lt (zS (by have := zR _ _ hw131_1; first | rwa [add_block] at this | exact this) GW135.out) | (rw [add_block]; exact Nat.ne_of_lt (zS (by have := zR _ _ hw131_1; first | rwa [add_block] at this | exact this) GW135.out)) | (show (Addr.add _ _).block ≠ _; rw [add_block]; exact Nat.ne_of_lt (zS (by have := zR _ _ hw131_1; first | rwa [add_block] at this | exact this) GW135.out)) | (dsimp only; exact Nat.ne_of_lt (zS (by have := zR _ _ hw131_1; first | rwa [add_block] at this | exact this) GW135.out))) _).trans (((zP (p := ⟨gb135, _, none⟩) (by first | exact Nat.ne_of_lt (zS (by have := zR _ _ hw131_1; first | rwa [add_block] at this | exact this) GW135.out) | (rw [add_block]; exact Nat.ne_of_lt (zS (by have := zR _ _ hw131_1; first | rwa [add_block] at this | exact this) GW135.out)) | (show (Addr.add _ _).block ≠ _; rw [add_block]; exact Nat.ne_of_lt (zS (by have := zR _ _ hw131_1; first | rwa [add_block] at this | exact this) GW135.out)) | (dsimp only; exact Nat.ne_of_lt (zS (by have := zR _ _ hw131_1; first | rwa [add_block] at this | exact this) GW135.out))) _).trans (((zP (p := ⟨gb135, _, none⟩) (by first | exact Nat.ne_of_lt (zS (by have := zR _ _ hw131_1; first | rwa [add_block] at this | exact this) GW135.out) | (rw [add_block]; exact Nat.ne_of_lt (zS (by have := zR _ _ hw131_1; first | rwa [add_block] at this | exact this) GW135.out)) | (show (Addr.add _ _).block ≠ _; rw [add_block]; exact Nat.ne_of_lt (zS (by have := zR _ _ hw131_1; first | rwa [add_block] at this | exact this) GW135.out)) | (dsimp only; exact Nat.ne_of_lt (zS (by have := zR _ _ hw131_1; first | rwa [add_block] at this | exact this) GW135.out))) _).trans (((zP (p := ⟨gb135, _, none⟩) (by first | exact Nat.ne_of_lt (zS (by have := zR _ _ hw131_1; first | rwa [add_block] at this | exact this) GW135.out) | (rw [add_block]; exact Nat.ne_of_lt (zS (by have := zR _ _ hw131_1; first | rwa [add_block] at this | exact this) GW135.out)) | (show (Addr.add _ _).block ≠ _; rw [add_block]; exact Nat.ne_of_lt (zS (by have := zR _ _ hw131_1; first | rwa [add_block] at this | exact this) GW135.out)) | (dsimp only; exact Nat.ne_of_lt (zS (by have := zR _ _ hw131_1; first | rwa [add_block] at this | exact this) GW135.out))) _).trans (((zP (p := ⟨gb135, _, none⟩) (by first | exact Nat.ne_of_lt (zS (by have := zR _ _ hw131_1; first | rwa [add_block] at this | exact this) GW135.out) | (rw [add_block]; exact Nat.ne_of_lt (zS (by have := zR _ _ hw131_1; first | rwa [add_block] at this | exact this) GW135.out)) | (show (Addr.add _ _).block ≠ _; rw [add_block]; exact Nat.ne_of_lt (zS (by have := zR _ _ hw131_1; first | rwa [add_block] at this | exact this) GW135.out)) | (dsimp only; exact Nat.ne_of_lt (zS (by have := zR _ _ hw131_1; first | rwa [add_block] at this | exact this) GW135.out))) _).trans (((zP (p := ⟨gb135, _, none⟩) (by first | exact Nat.ne_of_lt (zS (by have := zR _ _ hw131_1; first | rwa [add_block] at this | exact this) GW135.out) | (rw [add_block]; exact Nat.ne_of_lt (zS (by have := zR _ _ hw131_1; first | rwa [add_block] at this | exact this) GW135.out)) | (show (Addr.add _ _).block ≠ _; rw [add_block]; exact Nat.ne_of_lt (zS (by have := zR _ _ hw131_1; first | rwa [add_block] at this | exact this) GW135.out)) | (dsimp only; exact Nat.ne_of_lt (zS (by have := zR _ _ hw131_1; first | rwa [add_block] at this | exact this) GW135.out))) _).trans (hHeld.2.1)))))))))))))))), ((zP (p := ⟨gb135, _, none⟩) (by first | exact Nat.ne_of_lt (zS (by have := zR _ _ hw132_0; first | rwa [add_block] at this | exact this) GW135.out) | (rw [add_block]; exact Nat.ne_of_lt (zS (by have := zR _ _ hw132_0; first | rwa [add_block] at this | exact this) GW135.out)) | (show (Addr.add _ _).block ≠ _; rw [add_block]; exact Nat.ne_of_lt (zS (by have := zR _ _ hw132_0; first | rwa [add_block] at this | exact this) GW135.out)) | (dsimp only; exact Nat.ne_of_lt (zS (by have := zR _ _ hw132_0; first | rwa [add_block] at this | exact this) GW135.out))) _).trans (((zP (p := ⟨gb135, _, none⟩) (by first | exact Nat.ne_of_lt (zS (by have := zR _ _ hw132_0; first | rwa [add_block] at this | exact this) GW135.out) | (rw [add_block]; exact Nat.ne_of_lt (zS (by have := zR _ _ hw132_0; first | rwa [add_block] at this | exact this) GW135.out)) | (show (Addr.add _ _).block ≠ _; rw [add_block]; exact Nat.ne_of_lt (zS (by have := zR _ _ hw132_0; first | rwa [add_block] at this | exact this) GW135.out)) | (dsimp only; exact Nat.ne_of_lt (zS (by have := zR _ _ hw132_0; first | rwa [add_block] at this | exact this) GW135.out))) _).trans (((zP (p := ⟨gb135, _, none⟩) (by first | exact Nat.ne_of_lt (zS (by have := zR _ _ hw132_0; first | rwa [add_block] at this | exact this) GW135.out) | (rw [add_block]; exact Nat.ne_of_lt (zS (by have := zR _ _ hw132_0; first | rwa [add_block] at this | exact this) GW135.out)) | (show (Addr.add _ _).block ≠ _; rw [add_block]; exact Nat.ne_of_lt (zS (by have := zR _ _ hw132_0; first | rwa [add_block] at this | exact this) GW135.out)) | (dsimp only; exact Nat.ne_of_lt (zS (by have := zR _ _ hw132_0; first | rwa [add_block] at this | exact this) GW135.out))) _).trans (((zP (p := ⟨gb135, _, none⟩) (by first | exact Nat.ne_of_lt (zS (by have := zR _ _ hw132_0; first | rwa [add_block] at this | exact this) GW135.out) | (rw [add_block]; exact Nat.ne_of_lt (zS (by have := zR _ _ hw132_0; first | rwa [add_block] at this | exact this) GW135.out)) | (show (Addr.add _ _).block ≠ _; rw [add_block]; exact Nat.ne_of_lt (zS (by have := zR _ _ hw132_0; first | rwa [add_block] at this | exact this) GW135.out)) | (dsimp only; exact Nat.ne_of_lt (zS (by have := zR _ _ hw132_0; first | rwa [add_block] at this | exact this) GW135.out))) _).trans (((zP (p := ⟨gb135, _, none⟩) (by first | exact Nat.ne_of_lt (zS (by have := zR _ _ hw132_0; first | rwa [add_block] at this | exact this) GW135.out) | (rw [add_block]; exact Nat.ne_of_lt (zS (by have := zR _ _ hw132_0; first | rwa [add_block] at this | exact this) GW135.out)) | (show (Addr.add _ _).block ≠ _; rw [add_block]; exact Nat.ne_of_lt (zS (by have := zR _ _ hw132_0; first | rwa [add_block] at this | exact this) GW135.out)) | (dsimp only; exact Nat.ne_of_lt (zS (by have := zR _ _ hw132_0; first | rwa [add_block] at this | exact this) GW135.out))) _).trans (((zP (p := ⟨gb135, _, none⟩) (by first | exact Nat.ne_of_lt (zS (by have := zR _ _ hw132_0; first | rwa [add_block] at this | exact this) GW135.out) | (rw [add_block]; exact Nat.ne_of_lt (zS (by have := zR _ _ hw132_0; first | rwa [add_block] at this | exact this) GW135.out)) | (show (Addr.add _ _).block ≠ _; rw [add_block]; exact Nat.ne_of_lt (zS (by have := zR _ _ hw132_0; first | rwa [add_block] at this | exact this) GW135.out)) | (dsimp only; exact Nat.ne_of_lt (zS (by have := zR _ _ hw132_0; first | rwa [add_block] at this | exact this) GW135.out))) _).trans (((zP (p := ⟨gb135, _, none⟩) (by first | exact Nat.ne_of_lt (zS (by have := zR _ _ hw132_0; first | rwa [add_block] at this | exact this) GW135.out) | (rw [add_block]; exact Nat.ne_of_lt (zS (by have := zR _ _ hw132_0; first | rwa [add_block] at this | exact this) GW135.out)) | (show (Addr.add _ _).block ≠ _; rw [add_block]; exact Nat.ne_of_lt (zS (by have := zR _ _ hw132_0; first | rwa [add_block] at this | exact this) GW135.out)) | (dsimp only; exact Nat.ne_of_lt (zS (by have := zR _ _ hw132_0; first | rwa [add_block] at this | exact this) GW135.out))) _).trans (((zP (p := ⟨gb135, _, none⟩) (by first | exact Nat.ne_of_lt (zS (by have := zR _ _ hw132_0; first | rwa [add_block] at this | exact this) GW135.out) | (rw [add_block]; exact Nat.ne_of_lt (zS (by have := zR _ _ hw132_0; first | rwa [add_block] at this | exact this) GW135.out)) | (show (Addr.add _ _).block ≠ _; rw [add_block]; exact Nat.ne_of_lt (zS (by have := zR _ _ hw132_0; first | rwa [add_block] at this | exact this) GW135.out)) | (dsimp only; exact Nat.ne_of_lt (zS (by have := zR _ _ hw132_0; first | rwa [add_block] at this | exact this) GW135.out))) _).trans (hHeld.2.2.1)))))))))))))))), ((zP (p := ⟨gb135, _, none⟩) (by first | exact Nat.ne_of_lt (zS (by have := zR _ _ hw132_1; first | rwa [add_block] at this | exact this) GW135.out) | (rw [add_block]; exact Nat.ne_of_lt (zS (by have := zR _ _ hw132_1; first | rwa [add_block] at this | exact this) GW135.out)) | (show (Addr.add _ _).block ≠ _; rw [add_block]; exact Nat.ne_of_lt (zS (by have := zR _ _ hw132_1; first | rwa [add_block] at this | exact this) GW135.out)) | (dsimp only; exact Nat.ne_of_lt (zS (by have := zR _ _ hw132_1; first | rwa [add_block] at this | exact this) GW135.out))) _).trans (((zP (p := ⟨gb135, _, none⟩) (by first | exact Nat.ne_of_lt (zS (by have := zR _ _ hw132_1; first | rwa [add_block] at this | exact this) GW135.out) | (rw [add_block]; exact Nat.ne_of_lt (zS (by have := zR _ _ hw132_1; first | rwa [add_block] at this | exact this) GW135.out)) | (show (Addr.add _ _).block ≠ _; rw [add_block]; exact Nat.ne_of_lt (zS (by have := zR _ _ hw132_1; first | rwa [add_block] at this | exact this) GW135.out)) | (dsimp only; exact Nat.ne_of_lt (zS (by have := zR _ _ hw132_1; first | rwa [add_block] at this | exact this) GW135.out))) _).trans (((zP (p := ⟨gb135, _, none⟩) (by first | exact Nat.ne_of_lt (zS (by have := zR _ _ hw132_1; first | rwa [add_block] at this | exact this) GW135.out) | (rw [add_block]; exact Nat.ne_of_lt (zS (by have := zR _ _ hw132_1; first | rwa [add_block] at this | exact this) GW135.out)) | (show (Addr.add _ _).block ≠ _; rw [add_block]; exact Nat.ne_of_lt (zS (by have := zR _ _ hw132_1; first | rwa [add_block] at this | exact this) GW135.out)) | (dsimp only; exact Nat.ne_of_lt (zS (by have := zR _ _ hw132_1; first | rwa [add_block] at this | exact this) GW135.out))) _).trans (((zP (p := ⟨gb135, _, none⟩) (by first | exact Nat.ne_of_lt (zS (by have := zR _ _ hw132_1; first | rwa [add_block] at this | exact this) GW135.out) | (rw [add_block]; exact Nat.ne_of_lt (zS (by have := zR _ _ hw132_1; first | rwa [add_block] at this | exact this) GW135.out)) | (show (Addr.add _ _).block ≠ _; rw [add_block]; exact Nat.ne_of_lt (zS (by have := zR _ _ hw132_1; first | rwa [add_block] at this | exact this) GW135.out)) | (dsimp only; exact Nat.ne_of_lt (zS (by have := zR _ _ hw132_1; first | rwa [add_block] at this | exact this) GW135.out))) _).trans (((zP (p := ⟨gb135, _, none⟩) (by first | exact Nat.ne_of_lt (zS (by have := zR _ _ hw132_1; first | rwa [add_block] at this | exact this) GW135.out) | (rw [add_block]; exact Nat.ne_of_lt (zS (by have := zR _ _ hw132_1; first | rwa [add_block] at this | exact this) GW135.out)) | (show (Addr.add _ _).block ≠ _; rw [add_block]; exact Nat.ne_of_lt (zS (by have := zR _ _ hw132_1; first | rwa [add_block] at this | exact this) GW135.out)) | (dsimp only; exact Nat.ne_of_lt (zS (by have := zR _ _ hw132_1; first | rwa [add_block] at this | exact this) GW135.out))) _).trans (((zP (p := ⟨gb135, _, none⟩) (by first | exact Nat.ne_of_lt (zS (by have := zR _ _ hw132_1; first | rwa [add_block] at this | exact this) GW135.out) | (rw [add_block]; exact Nat.ne_of_lt (zS (by have := zR _ _ hw132_1; first | rwa [add_block] at this | exact this) GW135.out)) | (show (Addr.add _ _).block ≠ _; rw [add_block]; exact Nat.ne_of_lt (zS (by have := zR _ _ hw132_1; first | rwa [add_block] at this | exact this) GW135.out)) | (dsimp only; exact Nat.ne_of_lt (zS (by have := zR _ _ hw132_1; first | rwa [add_block] at this | exact this) GW135.out))) _).trans (((zP (p := ⟨gb135, _, none⟩) (by first | exact Nat.ne_of_lt (zS (by have := zR _ _ hw132_1; first | rwa [add_block] at this | exact this) GW135.out) | (rw [add_block]; exact Nat.ne_of_lt (zS (by have := zR _ _ hw132_1; first | rwa [add_block] at this | exact this) GW135.out)) | (show (Addr.add _ _).block ≠ _; rw [add_block]; exact Nat.ne_of_lt (zS (by have := zR _ _ hw132_1; first | rwa [add_block] at this | exact this) GW135.out)) | (dsimp only; exact Nat.ne_of_lt (zS (by have := zR _ _ hw132_1; first | rwa [add_block] at this | exact this) GW135.out))) _).trans (((zP (p := ⟨gb135, _, none⟩) (by first | exact Nat.ne_of_lt (zS (by have := zR _ _ hw132_1; first | rwa [add_block] at this | exact this) GW135.out) | (rw [add_block]; exact Nat.ne_of_lt (zS (by have := zR _ _ hw132_1; first | rwa [add_block] at this | exact this) GW135.out)) | (show (Addr.add _ _).block ≠ _; rw [add_block]; exact Nat.ne_of_lt (zS (by have := zR _ _ hw132_1; first | rwa [add_block] at this | exact this) GW135.out)) | (dsimp only; exact Nat.ne_of_lt (zS (by have := zR _ _ hw132_1; first | rwa [add_block] at this | exact this) GW135.out))) _).trans (hHeld.2.2.2.1)))))))))))))))), ((zP (p := ⟨gb135, _, none⟩) (by first | exact Nat.ne_of_lt (zS (by have := zR _ _ hw133_0; first | rwa [add_block] at this | exact this) GW135.out) | (rw [add_block]; exact Nat.ne_of_lt (zS (by have := zR _ _ hw133_0; first | rwa [add_block] at this | exact this) GW135.out)) | (show (Addr.add _ _).block ≠ _; rw [add_block]; exact Nat.ne_of_lt (zS (by have := zR _ _ hw133_0; first | rwa [add_block] at this | exact this) GW135.out)) | (dsimp only; exact Nat.ne_of_lt (zS (by have := zR _ _ hw133_0; first | rwa [add_block] at this | exact this) GW135.out))) _).trans (((zP (p := ⟨gb135, _, none⟩) (by first | exact Nat.ne_of_lt (zS (by have := zR _ _ hw133_0; first | rwa [add_block] at this | exact this) GW135.out) | (rw [add_block]; exact Nat.ne_of_lt (zS (by have := zR _ _ hw133_0; first | rwa [add_block] at this | exact this) GW135.out)) | (show (Addr.add _ _).block ≠ _; rw [add_block]; exact Nat.ne_of_lt (zS (by have := zR _ _ hw133_0; first | rwa [add_block] at this | exact this) GW135.out)) | (dsimp only; exact Nat.ne_of_lt (zS (by have := zR _ _ hw133_0; first | rwa [add_block] at this | exact this) GW135.out))) _).trans (((zP (p := ⟨gb135, _, none⟩) (by first | exact Nat.ne_of_lt (zS (by have := zR _ _ hw133_0; first | rwa [add_block] at this | exact this) GW135.out) | (rw [add_block]; exact Nat.ne_of_lt (zS (by have := zR _ _ hw133_0; first | rwa [add_block] at this | exact this) GW135.out)) | (show (Addr.add _ _).block ≠ _; rw [add_block]; exact Nat.ne_of_lt (zS (by have := zR _ _ hw133_0; first | rwa [add_block] at this | exact this) GW135.out)) | (dsimp only; exact Nat.ne_of_lt (zS (by have := zR _ _ hw133_0; first | rwa [add_block] at this | exact this) GW135.out))) _).trans (((zP (p := ⟨gb135, _, none⟩) (by first | exact Nat.ne_of_lt (zS (by have := zR _ _ hw133_0; first | rwa [add_block] at this | exact this) GW135.out) | (rw [add_block]; exact Nat.ne_of_lt (zS (by have := zR _ _ hw133_0; first | rwa [add_block] at this | exact this) GW135.out)) | (show (Addr.add _ _).block ≠ _; rw [add_block]; exact Nat.ne_of_lt (zS (by have := zR _ _ hw133_0; first | rwa [add_block] at this | exact this) GW135.out)) | (dsimp only; exact Nat.ne_of_lt (zS (by have := zR _ _ hw133_0; first | rwa [add_block] at this | exact this) GW135.out))) _).trans (((zP (p := ⟨gb135, _, none⟩) (by first | exact Nat.ne_of_lt (zS (by have := zR _ _ hw133_0; first | rwa [add_block] at this | exact this) GW135.out) | (rw [add_block]; exact Nat.ne_of_lt (zS (by have := zR _ _ hw133_0; first | rwa [add_block] at this | exact this) GW135.out)) | (show (Addr.add _ _).block ≠ _; rw [add_block]; exact Nat.ne_of_lt (zS (by have := zR _ _ hw133_0; first | rwa [add_block] at this | exact this) GW135.out)) | (dsimp only; exact Nat.ne_of_lt (zS (by have := zR _ _ hw133_0; first | rwa [add_block] at this | exact this) GW135.out))) _).trans (((zP (p := ⟨gb135, _, none⟩) (by first | exact Nat.ne_of_lt (zS (by have := zR _ _ hw133_0; first | rwa [add_block] at this | exact this) GW135.out) | (rw [add_block]; exact Nat.ne_of_lt (zS (by have := zR _ _ hw133_0; first | rwa [add_block] at this | exact this) GW135.out)) | (show (Addr.add _ _).block ≠ _; rw [add_block]; exact Nat.ne_of_lt (zS (by have := zR _ _ hw133_0; first | rwa [add_block] at this | exact this) GW135.out)) | (dsimp only; exact Nat.ne_of_lt (zS (by have := zR _ _ hw133_0; first | rwa [add_block] at this | exact this) GW135.out))) _).trans (((zP (p := ⟨gb135, _, none⟩) (by first | exact Nat.ne_of_lt (zS (by have := zR _ _ hw133_0; first | rwa [add_block] at this | exact this) GW135.out) | (rw [add_block]; exact Nat.ne_of_lt (zS (by have := zR _ _ hw133_0; first | rwa [add_block] at this | exact this) GW135.out)) | (show (Addr.add _ _).block ≠ _; rw [add_block]; exact Nat.ne_of_lt (zS (by have := zR _ _ hw133_0; first | rwa [add_block] at this | exact this) GW135.out)) | (dsimp only; exact Nat.ne_of_lt (zS (by have := zR _ _ hw133_0; first | rwa [add_block] at this | exact this) GW135.out))) _).trans (((zP (p := ⟨gb135, _, none⟩) (by first | exact Nat.ne_of_lt (zS (by have := zR _ _ hw133_0; first | rwa [add_block] at this | exact this) GW135.out) | (rw [add_block]; exact Nat.ne_of_lt (zS (by have := zR _ _ hw133_0; first | rwa [add_block] at this | exact this) GW135.out)) | (show (Addr.add _ _).block ≠ _; rw [add_block]; exact Nat.ne_of_lt (zS (by have := zR _ _ hw133_0; first | rwa [add_block] at this | exact this) GW135.out)) | (dsimp only; exact Nat.ne_of_lt (zS (by have := zR _ _ hw133_0; first | rwa [add_block] at this | exact this) GW135.out))) _).trans (hHeld.2.2.2.2.1)))))))))))))))), ((zP (p := ⟨gb135, _, none⟩) (by first | exact Nat.ne_of_lt (zS (by have := zR _ _ hw133_1; first | rwa [add_block] at this | exact this) GW135.out) | (rw [add_block]; exact Nat.ne_of_lt (zS (by have := zR _ _ hw133_1; first | rwa [add_block] at this | exact this) GW135.out)) | (show (Addr.add _ _).block ≠ _; rw [add_block]; exact Nat.ne_of_lt (zS (by have := zR _ _ hw133_1; first | rwa [add_block] at this | exact this) GW135.out)) | (dsimp only; exact Nat.ne_of_lt (zS (by have := zR _ _ hw133_1; first | rwa [add_block] at this | exact this) GW135.out))) _).trans (((zP (p := ⟨gb135, _, none⟩) (by first | exact Nat.ne_of_lt (zS (by have := zR _ _ hw133_1; first | rwa [add_block] at this | exact this) GW135.out) | (rw [add_block]; exact Nat.ne_of_lt (zS (by have := zR _ _ hw133_1; first | rwa [add_block] at this | exact this) GW135.out)) | (show (Addr.add _ _).block ≠ _; rw [add_block]; exact Nat.ne_of_lt (zS (by have := zR _ _ hw133_1; first | rwa [add_block] at this | exact this) GW135.out)) | (dsimp only; exact Nat.ne_of_lt (zS (by have := zR _ _ hw133_1; first | rwa [add_block] at this | exact this) GW135.out))) _).trans (((zP (p := ⟨gb135, _, none⟩) (by first | exact Nat.ne_of_lt (zS (by have := zR _ _ hw133_1; first | rwa [add_block] at this | exact this) GW135.out) | (rw [add_block]; exact Nat.ne_of_lt (zS (by have := zR _ _ hw133_1; first | rwa [add_block] at this | exact this) GW135.out)) | (show (Addr.add _ _).block ≠ _; rw [add_block]; exact Nat.ne_of_lt (zS (by have := zR _ _ hw133_1; first | rwa [add_block] at this | exact this) GW135.out)) | (dsimp only; exact Nat.ne_of_lt (zS (by have := zR _ _ hw133_1; first | rwa [add_block] at this | exact this) GW135.out))) _).trans (((zP (p := ⟨gb135, _, none⟩) (by first | exact Nat.ne_of_lt (zS (by have := zR _ _ hw133_1; first | rwa [add_block] at this | exact this) GW135.out) | (rw [add_block]; exact Nat.ne_of_lt (zS (by have := zR _ _ hw133_1; first | rwa [add_block] at this | exact this) GW135.out)) | (show (Addr.add _ _).block ≠ _; rw [add_block]; exact Nat.ne_of_lt (zS (by have := zR _ _ hw133_1; first | rwa [add_block] at this | exact this) GW135.out)) | (dsimp only; exact Nat.ne_of_lt (zS (by have := zR _ _ hw133_1; first | rwa [add_block] at this | exact this) GW135.out))) _).trans (((zP (p := ⟨gb135, _, none⟩) (by first | exact Nat.ne_of_lt (zS (by have := zR _ _ hw133_1; first | rwa [add_block] at this | exact this) GW135.out) | (rw [add_block]; exact Nat.ne_of_lt (zS (by have := zR _ _ hw133_1; first | rwa [add_block] at this | exact this) GW135.out)) | (show (Addr.add _ _).block ≠ _; rw [add_block]; exact Nat.ne_of_lt (zS (by have := zR _ _ hw133_1; first | rwa [add_block] at this | exact this) GW135.out)) | (dsimp only; exact Nat.ne_of_lt (zS (by have := zR _ _ hw133_1; first | rwa [add_block] at this | exact this) GW135.out))) _).trans (((zP (p := ⟨gb135, _, none⟩) (by first | exact Nat.ne_of_lt (zS (by have := zR _ _ hw133_1; first | rwa [add_block] at this | exact this) GW135.out) | (rw [add_block]; exact Nat.ne_of_lt (zS (by have := zR _ _ hw133_1; first | rwa [add_block] at this | exact this) GW135.out)) | (show (Addr.add _ _).block ≠ _; rw [add_block]; exact Nat.ne_of_lt (zS (by have := zR _ _ hw133_1; first | rwa [add_block] at this | exact this) GW135.out)) | (dsimp only; exact Nat.ne_of_lt (zS (by have := zR _ _ hw133_1; first | rwa [add_block] at this | exact this) GW135.out))) _).trans (((zP (p := ⟨gb135, _, none⟩) (by first | exact Nat.ne_of_lt (zS (by have := zR _ _ hw133_1; first | rwa [add_block] at this | exact this) GW135.out) | (rw [add_block]; exact Nat.ne_of_lt (zS (by have := zR _ _ hw133_1; first | rwa [add_block] at this | exact this) GW135.out)) | (show (Addr.add _ _).block ≠ _; rw [add_block]; exact Nat.ne_of_lt (zS (by have := zR _ _ hw133_1; first | rwa [add_block] at this | exact this) GW135.out)) | (dsimp only; exact Nat.ne_of_lt (zS (by have := zR _ _ hw133_1; first | rwa [add_block] at this | exact this) GW135.out))) _).trans (((zP (p := ⟨gb135, _, none⟩) (by first | exact Nat.ne_of_lt (zS (by have := zR _ _ hw133_1; first | rwa [add_block] at this | exact this) GW135.out) | (rw [add_block]; exact Nat.ne_of_lt (zS (by have := zR _ _ hw133_1; first | rwa [add_block] at this | exact this) GW135.out)) | (show (Addr.add _ _).block ≠ _; rw [add_block]; exact Nat.ne_of_lt (zS (by have := zR _ _ hw133_1; first | rwa [add_block] at this | exact this) GW135.out)) | (dsimp only; exact Nat.ne_of_lt (zS (by have := zR _ _ hw133_1; first | rwa [add_block] at this | exact this) GW135.out))) _).trans (hHeld.2.2.2.2.2.1)))))))))))))))), ((zP (p := ⟨gb135, _, none⟩) (by first | exact Nat.ne_of_lt (zS (by have := zR _ _ hw134_0; first | rwa [add_block] at this | exact this) GW135.out) | (rw [add_block]; exact Nat.ne_of_lt (zS (by have := zR _ _ hw134_0; first | rwa [add_block] at this | exact this) GW135.out)) | (show (Addr.add _ _).block ≠ _; rw [add_block]; exact Nat.ne_of_lt (zS (by have := zR _ _ hw134_0; first | rwa [add_block] at this | exact this) GW135.out)) | (dsimp only; exact Nat.ne_of_lt (zS (by have := zR _ _ hw134_0; first | rwa [add_block] at this | exact this) GW135.out))) _).trans (((zP (p := ⟨gb135, _, none⟩) (by first | exact Nat.ne_of_lt (zS (by have := zR _ _ hw134_0; first | rwa [add_block] at this | exact this) GW135.out) | (rw [add_block]; exact Nat.ne_of_lt (zS (by have := zR _ _ hw134_0; first | rwa [add_block] at this | exact this) GW135.out)) | (show (Addr.add _ _).block ≠ _; rw [add_block]; exact Nat.ne_of_lt (zS (by have := zR _ _ hw134_0; first | rwa [add_block] at this | exact this) GW135.out)) | (dsimp only; exact Nat.ne_of_lt (zS (by have := zR _ _ hw134_0; first | rwa [add_block] at this | exact this) GW135.out))) _).trans (((zP (p := ⟨gb135, _, none⟩) (by first | exact Nat.ne_of_lt (zS (by have := zR _ _ hw134_0; first | rwa [add_block] at this | exact this) GW135.out) | (rw [add_block]; exact Nat.ne_of_lt (zS (by have := zR _ _ hw134_0; first | rwa [add_block] at this | exact this) GW135.out)) | (show (Addr.add _ _).block ≠ _; rw [add_block]; exact Nat.ne_of_lt (zS (by have := zR _ _ hw134_0; first | rwa [add_block] at this | exact this) GW135.out)) | (dsimp only; exact Nat.ne_of_lt (zS (by have := zR _ _ hw134_0; first | rwa [add_block] at this | exact this) GW135.out))) _).trans (((zP (p := ⟨gb135, _, none⟩) (by first | exact Nat.ne_of_lt (zS (by have := zR _ _ hw134_0; first | rwa [add_block] at this | exact this) GW135.out) | (rw [add_block]; exact Nat.ne_of_lt (zS (by have := zR _ _ hw134_0; first | rwa [add_block] at this | exact this) GW135.out)) | (show (Addr.add _ _).block ≠ _; rw [add_block]; exact Nat.ne_of_lt (zS (by have := zR _ _ hw134_0; first | rwa [add_block] at this | exact this) GW135.out)) | (dsimp only; exact Nat.ne_of_lt (zS (by have := zR _ _ hw134_0; first | rwa [add_block] at this | exact this) GW135.out))) _).trans (((zP (p := ⟨gb135, _, none⟩) (by first | exact Nat.ne_of_lt (zS (by have := zR _ _ hw134_0; first | rwa [add_block] at this | exact this) GW135.out) | (rw [add_block]; exact Nat.ne_of_lt (zS (by have := zR _ _ hw134_0; first | rwa [add_block] at this | exact this) GW135.out)) | (show (Addr.add _ _).block ≠ _; rw [add_block]; exact Nat.ne_of_lt (zS (by have := zR _ _ hw134_0; first | rwa [add_block] at this | exact this) GW135.out)) | (dsimp only; exact Nat.ne_of_lt (zS (by have := zR _ _ hw134_0; first | rwa [add_block] at this | exact this) GW135.out))) _).trans (((zP (p := ⟨gb135, _, none⟩) (by first | exact Nat.ne_of_lt (zS (by have := zR _ _ hw134_0; first | rwa [add_block] at this | exact this) GW135.out) | (rw [add_block]; exact Nat.ne_of_lt (zS (by have := zR _ _ hw134_0; first | rwa [add_block] at this | exact this) GW135.out)) | (show (Addr.add _ _).block ≠ _; rw [add_block]; exact Nat.ne_of_lt (zS (by have := zR _ _ hw134_0; first | rwa [add_block] at this | exact this) GW135.out)) | (dsimp only; exact Nat.ne_of_lt (zS (by have := zR _ _ hw134_0; first | rwa [add_block] at this | exact this) GW135.out))) _).trans (((zP (p := ⟨gb135, _, none⟩) (by first | exact Nat.ne_of_lt (zS (by have := zR _ _ hw134_0; first | rwa [add_block] at this | exact this) GW135.out) | (rw [add_block]; exact Nat.ne_of_lt (zS (by have := zR _ _ hw134_0; first | rwa [add_block] at this | exact this) GW135.out)) | (show (Addr.add _ _).block ≠ _; rw [add_block]; exact Nat.ne_of_lt (zS (by have := zR _ _ hw134_0; first | rwa [add_block] at this | exact this) GW135.out)) | (dsimp only; exact Nat.ne_of_lt (zS (by have := zR _ _ hw134_0; first | rwa [add_block] at this | exact this) GW135.out))) _).trans (((zP (p := ⟨gb135, _, none⟩) (by first | exact Nat.ne_of_lt (zS (by have := zR _ _ hw134_0; first | rwa [add_block] at this | exact this) GW135.out) | (rw [add_block]; exact Nat.ne_of_lt (zS (by have := zR _ _ hw134_0; first | rwa [add_block] at this | exact this) GW135.out)) | (show (Addr.add _ _).block ≠ _; rw [add_block]; exact Nat.ne_of_lt (zS (by have := zR _ _ hw134_0; first | rwa [add_block] at this | exact this) GW135.out)) | (dsimp only; exact Nat.ne_of_lt (zS (by have := zR _ _ hw134_0; first | rwa [add_block] at this | exact this) GW135.out))) _).trans (hHeld.2.2.2.2.2.2.1)))))))))))))))), ((zP (p := ⟨gb135, _, none⟩) (by first | exact Nat.ne_of_lt (zS (by have := zR _ _ hw134_1; first | rwa [add_block] at this | exact this) GW135.out) | (rw [add_block]; exact Nat.ne_of_lt (zS (by have := zR _ _ hw134_1; first | rwa [add_block] at this | exact this) GW135.out)) | (show (Addr.add _ _).block ≠ _; rw [add_block]; exact Nat.ne_of_lt (zS (by have := zR _ _ hw134_1; first | rwa [add_block] at this | exact this) GW135.out)) | (dsimp only; exact Nat.ne_of_lt (zS (by have := zR _ _ hw134_1; first | rwa [add_block] at this | exact this) GW135.out))) _).trans (((zP (p := ⟨gb135, _, none⟩) (by first | exact Nat.ne_of_lt (zS (by have := zR _ _ hw134_1; first | rwa [add_block] at this | exact this) GW135.out) | (rw [add_block]; exact Nat.ne_of_lt (zS (by have := zR _ _ hw134_1; first | rwa [add_block] at this | exact this) GW135.out)) | (show (Addr.add _ _).block ≠ _; rw [add_block]; exact Nat.ne_of_lt (zS (by have := zR _ _ hw134_1; first | rwa [add_block] at this | exact this) GW135.out)) | (dsimp only; exact Nat.ne_of_lt (zS (by have := zR _ _ hw134_1; first | rwa [add_block] at this | exact this) GW135.out))) _).trans (((zP (p := ⟨gb135, _, none⟩) (by first | exact Nat.ne_of_lt (zS (by have := zR _ _ hw134_1; first | rwa [add_block] at this | exact this) GW135.out) | (rw [add_block]; exact Nat.ne_of_lt (zS (by have := zR _ _ hw134_1; first | rwa [add_block] at this | exact this) GW135.out)) | (show (Addr.add _ _).block ≠ _; rw [add_block]; exact Nat.ne_of_lt (zS (by have := zR _ _ hw134_1; first | rwa [add_block] at this | exact this) GW135.out)) | (dsimp only; exact Nat.ne_of_lt (zS (by have := zR _ _ hw134_1; first | rwa [add_block] at this | exact this) GW135.out))) _).trans (((zP (p := ⟨gb135, _, none⟩) (by first | exact Nat.ne_of_lt (zS (by have := zR _ _ hw134_1; first | rwa [add_block] at this | exact this) GW135.out) | (rw [add_block]; exact Nat.ne_of_lt (zS (by have := zR _ _ hw134_1; first | rwa [add_block] at this | exact this) GW135.out)) | (show (Addr.add _ _).block ≠ _; rw [add_block]; exact Nat.ne_of_lt (zS (by have := zR _ _ hw134_1; first | rwa [add_block] at this | exact this) GW135.out)) | (dsimp only; exact Nat.ne_of_lt (zS (by have := zR _ _ hw134_1; first | rwa [add_block] at this | exact this) GW135.out))) _).trans (((zP (p := ⟨gb135, _, none⟩) (by first | exact Nat.ne_of_lt (zS (by have := zR _ _ hw134_1; first | rwa [add_block] at this | exact this) GW135.out) | (rw [add_block]; exact Nat.ne_of_lt (zS (by have := zR _ _ hw134_1; first | rwa [add_block] at this | exact this) GW135.out)) | (show (Addr.add _ _).block ≠ _; rw [add_block]; exact Nat.ne_of_lt (zS (by have := zR _ _ hw134_1; first | rwa [add_block] at this | exact this) GW135.out)) | (dsimp only; exact Nat.ne_of_lt (zS (by have := zR _ _ hw134_1; first | rwa [add_block] at this | exact this) GW135.out))) _).trans (((zP (p := ⟨gb135, _, none⟩) (by first | exact Nat.ne_of_lt (zS (by have := zR _ _ hw134_1; first | rwa [add_block] at this | exact this) GW135.out) | (rw [add_block]; exact Nat.ne_of_lt (zS (by have := zR _ _ hw134_1; first | rwa [add_block] at this | exact this) GW135.out)) | (show (Addr.add _ _).block ≠ _; rw [add_block]; exact Nat.ne_of_lt (zS (by have := zR _ _ hw134_1; first | rwa [add_block] at this | exact this) GW135.out)) | (dsimp only; exact Nat.ne_of_lt (zS (by have := zR _ _ hw134_1; first | rwa [add_block] at this | exact this) GW135.out))) _).trans (((zP (p := ⟨gb135, _, none⟩) (by first | exact Nat.ne_of_lt (zS (by have := zR _ _ hw134_1; first | rwa [add_block] at this | exact this) GW135.out) | (rw [add_block]; exact Nat.ne_of_lt (zS (by have := zR _ _ hw134_1; first | rwa [add_block] at this | exact this) GW135.out)) | (show (Addr.add _ _).block ≠ _; rw [add_block]; exact Nat.ne_of_lt (zS (by have := zR _ _ hw134_1; first | rwa [add_block] at this | exact this) GW135.out)) | (dsimp only; exact Nat.ne_of_lt (zS (by have := zR _ _ hw134_1; first | rwa [add_block] at this | exact this) GW135.out))) _).trans (((zP (p := ⟨gb135, _, none⟩) (by first | exact Nat.ne_of_lt (zS (by have := zR _ _ hw134_1; first | rwa [add_block] at this | exact this) GW135.out) | (rw [add_block]; exact Nat.ne_of_lt (zS (by have := zR _ _ hw134_1; first | rwa [add_block] at this | exact this) GW135.out)) | (show (Addr.add _ _).block ≠ _; rw [add_block]; exact Nat.ne_of_lt (zS (by have := zR _ _ hw134_1; first | rwa [add_block] at this | exact this) GW135.out)) | (dsimp only; exact Nat.ne_of_lt (zS (by have := zR _ _ hw134_1; first | rwa [add_block] at this | exact this) GW135.out))) _).trans (hHeld.2.2.2.2.2.2.2))))))))))))))))⟩ (fun hHeld => ?_)
    clear hK K
    refine done_ (done_of HT_.out (by kernel_rfl)) ?_
    try go_wp2
    go_loopg [33] k (fun kq v33 w' => ∃ (x33_1 : Int) (x136002_1 : Int) (x136003_1 : Int) (x136004_1 : Int) (x136007_1 : Int), v33 = .int .i64 x33_1 ∧ Aside0 (spec_l11Agg.l0 kq l0 l0 (l0.length : Int) x33_1 a1 (l0.length : Int) x136002_1 x136003_1 x136004_1 ((rd_T81 l0 0).f1) ((rd_T81 l0 (ji4)).f1) x136007_1 = some (r1, r2, r3, r4, r5, r6, r7, r8)) ∧ Aside0 (kq ≤ k) ∧ Aside0 (w'.heap[gb130]? = some (.cells #[.int .i64 0, .int .i64 0, .int .i64 0, .int .i64 0, .int .i64 0, .int .i64 0, .int .i64 0, .int .i64 0] 78 (0, 0))) ∧ Aside0 (w'.heap[gb135]? = some (.cells #[.int .i64 a1, .int .i64 (l0.length : Int), .int .i64 x136002_1, .int .i64 x136003_1, .int .i64 x136004_1, .int .i64 ((rd_T81 l0 0).f1), .int .i64 ((rd_T81 l0 (ji4)).f1), .int .i64 x136007_1] 78 (0, 0))) ∧ Aside0 (Below w.heap.size w w'))
    case atStart => exact ⟨(0), (0), ((rd_T81 l0 0).f1), ((rd_T81 l0 0).f1), (0), (by first | rfl | (simp; done) | (simp [*]; done)), H', ⟨Nat.le_refl _⟩, ⟨by (with_reducible repeat (first | refine zE ?_ _ | refine zF ?_ | refine zD ?_ _)); refine blk_far ?_ NB130_135.out _; (with_reducible repeat (first | refine zE ?_ _ | refine zF ?_ | refine zD ?_ _)); refine blk_far ?_ NB130_135.out _; (with_reducible repeat (first | refine zE ?_ _ | refine zF ?_ | refine zD ?_ _)); refine blk_far ?_ NB130_135.out _; (with_reducible repeat (first | refine zE ?_ _ | refine zF ?_ | refine zD ?_ _)); refine blk_far ?_ NB130_135.out _; (with_reducible repeat (first | refine zE ?_ _ | refine zF ?_ | refine zD ?_ _)); refine blk_far ?_ NB130_135.out _; (with_reducible repeat (first | refine zE ?_ _ | refine zF ?_ | refine zD ?_ _)); refine blk_far ?_ NB130_135.out _; (with_reducible repeat (first | refine zE ?_ _ | refine zF ?_ | refine zD ?_ _)); refine blk_far ?_ NB130_135.out _; (with_reducible repeat (first | refine zE ?_ _ | refine zF ?_ | refine zD ?_ _)); refine blk_far ?_ NB130_135.out _; (with_reducible repeat (first | refine zE ?_ _ | refine zF ?_ | refine zD ?_ _)); exact BK130.out⟩, ⟨by (with_reducible repeat (first | refine zE ?_ _ | refine zF ?_ | refine zD ?_ _)); refine blk_put (cs := #[.int .i64 a1, .int .i64 (l0.length : Int), .int .i64 0, .int .i64 ((rd_T81 l0 0).f1), .int .i64 ((rd_T81 l0 0).f1), .int .i64 ((rd_T81 l0 0).f1), .int .i64 ((rd_T81 l0 (ji4)).f1), .int .i64 0]) ?_ 7 _ rfl; (with_reducible repeat (first | refine zE ?_ _ | refine zF ?_ | refine zD ?_ _)); refine blk_put (cs := #[.int .i64 a1, .int .i64 (l0.length : Int), .int .i64 0, .int .i64 ((rd_T81 l0 0).f1), .int .i64 ((rd_T81 l0 0).f1), .int .i64 ((rd_T81 l0 0).f1), .int .i64 0, .int .i64 0]) ?_ 6 _ rfl; (with_reducible repeat (first | refine zE ?_ _ | refine zF ?_ | refine zD ?_ _)); refine blk_put (cs := #[.int .i64 a1, .int .i64 (l0.length : Int), .int .i64 0, .int .i64 ((rd_T81 l0 0).f1), .int .i64 ((rd_T81 l0 0).f1), .int .i64 0, .int .i64 0, .int .i64 0]) ?_ 5 _ rfl; (with_reducible repeat (first | refine zE ?_ _ | refine zF ?_ | refine zD ?_ _)); refine blk_put (cs := #[.int .i64 a1, .int .i64 (l0.length : Int), .int .i64 0, .int .i64 ((rd_T81 l0 0).f1), .int .i64 0, .int .i64 0, .int .i64 0, .int .i64 0]) ?_ 4 _ rfl; (with_reducible repeat (first | refine zE ?_ _ | refine zF ?_ | refine zD ?_ _)); refine blk_put (cs := #[.int .i64 a1, .int .i64 (l0.length : Int), .int .i64 0, .int .i64 0, .int .i64 0, .int .i64 0, .int .i64 0, .int .i64 0]) ?_ 3 _ rfl; (with_reducible repeat (first | refine zE ?_ _ | refine zF ?_ | refine zD ?_ _)); refine blk_put (cs := #[.int .i64 a1, .int .i64 (l0.length : Int), .int .i64 0, .int .i64 0, .int .i64 0, .int .i64 0, .int .i64 0, .int .i64 0]) ?_ 2 _ rfl; (with_reducible repeat (first | refine zE ?_ _ | refine zF ?_ | refine zD ?_ _)); refine blk_put (cs := #[.int .i64 a1, .int .i64 0, .int .i64 0, .int .i64 0, .int .i64 0, .int .i64 0, .int .i64 0, .int .i64 0]) ?_ 1 _ rfl; (with_reducible repeat (first | refine zE ?_ _ | refine zF ?_ | refine zD ?_ _)); refine blk_put (cs := #[.int .i64 0, .int .i64 0, .int .i64 0, .int .i64 0, .int .i64 0, .int .i64 0, .int .i64 0, .int .i64 0]) ?_ 0 _ rfl; (with_reducible repeat (first | refine zE ?_ _ | refine zF ?_ | refine zD ?_ _)); exact BK135.out⟩, ⟨by repeat (first | (with_reducible first | exact HB.out | apply zA | apply zB | apply zC | refine below_set ?_ GE130.out | refine below_set ?_ GE135.out) | exact HB.out)⟩⟩
    case round =>
     clear H'
     try clear p1
     try clear q1
     try clear hx1
     try clear qi1
     try clear p2
     try clear c3
     try clear c3b0
     try clear c3b1
     try clear c4
     try clear c5
     try clear c5b0
     try clear c6
     try clear c6b0
     try clear p6
     try clear p13
     try clear q13
     try clear hx13
     try clear qi13
     try clear hx131_0
     try clear hx131_1
     try clear hx132_0
     try clear hx132_1
     try clear hx133_0
     try clear hx133_1
     try clear hx134_0
     try clear hx134_1
     try clear p131
     try clear p132
     try clear p133
     try clear p134
     try clear q131
     try clear q132
     try clear q133
     try clear q134
     obtain ⟨x33_1, x136002_1, x136003_1, x136004_1, x136007_1, rfl, HA, HK1, BK130, BK135, HB⟩ := hrel
     cases gk with
     | zero => exact absurd HA.out (by simp [spec_l11Agg.l0])
     | succ k1 =>
      have H := HA.out
      clear HA
      simp only [spec_l11Agg.l0] at H
      by_cases c18 : x33_1 < (l0.length : Int)
      ·rw [if_pos c18] at H
       have c18b0 : decide (x33_1 < (l0.length : Int)) = true := decide_eq_true c18
       clear c18
       by_cases c19 : 0 ≤ x33_1
       ·rw [if_pos c19] at H
        have c19b0 : decide (0 ≤ x33_1) = true := decide_eq_true c19
        clear c19
        by_cases c20 : x33_1 < (l0.length : Int)
        ·rw [if_pos c20] at H
         have c20b0 : decide (x33_1 < (l0.length : Int)) = true := decide_eq_true c20
         clear c20
         have HC21 := Aside0.mk H
         clear H
         have p136 : 0 ≤ (x33_1 : Int) := zX (by first | (with_reducible assumption) | assumption)
         have q136 : x33_1 < (l0.length : Int) := zX (by first | (with_reducible assumption) | assumption)
         obtain ⟨ad136, e136, hx136_0, hx136_1⟩ := at_T81 HR0.out x33_1 p136 q136
         obtain rfl : ad131 = ad136 := (by injection e136)
         replace hx136_0 := (HB.out.cell (zR w _ hx136_0)).trans hx136_0
         replace hx136_1 := (HB.out.cell (zR w _ hx136_1)).trans hx136_1
         replace p136 := eq_true p136
         replace q136 := eq_true q136
         go_upto_if 48 with (first | ((with_reducible refine gate_dst (N := 7) rfl ?_); refine box_event ?hg (N := 7) ?hd (cs := #[.int .i64 0, .int .i64 0]) (t := 81) ?hr ?_; (case hd => rfl); (case hg => rfl); (case hr => first | (go_simp; done) | (go_simp; rfl)); intro gb137 hg w22 hbox hb; have n0_ := Aside0.mk (blk_below (g := gb130) (o := cs8 78 0 0 0 0 0 0 0 0) (by (with_reducible repeat (first | refine zE ?_ _ | refine zF ?_ | refine zD ?_ _)); exact BK130.out) hb); have n1_ := Aside0.mk (blk_below (g := gb135) (o := .cells #[.int .i64 a1, .int .i64 (l0.length : Int), .int .i64 x136002_1, .int .i64 x136003_1, .int .i64 x136004_1, .int .i64 ((rd_T81 l0 0).f1), .int .i64 ((rd_T81 l0 (ji4)).f1), .int .i64 x136007_1] 78 (0, 0)) (by (with_reducible repeat (first | refine zE ?_ _ | refine zF ?_ | refine zD ?_ _)); exact BK135.out) hb); have n2_ := Aside0.mk (below_step (by repeat (first | (with_reducible first | exact HB.out | apply zA | apply zB | apply zC | refine below_set ?_ GE130.out | refine below_set ?_ GE135.out) | exact HB.out)) hb); have n3_ := Aside0.mk (hbox); have n4_ := Aside0.mk ((by rw [hg]; exact (zW (by repeat (first | (with_reducible first | exact HB.out | apply zA | apply zB | apply zC | refine below_set ?_ GE130.out | refine below_set ?_ GE135.out) | exact HB.out))) : w.heap.size ≤ gb137)); have n5_ := Aside0.mk ((by rw [hg]; exact (zW (by repeat (first | (with_reducible first | exact HB.out | apply zA | apply zB | apply zC | refine below_set ?_ GE130.out | refine below_set ?_ GE135.out) | exact HB.out))) : w.heap.size ≤ gb137)); have n6_ := Aside0.mk ((by rw [hg]; exact Nat.ne_of_lt (blk_lt (g := gb130) (o := cs8 78 0 0 0 0 0 0 0 0) (by (with_reducible repeat (first | refine zE ?_ _ | refine zF ?_ | refine zD ?_ _)); exact BK130.out)) : gb130 ≠ gb137)); have n7_ := Aside0.mk ((by rw [hg]; exact Nat.ne_of_gt (blk_lt (g := gb130) (o := cs8 78 0 0 0 0 0 0 0 0) (by (with_reducible repeat (first | refine zE ?_ _ | refine zF ?_ | refine zD ?_ _)); exact BK130.out)) : gb137 ≠ gb130)); have n8_ := Aside0.mk ((by rw [hg]; exact Nat.ne_of_lt (blk_lt (g := gb135) (o := .cells #[.int .i64 a1, .int .i64 (l0.length : Int), .int .i64 x136002_1, .int .i64 x136003_1, .int .i64 x136004_1, .int .i64 ((rd_T81 l0 0).f1), .int .i64 ((rd_T81 l0 (ji4)).f1), .int .i64 x136007_1] 78 (0, 0)) (by (with_reducible repeat (first | refine zE ?_ _ | refine zF ?_ | refine zD ?_ _)); exact BK135.out)) : gb135 ≠ gb137)); have n9_ := Aside0.mk ((by rw [hg]; exact Nat.ne_of_gt (blk_lt (g := gb135) (o := .cells #[.int .i64 a1, .int .i64 (l0.length : Int), .int .i64 x136002_1, .int .i64 x136003_1, .int .i64 x136004_1, .int .i64 ((rd_T81 l0 0).f1), .int .i64 ((rd_T81 l0 (ji4)).f1), .int .i64 x136007_1] 78 (0, 0)) (by (with_reducible repeat (first | refine zE ?_ _ | refine zF ?_ | refine zD ?_ _)); exact BK135.out)) : gb137 ≠ gb135)); clear BK130; clear BK135; clear HB; have BK130 := n0_; have BK135 := n1_; have HB := n2_; have BK137 := n3_; have GW137 := n4_; have GE137 := n5_; have NB130_137 := n6_; have NB137_130 := n7_; have NB135_137 := n8_; have NB137_135 := n9_; clear n0_ n1_ n2_ n3_ n4_ n5_ n6_ n7_ n8_ n9_; clear hb hbox hg; have hnb23 := NB137_130.out; have hnc23 := NB130_137.out; have hnb24 := NB137_135.out; have hnc24 := NB135_137.out; have hcz25_0 : w22.cell? ⟨gb137, 0, none⟩ = some (.int .i64 0) := (zQ BK137.out 0).trans rfl; have hcz25_1 : w22.cell? ⟨gb137, 1, none⟩ = some (.int .i64 0) := (zQ BK137.out 1).trans rfl; have hfz25_0 := blk_frozen BK137.out 0; have hfz25_1 := blk_frozen BK137.out 1; have hnb26 := NB135_130.out; have hnc26 := NB130_135.out; have hcz27_0 : w22.cell? ⟨gb135, 0, none⟩ = some (.int .i64 a1) := (zQ BK135.out 0).trans rfl; have hcz27_1 : w22.cell? ⟨gb135, 1, none⟩ = some (.int .i64 (l0.length : Int)) := (zQ BK135.out 1).trans rfl; have hcz27_2 : w22.cell? ⟨gb135, 2, none⟩ = some (.int .i64 x136002_1) := (zQ BK135.out 2).trans rfl; have hcz27_3 : w22.cell? ⟨gb135, 3, none⟩ = some (.int .i64 x136003_1) := (zQ BK135.out 3).trans rfl; have hcz27_4 : w22.cell? ⟨gb135, 4, none⟩ = some (.int .i64 x136004_1) := (zQ BK135.out 4).trans rfl; have hcz27_5 : w22.cell? ⟨gb135, 5, none⟩ = some (.int .i64 ((rd_T81 l0 0).f1)) := (zQ BK135.out 5).trans rfl; have hcz27_6 : w22.cell? ⟨gb135, 6, none⟩ = some (.int .i64 ((rd_T81 l0 (ji4)).f1)) := (zQ BK135.out 6).trans rfl; have hcz27_7 : w22.cell? ⟨gb135, 7, none⟩ = some (.int .i64 x136007_1) := (zQ BK135.out 7).trans rfl; have hfz27_0 := blk_frozen BK135.out 0; have hfz27_1 := blk_frozen BK135.out 1; have hfz27_2 := blk_frozen BK135.out 2; have hfz27_3 := blk_frozen BK135.out 3; have hfz27_4 := blk_frozen BK135.out 4; have hfz27_5 := blk_frozen BK135.out 5; have hfz27_6 := blk_frozen BK135.out 6; have hfz27_7 := blk_frozen BK135.out 7))
         (try simp only [Act.put, zT, zU, zV])
         go_cut [] (fun wc => ∃ (kq : Nat) (x136003_20 : Int), Aside0 (spec_l11Agg.j1 kq l0 x33_1 l0 (l0.length : Int) x33_1 a1 (l0.length : Int) (wrap64 (x136002_1 + ((rd_T81 l0 x33_1).f1))) x136003_20 x136004_1 ((rd_T81 l0 0).f1) ((rd_T81 l0 (ji4)).f1) x136007_1 ((rd_T81 l0 x33_1).f0) ((rd_T81 l0 x33_1).f1) = some (r1, r2, r3, r4, r5, r6, r7, r8)) ∧ Aside0 (kq ≤ k1) ∧ Aside0 (wc.heap[gb130]? = some (.cells #[.int .i64 0, .int .i64 0, .int .i64 0, .int .i64 0, .int .i64 0, .int .i64 0, .int .i64 0, .int .i64 0] 78 (0, 0))) ∧ Aside0 (wc.heap[gb135]? = some (.cells #[.int .i64 a1, .int .i64 (l0.length : Int), .int .i64 (wrap64 (x136002_1 + ((rd_T81 l0 x33_1).f1))), .int .i64 x136003_20, .int .i64 x136004_1, .int .i64 ((rd_T81 l0 0).f1), .int .i64 ((rd_T81 l0 (ji4)).f1), .int .i64 x136007_1] 78 (0, 0))) ∧ Aside0 (wc.heap[gb137]? = some (.cells #[.int .i64 ((rd_T81 l0 x33_1).f0), .int .i64 ((rd_T81 l0 x33_1).f1)] 81 (0, 0))) ∧ Aside0 (Below w.heap.size w wc))
         case first =>
          have H := HC21.out
          clear HC21
          by_cases c28 : ((rd_T81 l0 x33_1).f1) < x136003_1
          ·rw [if_pos c28] at H
           have c28b0 : decide (((rd_T81 l0 x33_1).f1) < x136003_1) = true := decide_eq_true c28
           clear c28
           (first | rw [c28b0] | (simp only [i64_w, i32_w]; rw [c28b0]) | skip)
           have H' := Aside0.mk H
           clear H
           have hnb29 := NB137_130.out
           have hnc29 := NB130_137.out
           have hnb30 := NB137_135.out
           have hnc30 := NB135_137.out
           have hcz31_0 : w22.cell? ⟨gb137, 0, none⟩ = some (.int .i64 0) := (zQ BK137.out 0).trans rfl
           have hcz31_1 : w22.cell? ⟨gb137, 1, none⟩ = some (.int .i64 0) := (zQ BK137.out 1).trans rfl
           have hfz31_0 := blk_frozen BK137.out 0
           have hfz31_1 := blk_frozen BK137.out 1
           have hnb32 := NB135_130.out
           have hnc32 := NB130_135.out
           have hcz33_0 : w22.cell? ⟨gb135, 0, none⟩ = some (.int .i64 a1) := (zQ BK135.out 0).trans rfl
           have hcz33_1 : w22.cell? ⟨gb135, 1, none⟩ = some (.int .i64 (l0.length : Int)) := (zQ BK135.out 1).trans rfl
           have hcz33_2 : w22.cell? ⟨gb135, 2, none⟩ = some (.int .i64 x136002_1) := (zQ BK135.out 2).trans rfl
           have hcz33_3 : w22.cell? ⟨gb135, 3, none⟩ = some (.int .i64 x136003_1) := (zQ BK135.out 3).trans rfl
           have hcz33_4 : w22.cell? ⟨gb135, 4, none⟩ = some (.int .i64 x136004_1) := (zQ BK135.out 4).trans rfl
           have hcz33_5 : w22.cell? ⟨gb135, 5, none⟩ = some (.int .i64 ((rd_T81 l0 0).f1)) := (zQ BK135.out 5).trans rfl
           have hcz33_6 : w22.cell? ⟨gb135, 6, none⟩ = some (.int .i64 ((rd_T81 l0 (ji4)).f1)) := (zQ BK135.out 6).trans rfl
           have hcz33_7 : w22.cell? ⟨gb135, 7, none⟩ = some (.int .i64 x136007_1) := (zQ BK135.out 7).trans rfl
           have hfz33_0 := blk_frozen BK135.out 0
           have hfz33_1 := blk_frozen BK135.out 1
           have hfz33_2 := blk_frozen BK135.out 2
           have hfz33_3 := blk_frozen BK135.out 3
           have hfz33_4 := blk_frozen BK135.out 4
           have hfz33_5 := blk_frozen BK135.out 5
           have hfz33_6 := blk_frozen BK135.out 6
           have hfz33_7 := blk_frozen BK135.out 7
           go_wp2
           go_meet
           case rel => exact ⟨_, ((rd_T81 l0 x33_1).f1), H', ⟨by have := HK1.out; first | omega | exact Nat.le_refl _⟩, ⟨by (with_reducible repeat (first | refine zE ?_ _ | refine zF ?_ | refine zD ?_ _)); refine blk_far ?_ NB130_135.out _; (with_reducible repeat (first | refine zE ?_ _ | refine zF ?_ | refine zD ?_ _)); refine blk_far ?_ NB130_135.out _; (with_reducible repeat (first | refine zE ?_ _ | refine zF ?_ | refine zD ?_ _)); refine blk_far ?_ NB130_137.out _; (with_reducible repeat (first | refine zE ?_ _ | refine zF ?_ | refine zD ?_ _)); refine blk_far ?_ NB130_137.out _; (with_reducible repeat (first | refine zE ?_ _ | refine zF ?_ | refine zD ?_ _)); exact BK130.out⟩, ⟨by (with_reducible repeat (first | refine zE ?_ _ | refine zF ?_ | refine zD ?_ _)); refine blk_put (cs := #[.int .i64 a1, .int .i64 (l0.length : Int), .int .i64 (wrap64 (x136002_1 + ((rd_T81 l0 x33_1).f1))), .int .i64 x136003_1, .int .i64 x136004_1, .int .i64 ((rd_T81 l0 0).f1), .int .i64 ((rd_T81 l0 (ji4)).f1), .int .i64 x136007_1]) ?_ 3 _ rfl; (with_reducible repeat (first | refine zE ?_ _ | refine zF ?_ | refine zD ?_ _)); refine blk_put (cs := #[.int .i64 a1, .int .i64 (l0.length : Int), .int .i64 x136002_1, .int .i64 x136003_1, .int .i64 x136004_1, .int .i64 ((rd_T81 l0 0).f1), .int .i64 ((rd_T81 l0 (ji4)).f1), .int .i64 x136007_1]) ?_ 2 _ rfl; (with_reducible repeat (first | refine zE ?_ _ | refine zF ?_ | refine zD ?_ _)); refine blk_far ?_ NB135_137.out _; (with_reducible repeat (first | refine zE ?_ _ | refine zF ?_ | refine zD ?_ _)); refine blk_far ?_ NB135_137.out _; (with_reducible repeat (first | refine zE ?_ _ | refine zF ?_ | refine zD ?_ _)); exact BK135.out⟩, ⟨by (with_reducible repeat (first | refine zE ?_ _ | refine zF ?_ | refine zD ?_ _)); refine blk_far ?_ NB137_135.out _; (with_reducible repeat (first | refine zE ?_ _ | refine zF ?_ | refine zD ?_ _)); refine blk_far ?_ NB137_135.out _; (with_reducible repeat (first | refine zE ?_ _ | refine zF ?_ | refine zD ?_ _)); refine blk_put (cs := #[.int .i64 ((rd_T81 l0 x33_1).f0), .int .i64 0]) ?_ 1 _ rfl; (with_reducible repeat (first | refine zE ?_ _ | refine zF ?_ | refine zD ?_ _)); refine blk_put (cs := #[.int .i64 0, .int .i64 0]) ?_ 0 _ rfl; (with_reducible repeat (first | refine zE ?_ _ | refine zF ?_ | refine zD ?_ _)); exact BK137.out⟩, ⟨by repeat (first | (with_reducible first | exact HB.out | apply zA | apply zB | apply zC | refine below_set ?_ GE130.out | refine below_set ?_ GE135.out | refine below_set ?_ GE137.out) | exact HB.out)⟩⟩
          ·rw [if_neg c28] at H
           have c28b0 : decide (((rd_T81 l0 x33_1).f1) < x136003_1) = false := decide_eq_false c28
           clear c28
           (first | rw [c28b0] | (simp only [i64_w, i32_w]; rw [c28b0]) | skip)
           have H' := Aside0.mk H
           clear H
           go_wp2
           go_meet
           case rel => exact ⟨_, (x136003_1), H', ⟨by have := HK1.out; first | omega | exact Nat.le_refl _⟩, ⟨by (with_reducible repeat (first | refine zE ?_ _ | refine zF ?_ | refine zD ?_ _)); refine blk_far ?_ NB130_135.out _; (with_reducible repeat (first | refine zE ?_ _ | refine zF ?_ | refine zD ?_ _)); refine blk_far ?_ NB130_137.out _; (with_reducible repeat (first | refine zE ?_ _ | refine zF ?_ | refine zD ?_ _)); refine blk_far ?_ NB130_137.out _; (with_reducible repeat (first | refine zE ?_ _ | refine zF ?_ | refine zD ?_ _)); exact BK130.out⟩, ⟨by (with_reducible repeat (first | refine zE ?_ _ | refine zF ?_ | refine zD ?_ _)); refine blk_put (cs := #[.int .i64 a1, .int .i64 (l0.length : Int), .int .i64 x136002_1, .int .i64 x136003_1, .int .i64 x136004_1, .int .i64 ((rd_T81 l0 0).f1), .int .i64 ((rd_T81 l0 (ji4)).f1), .int .i64 x136007_1]) ?_ 2 _ rfl; (with_reducible repeat (first | refine zE ?_ _ | refine zF ?_ | refine zD ?_ _)); refine blk_far ?_ NB135_137.out _; (with_reducible repeat (first | refine zE ?_ _ | refine zF ?_ | refine zD ?_ _)); refine blk_far ?_ NB135_137.out _; (with_reducible repeat (first | refine zE ?_ _ | refine zF ?_ | refine zD ?_ _)); exact BK135.out⟩, ⟨by (with_reducible repeat (first | refine zE ?_ _ | refine zF ?_ | refine zD ?_ _)); refine blk_far ?_ NB137_135.out _; (with_reducible repeat (first | refine zE ?_ _ | refine zF ?_ | refine zD ?_ _)); refine blk_put (cs := #[.int .i64 ((rd_T81 l0 x33_1).f0), .int .i64 0]) ?_ 1 _ rfl; (with_reducible repeat (first | refine zE ?_ _ | refine zF ?_ | refine zD ?_ _)); refine blk_put (cs := #[.int .i64 0, .int .i64 0]) ?_ 0 _ rfl; (with_reducible repeat (first | refine zE ?_ _ | refine zF ?_ | refine zD ?_ _)); exact BK137.out⟩, ⟨by repeat (first | (with_reducible first | exact HB.out | apply zA | apply zB | apply zC | refine below_set ?_ GE130.out | refine below_set ?_ GE135.out | refine below_set ?_ GE137.out) | exact HB.out)⟩⟩
         case rest =>
          clear HC21
          try clear c1
          try clear p1
          try clear q1
          try clear hx1
          try clear qi1
          try clear c2
          try clear p2
          try clear c3
          try clear c3b0
          try clear c3b1
          try clear c4
          try clear c5
          try clear c5b0
          try clear c6
          try clear c6b0
          try clear p6
          try clear p13
          try clear q13
          try clear hx13
          try clear qi13
          try clear c18
          try clear c18b0
          try clear c19
          try clear c19b0
          try clear c20
          try clear c20b0
          try clear c23
          try clear c24
          try clear c26
          try clear c28
          try clear c28b0
          try clear c29
          try clear c30
          try clear c32
          try clear hcz25_0
          try clear hcz25_1
          try clear hcz27_0
          try clear hcz27_1
          try clear hcz27_2
          try clear hcz27_3
          try clear hcz27_4
          try clear hcz27_5
          try clear hcz27_6
          try clear hcz27_7
          try clear hcz31_0
          try clear hcz31_1
          try clear hcz33_0
          try clear hcz33_1
          try clear hcz33_2
          try clear hcz33_3
          try clear hcz33_4
          try clear hcz33_5
          try clear hcz33_6
          try clear hcz33_7
          try clear hfz25_0
          try clear hfz25_1
          try clear hfz27_0
          try clear hfz27_1
          try clear hfz27_2
          try clear hfz27_3
          try clear hfz27_4
          try clear hfz27_5
          try clear hfz27_6
          try clear hfz27_7
          try clear hfz31_0
          try clear hfz31_1
          try clear hfz33_0
          try clear hfz33_1
          try clear hfz33_2
          try clear hfz33_3
          try clear hfz33_4
          try clear hfz33_5
          try clear hfz33_6
          try clear hfz33_7
          try clear hx131_0
          try clear hx131_1
          try clear hx132_0
          try clear hx132_1
          try clear hx133_0
          try clear hx133_1
          try clear hx134_0
          try clear hx134_1
          try clear hx136_0
          try clear hx136_1
          try clear p1
          try clear p13
          try clear p131
          try clear p132
          try clear p133
          try clear p134
          try clear p136
          try clear p2
          try clear p6
          try clear q1
          try clear q13
          try clear q131
          try clear q132
          try clear q133
          try clear q134
          try clear q136
          obtain ⟨kq, x136003_20, HA, HJ20, BK130, BK135, BK137, HB⟩ := hcut
          cases kq with
          | zero => exact absurd HA.out (by simp [spec_l11Agg.j1])
          | succ kj20 =>
           have H := HA.out
           clear HA
           simp only [spec_l11Agg.j1] at H
           by_cases c34 : ((rd_T81 l0 x33_1).f1) > x136004_1
           ·rw [if_pos c34] at H
            have c34b0 : decide (x136004_1 < ((rd_T81 l0 x33_1).f1)) = true := decide_eq_true c34
            clear c34
            by_cases c35 : x33_1 > 0
            ·rw [if_pos c35] at H
             have c35b0 : decide (0 < x33_1) = true := decide_eq_true c35
             clear c35
             obtain ⟨ji36, hji36⟩ : ∃ j_ : Int, (wrap64 (x33_1 - 1)) = j_ := ⟨_, rfl⟩
             replace H : (if 0 ≤ (ji36) then (if (ji36) < (l0.length : Int) then ((spec_l11Rise.f ((rd_T81 l0 (ji36)).f1) ((rd_T81 l0 x33_1).f1)).bind fun t139 => (spec_l11Agg.l0 kj20 l0 l0 (l0.length : Int) (wrap64 (x33_1 + 1)) a1 (l0.length : Int) (wrap64 (x136002_1 + ((rd_T81 l0 x33_1).f1))) x136003_20 ((rd_T81 l0 x33_1).f1) ((rd_T81 l0 0).f1) ((rd_T81 l0 (ji4)).f1) (wrap64 (x136007_1 + t139)))) else (none)) else (none)) = some (r1, r2, r3, r4, r5, r6, r7, r8) := by first | (rw [hji36] at H; exact H) | (simp only [hji36] at H ⊢; exact H)
             have hji36w : (IntKind.i64.wrap (x33_1 - 1)) = ji36 := (i64_w _).trans hji36
             by_cases c37 : 0 ≤ (ji36)
             ·rw [if_pos c37] at H
              have c37b0 : decide (0 ≤ (ji36)) = true := decide_eq_true c37
              clear c37
              by_cases c38 : (ji36) < (l0.length : Int)
              ·rw [if_pos c38] at H
               have c38b0 : decide ((ji36) < (l0.length : Int)) = true := decide_eq_true c38
               clear c38
               replace H := Option.bind_eq_some_iff.mp H
               obtain ⟨t139, A390, H⟩ := H
               replace H : (spec_l11Agg.l0 kj20 l0 l0 (l0.length : Int) (wrap64 (x33_1 + 1)) a1 (l0.length : Int) (wrap64 (x136002_1 + ((rd_T81 l0 x33_1).f1))) x136003_20 ((rd_T81 l0 x33_1).f1) ((rd_T81 l0 0).f1) ((rd_T81 l0 (ji4)).f1) (wrap64 (x136007_1 + t139))) = some (r1, r2, r3, r4, r5, r6, r7, r8) := H
               have A39 := Aside0.mk A390
               clear A390
               have H' := Aside0.mk H
               clear H
               have hnb40 := NB137_130.out
               have hnc40 := NB130_137.out
               have hnb41 := NB137_135.out
               have hnc41 := NB135_137.out
               have hcz42_0 : wc.cell? ⟨gb137, 0, none⟩ = some (.int .i64 ((rd_T81 l0 x33_1).f0)) := (zQ BK137.out 0).trans rfl
               have hcz42_1 : wc.cell? ⟨gb137, 1, none⟩ = some (.int .i64 ((rd_T81 l0 x33_1).f1)) := (zQ BK137.out 1).trans rfl
               have hfz42_0 := blk_frozen BK137.out 0
               have hfz42_1 := blk_frozen BK137.out 1
               have hnb43 := NB135_130.out
               have hnc43 := NB130_135.out
               have hcz44_0 : wc.cell? ⟨gb135, 0, none⟩ = some (.int .i64 a1) := (zQ BK135.out 0).trans rfl
               have hcz44_1 : wc.cell? ⟨gb135, 1, none⟩ = some (.int .i64 (l0.length : Int)) := (zQ BK135.out 1).trans rfl
               have hcz44_2 : wc.cell? ⟨gb135, 2, none⟩ = some (.int .i64 (wrap64 (x136002_1 + ((rd_T81 l0 x33_1).f1)))) := (zQ BK135.out 2).trans rfl
               have hcz44_3 : wc.cell? ⟨gb135, 3, none⟩ = some (.int .i64 x136003_20) := (zQ BK135.out 3).trans rfl
               have hcz44_4 : wc.cell? ⟨gb135, 4, none⟩ = some (.int .i64 x136004_1) := (zQ BK135.out 4).trans rfl
               have hcz44_5 : wc.cell? ⟨gb135, 5, none⟩ = some (.int .i64 ((rd_T81 l0 0).f1)) := (zQ BK135.out 5).trans rfl
               have hcz44_6 : wc.cell? ⟨gb135, 6, none⟩ = some (.int .i64 ((rd_T81 l0 (ji4)).f1)) := (zQ BK135.out 6).trans rfl
               have hcz44_7 : wc.cell? ⟨gb135, 7, none⟩ = some (.int .i64 x136007_1) := (zQ BK135.out 7).trans rfl
               have hfz44_0 := blk_frozen BK135.out 0
               have hfz44_1 := blk_frozen BK135.out 1
               have hfz44_2 := blk_frozen BK135.out 2
               have hfz44_3 := blk_frozen BK135.out 3
               have hfz44_4 := blk_frozen BK135.out 4
               have hfz44_5 := blk_frozen BK135.out 5
               have hfz44_6 := blk_frozen BK135.out 6
               have hfz44_7 := blk_frozen BK135.out 7
               try go_wp2
               have n0_ : Aside0 ((wc.setCell ⟨gb135, 4, none⟩ (.int .i64 ((rd_T81 l0 x33_1).f1))).heap[gb130]? = some (.cells #[.int .i64 0, .int .i64 0, .int .i64 0, .int .i64 0, .int .i64 0, .int .i64 0, .int .i64 0, .int .i64 0] 78 (0, 0))) := ⟨by (with_reducible repeat (first | refine zE ?_ _ | refine zF ?_ | refine zD ?_ _)); refine blk_far ?_ NB130_135.out _; (with_reducible repeat (first | refine zE ?_ _ | refine zF ?_ | refine zD ?_ _)); exact BK130.out⟩
               have n1_ : Aside0 ((wc.setCell ⟨gb135, 4, none⟩ (.int .i64 ((rd_T81 l0 x33_1).f1))).heap[gb135]? = some (.cells #[.int .i64 a1, .int .i64 (l0.length : Int), .int .i64 (wrap64 (x136002_1 + ((rd_T81 l0 x33_1).f1))), .int .i64 x136003_20, .int .i64 ((rd_T81 l0 x33_1).f1), .int .i64 ((rd_T81 l0 0).f1), .int .i64 ((rd_T81 l0 (ji4)).f1), .int .i64 x136007_1] 78 (0, 0))) := ⟨by (with_reducible repeat (first | refine zE ?_ _ | refine zF ?_ | refine zD ?_ _)); refine blk_put (cs := #[.int .i64 a1, .int .i64 (l0.length : Int), .int .i64 (wrap64 (x136002_1 + ((rd_T81 l0 x33_1).f1))), .int .i64 x136003_20, .int .i64 x136004_1, .int .i64 ((rd_T81 l0 0).f1), .int .i64 ((rd_T81 l0 (ji4)).f1), .int .i64 x136007_1]) ?_ 4 _ rfl; (with_reducible repeat (first | refine zE ?_ _ | refine zF ?_ | refine zD ?_ _)); exact BK135.out⟩
               have n2_ : Aside0 ((wc.setCell ⟨gb135, 4, none⟩ (.int .i64 ((rd_T81 l0 x33_1).f1))).heap[gb137]? = some (.cells #[.int .i64 ((rd_T81 l0 x33_1).f0), .int .i64 ((rd_T81 l0 x33_1).f1)] 81 (0, 0))) := ⟨by (with_reducible repeat (first | refine zE ?_ _ | refine zF ?_ | refine zD ?_ _)); refine blk_far ?_ NB137_135.out _; (with_reducible repeat (first | refine zE ?_ _ | refine zF ?_ | refine zD ?_ _)); exact BK137.out⟩
               have n3_ : Aside0 (Below w.heap.size w (wc.setCell ⟨gb135, 4, none⟩ (.int .i64 ((rd_T81 l0 x33_1).f1)))) := ⟨by repeat (first | (with_reducible first | exact HB.out | apply zA | apply zB | apply zC | refine below_set ?_ GE130.out | refine below_set ?_ GE135.out | refine below_set ?_ GE137.out) | exact HB.out)⟩
               (try clear BK130)
               (try clear BK135)
               (try clear BK137)
               (try clear HB)
               generalize (wc.setCell ⟨gb135, 4, none⟩ (.int .i64 ((rd_T81 l0 x33_1).f1))) = w45 at n0_ n1_ n2_ n3_ ⊢
               have BK130 := n0_
               have BK135 := n1_
               have BK137 := n2_
               have HB := n3_
               clear n0_ n1_ n2_ n3_
               have n0_ := Aside0.mk (zF BK130.out)
               have n1_ := Aside0.mk (zF BK135.out)
               have n2_ := Aside0.mk (zF BK137.out)
               have n3_ := Aside0.mk (zC HB.out)
               clear BK130
               clear BK135
               clear BK137
               clear HB
               have BK130 := n0_
               have BK135 := n1_
               have BK137 := n2_
               have HB := n3_
               clear n0_ n1_ n2_ n3_
               have p138 : 0 ≤ ((ji36) : Int) := zX (by first | (with_reducible assumption) | assumption)
               have q138 : (ji36) < (l0.length : Int) := zX (by first | (with_reducible assumption) | assumption)
               obtain ⟨ad138, e138, hx138_0, hx138_1⟩ := at_T81 HR0.out (ji36) p138 q138
               have hw138_1 := hx138_1
               have hw138_0 := hx138_0
               obtain rfl : ad131 = ad138 := (by injection e138)
               replace hx138_0 := (HB.out.cell (zR w _ hx138_0)).trans hx138_0
               replace hx138_1 := (HB.out.cell (zR w _ hx138_1)).trans hx138_1
               replace p138 := eq_true p138
               replace q138 := eq_true q138
               refine start_ (n := 14) (S := fun w' => w'.cell? ⟨gb135, 0, none⟩ = some (.int .i64 a1) ∧ w'.cell? ⟨gb135, 1, none⟩ = some (.int .i64 (l0.length : Int)) ∧ w'.cell? ⟨gb135, 2, none⟩ = some (.int .i64 (wrap64 (x136002_1 + ((rd_T81 l0 x33_1).f1)))) ∧ w'.cell? ⟨gb135, 3, none⟩ = some (.int .i64 x136003_20) ∧ w'.cell? ⟨gb135, 4, none⟩ = some (.int .i64 ((rd_T81 l0 x33_1).f1)) ∧ w'.cell? ⟨gb135, 5, none⟩ = some (.int .i64 ((rd_T81 l0 0).f1)) ∧ w'.cell? ⟨gb135, 6, none⟩ = some (.int .i64 ((rd_T81 l0 (ji4)).f1)) ∧ w'.cell? ⟨gb135, 7, none⟩ = some (.int .i64 x136007_1) ∧ w'.cell? ⟨gb137, 0, none⟩ = some (.int .i64 ((rd_T81 l0 x33_1).f0)) ∧ w'.cell? ⟨gb137, 1, none⟩ = some (.int .i64 ((rd_T81 l0 x33_1).f1)) ∧ w'.cell? (ad131.add (((ji36)).toNat * 2)) = some (.int .i64 ((rd_T81 l0 (ji36)).f0)) ∧ w'.cell? ⟨(ad131.add (((ji36)).toNat * 2)).block, (ad131.add (((ji36)).toNat * 2)).off + 1, none⟩ = some (.int .i64 ((rd_T81 l0 (ji36)).f1))) (ds := [13]) #[false, false, false, false, false, false, false, false, false, false, false, false, false, false] (by kernel_rfl) rfl rfl ⟨(zQ BK135.out 0).trans rfl, (zQ BK135.out 1).trans rfl, (zQ BK135.out 2).trans rfl, (zQ BK135.out 3).trans rfl, (zQ BK135.out 4).trans rfl, (zQ BK135.out 5).trans rfl, (zQ BK135.out 6).trans rfl, (zQ BK135.out 7).trans rfl, (zQ BK137.out 0).trans rfl, (zQ BK137.out 1).trans rfl, ((HB.out.cell (zR w _ hw138_0)).trans hw138_0), ((HB.out.cell (zR w _ hw138_1)).trans hw138_1)⟩ (fun hHeld => ?_); refine with_tabW spec_l11Agg.tab11 spec_l11Agg.bits11 (fun HT_ HW_ => ?_)
               generalize w45.drew = w46 at BK130 BK135 BK137 HB hx138_0 hx138_1 hHeld ⊢
               refine pure_ (i := 0) (N := some 62) (v := ?_) (a' := ?_) #[true, false, false, false, false, false, false, false, false, false, false, false, false, false] rfl rfl (any_of HT_.out (by kernel_rfl)) (fun _ _ _ h => h) (Or.inl ⟨by rfl, ?_⟩) ?_ ?_
               rotate_left
               ·intro w'
                go_simp
                with_reducible rfl
               rotate_left
               ·simp only [Act.put, zT, zU, zV, i64_w, i32_w]
                rfl
               refine pure_ (i := 2) (N := some 64) (v := ?_) (a' := ?_) #[true, false, true, false, false, false, false, false, false, false, false, false, false, false] rfl rfl (any_of HT_.out (by kernel_rfl)) (fun _ _ _ h => h) (Or.inl ⟨by rfl, ?_⟩) ?_ ?_
               rotate_left
               ·intro w'
                go_simp
                with_reducible rfl
               rotate_left
               ·simp only [Act.put, zT, zU, zV, i64_w, i32_w]
                rfl
               refine pure_ (i := 3) (N := some 65) (v := ?_) (a' := ?_) #[true, false, true, true, false, false, false, false, false, false, false, false, false, false] rfl rfl (any_of HT_.out (by kernel_rfl)) (fun _ _ _ h => h) (Or.inl ⟨by rfl, ?_⟩) ?_ ?_
               rotate_left
               ·intro w'
                go_simp
                with_reducible rfl
               rotate_left
               ·simp only [Act.put, zT, zU, zV, i64_w, i32_w]
                rfl
               refine pure_ (i := 4) (N := some 66) (v := ?_) (a' := ?_) #[true, false, true, true, true, false, false, false, false, false, false, false, false, false] rfl rfl (any_of HT_.out (by kernel_rfl)) (fun _ _ _ h => h) (Or.inl ⟨by rfl, ?_⟩) ?_ ?_
               rotate_left
               ·intro w'
                go_simp
                with_reducible rfl
               rotate_left
               ·simp only [Act.put, zT, zU, zV, i64_w, i32_w]
                rfl
               refine pure_ (i := 5) (N := some 67) (v := ?_) (a' := ?_) #[true, false, true, true, true, true, false, false, false, false, false, false, false, false] rfl rfl (any_of HT_.out (by kernel_rfl)) (fun _ _ _ h => h) (Or.inl ⟨by rfl, ?_⟩) ?_ ?_
               rotate_left
               ·intro w'
                go_simp
                with_reducible rfl
               rotate_left
               ·simp only [Act.put, zT, zU, zV, i64_w, i32_w]
                rfl
               refine pure_ (i := 6) (N := some 68) (v := ?_) (a' := ?_) #[true, false, true, true, true, true, true, false, false, false, false, false, false, false] rfl rfl (any_of HT_.out (by kernel_rfl)) (fun _ _ _ h => h) (Or.inl ⟨by rfl, ?_⟩) ?_ ?_
               rotate_left
               ·intro w'
                go_simp
                with_reducible rfl
               rotate_left
               ·simp only [Act.put, zT, zU, zV, i64_w, i32_w]
                rfl
               refine pure_ (i := 8) (N := some 70) (v := ?_) (a' := ?_) #[true, false, true, true, true, true, true, false, true, false, false, false, false, false] rfl rfl (any_of HT_.out (by kernel_rfl)) (fun _ _ _ h => h) (Or.inl ⟨by rfl, ?_⟩) ?_ ?_
               rotate_left
               ·intro w'
                go_simp
                with_reducible rfl
               rotate_left
               ·simp only [Act.put, zT, zU, zV, i64_w, i32_w]
                rfl
               refine take_ (i := 1) (N := some 63) (v := ?_) (a' := ?_) #[true, true, true, true, true, true, true, false, true, false, false, false, false, false] rfl rfl (take_ofW HT_.out HW_.out (by kernel_rfl)) (fun _ _ _ h => h) (Or.inl ⟨by rfl, ?_⟩) hHeld ?_ ?_
               rotate_left
               ·rintro w' ⟨s0, s1, s2, s3, s4, s5, s6, s7, s8, s9, s10, s11⟩
                go_simp
                with_reducible rfl
               rotate_left
               ·simp only [Act.put, zT, zU, zV, i64_w, i32_w]
                rfl
               refine take_ (i := 7) (N := some 69) (v := ?_) (a' := ?_) #[true, true, true, true, true, true, true, true, true, false, false, false, false, false] rfl rfl (take_ofW HT_.out HW_.out (by kernel_rfl)) (fun _ _ _ h => h) (Or.inl ⟨by rfl, ?_⟩) hHeld ?_ ?_
               rotate_left
               ·rintro w' ⟨s0, s1, s2, s3, s4, s5, s6, s7, s8, s9, s10, s11⟩
                go_simp
                with_reducible rfl
               rotate_left
               ·simp only [Act.put, zT, zU, zV, i64_w, i32_w]
                rfl
               refine take_ (i := 9) (N := some 71) (v := ?_) (a' := ?_) #[true, true, true, true, true, true, true, true, true, true, false, false, false, false] rfl rfl (take_ofW HT_.out HW_.out (by kernel_rfl)) (fun _ _ _ h => h) (Or.inl ⟨by rfl, ?_⟩) hHeld ?_ ?_
               rotate_left
               ·rintro w' ⟨s0, s1, s2, s3, s4, s5, s6, s7, s8, s9, s10, s11⟩
                go_simp
                with_reducible rfl
               rotate_left
               ·simp only [Act.put, zT, zU, zV, i64_w, i32_w]
                rfl
               refine one_ (i := 10) (N := some 72) #[true, true, true, true, true, true, true, true, true, true, true, false, false, false] rfl rfl (one_of HT_.out (by kernel_rfl)) (by decide) (fun K hK => ?_)
               refine goes_ Try.func88 (by kernel_rfl) rfl #[.int .i64 ((rd_T81 l0 (ji36)).f1), .int .i64 ((rd_T81 l0 x33_1).f1)] (by rfl) rfl rfl (by (try simp only [List.map_toArray, List.map_cons, List.map_nil]); first | done | (simp only [hji36]; rfl) | rfl | (simp only [List.length_drop, List.length_take]; rfl)) ?_
               with_reducible refine (spec_l11Rise.calls ((rd_T81 l0 (ji36)).f1) ((rd_T81 l0 x33_1).f1) t139 _ A39.out).mono ?_
               rintro e w' ⟨rfl, ⟨nd, rfl⟩⟩
               refine ⟨_, rfl, ?_⟩
               refine hK.out _ _ ⟨(zQ BK135.out 0).trans rfl, (zQ BK135.out 1).trans rfl, (zQ BK135.out 2).trans rfl, (zQ BK135.out 3).trans rfl, (zQ BK135.out 4).trans rfl, (zQ BK135.out 5).trans rfl, (zQ BK135.out 6).trans rfl, (zQ BK135.out 7).trans rfl, (zQ BK137.out 0).trans rfl, (zQ BK137.out 1).trans rfl, ((HB.out.cell (zR w _ hw138_0)).trans hw138_0), ((HB.out.cell (zR w _ hw138_1)).trans hw138_1)⟩ (fun hHeld => ?_)
               clear hK K
               refine norm_ (a' := ?_) ?_ ?_
               rotate_left
               ·show Act.put _ (some 72) _ = _
                simp only [Act.put, zT, zU, zV, i64_w, i32_w]
                rfl
               refine pure_ (i := 11) (N := some 73) (v := ?_) (a' := ?_) #[true, true, true, true, true, true, true, true, true, true, true, true, false, false] rfl rfl (any_of HT_.out (by kernel_rfl)) (fun _ _ _ h => h) (Or.inl ⟨by rfl, ?_⟩) ?_ ?_
               rotate_left
               ·intro w'
                go_simp
                with_reducible rfl
               rotate_left
               ·simp only [Act.put, zT, zU, zV, i64_w, i32_w]
                rfl
               refine pure_ (i := 12) (N := some 74) (v := ?_) (a' := ?_) #[true, true, true, true, true, true, true, true, true, true, true, true, true, false] rfl rfl (any_of HT_.out (by kernel_rfl)) (fun _ _ _ h => h) (Or.inl ⟨by rfl, ?_⟩) ?_ ?_
               rotate_left
               ·intro w'
                go_simp
                with_reducible rfl
               rotate_left
               ·simp only [Act.put, zT, zU, zV, i64_w, i32_w]
                rfl
               refine last_ (i := 13) (N := none) #[true, true, true, true, true, true, true, true, true, true, true, true, true, true] rfl rfl (one_of HT_.out (by kernel_rfl)) (by decide) (fun K hK => ?_)
               have hs47 : w46.cell? ⟨gb135, 7, none⟩ = some (.int .i64 x136007_1) := (zQ BK135.out 7).trans rfl
               have hfs47 := blk_frozen BK135.out 7
               have hns47_0 := NB130_135.out
               have hns47_2 := NB137_135.out
               have hms47_0 := NB135_130.out
               have hms47_2 := NB135_137.out
               refine skip_ (w1 := ?_) (by rfl) rfl ?_ ?_
               rotate_left
               ·go_simp
                rfl
               refine hK.out _ _ ?_
               clear hK K
               refine done_ (done_of HT_.out (by kernel_rfl)) ?_
               try go_wp2
               go_roundg kj20
               case measure => have := HK1.out; have := HJ20.out; omega
               case rel => exact ⟨(wrap64 (x33_1 + 1)), ((wrap64 (x136002_1 + ((rd_T81 l0 x33_1).f1)))), (x136003_20), (((rd_T81 l0 x33_1).f1)), (wrap64 (x136007_1 + t139)), (by first | rfl | (simp; done) | (simp [*]; done)), H', ⟨by have := HK1.out; have := HJ20.out; omega⟩, ⟨by (with_reducible repeat (first | refine zE ?_ _ | refine zF ?_ | refine zD ?_ _)); refine blk_far ?_ NB130_135.out _; (with_reducible repeat (first | refine zE ?_ _ | refine zF ?_ | refine zD ?_ _)); exact BK130.out⟩, ⟨by (with_reducible repeat (first | refine zE ?_ _ | refine zF ?_ | refine zD ?_ _)); refine blk_put (cs := #[.int .i64 a1, .int .i64 (l0.length : Int), .int .i64 (wrap64 (x136002_1 + ((rd_T81 l0 x33_1).f1))), .int .i64 x136003_20, .int .i64 ((rd_T81 l0 x33_1).f1), .int .i64 ((rd_T81 l0 0).f1), .int .i64 ((rd_T81 l0 (ji4)).f1), .int .i64 x136007_1]) ?_ 7 _ rfl; (with_reducible repeat (first | refine zE ?_ _ | refine zF ?_ | refine zD ?_ _)); exact BK135.out⟩, ⟨by repeat (first | (with_reducible first | exact HB.out | apply zA | apply zB | apply zC | refine below_set ?_ GE130.out | refine below_set ?_ GE135.out | refine below_set ?_ GE137.out) | exact HB.out)⟩⟩
              ·rw [if_neg c38] at H
               exact absurd H (by simp)
             ·rw [if_neg c37] at H
              exact absurd H (by simp)
            ·rw [if_neg c35] at H
             have c35b0 : decide (0 < x33_1) = false := decide_eq_false c35
             clear c35
             have H' := Aside0.mk H
             clear H
             have hnb48 := NB137_130.out
             have hnc48 := NB130_137.out
             have hnb49 := NB137_135.out
             have hnc49 := NB135_137.out
             have hcz50_0 : wc.cell? ⟨gb137, 0, none⟩ = some (.int .i64 ((rd_T81 l0 x33_1).f0)) := (zQ BK137.out 0).trans rfl
             have hcz50_1 : wc.cell? ⟨gb137, 1, none⟩ = some (.int .i64 ((rd_T81 l0 x33_1).f1)) := (zQ BK137.out 1).trans rfl
             have hfz50_0 := blk_frozen BK137.out 0
             have hfz50_1 := blk_frozen BK137.out 1
             have hnb51 := NB135_130.out
             have hnc51 := NB130_135.out
             have hcz52_0 : wc.cell? ⟨gb135, 0, none⟩ = some (.int .i64 a1) := (zQ BK135.out 0).trans rfl
             have hcz52_1 : wc.cell? ⟨gb135, 1, none⟩ = some (.int .i64 (l0.length : Int)) := (zQ BK135.out 1).trans rfl
             have hcz52_2 : wc.cell? ⟨gb135, 2, none⟩ = some (.int .i64 (wrap64 (x136002_1 + ((rd_T81 l0 x33_1).f1)))) := (zQ BK135.out 2).trans rfl
             have hcz52_3 : wc.cell? ⟨gb135, 3, none⟩ = some (.int .i64 x136003_20) := (zQ BK135.out 3).trans rfl
             have hcz52_4 : wc.cell? ⟨gb135, 4, none⟩ = some (.int .i64 x136004_1) := (zQ BK135.out 4).trans rfl
             have hcz52_5 : wc.cell? ⟨gb135, 5, none⟩ = some (.int .i64 ((rd_T81 l0 0).f1)) := (zQ BK135.out 5).trans rfl
             have hcz52_6 : wc.cell? ⟨gb135, 6, none⟩ = some (.int .i64 ((rd_T81 l0 (ji4)).f1)) := (zQ BK135.out 6).trans rfl
             have hcz52_7 : wc.cell? ⟨gb135, 7, none⟩ = some (.int .i64 x136007_1) := (zQ BK135.out 7).trans rfl
             have hfz52_0 := blk_frozen BK135.out 0
             have hfz52_1 := blk_frozen BK135.out 1
             have hfz52_2 := blk_frozen BK135.out 2
             have hfz52_3 := blk_frozen BK135.out 3
             have hfz52_4 := blk_frozen BK135.out 4
             have hfz52_5 := blk_frozen BK135.out 5
             have hfz52_6 := blk_frozen BK135.out 6
             have hfz52_7 := blk_frozen BK135.out 7
             go_wp2
             go_roundg kj20
             case measure => have := HK1.out; have := HJ20.out; omega
             case rel => exact ⟨(wrap64 (x33_1 + 1)), ((wrap64 (x136002_1 + ((rd_T81 l0 x33_1).f1)))), (x136003_20), (((rd_T81 l0 x33_1).f1)), (x136007_1), (by first | rfl | (simp; done) | (simp [*]; done)), H', ⟨by have := HK1.out; have := HJ20.out; omega⟩, ⟨by (with_reducible repeat (first | refine zE ?_ _ | refine zF ?_ | refine zD ?_ _)); refine blk_far ?_ NB130_135.out _; (with_reducible repeat (first | refine zE ?_ _ | refine zF ?_ | refine zD ?_ _)); exact BK130.out⟩, ⟨by (with_reducible repeat (first | refine zE ?_ _ | refine zF ?_ | refine zD ?_ _)); refine blk_put (cs := #[.int .i64 a1, .int .i64 (l0.length : Int), .int .i64 (wrap64 (x136002_1 + ((rd_T81 l0 x33_1).f1))), .int .i64 x136003_20, .int .i64 x136004_1, .int .i64 ((rd_T81 l0 0).f1), .int .i64 ((rd_T81 l0 (ji4)).f1), .int .i64 x136007_1]) ?_ 4 _ rfl; (with_reducible repeat (first | refine zE ?_ _ | refine zF ?_ | refine zD ?_ _)); exact BK135.out⟩, ⟨by repeat (first | (with_reducible first | exact HB.out | apply zA | apply zB | apply zC | refine below_set ?_ GE130.out | refine below_set ?_ GE135.out | refine below_set ?_ GE137.out) | exact HB.out)⟩⟩
           ·rw [if_neg c34] at H
            have c34b0 : decide (x136004_1 < ((rd_T81 l0 x33_1).f1)) = false := decide_eq_false c34
            clear c34
            by_cases c53 : x33_1 > 0
            ·rw [if_pos c53] at H
             have c53b0 : decide (0 < x33_1) = true := decide_eq_true c53
             clear c53
             obtain ⟨ji54, hji54⟩ : ∃ j_ : Int, (wrap64 (x33_1 - 1)) = j_ := ⟨_, rfl⟩
             replace H : (if 0 ≤ (ji54) then (if (ji54) < (l0.length : Int) then ((spec_l11Rise.f ((rd_T81 l0 (ji54)).f1) ((rd_T81 l0 x33_1).f1)).bind fun t141 => (spec_l11Agg.l0 kj20 l0 l0 (l0.length : Int) (wrap64 (x33_1 + 1)) a1 (l0.length : Int) (wrap64 (x136002_1 + ((rd_T81 l0 x33_1).f1))) x136003_20 x136004_1 ((rd_T81 l0 0).f1) ((rd_T81 l0 (ji4)).f1) (wrap64 (x136007_1 + t141)))) else (none)) else (none)) = some (r1, r2, r3, r4, r5, r6, r7, r8) := by first | (rw [hji54] at H; exact H) | (simp only [hji54] at H ⊢; exact H)
             have hji54w : (IntKind.i64.wrap (x33_1 - 1)) = ji54 := (i64_w _).trans hji54
             by_cases c55 : 0 ≤ (ji54)
             ·rw [if_pos c55] at H
              have c55b0 : decide (0 ≤ (ji54)) = true := decide_eq_true c55
              clear c55
              by_cases c56 : (ji54) < (l0.length : Int)
              ·rw [if_pos c56] at H
               have c56b0 : decide ((ji54) < (l0.length : Int)) = true := decide_eq_true c56
               clear c56
               replace H := Option.bind_eq_some_iff.mp H
               obtain ⟨t141, A570, H⟩ := H
               replace H : (spec_l11Agg.l0 kj20 l0 l0 (l0.length : Int) (wrap64 (x33_1 + 1)) a1 (l0.length : Int) (wrap64 (x136002_1 + ((rd_T81 l0 x33_1).f1))) x136003_20 x136004_1 ((rd_T81 l0 0).f1) ((rd_T81 l0 (ji4)).f1) (wrap64 (x136007_1 + t141))) = some (r1, r2, r3, r4, r5, r6, r7, r8) := H
               have A57 := Aside0.mk A570
               clear A570
               have H' := Aside0.mk H
               clear H
               have hnb58 := NB137_130.out
               have hnc58 := NB130_137.out
               have hnb59 := NB137_135.out
               have hnc59 := NB135_137.out
               have hcz60_0 : wc.cell? ⟨gb137, 0, none⟩ = some (.int .i64 ((rd_T81 l0 x33_1).f0)) := (zQ BK137.out 0).trans rfl
               have hcz60_1 : wc.cell? ⟨gb137, 1, none⟩ = some (.int .i64 ((rd_T81 l0 x33_1).f1)) := (zQ BK137.out 1).trans rfl
               have hfz60_0 := blk_frozen BK137.out 0
               have hfz60_1 := blk_frozen BK137.out 1
               have hnb61 := NB135_130.out
               have hnc61 := NB130_135.out
               have hcz62_0 : wc.cell? ⟨gb135, 0, none⟩ = some (.int .i64 a1) := (zQ BK135.out 0).trans rfl
               have hcz62_1 : wc.cell? ⟨gb135, 1, none⟩ = some (.int .i64 (l0.length : Int)) := (zQ BK135.out 1).trans rfl
               have hcz62_2 : wc.cell? ⟨gb135, 2, none⟩ = some (.int .i64 (wrap64 (x136002_1 + ((rd_T81 l0 x33_1).f1)))) := (zQ BK135.out 2).trans rfl
               have hcz62_3 : wc.cell? ⟨gb135, 3, none⟩ = some (.int .i64 x136003_20) := (zQ BK135.out 3).trans rfl
               have hcz62_4 : wc.cell? ⟨gb135, 4, none⟩ = some (.int .i64 x136004_1) := (zQ BK135.out 4).trans rfl
               have hcz62_5 : wc.cell? ⟨gb135, 5, none⟩ = some (.int .i64 ((rd_T81 l0 0).f1)) := (zQ BK135.out 5).trans rfl
               have hcz62_6 : wc.cell? ⟨gb135, 6, none⟩ = some (.int .i64 ((rd_T81 l0 (ji4)).f1)) := (zQ BK135.out 6).trans rfl
               have hcz62_7 : wc.cell? ⟨gb135, 7, none⟩ = some (.int .i64 x136007_1) := (zQ BK135.out 7).trans rfl
               have hfz62_0 := blk_frozen BK135.out 0
               have hfz62_1 := blk_frozen BK135.out 1
               have hfz62_2 := blk_frozen BK135.out 2
               have hfz62_3 := blk_frozen BK135.out 3
               have hfz62_4 := blk_frozen BK135.out 4
               have hfz62_5 := blk_frozen BK135.out 5
               have hfz62_6 := blk_frozen BK135.out 6
               have hfz62_7 := blk_frozen BK135.out 7
               try go_wp2
               have n0_ := Aside0.mk (zF BK130.out)
               have n1_ := Aside0.mk (zF BK135.out)
               have n2_ := Aside0.mk (zF BK137.out)
               have n3_ := Aside0.mk (zC HB.out)
               clear BK130
               clear BK135
               clear BK137
               clear HB
               have BK130 := n0_
               have BK135 := n1_
               have BK137 := n2_
               have HB := n3_
               clear n0_ n1_ n2_ n3_
               have p140 : 0 ≤ ((ji54) : Int) := zX (by first | (with_reducible assumption) | assumption)
               have q140 : (ji54) < (l0.length : Int) := zX (by first | (with_reducible assumption) | assumption)
               obtain ⟨ad140, e140, hx140_0, hx140_1⟩ := at_T81 HR0.out (ji54) p140 q140
               have hw140_1 := hx140_1
               have hw140_0 := hx140_0
               obtain rfl : ad131 = ad140 := (by injection e140)
               replace hx140_0 := (HB.out.cell (zR w _ hx140_0)).trans hx140_0
               replace hx140_1 := (HB.out.cell (zR w _ hx140_1)).trans hx140_1
               replace p140 := eq_true p140
               replace q140 := eq_true q140
               refine start_ (n := 14) (S := fun w' => w'.cell? ⟨gb135, 0, none⟩ = some (.int .i64 a1) ∧ w'.cell? ⟨gb135, 1, none⟩ = some (.int .i64 (l0.length : Int)) ∧ w'.cell? ⟨gb135, 2, none⟩ = some (.int .i64 (wrap64 (x136002_1 + ((rd_T81 l0 x33_1).f1)))) ∧ w'.cell? ⟨gb135, 3, none⟩ = some (.int .i64 x136003_20) ∧ w'.cell? ⟨gb135, 4, none⟩ = some (.int .i64 x136004_1) ∧ w'.cell? ⟨gb135, 5, none⟩ = some (.int .i64 ((rd_T81 l0 0).f1)) ∧ w'.cell? ⟨gb135, 6, none⟩ = some (.int .i64 ((rd_T81 l0 (ji4)).f1)) ∧ w'.cell? ⟨gb135, 7, none⟩ = some (.int .i64 x136007_1) ∧ w'.cell? ⟨gb137, 0, none⟩ = some (.int .i64 ((rd_T81 l0 x33_1).f0)) ∧ w'.cell? ⟨gb137, 1, none⟩ = some (.int .i64 ((rd_T81 l0 x33_1).f1)) ∧ w'.cell? (ad131.add (((ji54)).toNat * 2)) = some (.int .i64 ((rd_T81 l0 (ji54)).f0)) ∧ w'.cell? ⟨(ad131.add (((ji54)).toNat * 2)).block, (ad131.add (((ji54)).toNat * 2)).off + 1, none⟩ = some (.int .i64 ((rd_T81 l0 (ji54)).f1))) (ds := [13]) #[false, false, false, false, false, false, false, false, false, false, false, false, false, false] (by kernel_rfl) rfl rfl ⟨(zQ BK135.out 0).trans rfl, (zQ BK135.out 1).trans rfl, (zQ BK135.out 2).trans rfl, (zQ BK135.out 3).trans rfl, (zQ BK135.out 4).trans rfl, (zQ BK135.out 5).trans rfl, (zQ BK135.out 6).trans rfl, (zQ BK135.out 7).trans rfl, (zQ BK137.out 0).trans rfl, (zQ BK137.out 1).trans rfl, ((HB.out.cell (zR w _ hw140_0)).trans hw140_0), ((HB.out.cell (zR w _ hw140_1)).trans hw140_1)⟩ (fun hHeld => ?_); refine with_tabW spec_l11Agg.tab11 spec_l11Agg.bits11 (fun HT_ HW_ => ?_)
               generalize wc.drew = w63 at BK130 BK135 BK137 HB hx140_0 hx140_1 hHeld ⊢
               refine pure_ (i := 0) (N := some 62) (v := ?_) (a' := ?_) #[true, false, false, false, false, false, false, false, false, false, false, false, false, false] rfl rfl (any_of HT_.out (by kernel_rfl)) (fun _ _ _ h => h) (Or.inl ⟨by rfl, ?_⟩) ?_ ?_
               rotate_left
               ·intro w'
                go_simp
                with_reducible rfl
               rotate_left
               ·simp only [Act.put, zT, zU, zV, i64_w, i32_w]
                rfl
               refine pure_ (i := 2) (N := some 64) (v := ?_) (a' := ?_) #[true, false, true, false, false, false, false, false, false, false, false, false, false, false] rfl rfl (any_of HT_.out (by kernel_rfl)) (fun _ _ _ h => h) (Or.inl ⟨by rfl, ?_⟩) ?_ ?_
               rotate_left
               ·intro w'
                go_simp
                with_reducible rfl
               rotate_left
               ·simp only [Act.put, zT, zU, zV, i64_w, i32_w]
                rfl
               refine pure_ (i := 3) (N := some 65) (v := ?_) (a' := ?_) #[true, false, true, true, false, false, false, false, false, false, false, false, false, false] rfl rfl (any_of HT_.out (by kernel_rfl)) (fun _ _ _ h => h) (Or.inl ⟨by rfl, ?_⟩) ?_ ?_
               rotate_left
               ·intro w'
                go_simp
                with_reducible rfl
               rotate_left
               ·simp only [Act.put, zT, zU, zV, i64_w, i32_w]
                rfl
               refine pure_ (i := 4) (N := some 66) (v := ?_) (a' := ?_) #[true, false, true, true, true, false, false, false, false, false, false, false, false, false] rfl rfl (any_of HT_.out (by kernel_rfl)) (fun _ _ _ h => h) (Or.inl ⟨by rfl, ?_⟩) ?_ ?_
               rotate_left
               ·intro w'
                go_simp
                with_reducible rfl
               rotate_left
               ·simp only [Act.put, zT, zU, zV, i64_w, i32_w]
                rfl
               refine pure_ (i := 5) (N := some 67) (v := ?_) (a' := ?_) #[true, false, true, true, true, true, false, false, false, false, false, false, false, false] rfl rfl (any_of HT_.out (by kernel_rfl)) (fun _ _ _ h => h) (Or.inl ⟨by rfl, ?_⟩) ?_ ?_
               rotate_left
               ·intro w'
                go_simp
                with_reducible rfl
               rotate_left
               ·simp only [Act.put, zT, zU, zV, i64_w, i32_w]
                rfl
               refine pure_ (i := 6) (N := some 68) (v := ?_) (a' := ?_) #[true, false, true, true, true, true, true, false, false, false, false, false, false, false] rfl rfl (any_of HT_.out (by kernel_rfl)) (fun _ _ _ h => h) (Or.inl ⟨by rfl, ?_⟩) ?_ ?_
               rotate_left
               ·intro w'
                go_simp
                with_reducible rfl
               rotate_left
               ·simp only [Act.put, zT, zU, zV, i64_w, i32_w]
                rfl
               refine pure_ (i := 8) (N := some 70) (v := ?_) (a' := ?_) #[true, false, true, true, true, true, true, false, true, false, false, false, false, false] rfl rfl (any_of HT_.out (by kernel_rfl)) (fun _ _ _ h => h) (Or.inl ⟨by rfl, ?_⟩) ?_ ?_
               rotate_left
               ·intro w'
                go_simp
                with_reducible rfl
               rotate_left
               ·simp only [Act.put, zT, zU, zV, i64_w, i32_w]
                rfl
               refine take_ (i := 1) (N := some 63) (v := ?_) (a' := ?_) #[true, true, true, true, true, true, true, false, true, false, false, false, false, false] rfl rfl (take_ofW HT_.out HW_.out (by kernel_rfl)) (fun _ _ _ h => h) (Or.inl ⟨by rfl, ?_⟩) hHeld ?_ ?_
               rotate_left
               ·rintro w' ⟨s0, s1, s2, s3, s4, s5, s6, s7, s8, s9, s10, s11⟩
                go_simp
                with_reducible rfl
               rotate_left
               ·simp only [Act.put, zT, zU, zV, i64_w, i32_w]
                rfl
               refine take_ (i := 7) (N := some 69) (v := ?_) (a' := ?_) #[true, true, true, true, true, true, true, true, true, false, false, false, false, false] rfl rfl (take_ofW HT_.out HW_.out (by kernel_rfl)) (fun _ _ _ h => h) (Or.inl ⟨by rfl, ?_⟩) hHeld ?_ ?_
               rotate_left
               ·rintro w' ⟨s0, s1, s2, s3, s4, s5, s6, s7, s8, s9, s10, s11⟩
                go_simp
                with_reducible rfl
               rotate_left
               ·simp only [Act.put, zT, zU, zV, i64_w, i32_w]
                rfl
               refine take_ (i := 9) (N := some 71) (v := ?_) (a' := ?_) #[true, true, true, true, true, true, true, true, true, true, false, false, false, false] rfl rfl (take_ofW HT_.out HW_.out (by kernel_rfl)) (fun _ _ _ h => h) (Or.inl ⟨by rfl, ?_⟩) hHeld ?_ ?_
               rotate_left
               ·rintro w' ⟨s0, s1, s2, s3, s4, s5, s6, s7, s8, s9, s10, s11⟩
                go_simp
                with_reducible rfl
               rotate_left
               ·simp only [Act.put, zT, zU, zV, i64_w, i32_w]
                rfl
               refine one_ (i := 10) (N := some 72) #[true, true, true, true, true, true, true, true, true, true, true, false, false, false] rfl rfl (one_of HT_.out (by kernel_rfl)) (by decide) (fun K hK => ?_)
               refine goes_ Try.func88 (by kernel_rfl) rfl #[.int .i64 ((rd_T81 l0 (ji54)).f1), .int .i64 ((rd_T81 l0 x33_1).f1)] (by rfl) rfl rfl (by (try simp only [List.map_toArray, List.map_cons, List.map_nil]); first | done | (simp only [hji54]; rfl) | rfl | (simp only [List.length_drop, List.length_take]; rfl)) ?_
               with_reducible refine (spec_l11Rise.calls ((rd_T81 l0 (ji54)).f1) ((rd_T81 l0 x33_1).f1) t141 _ A57.out).mono ?_
               rintro e w' ⟨rfl, ⟨nd, rfl⟩⟩
               refine ⟨_, rfl, ?_⟩
               refine hK.out _ _ ⟨(zQ BK135.out 0).trans rfl, (zQ BK135.out 1).trans rfl, (zQ BK135.out 2).trans rfl, (zQ BK135.out 3).trans rfl, (zQ BK135.out 4).trans rfl, (zQ BK135.out 5).trans rfl, (zQ BK135.out 6).trans rfl, (zQ BK135.out 7).trans rfl, (zQ BK137.out 0).trans rfl, (zQ BK137.out 1).trans rfl, ((HB.out.cell (zR w _ hw140_0)).trans hw140_0), ((HB.out.cell (zR w _ hw140_1)).trans hw140_1)⟩ (fun hHeld => ?_)
               clear hK K
               refine norm_ (a' := ?_) ?_ ?_
               rotate_left
               ·show Act.put _ (some 72) _ = _
                simp only [Act.put, zT, zU, zV, i64_w, i32_w]
                rfl
               refine pure_ (i := 11) (N := some 73) (v := ?_) (a' := ?_) #[true, true, true, true, true, true, true, true, true, true, true, true, false, false] rfl rfl (any_of HT_.out (by kernel_rfl)) (fun _ _ _ h => h) (Or.inl ⟨by rfl, ?_⟩) ?_ ?_
               rotate_left
               ·intro w'
                go_simp
                with_reducible rfl
               rotate_left
               ·simp only [Act.put, zT, zU, zV, i64_w, i32_w]
                rfl
               refine pure_ (i := 12) (N := some 74) (v := ?_) (a' := ?_) #[true, true, true, true, true, true, true, true, true, true, true, true, true, false] rfl rfl (any_of HT_.out (by kernel_rfl)) (fun _ _ _ h => h) (Or.inl ⟨by rfl, ?_⟩) ?_ ?_
               rotate_left
               ·intro w'
                go_simp
                with_reducible rfl
               rotate_left
               ·simp only [Act.put, zT, zU, zV, i64_w, i32_w]
                rfl
               refine last_ (i := 13) (N := none) #[true, true, true, true, true, true, true, true, true, true, true, true, true, true] rfl rfl (one_of HT_.out (by kernel_rfl)) (by decide) (fun K hK => ?_)
               have hs64 : w63.cell? ⟨gb135, 7, none⟩ = some (.int .i64 x136007_1) := (zQ BK135.out 7).trans rfl
               have hfs64 := blk_frozen BK135.out 7
               have hns64_0 := NB130_135.out
               have hns64_2 := NB137_135.out
               have hms64_0 := NB135_130.out
               have hms64_2 := NB135_137.out
               refine skip_ (w1 := ?_) (by rfl) rfl ?_ ?_
               rotate_left
               ·go_simp
                rfl
               refine hK.out _ _ ?_
               clear hK K
               refine done_ (done_of HT_.out (by kernel_rfl)) ?_
               try go_wp2
               go_roundg kj20
               case measure => have := HK1.out; have := HJ20.out; omega
               case rel => exact ⟨(wrap64 (x33_1 + 1)), ((wrap64 (x136002_1 + ((rd_T81 l0 x33_1).f1)))), (x136003_20), (x136004_1), (wrap64 (x136007_1 + t141)), (by first | rfl | (simp; done) | (simp [*]; done)), H', ⟨by have := HK1.out; have := HJ20.out; omega⟩, ⟨by (with_reducible repeat (first | refine zE ?_ _ | refine zF ?_ | refine zD ?_ _)); refine blk_far ?_ NB130_135.out _; (with_reducible repeat (first | refine zE ?_ _ | refine zF ?_ | refine zD ?_ _)); exact BK130.out⟩, ⟨by (with_reducible repeat (first | refine zE ?_ _ | refine zF ?_ | refine zD ?_ _)); refine blk_put (cs := #[.int .i64 a1, .int .i64 (l0.length : Int), .int .i64 (wrap64 (x136002_1 + ((rd_T81 l0 x33_1).f1))), .int .i64 x136003_20, .int .i64 x136004_1, .int .i64 ((rd_T81 l0 0).f1), .int .i64 ((rd_T81 l0 (ji4)).f1), .int .i64 x136007_1]) ?_ 7 _ rfl; (with_reducible repeat (first | refine zE ?_ _ | refine zF ?_ | refine zD ?_ _)); exact BK135.out⟩, ⟨by repeat (first | (with_reducible first | exact HB.out | apply zA | apply zB | apply zC | refine below_set ?_ GE130.out | refine below_set ?_ GE135.out | refine below_set ?_ GE137.out) | exact HB.out)⟩⟩
              ·rw [if_neg c56] at H
               exact absurd H (by simp)
             ·rw [if_neg c55] at H
              exact absurd H (by simp)
            ·rw [if_neg c53] at H
             have c53b0 : decide (0 < x33_1) = false := decide_eq_false c53
             clear c53
             have H' := Aside0.mk H
             clear H
             have hnb65 := NB137_130.out
             have hnc65 := NB130_137.out
             have hnb66 := NB137_135.out
             have hnc66 := NB135_137.out
             have hcz67_0 : wc.cell? ⟨gb137, 0, none⟩ = some (.int .i64 ((rd_T81 l0 x33_1).f0)) := (zQ BK137.out 0).trans rfl
             have hcz67_1 : wc.cell? ⟨gb137, 1, none⟩ = some (.int .i64 ((rd_T81 l0 x33_1).f1)) := (zQ BK137.out 1).trans rfl
             have hfz67_0 := blk_frozen BK137.out 0
             have hfz67_1 := blk_frozen BK137.out 1
             have hnb68 := NB135_130.out
             have hnc68 := NB130_135.out
             have hcz69_0 : wc.cell? ⟨gb135, 0, none⟩ = some (.int .i64 a1) := (zQ BK135.out 0).trans rfl
             have hcz69_1 : wc.cell? ⟨gb135, 1, none⟩ = some (.int .i64 (l0.length : Int)) := (zQ BK135.out 1).trans rfl
             have hcz69_2 : wc.cell? ⟨gb135, 2, none⟩ = some (.int .i64 (wrap64 (x136002_1 + ((rd_T81 l0 x33_1).f1)))) := (zQ BK135.out 2).trans rfl
             have hcz69_3 : wc.cell? ⟨gb135, 3, none⟩ = some (.int .i64 x136003_20) := (zQ BK135.out 3).trans rfl
             have hcz69_4 : wc.cell? ⟨gb135, 4, none⟩ = some (.int .i64 x136004_1) := (zQ BK135.out 4).trans rfl
             have hcz69_5 : wc.cell? ⟨gb135, 5, none⟩ = some (.int .i64 ((rd_T81 l0 0).f1)) := (zQ BK135.out 5).trans rfl
             have hcz69_6 : wc.cell? ⟨gb135, 6, none⟩ = some (.int .i64 ((rd_T81 l0 (ji4)).f1)) := (zQ BK135.out 6).trans rfl
             have hcz69_7 : wc.cell? ⟨gb135, 7, none⟩ = some (.int .i64 x136007_1) := (zQ BK135.out 7).trans rfl
             have hfz69_0 := blk_frozen BK135.out 0
             have hfz69_1 := blk_frozen BK135.out 1
             have hfz69_2 := blk_frozen BK135.out 2
             have hfz69_3 := blk_frozen BK135.out 3
             have hfz69_4 := blk_frozen BK135.out 4
             have hfz69_5 := blk_frozen BK135.out 5
             have hfz69_6 := blk_frozen BK135.out 6
             have hfz69_7 := blk_frozen BK135.out 7
             go_wp2
             go_roundg kj20
             case measure => have := HK1.out; have := HJ20.out; omega
             case rel => exact ⟨(wrap64 (x33_1 + 1)), ((wrap64 (x136002_1 + ((rd_T81 l0 x33_1).f1)))), (x136003_20), (x136004_1), (x136007_1), (by first | rfl | (simp; done) | (simp [*]; done)), H', ⟨by have := HK1.out; have := HJ20.out; omega⟩, ⟨by (with_reducible repeat (first | refine zE ?_ _ | refine zF ?_ | refine zD ?_ _)); exact BK130.out⟩, ⟨by (with_reducible repeat (first | refine zE ?_ _ | refine zF ?_ | refine zD ?_ _)); exact BK135.out⟩, ⟨by repeat (first | (with_reducible first | exact HB.out | apply zA | apply zB | apply zC | refine below_set ?_ GE130.out | refine below_set ?_ GE135.out | refine below_set ?_ GE137.out) | exact HB.out)⟩⟩
        ·rw [if_neg c20] at H
         exact absurd H (by simp)
       ·rw [if_neg c19] at H
        exact absurd H (by simp)
      ·rw [if_neg c18] at H
       have c18b0 : decide (x33_1 < (l0.length : Int)) = false := decide_eq_false c18
       clear c18
       simp only [Option.some.injEq, Prod.mk.injEq] at H
       obtain ⟨rfl, rfl, rfl, rfl, rfl, rfl, rfl, rfl⟩ := H
       have hnb70 := NB135_130.out
       have hnc70 := NB130_135.out
       have hcz71_0 : wr.cell? ⟨gb135, 0, none⟩ = some (.int .i64 a1) := (zQ BK135.out 0).trans rfl
       have hcz71_1 : wr.cell? ⟨gb135, 1, none⟩ = some (.int .i64 (l0.length : Int)) := (zQ BK135.out 1).trans rfl
       have hcz71_2 : wr.cell? ⟨gb135, 2, none⟩ = some (.int .i64 x136002_1) := (zQ BK135.out 2).trans rfl
       have hcz71_3 : wr.cell? ⟨gb135, 3, none⟩ = some (.int .i64 x136003_1) := (zQ BK135.out 3).trans rfl
       have hcz71_4 : wr.cell? ⟨gb135, 4, none⟩ = some (.int .i64 x136004_1) := (zQ BK135.out 4).trans rfl
       have hcz71_5 : wr.cell? ⟨gb135, 5, none⟩ = some (.int .i64 ((rd_T81 l0 0).f1)) := (zQ BK135.out 5).trans rfl
       have hcz71_6 : wr.cell? ⟨gb135, 6, none⟩ = some (.int .i64 ((rd_T81 l0 (ji4)).f1)) := (zQ BK135.out 6).trans rfl
       have hcz71_7 : wr.cell? ⟨gb135, 7, none⟩ = some (.int .i64 x136007_1) := (zQ BK135.out 7).trans rfl
       have hfz71_0 := blk_frozen BK135.out 0
       have hfz71_1 := blk_frozen BK135.out 1
       have hfz71_2 := blk_frozen BK135.out 2
       have hfz71_3 := blk_frozen BK135.out 3
       have hfz71_4 := blk_frozen BK135.out 4
       have hfz71_5 := blk_frozen BK135.out 5
       have hfz71_6 := blk_frozen BK135.out 6
       have hfz71_7 := blk_frozen BK135.out 7
       have hcz72_0 : wr.cell? ⟨gb130, 0, none⟩ = some (.int .i64 0) := (zQ BK130.out 0).trans rfl
       have hcz72_1 : wr.cell? ⟨gb130, 1, none⟩ = some (.int .i64 0) := (zQ BK130.out 1).trans rfl
       have hcz72_2 : wr.cell? ⟨gb130, 2, none⟩ = some (.int .i64 0) := (zQ BK130.out 2).trans rfl
       have hcz72_3 : wr.cell? ⟨gb130, 3, none⟩ = some (.int .i64 0) := (zQ BK130.out 3).trans rfl
       have hcz72_4 : wr.cell? ⟨gb130, 4, none⟩ = some (.int .i64 0) := (zQ BK130.out 4).trans rfl
       have hcz72_5 : wr.cell? ⟨gb130, 5, none⟩ = some (.int .i64 0) := (zQ BK130.out 5).trans rfl
       have hcz72_6 : wr.cell? ⟨gb130, 6, none⟩ = some (.int .i64 0) := (zQ BK130.out 6).trans rfl
       have hcz72_7 : wr.cell? ⟨gb130, 7, none⟩ = some (.int .i64 0) := (zQ BK130.out 7).trans rfl
       have hfz72_0 := blk_frozen BK130.out 0
       have hfz72_1 := blk_frozen BK130.out 1
       have hfz72_2 := blk_frozen BK130.out 2
       have hfz72_3 := blk_frozen BK130.out 3
       have hfz72_4 := blk_frozen BK130.out 4
       have hfz72_5 := blk_frozen BK130.out 5
       have hfz72_6 := blk_frozen BK130.out 6
       have hfz72_7 := blk_frozen BK130.out 7
       go_wp2
       refine bodyPost_ret (results_cell_row rfl _ _ gb130 78 #[.int .i64 a1, .int .i64 (l0.length : Int), .int .i64 x136002_1, .int .i64 x136003_1, .int .i64 x136004_1, .int .i64 ((rd_T81 l0 0).f1), .int .i64 ((rd_T81 l0 (ji4)).f1), .int .i64 x136007_1] (0, 0) _ rfl (by (with_reducible repeat (first | refine zE ?_ _ | refine zF ?_ | refine zD ?_ _)); refine blk_put (cs := #[.int .i64 a1, .int .i64 (l0.length : Int), .int .i64 x136002_1, .int .i64 x136003_1, .int .i64 x136004_1, .int .i64 ((rd_T81 l0 0).f1), .int .i64 ((rd_T81 l0 (ji4)).f1), .int .i64 0]) ?_ 7 _ rfl; (with_reducible repeat (first | refine zE ?_ _ | refine zF ?_ | refine zD ?_ _)); refine blk_put (cs := #[.int .i64 a1, .int .i64 (l0.length : Int), .int .i64 x136002_1, .int .i64 x136003_1, .int .i64 x136004_1, .int .i64 ((rd_T81 l0 0).f1), .int .i64 0, .int .i64 0]) ?_ 6 _ rfl; (with_reducible repeat (first | refine zE ?_ _ | refine zF ?_ | refine zD ?_ _)); refine blk_put (cs := #[.int .i64 a1, .int .i64 (l0.length : Int), .int .i64 x136002_1, .int .i64 x136003_1, .int .i64 x136004_1, .int .i64 0, .int .i64 0, .int .i64 0]) ?_ 5 _ rfl; (with_reducible repeat (first | refine zE ?_ _ | refine zF ?_ | refine zD ?_ _)); refine blk_put (cs := #[.int .i64 a1, .int .i64 (l0.length : Int), .int .i64 x136002_1, .int .i64 x136003_1, .int .i64 0, .int .i64 0, .int .i64 0, .int .i64 0]) ?_ 4 _ rfl; (with_reducible repeat (first | refine zE ?_ _ | refine zF ?_ | refine zD ?_ _)); refine blk_put (cs := #[.int .i64 a1, .int .i64 (l0.length : Int), .int .i64 x136002_1, .int .i64 0, .int .i64 0, .int .i64 0, .int .i64 0, .int .i64 0]) ?_ 3 _ rfl; (with_reducible repeat (first | refine zE ?_ _ | refine zF ?_ | refine zD ?_ _)); refine blk_put (cs := #[.int .i64 a1, .int .i64 (l0.length : Int), .int .i64 0, .int .i64 0, .int .i64 0, .int .i64 0, .int .i64 0, .int .i64 0]) ?_ 2 _ rfl; (with_reducible repeat (first | refine zE ?_ _ | refine zF ?_ | refine zD ?_ _)); refine blk_put (cs := #[.int .i64 a1, .int .i64 0, .int .i64 0, .int .i64 0, .int .i64 0, .int .i64 0, .int .i64 0, .int .i64 0]) ?_ 1 _ rfl; (with_reducible repeat (first | refine zE ?_ _ | refine zF ?_ | refine zD ?_ _)); refine blk_put (cs := #[.int .i64 0, .int .i64 0, .int .i64 0, .int .i64 0, .int .i64 0, .int .i64 0, .int .i64 0, .int .i64 0]) ?_ 0 _ rfl; (with_reducible repeat (first | refine zE ?_ _ | refine zF ?_ | refine zD ?_ _)); exact BK130.out) Try.underlying78 rfl (by kernel_rfl)) rfl ?_
       exact ⟨by first | rfl | (simp [errW_none, errW_some] <;> rfl) | (simp only [← hji4]; first | rfl | (simp [errW_none, errW_some] <;> rfl)) | (simp [*, errW_none, errW_some] <;> rfl), by repeat (first | (with_reducible first | exact HB.out | apply zA | apply zB | apply zC | refine below_set ?_ GE130.out | refine below_set ?_ GE135.out) | exact HB.out)⟩
   ·rw [if_neg c6] at H
    exact absurd H (by simp)
  ·rw [if_neg c5] at H
   exact absurd H (by simp)
 ·rw [if_neg c3] at H
  exact absurd H (by simp)

end Go.Proofs.Ytogjmchhafiafab.PFnExactDownSamples
