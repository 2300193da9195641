-- Written by a program of this session (xprint.py, over the kit's print).
import Derived.Test.YtppifefhpjhmaaaPFnMergedx0
import Derived.Test.YtppifefhpjhmaaaPFnMergedx2
namespace Go.Proofs.Ytppifefhpjhmaaa.PFnMerged
open Go.RowKit Go.Proofs.YtppifefhpjhmaaaW.PrintWords Go.Proofs.YtppifefhpjhmaaaW.PrintLast Go.Proofs.YtppifefhpjhmaaaW.PrintMore Go.Proofs.Ytppifefhpjhmaaa.XWords
attribute [local go_sem] max2_int min2_int max_two min_two max_three min_three max_four min_four   -- for this text's walks alone
set_option linter.unusedVariables false
set_option linter.unusedSimpArgs false

/-! ### spec_l1Cur_samples: function 53 -/
def spec_l1Cur_samples.l0 : Nat → List (S53) → Int → Int → Int → Int → List Int → Int → Int → Option ((List (S53)) × Int × Int)
 | 0, _, _, _, _, _, _, _, _ => none
 | k + 1, x7, x8, x9, x10, x11, x1000, x1001, x1002 => if x11 > 0 then ((spec_l1Cur_valueBy.f k x1000 x1001 x1002 x9).bind fun bt156 => (if x7.length < 8796093022208 then ((some (x7 ++ [(⟨x8, bt156.1⟩ : S53)] : List (S53))).bind fun y159 => ((spec_l1Cur_pick.f k x1000 bt156.2.1 bt156.2.2 12).bind fun bt162 => (if bt162.1 = 0 then ((spec_l1Cur_pick.f k x1000 bt162.2.1 bt162.2.2 400).bind fun bt165 => (spec_l1Cur_samples.l0 k y159 (wrap64 (x8 + (wrap64 (1 + bt165.1)))) bt156.1 (wrap64 (1 + bt165.1)) (wrap64 (x11 - 1)) x1000 bt165.2.1 bt165.2.2)) else (if bt162.1 = 1 then ((spec_l1Cur_pick.f k x1000 bt162.2.1 bt162.2.2 5000).bind fun bt168 => (spec_l1Cur_samples.l0 k y159 (wrap64 (x8 + (wrap64 (1 + bt168.1)))) bt156.1 (wrap64 (1 + bt168.1)) (wrap64 (x11 - 1)) x1000 bt168.2.1 bt168.2.2)) else (if bt162.1 = 2 then ((spec_l1Cur_pick.f k x1000 bt162.2.1 bt162.2.2 30).bind fun bt171 => (spec_l1Cur_samples.l0 k y159 (wrap64 (x8 + (wrap64 (1 + bt171.1)))) bt156.1 (wrap64 (1 + bt171.1)) (wrap64 (x11 - 1)) x1000 bt171.2.1 bt171.2.2)) else (spec_l1Cur_samples.l0 k y159 (wrap64 (x8 + x10)) bt156.1 x10 (wrap64 (x11 - 1)) x1000 bt162.2.1 bt162.2.2)))))) else (none))) else (some (x7, x1001, x1002))
def spec_l1Cur_samples.f (k : Nat) (s0_0 : List Int) (s0_1 : Int) (s0_2 : Int) (a1 : Int) (a2 : Int) : Option ((List (S53)) × Int × Int) := (spec_l1Cur_pick.f k s0_0 s0_1 s0_2 100).bind fun bt147 => ((spec_l1Cur_pick.f k s0_0 bt147.2.1 bt147.2.2 15).bind fun bt150 => ((spec_l1Cur_pick.f k s0_0 bt150.2.1 bt150.2.2 a2).bind fun bt153 => (spec_l1Cur_samples.l0 k ([] : List (S53)) a1 bt147.1 (wrap64 (1 + bt150.1)) bt153.1 s0_0 bt153.2.1 bt153.2.2)))
theorem spec_l1Cur_samples.mono_l : ∀ k, (∀ y0 y1 y2 y3 y4 y5 y6 y7, LeO (spec_l1Cur_samples.l0 k y0 y1 y2 y3 y4 y5 y6 y7) (spec_l1Cur_samples.l0 (k + 1) y0 y1 y2 y3 y4 y5 y6 y7))
 | 0 => fun _ _ _ _ _ _ _ _ r h => by simp [spec_l1Cur_samples.l0] at h
 | k + 1 => by
  have ih0 := spec_l1Cur_samples.mono_l k
  ·intro y0 y1 y2 y3 y4 y5 y6 y7
   unfold spec_l1Cur_samples.l0
   repeat' first
   | (with_reducible exact ih0 _ _ _ _ _ _ _ _)
   | (with_reducible exact spec_l1Cur_pick.mono _ _ _ _ _)
   | (with_reducible exact spec_l1Cur_valueBy.mono _ _ _ _ _)
   | (with_reducible exact LeO.refl _)
   | (with_reducible exact LeO.none _)
   | (with_reducible refine LeO.ite ?_ ?_)
   | (with_reducible refine LeO.bind ?_ (fun _ => ?_))
   | exact ih0 _ _ _ _ _ _ _ _
   | exact spec_l1Cur_pick.mono _ _ _ _ _
   | exact spec_l1Cur_valueBy.mono _ _ _ _ _
   | exact LeO.none _
   | refine LeO.ite ?_ ?_
   | refine LeO.bind ?_ (fun _ => ?_)
theorem spec_l1Cur_samples.mono : ∀ a0 a1 a2 a3 a4 k, LeO (spec_l1Cur_samples.f k a0 a1 a2 a3 a4) (spec_l1Cur_samples.f (k + 1) a0 a1 a2 a3 a4) := by
 intro a0 a1 a2 a3 a4 k
 have ih0 := spec_l1Cur_samples.mono_l k
 unfold spec_l1Cur_samples.f
 repeat' first
   | (with_reducible exact ih0 _ _ _ _ _ _ _ _)
   | (with_reducible exact spec_l1Cur_pick.mono _ _ _ _ _)
   | (with_reducible exact spec_l1Cur_valueBy.mono _ _ _ _ _)
   | (with_reducible exact LeO.refl _)
   | (with_reducible exact LeO.none _)
   | (with_reducible refine LeO.ite ?_ ?_)
   | (with_reducible refine LeO.bind ?_ (fun _ => ?_))
   | exact ih0 _ _ _ _ _ _ _ _
   | exact spec_l1Cur_pick.mono _ _ _ _ _
   | exact spec_l1Cur_valueBy.mono _ _ _ _ _
   | exact LeO.none _
   | refine LeO.ite ?_ ?_
   | refine LeO.bind ?_ (fun _ => ?_)
set_option maxHeartbeats 8000000 in
set_option maxRecDepth 100000 in
theorem spec_l1Cur_samples.calls (k : Nat) (g : Nat) (s0_0 : List Int) (s0_1 : Int) (s0_2 : Int) (a1 : Int) (a2 : Int) (r1 : List (S53)) (r2 : Int) (r3 : Int) (w0 w : World) (hI : IsS72 w0 w g s0_0 s0_1 s0_2) (hB : Below w0.heap.size w0 w) (h : spec_l1Cur_samples.f k s0_0 s0_1 s0_2 a1 a2 = some (r1, r2, r3)) :
  Calls Try.prog 53 #[.pointer (some ⟨g, 0, none⟩), .int .i64 a1, .int .i64 a2] w fun e w' => ∃ v0_ : Value, e = .returned (v0_) ∧ Kd.R k53 53 w' w.heap.size (fun _ => True) v0_ r1 ∧ IsS72 w0 w' g s0_0 r2 r3 ∧ Below w0.heap.size w0 w' ∧ KeepBut w w' g none := by
 have hu53 := Try.underlying53
 have HI0 := Aside0.mk hI
 have HK := Aside0.mk (KeepBut.refl w g none)
 have HL := Aside0.mk hB.size
 clear hI
 have HW0 := Aside0.mk hB.size
 have HB := Aside0.mk hB
 clear hB
 have H : ((spec_l1Cur_pick.f k s0_0 s0_1 s0_2 100).bind fun bt147 => ((spec_l1Cur_pick.f k s0_0 bt147.2.1 bt147.2.2 15).bind fun bt150 => ((spec_l1Cur_pick.f k s0_0 bt150.2.1 bt150.2.2 a2).bind fun bt153 => (spec_l1Cur_samples.l0 k ([] : List (S53)) a1 bt147.1 (wrap64 (1 + bt150.1)) bt153.1 s0_0 bt153.2.1 bt153.2.2)))) = some (r1, r2, r3) := h
 clear h
 replace H := Option.bind_eq_some_iff.mp H
 obtain ⟨⟨t147, t148, t149⟩, A40, H⟩ := H
 replace H : ((spec_l1Cur_pick.f k s0_0 t148 t149 15).bind fun bt150 => ((spec_l1Cur_pick.f k s0_0 bt150.2.1 bt150.2.2 a2).bind fun bt153 => (spec_l1Cur_samples.l0 k ([] : List (S53)) a1 t147 (wrap64 (1 + bt150.1)) bt153.1 s0_0 bt153.2.1 bt153.2.2))) = some (r1, r2, r3) := H
 have A4 := Aside0.mk A40
 clear A40
 replace H := Option.bind_eq_some_iff.mp H
 obtain ⟨⟨t150, t151, t152⟩, A50, H⟩ := H
 replace H : ((spec_l1Cur_pick.f k s0_0 t151 t152 a2).bind fun bt153 => (spec_l1Cur_samples.l0 k ([] : List (S53)) a1 t147 (wrap64 (1 + t150)) bt153.1 s0_0 bt153.2.1 bt153.2.2)) = some (r1, r2, r3) := H
 have A5 := Aside0.mk A50
 clear A50
 replace H := Option.bind_eq_some_iff.mp H
 obtain ⟨⟨t153, t154, t155⟩, A60, H⟩ := H
 replace H : (spec_l1Cur_samples.l0 k ([] : List (S53)) a1 t147 (wrap64 (1 + t150)) t153 s0_0 t154 t155) = some (r1, r2, r3) := H
 have A6 := Aside0.mk A60
 clear A60
 have H' := Aside0.mk H
 clear H
 go_enter Try.func53, Try.ntmps53
 go_wp2_with (first | ((with_reducible refine gate_callee (f := 37) rfl ?_); refine goesL_ (some 14) rfl rfl Try.func37 (by kernel_rfl) rfl #[.pointer (some ⟨g, 0, none⟩), .int .i64 100] rfl (by (try simp only [List.map_toArray, List.map_cons, List.map_nil]); first | done | rfl | (simp only [List.length_drop, List.length_take]; rfl)) ?_; (with_reducible refine (spec_l1Cur_pick.calls k g s0_0 s0_1 s0_2 100 t147 t148 t149 w0 _ ?side1 ?side2 A4.out).mono ?_); (case side1 => repeat (first | (with_reducible first | exact HI0.out | apply IsS72.alloc | apply IsS72.drewN | apply IsS72.drew | apply IsS72.set_1 | apply IsS72.set_2) | exact HI0.out)); (case side2 => repeat (first | (with_reducible first | exact HB.out | apply zA | apply zB | apply zC | refine below_set ?_ (IsS72.ge HI0.out)) | exact HB.out)); rintro e w7 ⟨rfl, hi, hb, hk⟩; refine ⟨_, rfl, ?_⟩; have n0_ := Aside0.mk (KeepBut.trans (by repeat (first | (with_reducible first | exact HK.out | apply KeepBut.set_ | apply keep_drewN | apply keep_drew | apply keep_alloc) | exact HK.out)) hk (.inl rfl)); have n1_ := Aside0.mk (hb); have n2_ := Aside0.mk (hi); clear HK; clear HB; clear HI0; have HK := n0_; have HB := n1_; have HI0 := n2_; clear n0_ n1_ n2_; (try clear hb); (try clear hb2); (try clear hk); (try clear hi)) | ((with_reducible refine gate_callee (f := 37) rfl ?_); refine goesL_ (some 16) rfl rfl Try.func37 (by kernel_rfl) rfl #[.pointer (some ⟨g, 0, none⟩), .int .i64 15] rfl (by (try simp only [List.map_toArray, List.map_cons, List.map_nil]); first | done | rfl | (simp only [List.length_drop, List.length_take]; rfl)) ?_; (with_reducible refine (spec_l1Cur_pick.calls k g s0_0 t148 t149 15 t150 t151 t152 w0 _ ?side1 ?side2 A5.out).mono ?_); (case side1 => repeat (first | (with_reducible first | exact HI0.out | apply IsS72.alloc | apply IsS72.drewN | apply IsS72.drew | apply IsS72.set_1 | apply IsS72.set_2) | exact HI0.out)); (case side2 => repeat (first | (with_reducible first | exact HB.out | apply zA | apply zB | apply zC | refine below_set ?_ (IsS72.ge HI0.out)) | exact HB.out)); rintro e w8 ⟨rfl, hi, hb, hk⟩; refine ⟨_, rfl, ?_⟩; have n0_ := Aside0.mk (KeepBut.trans (by repeat (first | (with_reducible first | exact HK.out | apply KeepBut.set_ | apply keep_drewN | apply keep_drew | apply keep_alloc) | exact HK.out)) hk (.inl rfl)); have n1_ := Aside0.mk (hb); have n2_ := Aside0.mk (hi); clear HK; clear HB; clear HI0; have HK := n0_; have HB := n1_; have HI0 := n2_; clear n0_ n1_ n2_; (try clear hb); (try clear hb2); (try clear hk); (try clear hi)) | ((with_reducible refine gate_callee (f := 37) rfl ?_); refine goesL_ (some 20) rfl rfl Try.func37 (by kernel_rfl) rfl #[.pointer (some ⟨g, 0, none⟩), .int .i64 a2] rfl (by (try simp only [List.map_toArray, List.map_cons, List.map_nil]); first | done | rfl | (simp only [List.length_drop, List.length_take]; rfl)) ?_; (with_reducible refine (spec_l1Cur_pick.calls k g s0_0 t151 t152 a2 t153 t154 t155 w0 _ ?side1 ?side2 A6.out).mono ?_); (case side1 => repeat (first | (with_reducible first | exact HI0.out | apply IsS72.alloc | apply IsS72.drewN | apply IsS72.drew | apply IsS72.set_1 | apply IsS72.set_2) | exact HI0.out)); (case side2 => repeat (first | (with_reducible first | exact HB.out | apply zA | apply zB | apply zC | refine below_set ?_ (IsS72.ge HI0.out)) | exact HB.out)); rintro e w9 ⟨rfl, hi, hb, hk⟩; refine ⟨_, rfl, ?_⟩; have n0_ := Aside0.mk (KeepBut.trans (by repeat (first | (with_reducible first | exact HK.out | apply KeepBut.set_ | apply keep_drewN | apply keep_drew | apply keep_alloc) | exact HK.out)) hk (.inl rfl)); have n1_ := Aside0.mk (hb); have n2_ := Aside0.mk (hi); clear HK; clear HB; clear HI0; have HK := n0_; have HB := n1_; have HI0 := n2_; clear n0_ n1_ n2_; (try clear hb); (try clear hb2); (try clear hk); (try clear hi)))
 go_loopg [7, 8, 9, 10, 11] k (fun kq v7 v8 v9 v10 v11 w' => ∃ (x7_1 : List (S53)) (x8_1 : Int) (x9_1 : Int) (x10_1 : Int) (x11_1 : Int) (x1001_1 : Int) (x1002_1 : Int), v8 = .int .i64 x8_1 ∧ v9 = .int .i64 x9_1 ∧ v10 = .int .i64 x10_1 ∧ v11 = .int .i64 x11_1 ∧ Aside0 (spec_l1Cur_samples.l0 kq x7_1 x8_1 x9_1 x10_1 x11_1 s0_0 x1001_1 x1002_1 = some (r1, r2, r3)) ∧ Aside0 (kq ≤ k) ∧ Aside0 (Kd.R k53 53 w' w.heap.size (fun _ => True) v7 x7_1) ∧ Aside0 (IsS72 w0 w' g s0_0 x1001_1 x1002_1) ∧ Aside0 (KeepBut w w' g none) ∧ Aside0 (Below w0.heap.size w0 w'))
 case atStart => exact ⟨(([] : List (S53))), (a1), (t147), (wrap64 (1 + t150)), (t153), (t154), (t155), (by first | rfl | (simp; done) | (simp [*]; done)), (by first | rfl | (simp; done) | (simp [*]; done)), (by first | rfl | (simp; done) | (simp [*]; done)), (by first | rfl | (simp; done) | (simp [*]; done)), H', ⟨Nat.le_refl _⟩, ⟨by first | exact Kd.R_nil _ _ _ _ _ | exact Kd.N_nil _ _ _ _ _ | exact Kd.V_nil _ _ _ _ _ | exact Kd.Q_nil _ _ _ _ _ | exact Kd.S_nil _ _ _ _ _⟩, ⟨by repeat (first | (with_reducible first | exact HI0.out | apply IsS72.alloc | apply IsS72.drewN | apply IsS72.drew | apply IsS72.set_1 | apply IsS72.set_2) | exact HI0.out)⟩, ⟨by repeat (first | (with_reducible first | exact HK.out | apply KeepBut.set_ | apply keep_drewN | apply keep_drew | apply keep_alloc) | exact HK.out)⟩, ⟨by repeat (first | (with_reducible first | exact HB.out | apply zA | apply zB | apply zC | refine below_set ?_ (IsS72.ge HI0.out)) | exact HB.out)⟩⟩
 case round =>
  clear H'
  try clear p2
  try clear c3
  try clear c5
  try clear p6
  obtain ⟨x7_1, x8_1, x9_1, x10_1, x11_1, x1001_1, x1002_1, rfl, rfl, rfl, rfl, HA, HK1, HO_7, HI0, HK, HB⟩ := hrel
  cases gk with
  | zero => exact absurd HA.out (by simp [spec_l1Cur_samples.l0])
  | succ k1 =>
   have H := HA.out
   clear HA
   simp only [spec_l1Cur_samples.l0] at H
   by_cases c10 : x11_1 > 0
   ·rw [if_pos c10] at H
    have c10b0 : decide (0 < x11_1) = true := decide_eq_true c10
    clear c10
    replace H := Option.bind_eq_some_iff.mp H
    obtain ⟨⟨t156, t157, t158⟩, A110, H⟩ := H
    replace H : (if x7_1.length < 8796093022208 then ((some (x7_1 ++ [(⟨x8_1, t156⟩ : S53)] : List (S53))).bind fun y159 => ((spec_l1Cur_pick.f k1 s0_0 t157 t158 12).bind fun bt162 => (if bt162.1 = 0 then ((spec_l1Cur_pick.f k1 s0_0 bt162.2.1 bt162.2.2 400).bind fun bt165 => (spec_l1Cur_samples.l0 k1 y159 (wrap64 (x8_1 + (wrap64 (1 + bt165.1)))) t156 (wrap64 (1 + bt165.1)) (wrap64 (x11_1 - 1)) s0_0 bt165.2.1 bt165.2.2)) else (if bt162.1 = 1 then ((spec_l1Cur_pick.f k1 s0_0 bt162.2.1 bt162.2.2 5000).bind fun bt168 => (spec_l1Cur_samples.l0 k1 y159 (wrap64 (x8_1 + (wrap64 (1 + bt168.1)))) t156 (wrap64 (1 + bt168.1)) (wrap64 (x11_1 - 1)) s0_0 bt168.2.1 bt168.2.2)) else (if bt162.1 = 2 then ((spec_l1Cur_pick.f k1 s0_0 bt162.2.1 bt162.2.2 30).bind fun bt171 => (spec_l1Cur_samples.l0 k1 y159 (wrap64 (x8_1 + (wrap64 (1 + bt171.1)))) t156 (wrap64 (1 + bt171.1)) (wrap64 (x11_1 - 1)) s0_0 bt171.2.1 bt171.2.2)) else (spec_l1Cur_samples.l0 k1 y159 (wrap64 (x8_1 + x10_1)) t156 x10_1 (wrap64 (x11_1 - 1)) s0_0 bt162.2.1 bt162.2.2)))))) else (none)) = some (r1, r2, r3) := H
    have A11 := Aside0.mk A110
    clear A110
    by_cases c12 : x7_1.length < 8796093022208
    ·rw [if_pos c12] at H
     have LMc12 := Aside0.mk c12
     clear c12
     obtain ⟨y159, hy159⟩ : ∃ y_ : List (S53), y_ = (x7_1 ++ [(⟨x8_1, t156⟩ : S53)]) := ⟨_, rfl⟩
     replace H : ((spec_l1Cur_pick.f k1 s0_0 t157 t158 12).bind fun bt162 => (if bt162.1 = 0 then ((spec_l1Cur_pick.f k1 s0_0 bt162.2.1 bt162.2.2 400).bind fun bt165 => (spec_l1Cur_samples.l0 k1 y159 (wrap64 (x8_1 + (wrap64 (1 + bt165.1)))) t156 (wrap64 (1 + bt165.1)) (wrap64 (x11_1 - 1)) s0_0 bt165.2.1 bt165.2.2)) else (if bt162.1 = 1 then ((spec_l1Cur_pick.f k1 s0_0 bt162.2.1 bt162.2.2 5000).bind fun bt168 => (spec_l1Cur_samples.l0 k1 y159 (wrap64 (x8_1 + (wrap64 (1 + bt168.1)))) t156 (wrap64 (1 + bt168.1)) (wrap64 (x11_1 - 1)) s0_0 bt168.2.1 bt168.2.2)) else (if bt162.1 = 2 then ((spec_l1Cur_pick.f k1 s0_0 bt162.2.1 bt162.2.2 30).bind fun bt171 => (spec_l1Cur_samples.l0 k1 y159 (wrap64 (x8_1 + (wrap64 (1 + bt171.1)))) t156 (wrap64 (1 + bt171.1)) (wrap64 (x11_1 - 1)) s0_0 bt171.2.1 bt171.2.2)) else (spec_l1Cur_samples.l0 k1 y159 (wrap64 (x8_1 + x10_1)) t156 x10_1 (wrap64 (x11_1 - 1)) s0_0 bt162.2.1 bt162.2.2))))) = some (r1, r2, r3) := by first | (rw [hy159]; with_reducible exact H) | (have H2_ := (Option.bind_some _ _).symm.trans H; rw [hy159]; with_reducible exact H2_) | (have H2_ := (Option.bind_some _ _).symm.trans H; with_reducible exact H2_) | with_reducible exact H | (rw [hy159]; exact H) | exact H
     have Ny159 := Aside0.mk hy159
     clear hy159
     replace H := Option.bind_eq_some_iff.mp H
     obtain ⟨⟨t162, t163, t164⟩, A130, H⟩ := H
     replace H : (if t162 = 0 then ((spec_l1Cur_pick.f k1 s0_0 t163 t164 400).bind fun bt165 => (spec_l1Cur_samples.l0 k1 y159 (wrap64 (x8_1 + (wrap64 (1 + bt165.1)))) t156 (wrap64 (1 + bt165.1)) (wrap64 (x11_1 - 1)) s0_0 bt165.2.1 bt165.2.2)) else (if t162 = 1 then ((spec_l1Cur_pick.f k1 s0_0 t163 t164 5000).bind fun bt168 => (spec_l1Cur_samples.l0 k1 y159 (wrap64 (x8_1 + (wrap64 (1 + bt168.1)))) t156 (wrap64 (1 + bt168.1)) (wrap64 (x11_1 - 1)) s0_0 bt168.2.1 bt168.2.2)) else (if t162 = 2 then ((spec_l1Cur_pick.f k1 s0_0 t163 t164 30).bind fun bt171 => (spec_l1Cur_samples.l0 k1 y159 (wrap64 (x8_1 + (wrap64 (1 + bt171.1)))) t156 (wrap64 (1 + bt171.1)) (wrap64 (x11_1 - 1)) s0_0 bt171.2.1 bt171.2.2)) else (spec_l1Cur_samples.l0 k1 y159 (wrap64 (x8_1 + x10_1)) t156 x10_1 (wrap64 (x11_1 - 1)) s0_0 t163 t164)))) = some (r1, r2, r3) := H
     have A13 := Aside0.mk A130
     clear A130
     by_cases c14 : t162 = 0
     ·rw [if_pos c14] at H
      have c14b0 : (t162 == 0) = true := beq_iff_eq.mpr c14
      have c14b1 : (t162 != 0) = false := bne_eq_false_iff_eq.mpr c14
      clear c14
      replace H := Option.bind_eq_some_iff.mp H
      obtain ⟨⟨t165, t166, t167⟩, A150, H⟩ := H
      replace H : (spec_l1Cur_samples.l0 k1 y159 (wrap64 (x8_1 + (wrap64 (1 + t165)))) t156 (wrap64 (1 + t165)) (wrap64 (x11_1 - 1)) s0_0 t166 t167) = some (r1, r2, r3) := H
      have A15 := Aside0.mk A150
      clear A150
      have H' := Aside0.mk H
      clear H
      go_wp2_with (first | ((with_reducible refine gate_callee (f := 73) rfl ?_); refine goesL_ (some 27) rfl rfl Try.func73 (by kernel_rfl) rfl #[.pointer (some ⟨g, 0, none⟩), .int .i64 x9_1] rfl (by (try simp only [List.map_toArray, List.map_cons, List.map_nil]); first | done | rfl | (simp only [List.length_drop, List.length_take]; rfl)) ?_; (with_reducible refine (spec_l1Cur_valueBy.calls k1 g s0_0 x1001_1 x1002_1 x9_1 t156 t157 t158 w0 _ ?side1 ?side2 A11.out).mono ?_); (case side1 => repeat (first | (with_reducible first | exact HI0.out | apply IsS72.alloc | apply IsS72.drewN | apply IsS72.drew | apply IsS72.set_1 | apply IsS72.set_2) | exact HI0.out)); (case side2 => repeat (first | (with_reducible first | exact HB.out | apply zA | apply zB | apply zC | refine below_set ?_ (IsS72.ge HI0.out)) | exact HB.out)); rintro e w16 ⟨rfl, hi, hb, hk⟩; refine ⟨_, rfl, ?_⟩; have n0_ := Aside0.mk (Kd.R_mono (Kd.R_keep (IsS72.apart (show IsS72 w0 _ g s0_0 x1001_1 x1002_1 from by repeat (first | (with_reducible first | exact HI0.out | apply IsS72.alloc | apply IsS72.drewN | apply IsS72.drew | apply IsS72.set_1 | apply IsS72.set_2) | exact HI0.out)) (by (with_reducible repeat (first | apply zG | apply zH | apply zI)); exact HO_7.out) (by decide)) hk (fun _ h => h.2)) (fun _ h => h.1)); have n1_ := Aside0.mk (KeepBut.trans (by repeat (first | (with_reducible first | exact HK.out | apply KeepBut.set_ | apply keep_drewN | apply keep_drew | apply keep_alloc) | exact HK.out)) hk (.inl rfl)); have n2_ := Aside0.mk (hb); have n3_ := Aside0.mk (hi); clear HO_7; clear HK; clear HB; clear HI0; have HO_7 := n0_; have HK := n1_; have HB := n2_; have HI0 := n3_; clear n0_ n1_ n2_ n3_; (try clear hb); (try clear hb2); (try clear hk); (try clear hi)) | ((with_reducible refine gate_builtin (b := .append) (xs := #[.tmp 28, .tmp 32]) rfl ?_); at_builtin; refine Kd.R_append k53 w.heap.size rfl (.tmp 28) (.tmp 32) 46 53 (.agg #[(.int .i64 0), (.int .i64 0)]) 16 rfl Try.underlying46 info53 rfl (by decide) (by omega) u7 x7_1 (⟨x8_1, t156⟩ : S53) [.int .i64 x8_1, .int .i64 t156] (fun _ => True) (fun _ => False) rfl rfl ?aP (fun _ hk => hk.elim) ?aF ?aO (Below.refl _ _) ?aS ?aL ?_; (case aP => exact k53_mkM _ _ _ (⟨x8_1, t156⟩ : S53)); (case aF => exact (fun _ _ => trivial)); (case aO => exact (by (with_reducible repeat (first | apply zG | apply zH | apply zI)); exact HO_7.out)); (case aS => exact (keep_size (w := w) (g := g) (row := none) (by repeat (first | (with_reducible first | exact HK.out | apply KeepBut.set_ | apply keep_drewN | apply keep_drew | apply keep_alloc) | exact HK.out)))); (case aL => have := LMc12.out; omega); intro v160 w17 ho hb hg hat; rw [← Ny159.out] at ho; have n0_ := Aside0.mk (IsS72.grown (by repeat (first | (with_reducible first | exact HI0.out | apply IsS72.alloc | apply IsS72.drewN | apply IsS72.drew | apply IsS72.set_1 | apply IsS72.set_2) | exact HI0.out)) hg (IsS72.own_ne HI0.out HO_7.out (by decide))); have n1_ := Aside0.mk (below_weaken (by repeat (first | (with_reducible first | exact HB.out | apply zA | apply zB | apply zC | refine below_set ?_ (IsS72.ge HI0.out)) | exact HB.out)) HL.out hb); have n2_ := Aside0.mk (KeepBut.trans (by repeat (first | (with_reducible first | exact HK.out | apply KeepBut.set_ | apply keep_drewN | apply keep_drew | apply keep_alloc) | exact HK.out)) (KeepBut.of_grown hg g) (Kd.R_base2 HO_7.out)); have n3_ := Aside0.mk (ho); clear HI0; clear HB; clear HK; clear HO_7; have HI0 := n0_; have HB := n1_; have HK := n2_; have HO161 := n3_; clear n0_ n1_ n2_ n3_; clear ho hb hg hat) | ((with_reducible refine gate_callee (f := 37) rfl ?_); refine goesL_ (some 35) rfl rfl Try.func37 (by kernel_rfl) rfl #[.pointer (some ⟨g, 0, none⟩), .int .i64 12] rfl (by (try simp only [List.map_toArray, List.map_cons, List.map_nil]); first | done | rfl | (simp only [List.length_drop, List.length_take]; rfl)) ?_; (with_reducible refine (spec_l1Cur_pick.calls k1 g s0_0 t157 t158 12 t162 t163 t164 w0 _ ?side1 ?side2 A13.out).mono ?_); (case side1 => repeat (first | (with_reducible first | exact HI0.out | apply IsS72.alloc | apply IsS72.drewN | apply IsS72.drew | apply IsS72.set_1 | apply IsS72.set_2) | exact HI0.out)); (case side2 => repeat (first | (with_reducible first | exact HB.out | apply zA | apply zB | apply zC | refine below_set ?_ (IsS72.ge HI0.out)) | exact HB.out)); rintro e w18 ⟨rfl, hi, hb, hk⟩; refine ⟨_, rfl, ?_⟩; have n0_ := Aside0.mk (Kd.R_mono (Kd.R_keep (IsS72.apart (show IsS72 w0 _ g s0_0 t157 t158 from by repeat (first | (with_reducible first | exact HI0.out | apply IsS72.alloc | apply IsS72.drewN | apply IsS72.drew | apply IsS72.set_1 | apply IsS72.set_2) | exact HI0.out)) (by (with_reducible repeat (first | apply zG | apply zH | apply zI)); exact HO161.out) (by decide)) hk (fun _ h => h.2)) (fun _ h => h.1)); have n1_ := Aside0.mk (KeepBut.trans (by repeat (first | (with_reducible first | exact HK.out | apply KeepBut.set_ | apply keep_drewN | apply keep_drew | apply keep_alloc) | exact HK.out)) hk (.inl rfl)); have n2_ := Aside0.mk (hb); have n3_ := Aside0.mk (hi); clear HO161; clear HK; clear HB; clear HI0; have HO161 := n0_; have HK := n1_; have HB := n2_; have HI0 := n3_; clear n0_ n1_ n2_ n3_; (try clear hb); (try clear hb2); (try clear hk); (try clear hi)) | ((with_reducible refine gate_callee (f := 37) rfl ?_); refine goesL_ (some 39) rfl rfl Try.func37 (by kernel_rfl) rfl #[.pointer (some ⟨g, 0, none⟩), .int .i64 400] rfl (by (try simp only [List.map_toArray, List.map_cons, List.map_nil]); first | done | rfl | (simp only [List.length_drop, List.length_take]; rfl)) ?_; (with_reducible refine (spec_l1Cur_pick.calls k1 g s0_0 t163 t164 400 t165 t166 t167 w0 _ ?side1 ?side2 A15.out).mono ?_); (case side1 => repeat (first | (with_reducible first | exact HI0.out | apply IsS72.alloc | apply IsS72.drewN | apply IsS72.drew | apply IsS72.set_1 | apply IsS72.set_2) | exact HI0.out)); (case side2 => repeat (first | (with_reducible first | exact HB.out | apply zA | apply zB | apply zC | refine below_set ?_ (IsS72.ge HI0.out)) | exact HB.out)); rintro e w19 ⟨rfl, hi, hb, hk⟩; refine ⟨_, rfl, ?_⟩; have n0_ := Aside0.mk (Kd.R_mono (Kd.R_keep (IsS72.apart (show IsS72 w0 _ g s0_0 t163 t164 from by repeat (first | (with_reducible first | exact HI0.out | apply IsS72.alloc | apply IsS72.drewN | apply IsS72.drew | apply IsS72.set_1 | apply IsS72.set_2) | exact HI0.out)) (by (with_reducible repeat (first | apply zG | apply zH | apply zI)); exact HO161.out) (by decide)) hk (fun _ h => h.2)) (fun _ h => h.1)); have n1_ := Aside0.mk (KeepBut.trans (by repeat (first | (with_reducible first | exact HK.out | apply KeepBut.set_ | apply keep_drewN | apply keep_drew | apply keep_alloc) | exact HK.out)) hk (.inl rfl)); have n2_ := Aside0.mk (hb); have n3_ := Aside0.mk (hi); clear HO161; clear HK; clear HB; clear HI0; have HO161 := n0_; have HK := n1_; have HB := n2_; have HI0 := n3_; clear n0_ n1_ n2_ n3_; (try clear hb); (try clear hb2); (try clear hk); (try clear hi)))
      go_roundg k1
      case measure => have := HK1.out; omega
      case rel => exact ⟨(y159), (wrap64 (x8_1 + (wrap64 (1 + t165)))), (t156), (wrap64 (1 + t165)), (wrap64 (x11_1 - 1)), (t166), (t167), (by first | rfl | (simp; done) | (simp [*]; done)), (by first | rfl | (simp; done) | (simp [*]; done)), (by first | rfl | (simp; done) | (simp [*]; done)), (by first | rfl | (simp; done) | (simp [*]; done)), H', ⟨by have := HK1.out; omega⟩, ⟨by (with_reducible repeat (first | apply zG | apply zH | apply zI)); exact HO161.out⟩, ⟨by repeat (first | (with_reducible first | exact HI0.out | apply IsS72.alloc | apply IsS72.drewN | apply IsS72.drew | apply IsS72.set_1 | apply IsS72.set_2) | exact HI0.out)⟩, ⟨by repeat (first | (with_reducible first | exact HK.out | apply KeepBut.set_ | apply keep_drewN | apply keep_drew | apply keep_alloc) | exact HK.out)⟩, ⟨by repeat (first | (with_reducible first | exact HB.out | apply zA | apply zB | apply zC | refine below_set ?_ (IsS72.ge HI0.out)) | exact HB.out)⟩⟩
     ·rw [if_neg c14] at H
      have c14b0 : (t162 == 0) = false := beq_eq_false_iff_ne.mpr c14
      have c14b1 : (t162 != 0) = true := bne_iff_ne.mpr c14
      by_cases c20 : t162 = 1
      ·rw [if_pos c20] at H
       have c20b0 : (t162 == 1) = true := beq_iff_eq.mpr c20
       have c20b1 : (t162 != 1) = false := bne_eq_false_iff_eq.mpr c20
       clear c20
       replace H := Option.bind_eq_some_iff.mp H
       obtain ⟨⟨t168, t169, t170⟩, A210, H⟩ := H
       replace H : (spec_l1Cur_samples.l0 k1 y159 (wrap64 (x8_1 + (wrap64 (1 + t168)))) t156 (wrap64 (1 + t168)) (wrap64 (x11_1 - 1)) s0_0 t169 t170) = some (r1, r2, r3) := H
       have A21 := Aside0.mk A210
       clear A210
       have H' := Aside0.mk H
       clear H
       go_wp2_with (first | ((with_reducible refine gate_callee (f := 73) rfl ?_); refine goesL_ (some 27) rfl rfl Try.func73 (by kernel_rfl) rfl #[.pointer (some ⟨g, 0, none⟩), .int .i64 x9_1] rfl (by (try simp only [List.map_toArray, List.map_cons, List.map_nil]); first | done | rfl | (simp only [List.length_drop, List.length_take]; rfl)) ?_; (with_reducible refine (spec_l1Cur_valueBy.calls k1 g s0_0 x1001_1 x1002_1 x9_1 t156 t157 t158 w0 _ ?side1 ?side2 A11.out).mono ?_); (case side1 => repeat (first | (with_reducible first | exact HI0.out | apply IsS72.alloc | apply IsS72.drewN | apply IsS72.drew | apply IsS72.set_1 | apply IsS72.set_2) | exact HI0.out)); (case side2 => repeat (first | (with_reducible first | exact HB.out | apply zA | apply zB | apply zC | refine below_set ?_ (IsS72.ge HI0.out)) | exact HB.out)); rintro e w22 ⟨rfl, hi, hb, hk⟩; refine ⟨_, rfl, ?_⟩; have n0_ := Aside0.mk (Kd.R_mono (Kd.R_keep (IsS72.apart (show IsS72 w0 _ g s0_0 x1001_1 x1002_1 from by repeat (first | (with_reducible first | exact HI0.out | apply IsS72.alloc | apply IsS72.drewN | apply IsS72.drew | apply IsS72.set_1 | apply IsS72.set_2) | exact HI0.out)) (by (with_reducible repeat (first | apply zG | apply zH | apply zI)); exact HO_7.out) (by decide)) hk (fun _ h => h.2)) (fun _ h => h.1)); have n1_ := Aside0.mk (KeepBut.trans (by repeat (first | (with_reducible first | exact HK.out | apply KeepBut.set_ | apply keep_drewN | apply keep_drew | apply keep_alloc) | exact HK.out)) hk (.inl rfl)); have n2_ := Aside0.mk (hb); have n3_ := Aside0.mk (hi); clear HO_7; clear HK; clear HB; clear HI0; have HO_7 := n0_; have HK := n1_; have HB := n2_; have HI0 := n3_; clear n0_ n1_ n2_ n3_; (try clear hb); (try clear hb2); (try clear hk); (try clear hi)) | ((with_reducible refine gate_builtin (b := .append) (xs := #[.tmp 28, .tmp 32]) rfl ?_); at_builtin; refine Kd.R_append k53 w.heap.size rfl (.tmp 28) (.tmp 32) 46 53 (.agg #[(.int .i64 0), (.int .i64 0)]) 16 rfl Try.underlying46 info53 rfl (by decide) (by omega) u7 x7_1 (⟨x8_1, t156⟩ : S53) [.int .i64 x8_1, .int .i64 t156] (fun _ => True) (fun _ => False) rfl rfl ?aP (fun _ hk => hk.elim) ?aF ?aO (Below.refl _ _) ?aS ?aL ?_; (case aP => exact k53_mkM _ _ _ (⟨x8_1, t156⟩ : S53)); (case aF => exact (fun _ _ => trivial)); (case aO => exact (by (with_reducible repeat (first | apply zG | apply zH | apply zI)); exact HO_7.out)); (case aS => exact (keep_size (w := w) (g := g) (row := none) (by repeat (first | (with_reducible first | exact HK.out | apply KeepBut.set_ | apply keep_drewN | apply keep_drew | apply keep_alloc) | exact HK.out)))); (case aL => have := LMc12.out; omega); intro v160 w23 ho hb hg hat; rw [← Ny159.out] at ho; have n0_ := Aside0.mk (IsS72.grown (by repeat (first | (with_reducible first | exact HI0.out | apply IsS72.alloc | apply IsS72.drewN | apply IsS72.drew | apply IsS72.set_1 | apply IsS72.set_2) | exact HI0.out)) hg (IsS72.own_ne HI0.out HO_7.out (by decide))); have n1_ := Aside0.mk (below_weaken (by repeat (first | (with_reducible first | exact HB.out | apply zA | apply zB | apply zC | refine below_set ?_ (IsS72.ge HI0.out)) | exact HB.out)) HL.out hb); have n2_ := Aside0.mk (KeepBut.trans (by repeat (first | (with_reducible first | exact HK.out | apply KeepBut.set_ | apply keep_drewN | apply keep_drew | apply keep_alloc) | exact HK.out)) (KeepBut.of_grown hg g) (Kd.R_base2 HO_7.out)); have n3_ := Aside0.mk (ho); clear HI0; clear HB; clear HK; clear HO_7; have HI0 := n0_; have HB := n1_; have HK := n2_; have HO161 := n3_; clear n0_ n1_ n2_ n3_; clear ho hb hg hat) | ((with_reducible refine gate_callee (f := 37) rfl ?_); refine goesL_ (some 35) rfl rfl Try.func37 (by kernel_rfl) rfl #[.pointer (some ⟨g, 0, none⟩), .int .i64 12] rfl (by (try simp only [List.map_toArray, List.map_cons, List.map_nil]); first | done | rfl | (simp only [List.length_drop, List.length_take]; rfl)) ?_; (with_reducible refine (spec_l1Cur_pick.calls k1 g s0_0 t157 t158 12 t162 t163 t164 w0 _ ?side1 ?side2 A13.out).mono ?_); (case side1 => repeat (first | (with_reducible first | exact HI0.out | apply IsS72.alloc | apply IsS72.drewN | apply IsS72.drew | apply IsS72.set_1 | apply IsS72.set_2) | exact HI0.out)); (case side2 => repeat (first | (with_reducible first | exact HB.out | apply zA | apply zB | apply zC | refine below_set ?_ (IsS72.ge HI0.out)) | exact HB.out)); rintro e w24 ⟨rfl, hi, hb, hk⟩; refine ⟨_, rfl, ?_⟩; have n0_ := Aside0.mk (Kd.R_mono (Kd.R_keep (IsS72.apart (show IsS72 w0 _ g s0_0 t157 t158 from by repeat (first | (with_reducible first | exact HI0.out | apply IsS72.alloc | apply IsS72.drewN | apply IsS72.drew | apply IsS72.set_1 | apply IsS72.set_2) | exact HI0.out)) (by (with_reducible repeat (first | apply zG | apply zH | apply zI)); exact HO161.out) (by decide)) hk (fun _ h => h.2)) (fun _ h => h.1)); have n1_ := Aside0.mk (KeepBut.trans (by repeat (first | (with_reducible first | exact HK.out | apply KeepBut.set_ | apply keep_drewN | apply keep_drew | apply keep_alloc) | exact HK.out)) hk (.inl rfl)); have n2_ := Aside0.mk (hb); have n3_ := Aside0.mk (hi); clear HO161; clear HK; clear HB; clear HI0; have HO161 := n0_; have HK := n1_; have HB := n2_; have HI0 := n3_; clear n0_ n1_ n2_ n3_; (try clear hb); (try clear hb2); (try clear hk); (try clear hi)) | ((with_reducible refine gate_callee (f := 37) rfl ?_); refine goesL_ (some 44) rfl rfl Try.func37 (by kernel_rfl) rfl #[.pointer (some ⟨g, 0, none⟩), .int .i64 5000] rfl (by (try simp only [List.map_toArray, List.map_cons, List.map_nil]); first | done | rfl | (simp only [List.length_drop, List.length_take]; rfl)) ?_; (with_reducible refine (spec_l1Cur_pick.calls k1 g s0_0 t163 t164 5000 t168 t169 t170 w0 _ ?side1 ?side2 A21.out).mono ?_); (case side1 => repeat (first | (with_reducible first | exact HI0.out | apply IsS72.alloc | apply IsS72.drewN | apply IsS72.drew | apply IsS72.set_1 | apply IsS72.set_2) | exact HI0.out)); (case side2 => repeat (first | (with_reducible first | exact HB.out | apply zA | apply zB | apply zC | refine below_set ?_ (IsS72.ge HI0.out)) | exact HB.out)); rintro e w25 ⟨rfl, hi, hb, hk⟩; refine ⟨_, rfl, ?_⟩; have n0_ := Aside0.mk (Kd.R_mono (Kd.R_keep (IsS72.apart (show IsS72 w0 _ g s0_0 t163 t164 from by repeat (first | (with_reducible first | exact HI0.out | apply IsS72.alloc | apply IsS72.drewN | apply IsS72.drew | apply IsS72.set_1 | apply IsS72.set_2) | exact HI0.out)) (by (with_reducible repeat (first | apply zG | apply zH | apply zI)); exact HO161.out) (by decide)) hk (fun _ h => h.2)) (fun _ h => h.1)); have n1_ := Aside0.mk (KeepBut.trans (by repeat (first | (with_reducible first | exact HK.out | apply KeepBut.set_ | apply keep_drewN | apply keep_drew | apply keep_alloc) | exact HK.out)) hk (.inl rfl)); have n2_ := Aside0.mk (hb); have n3_ := Aside0.mk (hi); clear HO161; clear HK; clear HB; clear HI0; have HO161 := n0_; have HK := n1_; have HB := n2_; have HI0 := n3_; clear n0_ n1_ n2_ n3_; (try clear hb); (try clear hb2); (try clear hk); (try clear hi)))
       go_roundg k1
       case measure => have := HK1.out; omega
       case rel => exact ⟨(y159), (wrap64 (x8_1 + (wrap64 (1 + t168)))), (t156), (wrap64 (1 + t168)), (wrap64 (x11_1 - 1)), (t169), (t170), (by first | rfl | (simp; done) | (simp [*]; done)), (by first | rfl | (simp; done) | (simp [*]; done)), (by first | rfl | (simp; done) | (simp [*]; done)), (by first | rfl | (simp; done) | (simp [*]; done)), H', ⟨by have := HK1.out; omega⟩, ⟨by (with_reducible repeat (first | apply zG | apply zH | apply zI)); exact HO161.out⟩, ⟨by repeat (first | (with_reducible first | exact HI0.out | apply IsS72.alloc | apply IsS72.drewN | apply IsS72.drew | apply IsS72.set_1 | apply IsS72.set_2) | exact HI0.out)⟩, ⟨by repeat (first | (with_reducible first | exact HK.out | apply KeepBut.set_ | apply keep_drewN | apply keep_drew | apply keep_alloc) | exact HK.out)⟩, ⟨by repeat (first | (with_reducible first | exact HB.out | apply zA | apply zB | apply zC | refine below_set ?_ (IsS72.ge HI0.out)) | exact HB.out)⟩⟩
      ·rw [if_neg c20] at H
       have c20b0 : (t162 == 1) = false := beq_eq_false_iff_ne.mpr c20
       have c20b1 : (t162 != 1) = true := bne_iff_ne.mpr c20
       by_cases c26 : t162 = 2
       ·rw [if_pos c26] at H
        have c26b0 : (t162 == 2) = true := beq_iff_eq.mpr c26
        have c26b1 : (t162 != 2) = false := bne_eq_false_iff_eq.mpr c26
        clear c26
        replace H := Option.bind_eq_some_iff.mp H
        obtain ⟨⟨t171, t172, t173⟩, A270, H⟩ := H
        replace H : (spec_l1Cur_samples.l0 k1 y159 (wrap64 (x8_1 + (wrap64 (1 + t171)))) t156 (wrap64 (1 + t171)) (wrap64 (x11_1 - 1)) s0_0 t172 t173) = some (r1, r2, r3) := H
        have A27 := Aside0.mk A270
        clear A270
        have H' := Aside0.mk H
        clear H
        go_wp2_with (first | ((with_reducible refine gate_callee (f := 73) rfl ?_); refine goesL_ (some 27) rfl rfl Try.func73 (by kernel_rfl) rfl #[.pointer (some ⟨g, 0, none⟩), .int .i64 x9_1] rfl (by (try simp only [List.map_toArray, List.map_cons, List.map_nil]); first | done | rfl | (simp only [List.length_drop, List.length_take]; rfl)) ?_; (with_reducible refine (spec_l1Cur_valueBy.calls k1 g s0_0 x1001_1 x1002_1 x9_1 t156 t157 t158 w0 _ ?side1 ?side2 A11.out).mono ?_); (case side1 => repeat (first | (with_reducible first | exact HI0.out | apply IsS72.alloc | apply IsS72.drewN | apply IsS72.drew | apply IsS72.set_1 | apply IsS72.set_2) | exact HI0.out)); (case side2 => repeat (first | (with_reducible first | exact HB.out | apply zA | apply zB | apply zC | refine below_set ?_ (IsS72.ge HI0.out)) | exact HB.out)); rintro e w28 ⟨rfl, hi, hb, hk⟩; refine ⟨_, rfl, ?_⟩; have n0_ := Aside0.mk (Kd.R_mono (Kd.R_keep (IsS72.apart (show IsS72 w0 _ g s0_0 x1001_1 x1002_1 from by repeat (first | (with_reducible first | exact HI0.out | apply IsS72.alloc | apply IsS72.drewN | apply IsS72.drew | apply IsS72.set_1 | apply IsS72.set_2) | exact HI0.out)) (by (with_reducible repeat (first | apply zG | apply zH | apply zI)); exact HO_7.out) (by decide)) hk (fun _ h => h.2)) (fun _ h => h.1)); have n1_ := Aside0.mk (KeepBut.trans (by repeat (first | (with_reducible first | exact HK.out | apply KeepBut.set_ | apply keep_drewN | apply keep_drew | apply keep_alloc) | exact HK.out)) hk (.inl rfl)); have n2_ := Aside0.mk (hb); have n3_ := Aside0.mk (hi); clear HO_7; clear HK; clear HB; clear HI0; have HO_7 := n0_; have HK := n1_; have HB := n2_; have HI0 := n3_; clear n0_ n1_ n2_ n3_; (try clear hb); (try clear hb2); (try clear hk); (try clear hi)) | ((with_reducible refine gate_builtin (b := .append) (xs := #[.tmp 28, .tmp 32]) rfl ?_); at_builtin; refine Kd.R_append k53 w.heap.size rfl (.tmp 28) (.tmp 32) 46 53 (.agg #[(.int .i64 0), (.int .i64 0)]) 16 rfl Try.underlying46 info53 rfl (by decide) (by omega) u7 x7_1 (⟨x8_1, t156⟩ : S53) [.int .i64 x8_1, .int .i64 t156] (fun _ => True) (fun _ => False) rfl rfl ?aP (fun _ hk => hk.elim) ?aF ?aO (Below.refl _ _) ?aS ?aL ?_; (case aP => exact k53_mkM _ _ _ (⟨x8_1, t156⟩ : S53)); (case aF => exact (fun _ _ => trivial)); (case aO => exact (by (with_reducible repeat (first | apply zG | apply zH | apply zI)); exact HO_7.out)); (case aS => exact (keep_size (w := w) (g := g) (row := none) (by repeat (first | (with_reducible first | exact HK.out | apply KeepBut.set_ | apply keep_drewN | apply keep_drew | apply keep_alloc) | exact HK.out)))); (case aL => have := LMc12.out; omega); intro v160 w29 ho hb hg hat; rw [← Ny159.out] at ho; have n0_ := Aside0.mk (IsS72.grown (by repeat (first | (with_reducible first | exact HI0.out | apply IsS72.alloc | apply IsS72.drewN | apply IsS72.drew | apply IsS72.set_1 | apply IsS72.set_2) | exact HI0.out)) hg (IsS72.own_ne HI0.out HO_7.out (by decide))); have n1_ := Aside0.mk (below_weaken (by repeat (first | (with_reducible first | exact HB.out | apply zA | apply zB | apply zC | refine below_set ?_ (IsS72.ge HI0.out)) | exact HB.out)) HL.out hb); have n2_ := Aside0.mk (KeepBut.trans (by repeat (first | (with_reducible first | exact HK.out | apply KeepBut.set_ | apply keep_drewN | apply keep_drew | apply keep_alloc) | exact HK.out)) (KeepBut.of_grown hg g) (Kd.R_base2 HO_7.out)); have n3_ := Aside0.mk (ho); clear HI0; clear HB; clear HK; clear HO_7; have HI0 := n0_; have HB := n1_; have HK := n2_; have HO161 := n3_; clear n0_ n1_ n2_ n3_; clear ho hb hg hat) | ((with_reducible refine gate_callee (f := 37) rfl ?_); refine goesL_ (some 35) rfl rfl Try.func37 (by kernel_rfl) rfl #[.pointer (some ⟨g, 0, none⟩), .int .i64 12] rfl (by (try simp only [List.map_toArray, List.map_cons, List.map_nil]); first | done | rfl | (simp only [List.length_drop, List.length_take]; rfl)) ?_; (with_reducible refine (spec_l1Cur_pick.calls k1 g s0_0 t157 t158 12 t162 t163 t164 w0 _ ?side1 ?side2 A13.out).mono ?_); (case side1 => repeat (first | (with_reducible first | exact HI0.out | apply IsS72.alloc | apply IsS72.drewN | apply IsS72.drew | apply IsS72.set_1 | apply IsS72.set_2) | exact HI0.out)); (case side2 => repeat (first | (with_reducible first | exact HB.out | apply zA | apply zB | apply zC | refine below_set ?_ (IsS72.ge HI0.out)) | exact HB.out)); rintro e w30 ⟨rfl, hi, hb, hk⟩; refine ⟨_, rfl, ?_⟩; have n0_ := Aside0.mk (Kd.R_mono (Kd.R_keep (IsS72.apart (show IsS72 w0 _ g s0_0 t157 t158 from by repeat (first | (with_reducible first | exact HI0.out | apply IsS72.alloc | apply IsS72.drewN | apply IsS72.drew | apply IsS72.set_1 | apply IsS72.set_2) | exact HI0.out)) (by (with_reducible repeat (first | apply zG | apply zH | apply zI)); exact HO161.out) (by decide)) hk (fun _ h => h.2)) (fun _ h => h.1)); have n1_ := Aside0.mk (KeepBut.trans (by repeat (first | (with_reducible first | exact HK.out | apply KeepBut.set_ | apply keep_drewN | apply keep_drew | apply keep_alloc) | exact HK.out)) hk (.inl rfl)); have n2_ := Aside0.mk (hb); have n3_ := Aside0.mk (hi); clear HO161; clear HK; clear HB; clear HI0; have HO161 := n0_; have HK := n1_; have HB := n2_; have HI0 := n3_; clear n0_ n1_ n2_ n3_; (try clear hb); (try clear hb2); (try clear hk); (try clear hi)) | ((with_reducible refine gate_callee (f := 37) rfl ?_); refine goesL_ (some 49) rfl rfl Try.func37 (by kernel_rfl) rfl #[.pointer (some ⟨g, 0, none⟩), .int .i64 30] rfl (by (try simp only [List.map_toArray, List.map_cons, List.map_nil]); first | done | rfl | (simp only [List.length_drop, List.length_take]; rfl)) ?_; (with_reducible refine (spec_l1Cur_pick.calls k1 g s0_0 t163 t164 30 t171 t172 t173 w0 _ ?side1 ?side2 A27.out).mono ?_); (case side1 => repeat (first | (with_reducible first | exact HI0.out | apply IsS72.alloc | apply IsS72.drewN | apply IsS72.drew | apply IsS72.set_1 | apply IsS72.set_2) | exact HI0.out)); (case side2 => repeat (first | (with_reducible first | exact HB.out | apply zA | apply zB | apply zC | refine below_set ?_ (IsS72.ge HI0.out)) | exact HB.out)); rintro e w31 ⟨rfl, hi, hb, hk⟩; refine ⟨_, rfl, ?_⟩; have n0_ := Aside0.mk (Kd.R_mono (Kd.R_keep (IsS72.apart (show IsS72 w0 _ g s0_0 t163 t164 from by repeat (first | (with_reducible first | exact HI0.out | apply IsS72.alloc | apply IsS72.drewN | apply IsS72.drew | apply IsS72.set_1 | apply IsS72.set_2) | exact HI0.out)) (by (with_reducible repeat (first | apply zG | apply zH | apply zI)); exact HO161.out) (by decide)) hk (fun _ h => h.2)) (fun _ h => h.1)); have n1_ := Aside0.mk (KeepBut.trans (by repeat (first | (with_reducible first | exact HK.out | apply KeepBut.set_ | apply keep_drewN | apply keep_drew | apply keep_alloc) | exact HK.out)) hk (.inl rfl)); have n2_ := Aside0.mk (hb); have n3_ := Aside0.mk (hi); clear HO161; clear HK; clear HB; clear HI0; have HO161 := n0_; have HK := n1_; have HB := n2_; have HI0 := n3_; clear n0_ n1_ n2_ n3_; (try clear hb); (try clear hb2); (try clear hk); (try clear hi)))
        go_roundg k1
        case measure => have := HK1.out; omega
        case rel => exact ⟨(y159), (wrap64 (x8_1 + (wrap64 (1 + t171)))), (t156), (wrap64 (1 + t171)), (wrap64 (x11_1 - 1)), (t172), (t173), (by first | rfl | (simp; done) | (simp [*]; done)), (by first | rfl | (simp; done) | (simp [*]; done)), (by first | rfl | (simp; done) | (simp [*]; done)), (by first | rfl | (simp; done) | (simp [*]; done)), H', ⟨by have := HK1.out; omega⟩, ⟨by (with_reducible repeat (first | apply zG | apply zH | apply zI)); exact HO161.out⟩, ⟨by repeat (first | (with_reducible first | exact HI0.out | apply IsS72.alloc | apply IsS72.drewN | apply IsS72.drew | apply IsS72.set_1 | apply IsS72.set_2) | exact HI0.out)⟩, ⟨by repeat (first | (with_reducible first | exact HK.out | apply KeepBut.set_ | apply keep_drewN | apply keep_drew | apply keep_alloc) | exact HK.out)⟩, ⟨by repeat (first | (with_reducible first | exact HB.out | apply zA | apply zB | apply zC | refine below_set ?_ (IsS72.ge HI0.out)) | exact HB.out)⟩⟩
       ·rw [if_neg c26] at H
        have c26b0 : (t162 == 2) = false := beq_eq_false_iff_ne.mpr c26
        have c26b1 : (t162 != 2) = true := bne_iff_ne.mpr c26
        have H' := Aside0.mk H
        clear H
        go_wp2_with (first | ((with_reducible refine gate_callee (f := 73) rfl ?_); refine goesL_ (some 27) rfl rfl Try.func73 (by kernel_rfl) rfl #[.pointer (some ⟨g, 0, none⟩), .int .i64 x9_1] rfl (by (try simp only [List.map_toArray, List.map_cons, List.map_nil]); first | done | rfl | (simp only [List.length_drop, List.length_take]; rfl)) ?_; (with_reducible refine (spec_l1Cur_valueBy.calls k1 g s0_0 x1001_1 x1002_1 x9_1 t156 t157 t158 w0 _ ?side1 ?side2 A11.out).mono ?_); (case side1 => repeat (first | (with_reducible first | exact HI0.out | apply IsS72.alloc | apply IsS72.drewN | apply IsS72.drew | apply IsS72.set_1 | apply IsS72.set_2) | exact HI0.out)); (case side2 => repeat (first | (with_reducible first | exact HB.out | apply zA | apply zB | apply zC | refine below_set ?_ (IsS72.ge HI0.out)) | exact HB.out)); rintro e w32 ⟨rfl, hi, hb, hk⟩; refine ⟨_, rfl, ?_⟩; have n0_ := Aside0.mk (Kd.R_mono (Kd.R_keep (IsS72.apart (show IsS72 w0 _ g s0_0 x1001_1 x1002_1 from by repeat (first | (with_reducible first | exact HI0.out | apply IsS72.alloc | apply IsS72.drewN | apply IsS72.drew | apply IsS72.set_1 | apply IsS72.set_2) | exact HI0.out)) (by (with_reducible repeat (first | apply zG | apply zH | apply zI)); exact HO_7.out) (by decide)) hk (fun _ h => h.2)) (fun _ h => h.1)); have n1_ := Aside0.mk (KeepBut.trans (by repeat (first | (with_reducible first | exact HK.out | apply KeepBut.set_ | apply keep_drewN | apply keep_drew | apply keep_alloc) | exact HK.out)) hk (.inl rfl)); have n2_ := Aside0.mk (hb); have n3_ := Aside0.mk (hi); clear HO_7; clear HK; clear HB; clear HI0; have HO_7 := n0_; have HK := n1_; have HB := n2_; have HI0 := n3_; clear n0_ n1_ n2_ n3_; (try clear hb); (try clear hb2); (try clear hk); (try clear hi)) | ((with_reducible refine gate_builtin (b := .append) (xs := #[.tmp 28, .tmp 32]) rfl ?_); at_builtin; refine Kd.R_append k53 w.heap.size rfl (.tmp 28) (.tmp 32) 46 53 (.agg #[(.int .i64 0), (.int .i64 0)]) 16 rfl Try.underlying46 info53 rfl (by decide) (by omega) u7 x7_1 (⟨x8_1, t156⟩ : S53) [.int .i64 x8_1, .int .i64 t156] (fun _ => True) (fun _ => False) rfl rfl ?aP (fun _ hk => hk.elim) ?aF ?aO (Below.refl _ _) ?aS ?aL ?_; (case aP => exact k53_mkM _ _ _ (⟨x8_1, t156⟩ : S53)); (case aF => exact (fun _ _ => trivial)); (case aO => exact (by (with_reducible repeat (first | apply zG | apply zH | apply zI)); exact HO_7.out)); (case aS => exact (keep_size (w := w) (g := g) (row := none) (by repeat (first | (with_reducible first | exact HK.out | apply KeepBut.set_ | apply keep_drewN | apply keep_drew | apply keep_alloc) | exact HK.out)))); (case aL => have := LMc12.out; omega); intro v160 w33 ho hb hg hat; rw [← Ny159.out] at ho; have n0_ := Aside0.mk (IsS72.grown (by repeat (first | (with_reducible first | exact HI0.out | apply IsS72.alloc | apply IsS72.drewN | apply IsS72.drew | apply IsS72.set_1 | apply IsS72.set_2) | exact HI0.out)) hg (IsS72.own_ne HI0.out HO_7.out (by decide))); have n1_ := Aside0.mk (below_weaken (by repeat (first | (with_reducible first | exact HB.out | apply zA | apply zB | apply zC | refine below_set ?_ (IsS72.ge HI0.out)) | exact HB.out)) HL.out hb); have n2_ := Aside0.mk (KeepBut.trans (by repeat (first | (with_reducible first | exact HK.out | apply KeepBut.set_ | apply keep_drewN | apply keep_drew | apply keep_alloc) | exact HK.out)) (KeepBut.of_grown hg g) (Kd.R_base2 HO_7.out)); have n3_ := Aside0.mk (ho); clear HI0; clear HB; clear HK; clear HO_7; have HI0 := n0_; have HB := n1_; have HK := n2_; have HO161 := n3_; clear n0_ n1_ n2_ n3_; clear ho hb hg hat) | ((with_reducible refine gate_callee (f := 37) rfl ?_); refine goesL_ (some 35) rfl rfl Try.func37 (by kernel_rfl) rfl #[.pointer (some ⟨g, 0, none⟩), .int .i64 12] rfl (by (try simp only [List.map_toArray, List.map_cons, List.map_nil]); first | done | rfl | (simp only [List.length_drop, List.length_take]; rfl)) ?_; (with_reducible refine (spec_l1Cur_pick.calls k1 g s0_0 t157 t158 12 t162 t163 t164 w0 _ ?side1 ?side2 A13.out).mono ?_); (case side1 => repeat (first | (with_reducible first | exact HI0.out | apply IsS72.alloc | apply IsS72.drewN | apply IsS72.drew | apply IsS72.set_1 | apply IsS72.set_2) | exact HI0.out)); (case side2 => repeat (first | (with_reducible first | exact HB.out | apply zA | apply zB | apply zC | refine below_set ?_ (IsS72.ge HI0.out)) | exact HB.out)); rintro e w34 ⟨rfl, hi, hb, hk⟩; refine ⟨_, rfl, ?_⟩; have n0_ := Aside0.mk (Kd.R_mono (Kd.R_keep (IsS72.apart (show IsS72 w0 _ g s0_0 t157 t158 from by repeat (first | (with_reducible first | exact HI0.out | apply IsS72.alloc | apply IsS72.drewN | apply IsS72.drew | apply IsS72.set_1 | apply IsS72.set_2) | exact HI0.out)) (by (with_reducible repeat (first | apply zG | apply zH | apply zI)); exact HO161.out) (by decide)) hk (fun _ h => h.2)) (fun _ h => h.1)); have n1_ := Aside0.mk (KeepBut.trans (by repeat (first | (with_reducible first | exact HK.out | apply KeepBut.set_ | apply keep_drewN | apply keep_drew | apply keep_alloc) | exact HK.out)) hk (.inl rfl)); have n2_ := Aside0.mk (hb); have n3_ := Aside0.mk (hi); clear HO161; clear HK; clear HB; clear HI0; have HO161 := n0_; have HK := n1_; have HB := n2_; have HI0 := n3_; clear n0_ n1_ n2_ n3_; (try clear hb); (try clear hb2); (try clear hk); (try clear hi)))
        go_roundg k1
        case measure => have := HK1.out; omega
        case rel => exact ⟨(y159), (wrap64 (x8_1 + x10_1)), (t156), (x10_1), (wrap64 (x11_1 - 1)), (t163), (t164), (by first | rfl | (simp; done) | (simp [*]; done)), (by first | rfl | (simp; done) | (simp [*]; done)), (by first | rfl | (simp; done) | (simp [*]; done)), (by first | rfl | (simp; done) | (simp [*]; done)), H', ⟨by have := HK1.out; omega⟩, ⟨by (with_reducible repeat (first | apply zG | apply zH | apply zI)); exact HO161.out⟩, ⟨by repeat (first | (with_reducible first | exact HI0.out | apply IsS72.alloc | apply IsS72.drewN | apply IsS72.drew | apply IsS72.set_1 | apply IsS72.set_2) | exact HI0.out)⟩, ⟨by repeat (first | (with_reducible first | exact HK.out | apply KeepBut.set_ | apply keep_drewN | apply keep_drew | apply keep_alloc) | exact HK.out)⟩, ⟨by repeat (first | (with_reducible first | exact HB.out | apply zA | apply zB | apply zC | refine below_set ?_ (IsS72.ge HI0.out)) | exact HB.out)⟩⟩
    ·rw [if_neg c12] at H
     exact absurd H (by simp)
   ·rw [if_neg c10] at H
    have c10b0 : decide (0 < x11_1) = false := decide_eq_false c10
    clear c10
    simp only [Option.some.injEq, Prod.mk.injEq] at H
    obtain ⟨rfl, rfl, rfl⟩ := H
    go_wp2
    go_ret
    exact ⟨_, by first | rfl | (simp [errW_none, errW_some] <;> rfl) | (simp [*, errW_none, errW_some] <;> rfl), by (with_reducible repeat (first | apply zG | apply zH | apply zI)); exact HO_7.out, by repeat (first | (with_reducible first | exact HI0.out | apply IsS72.alloc | apply IsS72.drewN | apply IsS72.drew | apply IsS72.set_1 | apply IsS72.set_2) | exact HI0.out), by repeat (first | (with_reducible first | exact HB.out | apply zA | apply zB | apply zC | refine below_set ?_ (IsS72.ge HI0.out)) | exact HB.out), by repeat (first | (with_reducible first | exact HK.out | apply KeepBut.set_ | apply keep_drewN | apply keep_drew | apply keep_alloc) | exact HK.out)⟩

/-! ### spec_l1Cur_longSamples: function 54 -/
def spec_l1Cur_longSamples.l0 : Nat → Int → List (S53) → Int → List Int → Int → Int → Option ((List (S53)) × Int × Int)
 | 0, _, _, _, _, _, _ => none
 | k + 1, x1, x5, x6, x1000, x1001, x1002 => if x6 < x1 then (if x5.length < 8796093022208 then (spec_l1Cur_longSamples.l0 k x1 (x5 ++ [(⟨wrap64 (x6 * 3), wrap64 (x6 * x6)⟩ : S53)]) (wrap64 (x6 + 1)) x1000 x1001 x1002) else (none)) else (some (x5, x1001, x1002))
def spec_l1Cur_longSamples.f (k : Nat) (s0_0 : List Int) (s0_1 : Int) (s0_2 : Int) (a1 : Int) : Option ((List (S53)) × Int × Int) := spec_l1Cur_longSamples.l0 k a1 ([] : List (S53)) 0 s0_0 s0_1 s0_2
theorem spec_l1Cur_longSamples.mono_l : ∀ k, (∀ y0 y1 y2 y3 y4 y5, LeO (spec_l1Cur_longSamples.l0 k y0 y1 y2 y3 y4 y5) (spec_l1Cur_longSamples.l0 (k + 1) y0 y1 y2 y3 y4 y5))
 | 0 => fun _ _ _ _ _ _ r h => by simp [spec_l1Cur_longSamples.l0] at h
 | k + 1 => by
  have ih0 := spec_l1Cur_longSamples.mono_l k
  ·intro y0 y1 y2 y3 y4 y5
   unfold spec_l1Cur_longSamples.l0
   repeat' first
   | (with_reducible exact ih0 _ _ _ _ _ _)
   | (with_reducible exact LeO.refl _)
   | (with_reducible exact LeO.none _)
   | (with_reducible refine LeO.ite ?_ ?_)
   | (with_reducible refine LeO.bind ?_ (fun _ => ?_))
   | exact ih0 _ _ _ _ _ _
   | exact LeO.none _
   | refine LeO.ite ?_ ?_
   | refine LeO.bind ?_ (fun _ => ?_)
theorem spec_l1Cur_longSamples.mono : ∀ a0 a1 a2 a3 k, LeO (spec_l1Cur_longSamples.f k a0 a1 a2 a3) (spec_l1Cur_longSamples.f (k + 1) a0 a1 a2 a3) := by
 intro a0 a1 a2 a3 k
 have ih0 := spec_l1Cur_longSamples.mono_l k
 unfold spec_l1Cur_longSamples.f
 repeat' first
   | (with_reducible exact ih0 _ _ _ _ _ _)
   | (with_reducible exact LeO.refl _)
   | (with_reducible exact LeO.none _)
   | (with_reducible refine LeO.ite ?_ ?_)
   | (with_reducible refine LeO.bind ?_ (fun _ => ?_))
   | exact ih0 _ _ _ _ _ _
   | exact LeO.none _
   | refine LeO.ite ?_ ?_
   | refine LeO.bind ?_ (fun _ => ?_)
set_option maxHeartbeats 8000000 in
set_option maxRecDepth 100000 in
theorem spec_l1Cur_longSamples.calls (k : Nat) (g : Nat) (s0_0 : List Int) (s0_1 : Int) (s0_2 : Int) (a1 : Int) (r1 : List (S53)) (r2 : Int) (r3 : Int) (w0 w : World) (hI : IsS72 w0 w g s0_0 s0_1 s0_2) (hB : Below w0.heap.size w0 w) (h : spec_l1Cur_longSamples.f k s0_0 s0_1 s0_2 a1 = some (r1, r2, r3)) :
  Calls Try.prog 54 #[.pointer (some ⟨g, 0, none⟩), .int .i64 a1] w fun e w' => ∃ v0_ : Value, e = .returned (v0_) ∧ Kd.R k53 53 w' w.heap.size (fun _ => True) v0_ r1 ∧ IsS72 w0 w' g s0_0 r2 r3 ∧ Below w0.heap.size w0 w' ∧ KeepBut w w' g none := by
 have hu53 := Try.underlying53
 have HI0 := Aside0.mk hI
 have HK := Aside0.mk (KeepBut.refl w g none)
 have HL := Aside0.mk hB.size
 clear hI
 have HW0 := Aside0.mk hB.size
 have HB := Aside0.mk hB
 clear hB
 have H : (spec_l1Cur_longSamples.l0 k a1 ([] : List (S53)) 0 s0_0 s0_1 s0_2) = some (r1, r2, r3) := h
 clear h
 have H' := Aside0.mk H
 clear H
 go_enter Try.func54, Try.ntmps54
 go_wp2
 go_loopg [5, 6] k (fun kq v5 v6 w' => ∃ (x5_1 : List (S53)) (x6_1 : Int), v6 = .int .i64 x6_1 ∧ Aside0 (spec_l1Cur_longSamples.l0 kq a1 x5_1 x6_1 s0_0 s0_1 s0_2 = some (r1, r2, r3)) ∧ Aside0 (kq ≤ k) ∧ Aside0 (Kd.R k53 53 w' w.heap.size (fun _ => True) v5 x5_1) ∧ Aside0 (IsS72 w0 w' g s0_0 s0_1 s0_2) ∧ Aside0 (KeepBut w w' g none) ∧ Aside0 (Below w0.heap.size w0 w'))
 case atStart => exact ⟨(([] : List (S53))), (0), (by first | rfl | (simp; done) | (simp [*]; done)), H', ⟨Nat.le_refl _⟩, ⟨by first | exact Kd.R_nil _ _ _ _ _ | exact Kd.N_nil _ _ _ _ _ | exact Kd.V_nil _ _ _ _ _ | exact Kd.Q_nil _ _ _ _ _ | exact Kd.S_nil _ _ _ _ _⟩, ⟨by repeat (first | (with_reducible first | exact HI0.out | apply IsS72.alloc | apply IsS72.drewN | apply IsS72.drew | apply IsS72.set_1 | apply IsS72.set_2) | exact HI0.out)⟩, ⟨by repeat (first | (with_reducible first | exact HK.out | apply KeepBut.set_ | apply keep_drewN | apply keep_drew | apply keep_alloc) | exact HK.out)⟩, ⟨by repeat (first | (with_reducible first | exact HB.out | apply zA | apply zB | apply zC | refine below_set ?_ (IsS72.ge HI0.out)) | exact HB.out)⟩⟩
 case round =>
  clear H'
  try clear p2
  obtain ⟨x5_1, x6_1, rfl, HA, HK1, HO_5, HI0, HK, HB⟩ := hrel
  cases gk with
  | zero => exact absurd HA.out (by simp [spec_l1Cur_longSamples.l0])
  | succ k1 =>
   have H := HA.out
   clear HA
   simp only [spec_l1Cur_longSamples.l0] at H
   by_cases c3 : x6_1 < a1
   ·rw [if_pos c3] at H
    have c3b0 : decide (x6_1 < a1) = true := decide_eq_true c3
    clear c3
    by_cases c4 : x5_1.length < 8796093022208
    ·rw [if_pos c4] at H
     have LMc4 := Aside0.mk c4
     clear c4
     obtain ⟨y174, hy174⟩ : ∃ y_ : List (S53), y_ = (x5_1 ++ [(⟨wrap64 (x6_1 * 3), wrap64 (x6_1 * x6_1)⟩ : S53)]) := ⟨_, rfl⟩
     replace H : (spec_l1Cur_longSamples.l0 k1 a1 y174 (wrap64 (x6_1 + 1)) s0_0 s0_1 s0_2) = some (r1, r2, r3) := by first | (rw [hy174]; with_reducible exact H) | (have H2_ := (Option.bind_some _ _).symm.trans H; rw [hy174]; with_reducible exact H2_) | (have H2_ := (Option.bind_some _ _).symm.trans H; with_reducible exact H2_) | with_reducible exact H | (rw [hy174]; exact H) | exact H
     have Ny174 := Aside0.mk hy174
     clear hy174
     have H' := Aside0.mk H
     clear H
     go_wp2_with (first | ((with_reducible refine gate_builtin (b := .append) (xs := #[.tmp 12, .tmp 19]) rfl ?_); at_builtin; refine Kd.R_append k53 w.heap.size rfl (.tmp 12) (.tmp 19) 46 53 (.agg #[(.int .i64 0), (.int .i64 0)]) 16 rfl Try.underlying46 info53 rfl (by decide) (by omega) u5 x5_1 (⟨wrap64 (x6_1 * 3), wrap64 (x6_1 * x6_1)⟩ : S53) [.int .i64 (wrap64 (x6_1 * 3)), .int .i64 (wrap64 (x6_1 * x6_1))] (fun _ => True) (fun _ => False) rfl rfl ?aP (fun _ hk => hk.elim) ?aF ?aO (Below.refl _ _) ?aS ?aL ?_; (case aP => exact k53_mkM _ _ _ (⟨wrap64 (x6_1 * 3), wrap64 (x6_1 * x6_1)⟩ : S53)); (case aF => exact (fun _ _ => trivial)); (case aO => exact (by (with_reducible repeat (first | apply zG | apply zH | apply zI)); exact HO_5.out)); (case aS => exact (keep_size (w := w) (g := g) (row := none) (by repeat (first | (with_reducible first | exact HK.out | apply KeepBut.set_ | apply keep_drewN | apply keep_drew | apply keep_alloc) | exact HK.out)))); (case aL => have := LMc4.out; omega); intro v175 w5 ho hb hg hat; rw [← Ny174.out] at ho; have n0_ := Aside0.mk (IsS72.grown (by repeat (first | (with_reducible first | exact HI0.out | apply IsS72.alloc | apply IsS72.drewN | apply IsS72.drew | apply IsS72.set_1 | apply IsS72.set_2) | exact HI0.out)) hg (IsS72.own_ne HI0.out HO_5.out (by decide))); have n1_ := Aside0.mk (below_weaken (by repeat (first | (with_reducible first | exact HB.out | apply zA | apply zB | apply zC | refine below_set ?_ (IsS72.ge HI0.out)) | exact HB.out)) HL.out hb); have n2_ := Aside0.mk (KeepBut.trans (by repeat (first | (with_reducible first | exact HK.out | apply KeepBut.set_ | apply keep_drewN | apply keep_drew | apply keep_alloc) | exact HK.out)) (KeepBut.of_grown hg g) (Kd.R_base2 HO_5.out)); have n3_ := Aside0.mk (ho); clear HI0; clear HB; clear HK; clear HO_5; have HI0 := n0_; have HB := n1_; have HK := n2_; have HO176 := n3_; clear n0_ n1_ n2_ n3_; clear ho hb hg hat))
     go_roundg k1
     case measure => have := HK1.out; omega
     case rel => exact ⟨(y174), (wrap64 (x6_1 + 1)), (by first | rfl | (simp; done) | (simp [*]; done)), H', ⟨by have := HK1.out; omega⟩, ⟨by (with_reducible repeat (first | apply zG | apply zH | apply zI)); exact HO176.out⟩, ⟨by repeat (first | (with_reducible first | exact HI0.out | apply IsS72.alloc | apply IsS72.drewN | apply IsS72.drew | apply IsS72.set_1 | apply IsS72.set_2) | exact HI0.out)⟩, ⟨by repeat (first | (with_reducible first | exact HK.out | apply KeepBut.set_ | apply keep_drewN | apply keep_drew | apply keep_alloc) | exact HK.out)⟩, ⟨by repeat (first | (with_reducible first | exact HB.out | apply zA | apply zB | apply zC | refine below_set ?_ (IsS72.ge HI0.out)) | exact HB.out)⟩⟩
    ·rw [if_neg c4] at H
     exact absurd H (by simp)
   ·rw [if_neg c3] at H
    have c3b0 : decide (x6_1 < a1) = false := decide_eq_false c3
    clear c3
    simp only [Option.some.injEq, Prod.mk.injEq] at H
    obtain ⟨rfl, rfl, rfl⟩ := H
    go_wp2
    go_ret
    exact ⟨_, by first | rfl | (simp [errW_none, errW_some] <;> rfl) | (simp [*, errW_none, errW_some] <;> rfl), by (with_reducible repeat (first | apply zG | apply zH | apply zI)); exact HO_5.out, by repeat (first | (with_reducible first | exact HI0.out | apply IsS72.alloc | apply IsS72.drewN | apply IsS72.drew | apply IsS72.set_1 | apply IsS72.set_2) | exact HI0.out), by repeat (first | (with_reducible first | exact HB.out | apply zA | apply zB | apply zC | refine below_set ?_ (IsS72.ge HI0.out)) | exact HB.out), by repeat (first | (with_reducible first | exact HK.out | apply KeepBut.set_ | apply keep_drewN | apply keep_drew | apply keep_alloc) | exact HK.out)⟩

/-! ### spec_l1Cur_of2: function 74 -/
def spec_l1Cur_of2.f (k : Nat) (s0_0 : List Int) (s0_1 : Int) (s0_2 : Int) (a1 : Int) (a2 : Int) : Option (Int × Int × Int) := (spec_l1Cur_one.f k s0_0 s0_1 s0_2 2).bind fun bt177 => (if bt177.1 = true then (some (a1, bt177.2.1, bt177.2.2)) else (some (a2, bt177.2.1, bt177.2.2)))
theorem spec_l1Cur_of2.mono : ∀ a0 a1 a2 a3 a4 k, LeO (spec_l1Cur_of2.f k a0 a1 a2 a3 a4) (spec_l1Cur_of2.f (k + 1) a0 a1 a2 a3 a4) := by
 intro a0 a1 a2 a3 a4 k
 unfold spec_l1Cur_of2.f
 repeat' first
   | (with_reducible exact spec_l1Cur_one.mono _ _ _ _ _)
   | (with_reducible exact LeO.refl _)
   | (with_reducible exact LeO.none _)
   | (with_reducible refine LeO.ite ?_ ?_)
   | (with_reducible refine LeO.bind ?_ (fun _ => ?_))
   | exact spec_l1Cur_one.mono _ _ _ _ _
   | exact LeO.none _
   | refine LeO.ite ?_ ?_
   | refine LeO.bind ?_ (fun _ => ?_)
set_option maxHeartbeats 8000000 in
set_option maxRecDepth 100000 in
theorem spec_l1Cur_of2.calls (k : Nat) (g : Nat) (s0_0 : List Int) (s0_1 : Int) (s0_2 : Int) (a1 : Int) (a2 : Int) (r1 : Int) (r2 : Int) (r3 : Int) (w0 w : World) (hI : IsS72 w0 w g s0_0 s0_1 s0_2) (hB : Below w0.heap.size w0 w) (h : spec_l1Cur_of2.f k s0_0 s0_1 s0_2 a1 a2 = some (r1, r2, r3)) :
  Calls Try.prog 74 #[.pointer (some ⟨g, 0, none⟩), .int .i64 a1, .int .i64 a2] w fun e w' => e = .returned (.int .i64 r1) ∧ IsS72 w0 w' g s0_0 r2 r3 ∧ Below w0.heap.size w0 w' ∧ KeepBut w w' g none := by
 have HI0 := Aside0.mk hI
 have HK := Aside0.mk (KeepBut.refl w g none)
 have HL := Aside0.mk hB.size
 clear hI
 have HW0 := Aside0.mk hB.size
 have HB := Aside0.mk hB
 clear hB
 have H : ((spec_l1Cur_one.f k s0_0 s0_1 s0_2 2).bind fun bt177 => (if bt177.1 = true then (some (a1, bt177.2.1, bt177.2.2)) else (some (a2, bt177.2.1, bt177.2.2)))) = some (r1, r2, r3) := h
 clear h
 replace H := Option.bind_eq_some_iff.mp H
 obtain ⟨⟨t177, t178, t179⟩, A40, H⟩ := H
 replace H : (if t177 = true then (some (a1, t178, t179)) else (some (a2, t178, t179))) = some (r1, r2, r3) := H
 have A4 := Aside0.mk A40
 clear A40
 by_cases c5 : t177 = true
 ·subst c5
  have H1 : (some (a1, t178, t179)) = some (r1, r2, r3) := by rw [if_pos rfl] at H; exact H
  clear H
  have H := H1
  clear H1
  simp only [Option.some.injEq, Prod.mk.injEq] at H
  obtain ⟨rfl, rfl, rfl⟩ := H
  go_enter Try.func74, Try.ntmps74
  go_wp2_with (first | ((with_reducible refine gate_callee (f := 47) rfl ?_); refine goesL_ (some 8) rfl rfl Try.func47 (by kernel_rfl) rfl #[.pointer (some ⟨g, 0, none⟩), .int .i64 2] rfl (by (try simp only [List.map_toArray, List.map_cons, List.map_nil]); first | done | rfl | (simp only [List.length_drop, List.length_take]; rfl)) ?_; (with_reducible refine (spec_l1Cur_one.calls k g s0_0 s0_1 s0_2 2 true t178 t179 w0 _ ?side1 ?side2 A4.out).mono ?_); (case side1 => repeat (first | (with_reducible first | exact HI0.out | apply IsS72.alloc | apply IsS72.drewN | apply IsS72.drew | apply IsS72.set_1 | apply IsS72.set_2) | exact HI0.out)); (case side2 => repeat (first | (with_reducible first | exact HB.out | apply zA | apply zB | apply zC | refine below_set ?_ (IsS72.ge HI0.out)) | exact HB.out)); rintro e w6 ⟨rfl, hi, hb, hk⟩; refine ⟨_, rfl, ?_⟩; have n0_ := Aside0.mk (KeepBut.trans (by repeat (first | (with_reducible first | exact HK.out | apply KeepBut.set_ | apply keep_drewN | apply keep_drew | apply keep_alloc) | exact HK.out)) hk (.inl rfl)); have n1_ := Aside0.mk (hb); have n2_ := Aside0.mk (hi); clear HK; clear HB; clear HI0; have HK := n0_; have HB := n1_; have HI0 := n2_; clear n0_ n1_ n2_; (try clear hb); (try clear hb2); (try clear hk); (try clear hi)))
  go_ret
  exact ⟨by first | rfl | (simp [errW_none, errW_some] <;> rfl) | (simp [*, errW_none, errW_some] <;> rfl), by repeat (first | (with_reducible first | exact HI0.out | apply IsS72.alloc | apply IsS72.drewN | apply IsS72.drew | apply IsS72.set_1 | apply IsS72.set_2) | exact HI0.out), by repeat (first | (with_reducible first | exact HB.out | apply zA | apply zB | apply zC | refine below_set ?_ (IsS72.ge HI0.out)) | exact HB.out), by repeat (first | (with_reducible first | exact HK.out | apply KeepBut.set_ | apply keep_drewN | apply keep_drew | apply keep_alloc) | exact HK.out)⟩
 ·replace c5 := Bool.eq_false_iff.mpr c5
  subst c5
  have H1 : (some (a2, t178, t179)) = some (r1, r2, r3) := by rw [if_neg (show ¬ (false = true) by decide)] at H; exact H
  clear H
  have H := H1
  clear H1
  simp only [Option.some.injEq, Prod.mk.injEq] at H
  obtain ⟨rfl, rfl, rfl⟩ := H
  go_enter Try.func74, Try.ntmps74
  go_wp2_with (first | ((with_reducible refine gate_callee (f := 47) rfl ?_); refine goesL_ (some 8) rfl rfl Try.func47 (by kernel_rfl) rfl #[.pointer (some ⟨g, 0, none⟩), .int .i64 2] rfl (by (try simp only [List.map_toArray, List.map_cons, List.map_nil]); first | done | rfl | (simp only [List.length_drop, List.length_take]; rfl)) ?_; (with_reducible refine (spec_l1Cur_one.calls k g s0_0 s0_1 s0_2 2 false t178 t179 w0 _ ?side1 ?side2 A4.out).mono ?_); (case side1 => repeat (first | (with_reducible first | exact HI0.out | apply IsS72.alloc | apply IsS72.drewN | apply IsS72.drew | apply IsS72.set_1 | apply IsS72.set_2) | exact HI0.out)); (case side2 => repeat (first | (with_reducible first | exact HB.out | apply zA | apply zB | apply zC | refine below_set ?_ (IsS72.ge HI0.out)) | exact HB.out)); rintro e w7 ⟨rfl, hi, hb, hk⟩; refine ⟨_, rfl, ?_⟩; have n0_ := Aside0.mk (KeepBut.trans (by repeat (first | (with_reducible first | exact HK.out | apply KeepBut.set_ | apply keep_drewN | apply keep_drew | apply keep_alloc) | exact HK.out)) hk (.inl rfl)); have n1_ := Aside0.mk (hb); have n2_ := Aside0.mk (hi); clear HK; clear HB; clear HI0; have HK := n0_; have HB := n1_; have HI0 := n2_; clear n0_ n1_ n2_; (try clear hb); (try clear hb2); (try clear hk); (try clear hi)))
  go_ret
  exact ⟨by first | rfl | (simp [errW_none, errW_some] <;> rfl) | (simp [*, errW_none, errW_some] <;> rfl), by repeat (first | (with_reducible first | exact HI0.out | apply IsS72.alloc | apply IsS72.drewN | apply IsS72.drew | apply IsS72.set_1 | apply IsS72.set_2) | exact HI0.out), by repeat (first | (with_reducible first | exact HB.out | apply zA | apply zB | apply zC | refine below_set ?_ (IsS72.ge HI0.out)) | exact HB.out), by repeat (first | (with_reducible first | exact HK.out | apply KeepBut.set_ | apply keep_drewN | apply keep_drew | apply keep_alloc) | exact HK.out)⟩

/-! ### spec_l1Cur_oddSamples: function 55 -/
def spec_l1Cur_oddSamples.f (k : Nat) (s0_0 : List Int) (s0_1 : Int) (s0_2 : Int) (l1 : List (S53)) : Option ((List (S53)) × Int × Int) := (spec_l1Cur_pick.f k s0_0 s0_1 s0_2 20).bind fun bt180 => (if bt180.1 = 0 then (if (l1.length : Int) > 1 then (if 0 < (l1.length : Int) then (if 1 < (l1.length : Int) then (some ((l1.set (1 : Int).toNat (⟨(rd_T53 l1 0).f0, (rd_T53 l1 1).f1⟩ : S53)), bt180.2.1, bt180.2.2)) else (none)) else (none)) else (some (l1, bt180.2.1, bt180.2.2))) else (if bt180.1 = 1 then ((spec_l1Cur_of2.f k s0_0 bt180.2.1 bt180.2.2 1000000000000 1000000000001).bind fun bt185 => (if l1.length < 8796093022208 then (some ((l1 ++ [(⟨bt185.1, 0⟩ : S53)]), bt185.2.1, bt185.2.2)) else (none))) else (if bt180.1 = 2 then (if (l1.length : Int) > 0 then (if 0 < (l1.length : Int) then (some ((l1.set (0 : Int).toNat (⟨(-1), (rd_T53 l1 0).f1⟩ : S53)), bt180.2.1, bt180.2.2)) else (none)) else (some (l1, bt180.2.1, bt180.2.2))) else (some (l1, bt180.2.1, bt180.2.2)))))
theorem spec_l1Cur_oddSamples.mono : ∀ a0 a1 a2 a3 k, LeO (spec_l1Cur_oddSamples.f k a0 a1 a2 a3) (spec_l1Cur_oddSamples.f (k + 1) a0 a1 a2 a3) := by
 intro a0 a1 a2 a3 k
 unfold spec_l1Cur_oddSamples.f
 repeat' first
   | (with_reducible exact spec_l1Cur_of2.mono _ _ _ _ _ _)
   | (with_reducible exact spec_l1Cur_pick.mono _ _ _ _ _)
   | (with_reducible exact LeO.refl _)
   | (with_reducible exact LeO.none _)
   | (with_reducible refine LeO.ite ?_ ?_)
   | (with_reducible refine LeO.bind ?_ (fun _ => ?_))
   | exact spec_l1Cur_of2.mono _ _ _ _ _ _
   | exact spec_l1Cur_pick.mono _ _ _ _ _
   | exact LeO.none _
   | refine LeO.ite ?_ ?_
   | refine LeO.bind ?_ (fun _ => ?_)
set_option maxHeartbeats 8000000 in
set_option maxRecDepth 100000 in
theorem spec_l1Cur_oddSamples.calls (k : Nat) (g : Nat) (s0_0 : List Int) (s0_1 : Int) (s0_2 : Int) (P1_ : Nat → Prop) (u9000_ : Value) (l1 : List (S53)) (r1 : List (S53)) (r2 : Int) (r3 : Int) (w0 w : World) (hI : IsS72 w0 w g s0_0 s0_1 s0_2) (hB : Below w0.heap.size w0 w) (ho1 : Kd.R k53 53 w w0.heap.size P1_ u9000_ l1) (h : spec_l1Cur_oddSamples.f k s0_0 s0_1 s0_2 l1 = some (r1, r2, r3)) :
  Calls Try.prog 55 #[.pointer (some ⟨g, 0, none⟩), u9000_] w fun e w' => ∃ v0_ : Value, e = .returned (v0_) ∧ Kd.R k53 53 w' w0.heap.size (fun k_ => (P1_ k_ ∨ w.heap.size ≤ k_)) v0_ r1 ∧ IsS72 w0 w' g s0_0 r2 r3 ∧ Below w0.heap.size w0 w' ∧ Kept w w' (fun k_ => (P1_ k_) ∨ k_ = g) := by
 have hu53 := Try.underlying53
 have HO1 := Aside0.mk (show Kd.R k53 53 w w0.heap.size (fun k_ => (P1_ k_ ∨ w.heap.size ≤ k_)) u9000_ l1 from Kd.R_mono ho1 (fun k_ hk => (.inl hk)))
 have HI0 := Aside0.mk hI
 have HL := Aside0.mk hB.size
 clear hI
 have HK := Aside0.mk (Kept.refl w (fun k_ => (P1_ k_) ∨ k_ = g))
 have HW0 := Aside0.mk hB.size
 have HB := Aside0.mk hB
 clear hB
 have H : ((spec_l1Cur_pick.f k s0_0 s0_1 s0_2 20).bind fun bt180 => (if bt180.1 = 0 then (if (l1.length : Int) > 1 then (if 0 < (l1.length : Int) then (if 1 < (l1.length : Int) then (some ((l1.set (1 : Int).toNat (⟨(rd_T53 l1 0).f0, (rd_T53 l1 1).f1⟩ : S53)), bt180.2.1, bt180.2.2)) else (none)) else (none)) else (some (l1, bt180.2.1, bt180.2.2))) else (if bt180.1 = 1 then ((spec_l1Cur_of2.f k s0_0 bt180.2.1 bt180.2.2 1000000000000 1000000000001).bind fun bt185 => (if l1.length < 8796093022208 then (some ((l1 ++ [(⟨bt185.1, 0⟩ : S53)]), bt185.2.1, bt185.2.2)) else (none))) else (if bt180.1 = 2 then (if (l1.length : Int) > 0 then (if 0 < (l1.length : Int) then (some ((l1.set (0 : Int).toNat (⟨(-1), (rd_T53 l1 0).f1⟩ : S53)), bt180.2.1, bt180.2.2)) else (none)) else (some (l1, bt180.2.1, bt180.2.2))) else (some (l1, bt180.2.1, bt180.2.2)))))) = some (r1, r2, r3) := h
 clear h
 replace H := Option.bind_eq_some_iff.mp H
 obtain ⟨⟨t180, t181, t182⟩, A30, H⟩ := H
 replace H : (if t180 = 0 then (if (l1.length : Int) > 1 then (if 0 < (l1.length : Int) then (if 1 < (l1.length : Int) then (some ((l1.set (1 : Int).toNat (⟨(rd_T53 l1 0).f0, (rd_T53 l1 1).f1⟩ : S53)), t181, t182)) else (none)) else (none)) else (some (l1, t181, t182))) else (if t180 = 1 then ((spec_l1Cur_of2.f k s0_0 t181 t182 1000000000000 1000000000001).bind fun bt185 => (if l1.length < 8796093022208 then (some ((l1 ++ [(⟨bt185.1, 0⟩ : S53)]), bt185.2.1, bt185.2.2)) else (none))) else (if t180 = 2 then (if (l1.length : Int) > 0 then (if 0 < (l1.length : Int) then (some ((l1.set (0 : Int).toNat (⟨(-1), (rd_T53 l1 0).f1⟩ : S53)), t181, t182)) else (none)) else (some (l1, t181, t182))) else (some (l1, t181, t182))))) = some (r1, r2, r3) := H
 have A3 := Aside0.mk A30
 clear A30
 by_cases c4 : t180 = 0
 ·rw [if_pos c4] at H
  have c4b0 : (t180 == 0) = true := beq_iff_eq.mpr c4
  have c4b1 : (t180 != 0) = false := bne_eq_false_iff_eq.mpr c4
  clear c4
  by_cases c5 : (l1.length : Int) > 1
  ·rw [if_pos c5] at H
   have c5b0 : decide (1 < (l1.length : Int)) = true := decide_eq_true c5
   have c5b1 : decide (1 < l1.length) = true := decide_eq_true (by omega)
   clear c5
   by_cases c6 : 0 < (l1.length : Int)
   ·rw [if_pos c6] at H
    have c6b0 : decide (0 < (l1.length : Int)) = true := decide_eq_true c6
    have c6b1 : decide (0 < l1.length) = true := decide_eq_true (by omega)
    clear c6
    by_cases c7 : 1 < (l1.length : Int)
    ·rw [if_pos c7] at H
     have c7b0 : decide (1 < (l1.length : Int)) = true := decide_eq_true c7
     have c7b1 : decide (1 < l1.length) = true := decide_eq_true (by omega)
     clear c7
     obtain ⟨y184, hy184⟩ : ∃ y_ : List (S53), y_ = (l1.set (1 : Int).toNat (⟨(rd_T53 l1 0).f0, (rd_T53 l1 1).f1⟩ : S53)) := ⟨_, rfl⟩
     replace H : (some (y184, t181, t182)) = some (r1, r2, r3) := by first | (rw [hy184]; with_reducible exact H) | (have H2_ := (Option.bind_some _ _).symm.trans H; rw [hy184]; with_reducible exact H2_) | (have H2_ := (Option.bind_some _ _).symm.trans H; with_reducible exact H2_) | with_reducible exact H | (rw [hy184]; exact H) | exact H
     have Ny184 := Aside0.mk hy184
     clear hy184
     simp only [Option.some.injEq, Prod.mk.injEq] at H
     obtain ⟨rfl, rfl, rfl⟩ := H
     go_enter Try.func55, Try.ntmps55
     go_wp2_with (first | ((with_reducible refine gate_callee (f := 37) rfl ?_); refine goesL_ (some 6) rfl rfl Try.func37 (by kernel_rfl) rfl #[.pointer (some ⟨g, 0, none⟩), .int .i64 20] rfl (by (try simp only [List.map_toArray, List.map_cons, List.map_nil]); first | done | rfl | (simp only [List.length_drop, List.length_take]; rfl)) ?_; (with_reducible refine (spec_l1Cur_pick.calls k g s0_0 s0_1 s0_2 20 t180 t181 t182 w0 _ ?side1 ?side2 A3.out).mono ?_); (case side1 => repeat (first | (with_reducible first | exact HI0.out | apply IsS72.alloc | apply IsS72.drewN | apply IsS72.drew | apply IsS72.set_1 | apply IsS72.set_2) | exact HI0.out)); (case side2 => repeat (first | (with_reducible first | exact HB.out | apply zA | apply zB | apply zC | refine below_set ?_ (IsS72.ge HI0.out)) | exact HB.out)); rintro e w9 ⟨rfl, hi, hb, hk⟩; refine ⟨_, rfl, ?_⟩; have n0_ := Aside0.mk (Kd.R_mono (Kd.R_keep (IsS72.apart (show IsS72 w0 _ g s0_0 s0_1 s0_2 from by repeat (first | (with_reducible first | exact HI0.out | apply IsS72.alloc | apply IsS72.drewN | apply IsS72.drew | apply IsS72.set_1 | apply IsS72.set_2) | exact HI0.out)) (by (with_reducible repeat (first | apply zG | apply zH | apply zI)); exact HO1.out) (by decide)) hk (fun _ h => h.2)) (fun _ h => h.1)); have n1_ := Aside0.mk (Kept.of_keep (S := (fun k_ => (P1_ k_) ∨ k_ = g)) (by repeat (first | (with_reducible first | exact HK.out | apply Kept.alloc | apply Kept.drewN | apply Kept.drew | refine Kept.setCell ?_ (.inl (.inr rfl)) _) | exact HK.out)) hk (.inl (.inr rfl))); have n2_ := Aside0.mk (hb); have n3_ := Aside0.mk (hi); clear HO1; clear HK; clear HB; clear HI0; have HO1 := n0_; have HK := n1_; have HB := n2_; have HI0 := n3_; clear n0_ n1_ n2_ n3_; (try clear hb); (try clear hb2); (try clear hk); (try clear hi); obtain ⟨Ao10, co10, eo10⟩ := Kd.R_slice HO1.out; subst eo10; have p183 : 0 ≤ (0 : Int) := (by omega); have q183 : 0 < (l1.length : Int) := zX (by first | (with_reducible assumption) | assumption); obtain ⟨ad183, e183, hx183_0, hx183_1⟩ := at_T53 (Kd.R_reads' HO1.out).2.2 0 p183 q183; cases e183; have qi183 : (0 < l1.length) = True := eq_true (by omega); (try rw [show ((0 : Int)).toNat = 0 from rfl] at hx183_0); (try rw [show 0 * 2 = 0 from rfl] at hx183_0); (try rw [Addr.add_zero'] at hx183_0); (try rw [show ((0 : Int)).toNat = 0 from rfl] at hx183_1); (try rw [show 0 * 2 = 0 from rfl] at hx183_1); (try rw [Addr.add_zero'] at hx183_1); replace p183 := eq_true p183; replace q183 := eq_true q183; have p8 : 0 ≤ (1 : Int) := (by omega); have q8 : (1 : Int) < ((l1.length : Int) : Int) := zX (by first | (with_reducible assumption) | assumption); have qi8 : (1 < l1.length) = True := eq_true (by omega); obtain ⟨go8, co8, eo8, gb8, gl8, cl8, HG8⟩ := Kd.R_form HO1.out (by omega); (first | cases eo8 | (injection eo8 with ea_ en_ ec_; (first | subst ea_ | (injection ea_ with ea_; subst ea_)); subst ec_; clear en_)); have GB8 := Aside0.mk gb8; have GG8 := Aside0.mk HG8; clear gb8 gl8 HG8; have HMgo8 := Aside0.mk (show (P1_ go8 ∨ w.heap.size ≤ go8) from (HO1.out.1 _ rfl)); (first | simp only [add_plain] at hx183_0 | skip); (first | simp only [add_plain] at hx183_1 | skip); obtain ⟨ce8, hcl8, hM8, hcc8, hfr8⟩ := Kd.R_elem HO1.out z53 (1 : Int) p8 q8; obtain rfl := k53_openM hM8; have hx8_0 : w9.cell? ⟨go8, (1 : Int).toNat * 2, none⟩ = some (.int .i64 ((rd_T53 l1 1).f0)) := hcc8 0 _ rfl; have hx8_1 : w9.cell? ⟨go8, (1 : Int).toNat * 2 + 1, none⟩ = some (.int .i64 ((rd_T53 l1 1).f1)) := hcc8 1 _ rfl; have hf8_0 : w9.frozen? ⟨go8, (1 : Int).toNat * 2, none⟩ = false := hfr8 0; have hf8_1 : w9.frozen? ⟨go8, (1 : Int).toNat * 2 + 1, none⟩ = false := hfr8 1; clear hcl8 hcc8 hfr8 hM8; (try rw [show ((1 : Int)).toNat = 1 from rfl] at hx8_0); (try simp only [Nat.reduceMul, Nat.zero_mul, Nat.zero_add, Nat.reduceAdd] at hx8_0); (try rw [show ((1 : Int)).toNat = 1 from rfl] at hf8_0); (try simp only [Nat.reduceMul, Nat.zero_mul, Nat.zero_add, Nat.reduceAdd] at hf8_0); (try rw [show ((1 : Int)).toNat = 1 from rfl] at hx8_1); (try simp only [Nat.reduceMul, Nat.zero_mul, Nat.zero_add, Nat.reduceAdd] at hx8_1); (try rw [show ((1 : Int)).toNat = 1 from rfl] at hf8_1); (try simp only [Nat.reduceMul, Nat.zero_mul, Nat.zero_add, Nat.reduceAdd] at hf8_1); replace p8 := eq_true p8; replace q8 := eq_true q8; have HX11 := Aside0.mk (show Kd.R k53 53 w9 w0.heap.size (fun k_ => (P1_ k_ ∨ w.heap.size ≤ k_)) (.slice (some ⟨go8, 0, none⟩) l1.length co10) l1 from (by (with_reducible repeat (first | apply zG | apply zH | apply zI)); exact HO1.out)); obtain ⟨ce11, hcl11, hM11, hcc11, hfr11⟩ := Kd.R_elem HX11.out z53 (1 : Int) (by omega) (by have h_ : (1 : Int) < ((l1.length : Int) : Int) := zX (by first | (with_reducible assumption) | assumption); first | exact h_ | (have e_ := (Kd.R_reads' HO1.out).1; omega) | simpa using h_); obtain rfl := k53_openM hM11; have HP11 := Kd.R_seg HX11.out (1 : Int) (by omega) (by have h_ : (1 : Int) < ((l1.length : Int) : Int) := zX (by first | (with_reducible assumption) | assumption); first | exact h_ | (have e_ := (Kd.R_reads' HO1.out).1; omega) | simpa using h_) (seg := [.int .i64 ((rd_T53 l1 0).f0)]) (j := 0) hcl11 hcc11 (show 1 ≤ 2 from by decide) (x' := (⟨(rd_T53 l1 0).f0, (rd_T53 l1 1).f1⟩ : S53)) (k53_mkM _ _ _ (⟨(rd_T53 l1 0).f0, (rd_T53 l1 1).f1⟩ : S53) ) (fun _ hk => hk); have hx11_0 := hcc11 0 _ rfl; (try simp only [show (k53).sz = 2 from rfl, Nat.mul_one, Nat.add_zero] at hx11_0); (try rw [show ((1 : Int)).toNat = 1 from rfl] at hx11_0); (try simp only [Nat.reduceMul, Nat.zero_mul, Nat.zero_add, Nat.reduceAdd] at hx11_0); have hf11_0 := hfr11 0; (try simp only [show (k53).sz = 2 from rfl, Nat.mul_one, Nat.add_zero] at hf11_0); (try rw [show ((1 : Int)).toNat = 1 from rfl] at hf11_0); (try simp only [Nat.reduceMul, Nat.zero_mul, Nat.zero_add, Nat.reduceAdd] at hf11_0); clear hcl11 hcc11 hfr11 hM11) | ((with_reducible refine gate_store (t := 3) (p := 18) rfl ?_); refine store_event (t := 3) (p := 18) (v := ?vo_w12) (w1 := (w9.setCell ⟨go8, 2, none⟩ (.int .i64 ((rd_T53 l1 0).f0)))) ?hg ?ho ?hn ?hr ?_; (case ho => rfl); (case hg => rfl); (case hn => rfl); (case hr => first | (go_simp; done) | (go_simp; rfl)); intro w12 hw; have hg : w9.grownBy w12 (some go8) := (by rw [hw]; exact HP11.2); have hp_ : Kd.R k53 53 w12 w0.heap.size (fun k_ => (P1_ k_ ∨ w.heap.size ≤ k_)) (.slice (some ⟨go8, 0, none⟩) l1.length co10) y184 := (by rw [hw, Ny184.out]; exact HP11.1); clear HP11; have n0_ := Aside0.mk (IsS72.grown (by repeat (first | (with_reducible first | exact HI0.out | apply IsS72.alloc | apply IsS72.drewN | apply IsS72.drew | apply IsS72.set_1 | apply IsS72.set_2) | exact HI0.out)) hg (IsS72.own_ne HI0.out HO1.out (by decide))); have n1_ := Aside0.mk (hp_); have n2_ := Aside0.mk ((by rw [hw]; exact below_set (HB.out) GB8.out : Below w0.heap.size w0 w12)); have n3_ := Aside0.mk (Kept.of_grown (S := (fun k_ => (P1_ k_) ∨ k_ = g)) hg (by repeat (first | (with_reducible first | exact HK.out | apply Kept.alloc | apply Kept.drewN | apply Kept.drew | refine Kept.setCell ?_ (.inl (.inr rfl)) _) | exact HK.out)) (fun k_ e_ => Or.imp_left Or.inl ((HO1.out.1 k_ e_)))); clear HI0; clear HO1; clear HB; clear HK; have HI0 := n0_; have HO1 := n1_; have HB := n2_; have HK := n3_; clear n0_ n1_ n2_ n3_; clear hg hw hp_))
     go_ret
     exact ⟨_, by first | rfl | (simp [errW_none, errW_some] <;> rfl) | (simp [*, errW_none, errW_some] <;> rfl), by (with_reducible repeat (first | apply zG | apply zH | apply zI)); exact HO1.out, by repeat (first | (with_reducible first | exact HI0.out | apply IsS72.alloc | apply IsS72.drewN | apply IsS72.drew | apply IsS72.set_1 | apply IsS72.set_2) | exact HI0.out), by repeat (first | (with_reducible first | exact HB.out | apply zA | apply zB | apply zC | refine below_set ?_ (IsS72.ge HI0.out)) | exact HB.out), by repeat (first | (with_reducible first | exact HK.out | apply Kept.alloc | apply Kept.drewN | apply Kept.drew | refine Kept.setCell ?_ (.inl (.inr rfl)) _) | exact HK.out)⟩
    ·rw [if_neg c7] at H
     exact absurd H (by simp)
   ·rw [if_neg c6] at H
    exact absurd H (by simp)
  ·rw [if_neg c5] at H
   have c5b0 : decide (1 < (l1.length : Int)) = false := decide_eq_false c5
   have c5b1 : decide (1 < l1.length) = false := decide_eq_false (by omega)
   clear c5
   simp only [Option.some.injEq, Prod.mk.injEq] at H
   obtain ⟨rfl, rfl, rfl⟩ := H
   go_enter Try.func55, Try.ntmps55
   go_wp2_with (first | ((with_reducible refine gate_callee (f := 37) rfl ?_); refine goesL_ (some 6) rfl rfl Try.func37 (by kernel_rfl) rfl #[.pointer (some ⟨g, 0, none⟩), .int .i64 20] rfl (by (try simp only [List.map_toArray, List.map_cons, List.map_nil]); first | done | rfl | (simp only [List.length_drop, List.length_take]; rfl)) ?_; (with_reducible refine (spec_l1Cur_pick.calls k g s0_0 s0_1 s0_2 20 t180 t181 t182 w0 _ ?side1 ?side2 A3.out).mono ?_); (case side1 => repeat (first | (with_reducible first | exact HI0.out | apply IsS72.alloc | apply IsS72.drewN | apply IsS72.drew | apply IsS72.set_1 | apply IsS72.set_2) | exact HI0.out)); (case side2 => repeat (first | (with_reducible first | exact HB.out | apply zA | apply zB | apply zC | refine below_set ?_ (IsS72.ge HI0.out)) | exact HB.out)); rintro e w13 ⟨rfl, hi, hb, hk⟩; refine ⟨_, rfl, ?_⟩; have n0_ := Aside0.mk (Kd.R_mono (Kd.R_keep (IsS72.apart (show IsS72 w0 _ g s0_0 s0_1 s0_2 from by repeat (first | (with_reducible first | exact HI0.out | apply IsS72.alloc | apply IsS72.drewN | apply IsS72.drew | apply IsS72.set_1 | apply IsS72.set_2) | exact HI0.out)) (by (with_reducible repeat (first | apply zG | apply zH | apply zI)); exact HO1.out) (by decide)) hk (fun _ h => h.2)) (fun _ h => h.1)); have n1_ := Aside0.mk (Kept.of_keep (S := (fun k_ => (P1_ k_) ∨ k_ = g)) (by repeat (first | (with_reducible first | exact HK.out | apply Kept.alloc | apply Kept.drewN | apply Kept.drew | refine Kept.setCell ?_ (.inl (.inr rfl)) _) | exact HK.out)) hk (.inl (.inr rfl))); have n2_ := Aside0.mk (hb); have n3_ := Aside0.mk (hi); clear HO1; clear HK; clear HB; clear HI0; have HO1 := n0_; have HK := n1_; have HB := n2_; have HI0 := n3_; clear n0_ n1_ n2_ n3_; (try clear hb); (try clear hb2); (try clear hk); (try clear hi); obtain ⟨Ao14, co14, eo14⟩ := Kd.R_slice HO1.out; subst eo14))
   go_ret
   exact ⟨_, by first | rfl | (simp [errW_none, errW_some] <;> rfl) | (simp [*, errW_none, errW_some] <;> rfl), by (with_reducible repeat (first | apply zG | apply zH | apply zI)); exact HO1.out, by repeat (first | (with_reducible first | exact HI0.out | apply IsS72.alloc | apply IsS72.drewN | apply IsS72.drew | apply IsS72.set_1 | apply IsS72.set_2) | exact HI0.out), by repeat (first | (with_reducible first | exact HB.out | apply zA | apply zB | apply zC | refine below_set ?_ (IsS72.ge HI0.out)) | exact HB.out), by repeat (first | (with_reducible first | exact HK.out | apply Kept.alloc | apply Kept.drewN | apply Kept.drew | refine Kept.setCell ?_ (.inl (.inr rfl)) _) | exact HK.out)⟩
 ·rw [if_neg c4] at H
  have c4b0 : (t180 == 0) = false := beq_eq_false_iff_ne.mpr c4
  have c4b1 : (t180 != 0) = true := bne_iff_ne.mpr c4
  by_cases c15 : t180 = 1
  ·rw [if_pos c15] at H
   have c15b0 : (t180 == 1) = true := beq_iff_eq.mpr c15
   have c15b1 : (t180 != 1) = false := bne_eq_false_iff_eq.mpr c15
   clear c15
   replace H := Option.bind_eq_some_iff.mp H
   obtain ⟨⟨t185, t186, t187⟩, A160, H⟩ := H
   replace H : (if l1.length < 8796093022208 then (some ((l1 ++ [(⟨t185, 0⟩ : S53)]), t186, t187)) else (none)) = some (r1, r2, r3) := H
   have A16 := Aside0.mk A160
   clear A160
   by_cases c17 : l1.length < 8796093022208
   ·rw [if_pos c17] at H
    have LMc17 := Aside0.mk c17
    clear c17
    obtain ⟨y188, hy188⟩ : ∃ y_ : List (S53), y_ = (l1 ++ [(⟨t185, 0⟩ : S53)]) := ⟨_, rfl⟩
    replace H : (some (y188, t186, t187)) = some (r1, r2, r3) := by first | (rw [hy188]; with_reducible exact H) | (have H2_ := (Option.bind_some _ _).symm.trans H; rw [hy188]; with_reducible exact H2_) | (have H2_ := (Option.bind_some _ _).symm.trans H; with_reducible exact H2_) | with_reducible exact H | (rw [hy188]; exact H) | exact H
    have Ny188 := Aside0.mk hy188
    clear hy188
    simp only [Option.some.injEq, Prod.mk.injEq] at H
    obtain ⟨rfl, rfl, rfl⟩ := H
    go_enter Try.func55, Try.ntmps55
    go_wp2_with (first | ((with_reducible refine gate_callee (f := 37) rfl ?_); refine goesL_ (some 6) rfl rfl Try.func37 (by kernel_rfl) rfl #[.pointer (some ⟨g, 0, none⟩), .int .i64 20] rfl (by (try simp only [List.map_toArray, List.map_cons, List.map_nil]); first | done | rfl | (simp only [List.length_drop, List.length_take]; rfl)) ?_; (with_reducible refine (spec_l1Cur_pick.calls k g s0_0 s0_1 s0_2 20 t180 t181 t182 w0 _ ?side1 ?side2 A3.out).mono ?_); (case side1 => repeat (first | (with_reducible first | exact HI0.out | apply IsS72.alloc | apply IsS72.drewN | apply IsS72.drew | apply IsS72.set_1 | apply IsS72.set_2) | exact HI0.out)); (case side2 => repeat (first | (with_reducible first | exact HB.out | apply zA | apply zB | apply zC | refine below_set ?_ (IsS72.ge HI0.out)) | exact HB.out)); rintro e w18 ⟨rfl, hi, hb, hk⟩; refine ⟨_, rfl, ?_⟩; have n0_ := Aside0.mk (Kd.R_mono (Kd.R_keep (IsS72.apart (show IsS72 w0 _ g s0_0 s0_1 s0_2 from by repeat (first | (with_reducible first | exact HI0.out | apply IsS72.alloc | apply IsS72.drewN | apply IsS72.drew | apply IsS72.set_1 | apply IsS72.set_2) | exact HI0.out)) (by (with_reducible repeat (first | apply zG | apply zH | apply zI)); exact HO1.out) (by decide)) hk (fun _ h => h.2)) (fun _ h => h.1)); have n1_ := Aside0.mk (Kept.of_keep (S := (fun k_ => (P1_ k_) ∨ k_ = g)) (by repeat (first | (with_reducible first | exact HK.out | apply Kept.alloc | apply Kept.drewN | apply Kept.drew | refine Kept.setCell ?_ (.inl (.inr rfl)) _) | exact HK.out)) hk (.inl (.inr rfl))); have n2_ := Aside0.mk (hb); have n3_ := Aside0.mk (hi); clear HO1; clear HK; clear HB; clear HI0; have HO1 := n0_; have HK := n1_; have HB := n2_; have HI0 := n3_; clear n0_ n1_ n2_ n3_; (try clear hb); (try clear hb2); (try clear hk); (try clear hi)) | ((with_reducible refine gate_callee (f := 74) rfl ?_); refine goesL_ (some 23) rfl rfl Try.func74 (by kernel_rfl) rfl #[.pointer (some ⟨g, 0, none⟩), .int .i64 1000000000000, .int .i64 1000000000001] rfl (by (try simp only [List.map_toArray, List.map_cons, List.map_nil]); first | done | rfl | (simp only [List.length_drop, List.length_take]; rfl)) ?_; (with_reducible refine (spec_l1Cur_of2.calls k g s0_0 t181 t182 1000000000000 1000000000001 t185 t186 t187 w0 _ ?side1 ?side2 A16.out).mono ?_); (case side1 => repeat (first | (with_reducible first | exact HI0.out | apply IsS72.alloc | apply IsS72.drewN | apply IsS72.drew | apply IsS72.set_1 | apply IsS72.set_2) | exact HI0.out)); (case side2 => repeat (first | (with_reducible first | exact HB.out | apply zA | apply zB | apply zC | refine below_set ?_ (IsS72.ge HI0.out)) | exact HB.out)); rintro e w19 ⟨rfl, hi, hb, hk⟩; refine ⟨_, rfl, ?_⟩; have n0_ := Aside0.mk (Kd.R_mono (Kd.R_keep (IsS72.apart (show IsS72 w0 _ g s0_0 t181 t182 from by repeat (first | (with_reducible first | exact HI0.out | apply IsS72.alloc | apply IsS72.drewN | apply IsS72.drew | apply IsS72.set_1 | apply IsS72.set_2) | exact HI0.out)) (by (with_reducible repeat (first | apply zG | apply zH | apply zI)); exact HO1.out) (by decide)) hk (fun _ h => h.2)) (fun _ h => h.1)); have n1_ := Aside0.mk (Kept.of_keep (S := (fun k_ => (P1_ k_) ∨ k_ = g)) (by repeat (first | (with_reducible first | exact HK.out | apply Kept.alloc | apply Kept.drewN | apply Kept.drew | refine Kept.setCell ?_ (.inl (.inr rfl)) _) | exact HK.out)) hk (.inl (.inr rfl))); have n2_ := Aside0.mk (hb); have n3_ := Aside0.mk (hi); clear HO1; clear HK; clear HB; clear HI0; have HO1 := n0_; have HK := n1_; have HB := n2_; have HI0 := n3_; clear n0_ n1_ n2_ n3_; (try clear hb); (try clear hb2); (try clear hk); (try clear hi)) | ((with_reducible refine gate_builtin (b := .append) (xs := #[.tmp 21, .tmp 25]) rfl ?_); at_builtin; refine Kd.R_append k53 (w0 := w0) w0.heap.size rfl (.tmp 21) (.tmp 25) 46 53 (.agg #[(.int .i64 0), (.int .i64 0)]) 16 rfl Try.underlying46 info53 rfl (by decide) (by omega) u9000_ l1 (⟨t185, 0⟩ : S53) [.int .i64 t185, .int .i64 0] (fun k_ => (P1_ k_ ∨ w.heap.size ≤ k_)) (fun _ => False) rfl rfl ?aP (fun _ hk => hk.elim) ?aF ?aO ?aB ?aS ?aL ?_; (case aP => exact k53_mkM _ _ _ (⟨t185, 0⟩ : S53)); (case aB => exact (by repeat (first | (with_reducible first | exact HB.out | apply zA | apply zB | apply zC | refine below_set ?_ (IsS72.ge HI0.out)) | exact HB.out))); (case aF => exact (fun k_ hk => (.inr (Nat.le_trans (by first | exact HK.out.1 | exact (show Kept w _ (fun k_ => (P1_ k_) ∨ k_ = g) from by repeat (first | (with_reducible first | exact HK.out | apply Kept.alloc | apply Kept.drewN | apply Kept.drew | refine Kept.setCell ?_ (.inl (.inr rfl)) _) | exact HK.out)).1) hk)))); (case aO => exact (by (with_reducible repeat (first | apply zG | apply zH | apply zI)); exact HO1.out)); (case aS => exact (zW (by repeat (first | (with_reducible first | exact HB.out | apply zA | apply zB | apply zC | refine below_set ?_ (IsS72.ge HI0.out)) | exact HB.out)))); (case aL => have := LMc17.out; omega); intro v189 w20 ho hb hg hat; rw [← Ny188.out] at ho; have n0_ := Aside0.mk (IsS72.grown (by repeat (first | (with_reducible first | exact HI0.out | apply IsS72.alloc | apply IsS72.drewN | apply IsS72.drew | apply IsS72.set_1 | apply IsS72.set_2) | exact HI0.out)) hg (IsS72.own_ne HI0.out HO1.out (by decide))); have n1_ := Aside0.mk (hb); have n2_ := Aside0.mk (Kept.of_grown (S := (fun k_ => (P1_ k_) ∨ k_ = g)) hg (by repeat (first | (with_reducible first | exact HK.out | apply Kept.alloc | apply Kept.drewN | apply Kept.drew | refine Kept.setCell ?_ (.inl (.inr rfl)) _) | exact HK.out)) (fun k_ e_ => Or.imp_left Or.inl ((HO1.out.1 k_ e_)))); have n3_ := Aside0.mk (ho); clear HI0; clear HB; clear HK; clear HO1; have HI0 := n0_; have HB := n1_; have HK := n2_; have HO190 := n3_; clear n0_ n1_ n2_ n3_; clear ho hb hg hat))
    go_ret
    exact ⟨_, by first | rfl | (simp [errW_none, errW_some] <;> rfl) | (simp [*, errW_none, errW_some] <;> rfl), by (with_reducible repeat (first | apply zG | apply zH | apply zI)); exact HO190.out, by repeat (first | (with_reducible first | exact HI0.out | apply IsS72.alloc | apply IsS72.drewN | apply IsS72.drew | apply IsS72.set_1 | apply IsS72.set_2) | exact HI0.out), by repeat (first | (with_reducible first | exact HB.out | apply zA | apply zB | apply zC | refine below_set ?_ (IsS72.ge HI0.out)) | exact HB.out), by repeat (first | (with_reducible first | exact HK.out | apply Kept.alloc | apply Kept.drewN | apply Kept.drew | refine Kept.setCell ?_ (.inl (.inr rfl)) _) | exact HK.out)⟩
   ·rw [if_neg c17] at H
    exact absurd H (by simp)
  ·rw [if_neg c15] at H
   have c15b0 : (t180 == 1) = false := beq_eq_false_iff_ne.mpr c15
   have c15b1 : (t180 != 1) = true := bne_iff_ne.mpr c15
   by_cases c21 : t180 = 2
   ·rw [if_pos c21] at H
    have c21b0 : (t180 == 2) = true := beq_iff_eq.mpr c21
    have c21b1 : (t180 != 2) = false := bne_eq_false_iff_eq.mpr c21
    clear c21
    by_cases c22 : (l1.length : Int) > 0
    ·rw [if_pos c22] at H
     have c22b0 : decide (0 < (l1.length : Int)) = true := decide_eq_true c22
     have c22b1 : decide (0 < l1.length) = true := decide_eq_true (by omega)
     clear c22
     by_cases c23 : 0 < (l1.length : Int)
     ·rw [if_pos c23] at H
      have c23b0 : decide (0 < (l1.length : Int)) = true := decide_eq_true c23
      have c23b1 : decide (0 < l1.length) = true := decide_eq_true (by omega)
      clear c23
      obtain ⟨y191, hy191⟩ : ∃ y_ : List (S53), y_ = (l1.set (0 : Int).toNat (⟨(-1), (rd_T53 l1 0).f1⟩ : S53)) := ⟨_, rfl⟩
      replace H : (some (y191, t181, t182)) = some (r1, r2, r3) := by first | (rw [hy191]; with_reducible exact H) | (have H2_ := (Option.bind_some _ _).symm.trans H; rw [hy191]; with_reducible exact H2_) | (have H2_ := (Option.bind_some _ _).symm.trans H; with_reducible exact H2_) | with_reducible exact H | (rw [hy191]; exact H) | exact H
      have Ny191 := Aside0.mk hy191
      clear hy191
      simp only [Option.some.injEq, Prod.mk.injEq] at H
      obtain ⟨rfl, rfl, rfl⟩ := H
      go_enter Try.func55, Try.ntmps55
      go_wp2_with (first | ((with_reducible refine gate_callee (f := 37) rfl ?_); refine goesL_ (some 6) rfl rfl Try.func37 (by kernel_rfl) rfl #[.pointer (some ⟨g, 0, none⟩), .int .i64 20] rfl (by (try simp only [List.map_toArray, List.map_cons, List.map_nil]); first | done | rfl | (simp only [List.length_drop, List.length_take]; rfl)) ?_; (with_reducible refine (spec_l1Cur_pick.calls k g s0_0 s0_1 s0_2 20 t180 t181 t182 w0 _ ?side1 ?side2 A3.out).mono ?_); (case side1 => repeat (first | (with_reducible first | exact HI0.out | apply IsS72.alloc | apply IsS72.drewN | apply IsS72.drew | apply IsS72.set_1 | apply IsS72.set_2) | exact HI0.out)); (case side2 => repeat (first | (with_reducible first | exact HB.out | apply zA | apply zB | apply zC | refine below_set ?_ (IsS72.ge HI0.out)) | exact HB.out)); rintro e w25 ⟨rfl, hi, hb, hk⟩; refine ⟨_, rfl, ?_⟩; have n0_ := Aside0.mk (Kd.R_mono (Kd.R_keep (IsS72.apart (show IsS72 w0 _ g s0_0 s0_1 s0_2 from by repeat (first | (with_reducible first | exact HI0.out | apply IsS72.alloc | apply IsS72.drewN | apply IsS72.drew | apply IsS72.set_1 | apply IsS72.set_2) | exact HI0.out)) (by (with_reducible repeat (first | apply zG | apply zH | apply zI)); exact HO1.out) (by decide)) hk (fun _ h => h.2)) (fun _ h => h.1)); have n1_ := Aside0.mk (Kept.of_keep (S := (fun k_ => (P1_ k_) ∨ k_ = g)) (by repeat (first | (with_reducible first | exact HK.out | apply Kept.alloc | apply Kept.drewN | apply Kept.drew | refine Kept.setCell ?_ (.inl (.inr rfl)) _) | exact HK.out)) hk (.inl (.inr rfl))); have n2_ := Aside0.mk (hb); have n3_ := Aside0.mk (hi); clear HO1; clear HK; clear HB; clear HI0; have HO1 := n0_; have HK := n1_; have HB := n2_; have HI0 := n3_; clear n0_ n1_ n2_ n3_; (try clear hb); (try clear hb2); (try clear hk); (try clear hi); obtain ⟨Ao26, co26, eo26⟩ := Kd.R_slice HO1.out; subst eo26; have p24 : 0 ≤ (0 : Int) := (by omega); have q24 : (0 : Int) < ((l1.length : Int) : Int) := zX (by first | (with_reducible assumption) | assumption); have qi24 : (0 < l1.length) = True := eq_true (by omega); obtain ⟨go24, co24, eo24, gb24, gl24, cl24, HG24⟩ := Kd.R_form HO1.out (by omega); (first | cases eo24 | (injection eo24 with ea_ en_ ec_; (first | subst ea_ | (injection ea_ with ea_; subst ea_)); subst ec_; clear en_)); have GB24 := Aside0.mk gb24; have GG24 := Aside0.mk HG24; clear gb24 gl24 HG24; have HMgo24 := Aside0.mk (show (P1_ go24 ∨ w.heap.size ≤ go24) from (HO1.out.1 _ rfl)); obtain ⟨ce24, hcl24, hM24, hcc24, hfr24⟩ := Kd.R_elem HO1.out z53 (0 : Int) p24 q24; obtain rfl := k53_openM hM24; have hx24_0 : w25.cell? ⟨go24, (0 : Int).toNat * 2, none⟩ = some (.int .i64 ((rd_T53 l1 0).f0)) := hcc24 0 _ rfl; have hx24_1 : w25.cell? ⟨go24, (0 : Int).toNat * 2 + 1, none⟩ = some (.int .i64 ((rd_T53 l1 0).f1)) := hcc24 1 _ rfl; have hf24_0 : w25.frozen? ⟨go24, (0 : Int).toNat * 2, none⟩ = false := hfr24 0; have hf24_1 : w25.frozen? ⟨go24, (0 : Int).toNat * 2 + 1, none⟩ = false := hfr24 1; clear hcl24 hcc24 hfr24 hM24; (try rw [show ((0 : Int)).toNat = 0 from rfl] at hx24_0); (try simp only [Nat.reduceMul, Nat.zero_mul, Nat.zero_add, Nat.reduceAdd] at hx24_0); (try rw [show ((0 : Int)).toNat = 0 from rfl] at hf24_0); (try simp only [Nat.reduceMul, Nat.zero_mul, Nat.zero_add, Nat.reduceAdd] at hf24_0); (try rw [show ((0 : Int)).toNat = 0 from rfl] at hx24_1); (try simp only [Nat.reduceMul, Nat.zero_mul, Nat.zero_add, Nat.reduceAdd] at hx24_1); (try rw [show ((0 : Int)).toNat = 0 from rfl] at hf24_1); (try simp only [Nat.reduceMul, Nat.zero_mul, Nat.zero_add, Nat.reduceAdd] at hf24_1); replace p24 := eq_true p24; replace q24 := eq_true q24; have HX27 := Aside0.mk (show Kd.R k53 53 w25 w0.heap.size (fun k_ => (P1_ k_ ∨ w.heap.size ≤ k_)) (.slice (some ⟨go24, 0, none⟩) l1.length co26) l1 from (by (with_reducible repeat (first | apply zG | apply zH | apply zI)); exact HO1.out)); obtain ⟨ce27, hcl27, hM27, hcc27, hfr27⟩ := Kd.R_elem HX27.out z53 (0 : Int) (by omega) (by have h_ : (0 : Int) < ((l1.length : Int) : Int) := zX (by first | (with_reducible assumption) | assumption); first | exact h_ | (have e_ := (Kd.R_reads' HO1.out).1; omega) | simpa using h_); obtain rfl := k53_openM hM27; have HP27 := Kd.R_seg HX27.out (0 : Int) (by omega) (by have h_ : (0 : Int) < ((l1.length : Int) : Int) := zX (by first | (with_reducible assumption) | assumption); first | exact h_ | (have e_ := (Kd.R_reads' HO1.out).1; omega) | simpa using h_) (seg := [.int .i64 (-1)]) (j := 0) hcl27 hcc27 (show 1 ≤ 2 from by decide) (x' := (⟨(-1), (rd_T53 l1 0).f1⟩ : S53)) (k53_mkM _ _ _ (⟨(-1), (rd_T53 l1 0).f1⟩ : S53) ) (fun _ hk => hk); have hx27_0 := hcc27 0 _ rfl; (try simp only [show (k53).sz = 2 from rfl, Nat.mul_one, Nat.add_zero] at hx27_0); (try rw [show ((0 : Int)).toNat = 0 from rfl] at hx27_0); (try simp only [Nat.reduceMul, Nat.zero_mul, Nat.zero_add, Nat.reduceAdd] at hx27_0); have hf27_0 := hfr27 0; (try simp only [show (k53).sz = 2 from rfl, Nat.mul_one, Nat.add_zero] at hf27_0); (try rw [show ((0 : Int)).toNat = 0 from rfl] at hf27_0); (try simp only [Nat.reduceMul, Nat.zero_mul, Nat.zero_add, Nat.reduceAdd] at hf27_0); clear hcl27 hcc27 hfr27 hM27) | ((with_reducible refine gate_store (t := 3) (p := 34) rfl ?_); refine store_event (t := 3) (p := 34) (v := ?vo_w28) (w1 := (w25.setCell ⟨go24, 0, none⟩ (.int .i64 (-1)))) ?hg ?ho ?hn ?hr ?_; (case ho => rfl); (case hg => rfl); (case hn => rfl); (case hr => first | (go_simp; done) | (go_simp; rfl)); intro w28 hw; have hg : w25.grownBy w28 (some go24) := (by rw [hw]; exact HP27.2); have hp_ : Kd.R k53 53 w28 w0.heap.size (fun k_ => (P1_ k_ ∨ w.heap.size ≤ k_)) (.slice (some ⟨go24, 0, none⟩) l1.length co26) y191 := (by rw [hw, Ny191.out]; exact HP27.1); clear HP27; have n0_ := Aside0.mk (IsS72.grown (by repeat (first | (with_reducible first | exact HI0.out | apply IsS72.alloc | apply IsS72.drewN | apply IsS72.drew | apply IsS72.set_1 | apply IsS72.set_2) | exact HI0.out)) hg (IsS72.own_ne HI0.out HO1.out (by decide))); have n1_ := Aside0.mk (hp_); have n2_ := Aside0.mk ((by rw [hw]; exact below_set (HB.out) GB24.out : Below w0.heap.size w0 w28)); have n3_ := Aside0.mk (Kept.of_grown (S := (fun k_ => (P1_ k_) ∨ k_ = g)) hg (by repeat (first | (with_reducible first | exact HK.out | apply Kept.alloc | apply Kept.drewN | apply Kept.drew | refine Kept.setCell ?_ (.inl (.inr rfl)) _) | exact HK.out)) (fun k_ e_ => Or.imp_left Or.inl ((HO1.out.1 k_ e_)))); clear HI0; clear HO1; clear HB; clear HK; have HI0 := n0_; have HO1 := n1_; have HB := n2_; have HK := n3_; clear n0_ n1_ n2_ n3_; clear hg hw hp_))
      go_ret
      exact ⟨_, by first | rfl | (simp [errW_none, errW_some] <;> rfl) | (simp [*, errW_none, errW_some] <;> rfl), by (with_reducible repeat (first | apply zG | apply zH | apply zI)); exact HO1.out, by repeat (first | (with_reducible first | exact HI0.out | apply IsS72.alloc | apply IsS72.drewN | apply IsS72.drew | apply IsS72.set_1 | apply IsS72.set_2) | exact HI0.out), by repeat (first | (with_reducible first | exact HB.out | apply zA | apply zB | apply zC | refine below_set ?_ (IsS72.ge HI0.out)) | exact HB.out), by repeat (first | (with_reducible first | exact HK.out | apply Kept.alloc | apply Kept.drewN | apply Kept.drew | refine Kept.setCell ?_ (.inl (.inr rfl)) _) | exact HK.out)⟩
     ·rw [if_neg c23] at H
      exact absurd H (by simp)
    ·rw [if_neg c22] at H
     have c22b0 : decide (0 < (l1.length : Int)) = false := decide_eq_false c22
     have c22b1 : decide (0 < l1.length) = false := decide_eq_false (by omega)
     clear c22
     simp only [Option.some.injEq, Prod.mk.injEq] at H
     obtain ⟨rfl, rfl, rfl⟩ := H
     go_enter Try.func55, Try.ntmps55
     go_wp2_with (first | ((with_reducible refine gate_callee (f := 37) rfl ?_); refine goesL_ (some 6) rfl rfl Try.func37 (by kernel_rfl) rfl #[.pointer (some ⟨g, 0, none⟩), .int .i64 20] rfl (by (try simp only [List.map_toArray, List.map_cons, List.map_nil]); first | done | rfl | (simp only [List.length_drop, List.length_take]; rfl)) ?_; (with_reducible refine (spec_l1Cur_pick.calls k g s0_0 s0_1 s0_2 20 t180 t181 t182 w0 _ ?side1 ?side2 A3.out).mono ?_); (case side1 => repeat (first | (with_reducible first | exact HI0.out | apply IsS72.alloc | apply IsS72.drewN | apply IsS72.drew | apply IsS72.set_1 | apply IsS72.set_2) | exact HI0.out)); (case side2 => repeat (first | (with_reducible first | exact HB.out | apply zA | apply zB | apply zC | refine below_set ?_ (IsS72.ge HI0.out)) | exact HB.out)); rintro e w29 ⟨rfl, hi, hb, hk⟩; refine ⟨_, rfl, ?_⟩; have n0_ := Aside0.mk (Kd.R_mono (Kd.R_keep (IsS72.apart (show IsS72 w0 _ g s0_0 s0_1 s0_2 from by repeat (first | (with_reducible first | exact HI0.out | apply IsS72.alloc | apply IsS72.drewN | apply IsS72.drew | apply IsS72.set_1 | apply IsS72.set_2) | exact HI0.out)) (by (with_reducible repeat (first | apply zG | apply zH | apply zI)); exact HO1.out) (by decide)) hk (fun _ h => h.2)) (fun _ h => h.1)); have n1_ := Aside0.mk (Kept.of_keep (S := (fun k_ => (P1_ k_) ∨ k_ = g)) (by repeat (first | (with_reducible first | exact HK.out | apply Kept.alloc | apply Kept.drewN | apply Kept.drew | refine Kept.setCell ?_ (.inl (.inr rfl)) _) | exact HK.out)) hk (.inl (.inr rfl))); have n2_ := Aside0.mk (hb); have n3_ := Aside0.mk (hi); clear HO1; clear HK; clear HB; clear HI0; have HO1 := n0_; have HK := n1_; have HB := n2_; have HI0 := n3_; clear n0_ n1_ n2_ n3_; (try clear hb); (try clear hb2); (try clear hk); (try clear hi); obtain ⟨Ao30, co30, eo30⟩ := Kd.R_slice HO1.out; subst eo30))
     go_ret
     exact ⟨_, by first | rfl | (simp [errW_none, errW_some] <;> rfl) | (simp [*, errW_none, errW_some] <;> rfl), by (with_reducible repeat (first | apply zG | apply zH | apply zI)); exact HO1.out, by repeat (first | (with_reducible first | exact HI0.out | apply IsS72.alloc | apply IsS72.drewN | apply IsS72.drew | apply IsS72.set_1 | apply IsS72.set_2) | exact HI0.out), by repeat (first | (with_reducible first | exact HB.out | apply zA | apply zB | apply zC | refine below_set ?_ (IsS72.ge HI0.out)) | exact HB.out), by repeat (first | (with_reducible first | exact HK.out | apply Kept.alloc | apply Kept.drewN | apply Kept.drew | refine Kept.setCell ?_ (.inl (.inr rfl)) _) | exact HK.out)⟩
   ·rw [if_neg c21] at H
    have c21b0 : (t180 == 2) = false := beq_eq_false_iff_ne.mpr c21
    have c21b1 : (t180 != 2) = true := bne_iff_ne.mpr c21
    simp only [Option.some.injEq, Prod.mk.injEq] at H
    obtain ⟨rfl, rfl, rfl⟩ := H
    go_enter Try.func55, Try.ntmps55
    go_wp2_with (first | ((with_reducible refine gate_callee (f := 37) rfl ?_); refine goesL_ (some 6) rfl rfl Try.func37 (by kernel_rfl) rfl #[.pointer (some ⟨g, 0, none⟩), .int .i64 20] rfl (by (try simp only [List.map_toArray, List.map_cons, List.map_nil]); first | done | rfl | (simp only [List.length_drop, List.length_take]; rfl)) ?_; (with_reducible refine (spec_l1Cur_pick.calls k g s0_0 s0_1 s0_2 20 t180 t181 t182 w0 _ ?side1 ?side2 A3.out).mono ?_); (case side1 => repeat (first | (with_reducible first | exact HI0.out | apply IsS72.alloc | apply IsS72.drewN | apply IsS72.drew | apply IsS72.set_1 | apply IsS72.set_2) | exact HI0.out)); (case side2 => repeat (first | (with_reducible first | exact HB.out | apply zA | apply zB | apply zC | refine below_set ?_ (IsS72.ge HI0.out)) | exact HB.out)); rintro e w31 ⟨rfl, hi, hb, hk⟩; refine ⟨_, rfl, ?_⟩; have n0_ := Aside0.mk (Kd.R_mono (Kd.R_keep (IsS72.apart (show IsS72 w0 _ g s0_0 s0_1 s0_2 from by repeat (first | (with_reducible first | exact HI0.out | apply IsS72.alloc | apply IsS72.drewN | apply IsS72.drew | apply IsS72.set_1 | apply IsS72.set_2) | exact HI0.out)) (by (with_reducible repeat (first | apply zG | apply zH | apply zI)); exact HO1.out) (by decide)) hk (fun _ h => h.2)) (fun _ h => h.1)); have n1_ := Aside0.mk (Kept.of_keep (S := (fun k_ => (P1_ k_) ∨ k_ = g)) (by repeat (first | (with_reducible first | exact HK.out | apply Kept.alloc | apply Kept.drewN | apply Kept.drew | refine Kept.setCell ?_ (.inl (.inr rfl)) _) | exact HK.out)) hk (.inl (.inr rfl))); have n2_ := Aside0.mk (hb); have n3_ := Aside0.mk (hi); clear HO1; clear HK; clear HB; clear HI0; have HO1 := n0_; have HK := n1_; have HB := n2_; have HI0 := n3_; clear n0_ n1_ n2_ n3_; (try clear hb); (try clear hb2); (try clear hk); (try clear hi)))
    go_ret
    exact ⟨_, by first | rfl | (simp [errW_none, errW_some] <;> rfl) | (simp [*, errW_none, errW_some] <;> rfl), by (with_reducible repeat (first | apply zG | apply zH | apply zI)); exact HO1.out, by repeat (first | (with_reducible first | exact HI0.out | apply IsS72.alloc | apply IsS72.drewN | apply IsS72.drew | apply IsS72.set_1 | apply IsS72.set_2) | exact HI0.out), by repeat (first | (with_reducible first | exact HB.out | apply zA | apply zB | apply zC | refine below_set ?_ (IsS72.ge HI0.out)) | exact HB.out), by repeat (first | (with_reducible first | exact HK.out | apply Kept.alloc | apply Kept.drewN | apply Kept.drew | refine Kept.setCell ?_ (.inl (.inr rfl)) _) | exact HK.out)⟩

/-! ### spec_DrawMergeSamples: function 23 -/
mutual
def spec_DrawMergeSamples.j1 : Nat → List (S53) → List (S53) → List Int → Int → Int → Option ((List (S53)) × (List (S53)))
 | 0, _, _, _, _, _ => none
 | k + 1, x5, x6, x193000, x193001, x193002 => (spec_l1Cur_oddSamples.f k x193000 x193001 x193002 x5).bind fun bt226 => ((spec_l1Cur_oddSamples.f k x193000 bt226.2.1 bt226.2.2 x6).bind fun bt231 => (some (bt226.1, bt231.1)))
def spec_DrawMergeSamples.l0 : Nat → List (S53) → List (S53) → Int → Int → List Int → Int → Int → Option ((List (S53)) × (List (S53)))
 | 0, _, _, _, _, _, _, _ => none
 | k + 1, x5, x6, x29, x30, x193000, x193001, x193002 => if x30 < x29 then (if 0 ≤ x30 then (if x30 < (x6.length : Int) then (spec_DrawMergeSamples.l0 k x5 (x6.set (x30 : Int).toNat (⟨wrap64 (10000 + x30), (rd_T53 x6 x30).f1⟩ : S53)) x29 (wrap64 (x30 + 1)) x193000 x193001 x193002) else (none)) else (none)) else (spec_DrawMergeSamples.j1 k x5 x6 x193000 x193001 x193002)
end
def spec_DrawMergeSamples.f (k : Nat) (l0 : List Int) : Option ((List (S53)) × (List (S53))) := (spec_l1Cur_pick.f k l0 0 0 20).bind fun bt193 => ((spec_l1Cur_samples.f k l0 bt193.2.1 bt193.2.2 bt193.1 20).bind fun bt196 => ((spec_l1Cur_pick.f k l0 bt196.2.1 bt196.2.2 20).bind fun bt201 => ((spec_l1Cur_samples.f k l0 bt201.2.1 bt201.2.2 bt201.1 20).bind fun bt204 => ((spec_l1Cur_one.f k l0 bt204.2.1 bt204.2.2 30).bind fun bt209 => (if bt209.1 = true then ((spec_l1Cur_pick.f k l0 bt209.2.1 bt209.2.2 11).bind fun bt212 => ((spec_l1Cur_longSamples.f k l0 bt212.2.1 bt212.2.2 (wrap64 (1990 + bt212.1))).bind fun bt215 => ((spec_l1Cur_longSamples.f k l0 bt215.2.1 bt215.2.2 5).bind fun bt220 => (spec_DrawMergeSamples.l0 k bt215.1 bt220.1 (bt220.1.length : Int) 0 l0 bt220.2.1 bt220.2.2)))) else (spec_DrawMergeSamples.j1 k bt196.1 bt204.1 l0 bt209.2.1 bt209.2.2))))))
theorem spec_DrawMergeSamples.mono_l : ∀ k, (∀ y0 y1 y2 y3 y4, LeO (spec_DrawMergeSamples.j1 k y0 y1 y2 y3 y4) (spec_DrawMergeSamples.j1 (k + 1) y0 y1 y2 y3 y4)) ∧ (∀ y0 y1 y2 y3 y4 y5 y6, LeO (spec_DrawMergeSamples.l0 k y0 y1 y2 y3 y4 y5 y6) (spec_DrawMergeSamples.l0 (k + 1) y0 y1 y2 y3 y4 y5 y6))
 | 0 => ⟨fun _ _ _ _ _ r h => by simp [spec_DrawMergeSamples.j1] at h, fun _ _ _ _ _ _ _ r h => by simp [spec_DrawMergeSamples.l0] at h⟩
 | k + 1 => by
  obtain ⟨ih0, ih1⟩ := spec_DrawMergeSamples.mono_l k
  refine ⟨?_, ?_⟩
  ·intro y0 y1 y2 y3 y4
   unfold spec_DrawMergeSamples.j1
   repeat' first
   | (with_reducible exact ih0 _ _ _ _ _)
   | (with_reducible exact ih1 _ _ _ _ _ _ _)
   | (with_reducible exact spec_l1Cur_longSamples.mono _ _ _ _ _)
   | (with_reducible exact spec_l1Cur_oddSamples.mono _ _ _ _ _)
   | (with_reducible exact spec_l1Cur_one.mono _ _ _ _ _)
   | (with_reducible exact spec_l1Cur_pick.mono _ _ _ _ _)
   | (with_reducible exact spec_l1Cur_samples.mono _ _ _ _ _ _)
   | (with_reducible exact LeO.refl _)
   | (with_reducible exact LeO.none _)
   | (with_reducible refine LeO.ite ?_ ?_)
   | (with_reducible refine LeO.bind ?_ (fun _ => ?_))
   | exact ih0 _ _ _ _ _
   | exact ih1 _ _ _ _ _ _ _
   | exact spec_l1Cur_longSamples.mono _ _ _ _ _
   | exact spec_l1Cur_oddSamples.mono _ _ _ _ _
   | exact spec_l1Cur_one.mono _ _ _ _ _
   | exact spec_l1Cur_pick.mono _ _ _ _ _
   | exact spec_l1Cur_samples.mono _ _ _ _ _ _
   | exact LeO.none _
   | refine LeO.ite ?_ ?_
   | refine LeO.bind ?_ (fun _ => ?_)
  ·intro y0 y1 y2 y3 y4 y5 y6
   unfold spec_DrawMergeSamples.l0
   repeat' first
   | (with_reducible exact ih0 _ _ _ _ _)
   | (with_reducible exact ih1 _ _ _ _ _ _ _)
   | (with_reducible exact spec_l1Cur_longSamples.mono _ _ _ _ _)
   | (with_reducible exact spec_l1Cur_oddSamples.mono _ _ _ _ _)
   | (with_reducible exact spec_l1Cur_one.mono _ _ _ _ _)
   | (with_reducible exact spec_l1Cur_pick.mono _ _ _ _ _)
   | (with_reducible exact spec_l1Cur_samples.mono _ _ _ _ _ _)
   | (with_reducible exact LeO.refl _)
   | (with_reducible exact LeO.none _)
   | (with_reducible refine LeO.ite ?_ ?_)
   | (with_reducible refine LeO.bind ?_ (fun _ => ?_))
   | exact ih0 _ _ _ _ _
   | exact ih1 _ _ _ _ _ _ _
   | exact spec_l1Cur_longSamples.mono _ _ _ _ _
   | exact spec_l1Cur_oddSamples.mono _ _ _ _ _
   | exact spec_l1Cur_one.mono _ _ _ _ _
   | exact spec_l1Cur_pick.mono _ _ _ _ _
   | exact spec_l1Cur_samples.mono _ _ _ _ _ _
   | exact LeO.none _
   | refine LeO.ite ?_ ?_
   | refine LeO.bind ?_ (fun _ => ?_)
theorem spec_DrawMergeSamples.mono : ∀ a0 k, LeO (spec_DrawMergeSamples.f k a0) (spec_DrawMergeSamples.f (k + 1) a0) := by
 intro a0 k
 obtain ⟨ih0, ih1⟩ := spec_DrawMergeSamples.mono_l k
 unfold spec_DrawMergeSamples.f
 repeat' first
   | (with_reducible exact ih0 _ _ _ _ _)
   | (with_reducible exact ih1 _ _ _ _ _ _ _)
   | (with_reducible exact spec_l1Cur_longSamples.mono _ _ _ _ _)
   | (with_reducible exact spec_l1Cur_oddSamples.mono _ _ _ _ _)
   | (with_reducible exact spec_l1Cur_one.mono _ _ _ _ _)
   | (with_reducible exact spec_l1Cur_pick.mono _ _ _ _ _)
   | (with_reducible exact spec_l1Cur_samples.mono _ _ _ _ _ _)
   | (with_reducible exact LeO.refl _)
   | (with_reducible exact LeO.none _)
   | (with_reducible refine LeO.ite ?_ ?_)
   | (with_reducible refine LeO.bind ?_ (fun _ => ?_))
   | exact ih0 _ _ _ _ _
   | exact ih1 _ _ _ _ _ _ _
   | exact spec_l1Cur_longSamples.mono _ _ _ _ _
   | exact spec_l1Cur_oddSamples.mono _ _ _ _ _
   | exact spec_l1Cur_one.mono _ _ _ _ _
   | exact spec_l1Cur_pick.mono _ _ _ _ _
   | exact spec_l1Cur_samples.mono _ _ _ _ _ _
   | exact LeO.none _
   | refine LeO.ite ?_ ?_
   | refine LeO.bind ?_ (fun _ => ?_)
set_option maxHeartbeats 8000000 in
set_option maxRecDepth 100000 in
theorem spec_DrawMergeSamples.calls (k : Nat) (A0 : Option Addr) (c0 : Nat) (l0 : List Int) (r1 : List (S53)) (r2 : List (S53)) (w : World) (hr0 : Kd.C (Kd.int .u8) w A0 l0.length l0) (hc0 : l0.length ≤ c0) (h : spec_DrawMergeSamples.f k l0 = some (r1, r2)) :
  Calls Try.prog 23 #[.slice A0 l0.length c0] w fun e w' => ∃ v0_ v1_ : Value, e = .returned (.tuple #[v0_, v1_]) ∧ Kd.R k53 53 w' w.heap.size (fun k_ => some k_ ≠ (v1_ : Value).ownBlock) v0_ r1 ∧ Kd.R k53 53 w' w.heap.size (fun k_ => some k_ ≠ (v0_ : Value).ownBlock) v1_ r2 ∧ Below w.heap.size w w' := by
 have hu72 := Try.underlying72
 have HR0 := Aside0.mk hr0
 have HC0 := Aside0.mk hc0
 clear hr0 hc0
 have HB := Aside0.mk (Below.refl w.heap.size w)
 have H : ((spec_l1Cur_pick.f k l0 0 0 20).bind fun bt193 => ((spec_l1Cur_samples.f k l0 bt193.2.1 bt193.2.2 bt193.1 20).bind fun bt196 => ((spec_l1Cur_pick.f k l0 bt196.2.1 bt196.2.2 20).bind fun bt201 => ((spec_l1Cur_samples.f k l0 bt201.2.1 bt201.2.2 bt201.1 20).bind fun bt204 => ((spec_l1Cur_one.f k l0 bt204.2.1 bt204.2.2 30).bind fun bt209 => (if bt209.1 = true then ((spec_l1Cur_pick.f k l0 bt209.2.1 bt209.2.2 11).bind fun bt212 => ((spec_l1Cur_longSamples.f k l0 bt212.2.1 bt212.2.2 (wrap64 (1990 + bt212.1))).bind fun bt215 => ((spec_l1Cur_longSamples.f k l0 bt215.2.1 bt215.2.2 5).bind fun bt220 => (spec_DrawMergeSamples.l0 k bt215.1 bt220.1 (bt220.1.length : Int) 0 l0 bt220.2.1 bt220.2.2)))) else (spec_DrawMergeSamples.j1 k bt196.1 bt204.1 l0 bt209.2.1 bt209.2.2))))))) = some (r1, r2) := h
 clear h
 replace H := Option.bind_eq_some_iff.mp H
 obtain ⟨⟨t193, t194, t195⟩, A20, H⟩ := H
 replace H : ((spec_l1Cur_samples.f k l0 t194 t195 t193 20).bind fun bt196 => ((spec_l1Cur_pick.f k l0 bt196.2.1 bt196.2.2 20).bind fun bt201 => ((spec_l1Cur_samples.f k l0 bt201.2.1 bt201.2.2 bt201.1 20).bind fun bt204 => ((spec_l1Cur_one.f k l0 bt204.2.1 bt204.2.2 30).bind fun bt209 => (if bt209.1 = true then ((spec_l1Cur_pick.f k l0 bt209.2.1 bt209.2.2 11).bind fun bt212 => ((spec_l1Cur_longSamples.f k l0 bt212.2.1 bt212.2.2 (wrap64 (1990 + bt212.1))).bind fun bt215 => ((spec_l1Cur_longSamples.f k l0 bt215.2.1 bt215.2.2 5).bind fun bt220 => (spec_DrawMergeSamples.l0 k bt215.1 bt220.1 (bt220.1.length : Int) 0 l0 bt220.2.1 bt220.2.2)))) else (spec_DrawMergeSamples.j1 k bt196.1 bt204.1 l0 bt209.2.1 bt209.2.2)))))) = some (r1, r2) := H
 have A2 := Aside0.mk A20
 clear A20
 replace H := Option.bind_eq_some_iff.mp H
 obtain ⟨⟨t196, t199, t200⟩, A30, H⟩ := H
 replace H : ((spec_l1Cur_pick.f k l0 t199 t200 20).bind fun bt201 => ((spec_l1Cur_samples.f k l0 bt201.2.1 bt201.2.2 bt201.1 20).bind fun bt204 => ((spec_l1Cur_one.f k l0 bt204.2.1 bt204.2.2 30).bind fun bt209 => (if bt209.1 = true then ((spec_l1Cur_pick.f k l0 bt209.2.1 bt209.2.2 11).bind fun bt212 => ((spec_l1Cur_longSamples.f k l0 bt212.2.1 bt212.2.2 (wrap64 (1990 + bt212.1))).bind fun bt215 => ((spec_l1Cur_longSamples.f k l0 bt215.2.1 bt215.2.2 5).bind fun bt220 => (spec_DrawMergeSamples.l0 k bt215.1 bt220.1 (bt220.1.length : Int) 0 l0 bt220.2.1 bt220.2.2)))) else (spec_DrawMergeSamples.j1 k t196 bt204.1 l0 bt209.2.1 bt209.2.2))))) = some (r1, r2) := H
 have A3 := Aside0.mk A30
 clear A30
 replace H := Option.bind_eq_some_iff.mp H
 obtain ⟨⟨t201, t202, t203⟩, A40, H⟩ := H
 replace H : ((spec_l1Cur_samples.f k l0 t202 t203 t201 20).bind fun bt204 => ((spec_l1Cur_one.f k l0 bt204.2.1 bt204.2.2 30).bind fun bt209 => (if bt209.1 = true then ((spec_l1Cur_pick.f k l0 bt209.2.1 bt209.2.2 11).bind fun bt212 => ((spec_l1Cur_longSamples.f k l0 bt212.2.1 bt212.2.2 (wrap64 (1990 + bt212.1))).bind fun bt215 => ((spec_l1Cur_longSamples.f k l0 bt215.2.1 bt215.2.2 5).bind fun bt220 => (spec_DrawMergeSamples.l0 k bt215.1 bt220.1 (bt220.1.length : Int) 0 l0 bt220.2.1 bt220.2.2)))) else (spec_DrawMergeSamples.j1 k t196 bt204.1 l0 bt209.2.1 bt209.2.2)))) = some (r1, r2) := H
 have A4 := Aside0.mk A40
 clear A40
 replace H := Option.bind_eq_some_iff.mp H
 obtain ⟨⟨t204, t207, t208⟩, A50, H⟩ := H
 replace H : ((spec_l1Cur_one.f k l0 t207 t208 30).bind fun bt209 => (if bt209.1 = true then ((spec_l1Cur_pick.f k l0 bt209.2.1 bt209.2.2 11).bind fun bt212 => ((spec_l1Cur_longSamples.f k l0 bt212.2.1 bt212.2.2 (wrap64 (1990 + bt212.1))).bind fun bt215 => ((spec_l1Cur_longSamples.f k l0 bt215.2.1 bt215.2.2 5).bind fun bt220 => (spec_DrawMergeSamples.l0 k bt215.1 bt220.1 (bt220.1.length : Int) 0 l0 bt220.2.1 bt220.2.2)))) else (spec_DrawMergeSamples.j1 k t196 t204 l0 bt209.2.1 bt209.2.2))) = some (r1, r2) := H
 have A5 := Aside0.mk A50
 clear A50
 replace H := Option.bind_eq_some_iff.mp H
 obtain ⟨⟨t209, t210, t211⟩, A60, H⟩ := H
 replace H : (if t209 = true then ((spec_l1Cur_pick.f k l0 t210 t211 11).bind fun bt212 => ((spec_l1Cur_longSamples.f k l0 bt212.2.1 bt212.2.2 (wrap64 (1990 + bt212.1))).bind fun bt215 => ((spec_l1Cur_longSamples.f k l0 bt215.2.1 bt215.2.2 5).bind fun bt220 => (spec_DrawMergeSamples.l0 k bt215.1 bt220.1 (bt220.1.length : Int) 0 l0 bt220.2.1 bt220.2.2)))) else (spec_DrawMergeSamples.j1 k t196 t204 l0 t210 t211)) = some (r1, r2) := H
 have A6 := Aside0.mk A60
 clear A60
 have HC7 := Aside0.mk H
 clear H
 go_enter Try.func23, Try.ntmps23
 go_upto_if 20 with (first | ((with_reducible refine gate_dst (N := 10) rfl ?_); refine box_event ?hg (N := 10) ?hd (cs := #[.slice A0 l0.length c0, .int .i64 0, .int .u64 0]) (t := 72) ?hr ?_; (case hd => rfl); (case hg => rfl); (case hr => first | (go_simp; done) | (go_simp; rfl)); intro gb192 hg w8 hbox hb; have n0_ := Aside0.mk (below_step (by repeat (first | (with_reducible first | exact HB.out | apply zA | apply zB | apply zC) | exact HB.out)) hb); have n1_ := Aside0.mk ((show IsS72 w w8 gb192 l0 0 0 from ⟨_, _, hbox, (by rw [hg]; exact (zW (by repeat (first | (with_reducible first | exact HB.out | apply zA | apply zB | apply zC) | exact HB.out))) : w.heap.size ≤ gb192), HR0.out⟩)); have n2_ := Aside0.mk ((by rw [hg]; exact (zW (by repeat (first | (with_reducible first | exact HB.out | apply zA | apply zB | apply zC) | exact HB.out))) : w.heap.size ≤ gb192)); have n3_ := Aside0.mk ((by rw [hg]; exact (zW (by repeat (first | (with_reducible first | exact HB.out | apply zA | apply zB | apply zC) | exact HB.out))) : w.heap.size ≤ gb192)); clear HB; have HB := n0_; have HI192 := n1_; have GW192 := n2_; have GE192 := n3_; clear n0_ n1_ n2_ n3_; clear hb hbox hg) | ((with_reducible refine gate_callee (f := 37) rfl ?_); refine goesL_ (some 13) rfl rfl Try.func37 (by kernel_rfl) rfl #[.pointer (some ⟨gb192, 0, none⟩), .int .i64 20] rfl (by (try simp only [List.map_toArray, List.map_cons, List.map_nil]); first | done | rfl | (simp only [List.length_drop, List.length_take]; rfl)) ?_; (with_reducible refine (spec_l1Cur_pick.calls k gb192 l0 0 0 20 t193 t194 t195 w _ ?side1 ?side2 A2.out).mono ?_); (case side1 => repeat (first | (with_reducible first | exact HI192.out | apply IsS72.alloc | apply IsS72.drewN | apply IsS72.drew | apply IsS72.set_1 | apply IsS72.set_2) | exact HI192.out)); (case side2 => repeat (first | (with_reducible first | exact HB.out | apply zA | apply zB | apply zC | refine below_set ?_ (IsS72.ge HI192.out)) | exact HB.out)); rintro e w9 ⟨rfl, hi, hb, hk⟩; refine ⟨_, rfl, ?_⟩; have n0_ := Aside0.mk (hb); have n1_ := Aside0.mk (hi); clear HB; clear HI192; have HB := n0_; have HI192 := n1_; clear n0_ n1_; (try clear hb); (try clear hb2); (try clear hk); (try clear hi)) | ((with_reducible refine gate_callee (f := 53) rfl ?_); refine goesL_ (some 14) rfl rfl Try.func53 (by kernel_rfl) rfl #[.pointer (some ⟨gb192, 0, none⟩), .int .i64 t193, .int .i64 20] rfl (by (try simp only [List.map_toArray, List.map_cons, List.map_nil]); first | done | rfl | (simp only [List.length_drop, List.length_take]; rfl)) ?_; (with_reducible refine (spec_l1Cur_samples.calls k gb192 l0 t194 t195 t193 20 t196 t199 t200 w _ ?side1 ?side2 A3.out).mono ?_); (case side1 => repeat (first | (with_reducible first | exact HI192.out | apply IsS72.alloc | apply IsS72.drewN | apply IsS72.drew | apply IsS72.set_1 | apply IsS72.set_2) | exact HI192.out)); (case side2 => repeat (first | (with_reducible first | exact HB.out | apply zA | apply zB | apply zC | refine below_set ?_ (IsS72.ge HI192.out)) | exact HB.out)); rintro e w10 ⟨v197, rfl, ho0, hi, hb, hk⟩; refine ⟨_, rfl, ?_⟩; have n0_ := Aside0.mk (Kd.R_lower ho0 (zW (by repeat (first | (with_reducible first | exact HB.out | apply zA | apply zB | apply zC | refine below_set ?_ (IsS72.ge HI192.out)) | exact HB.out)))); have n1_ := Aside0.mk (hb); have n2_ := Aside0.mk (hi); clear HB; clear HI192; have HO198 := n0_; have HB := n1_; have HI192 := n2_; clear n0_ n1_ n2_; (try clear hb); (try clear hb2); (try clear hk); (try clear hi); (try clear ho0)) | ((with_reducible refine gate_callee (f := 37) rfl ?_); refine goesL_ (some 17) rfl rfl Try.func37 (by kernel_rfl) rfl #[.pointer (some ⟨gb192, 0, none⟩), .int .i64 20] rfl (by (try simp only [List.map_toArray, List.map_cons, List.map_nil]); first | done | rfl | (simp only [List.length_drop, List.length_take]; rfl)) ?_; (with_reducible refine (spec_l1Cur_pick.calls k gb192 l0 t199 t200 20 t201 t202 t203 w _ ?side1 ?side2 A4.out).mono ?_); (case side1 => repeat (first | (with_reducible first | exact HI192.out | apply IsS72.alloc | apply IsS72.drewN | apply IsS72.drew | apply IsS72.set_1 | apply IsS72.set_2) | exact HI192.out)); (case side2 => repeat (first | (with_reducible first | exact HB.out | apply zA | apply zB | apply zC | refine below_set ?_ (IsS72.ge HI192.out)) | exact HB.out)); rintro e w11 ⟨rfl, hi, hb, hk⟩; refine ⟨_, rfl, ?_⟩; have n0_ := Aside0.mk (Kd.R_mono (Kd.R_keep (IsS72.apart (show IsS72 w _ gb192 l0 t199 t200 from by repeat (first | (with_reducible first | exact HI192.out | apply IsS72.alloc | apply IsS72.drewN | apply IsS72.drew | apply IsS72.set_1 | apply IsS72.set_2) | exact HI192.out)) (by (with_reducible repeat (first | apply zG | apply zH | apply zI)); exact HO198.out) (by decide)) hk (fun _ h => h.2)) (fun _ h => h.1)); have n1_ := Aside0.mk (hb); have n2_ := Aside0.mk (hi); clear HO198; clear HB; clear HI192; have HO198 := n0_; have HB := n1_; have HI192 := n2_; clear n0_ n1_ n2_; (try clear hb); (try clear hb2); (try clear hk); (try clear hi)) | ((with_reducible refine gate_callee (f := 53) rfl ?_); refine goesL_ (some 18) rfl rfl Try.func53 (by kernel_rfl) rfl #[.pointer (some ⟨gb192, 0, none⟩), .int .i64 t201, .int .i64 20] rfl (by (try simp only [List.map_toArray, List.map_cons, List.map_nil]); first | done | rfl | (simp only [List.length_drop, List.length_take]; rfl)) ?_; (with_reducible refine (spec_l1Cur_samples.calls k gb192 l0 t202 t203 t201 20 t204 t207 t208 w _ ?side1 ?side2 A5.out).mono ?_); (case side1 => repeat (first | (with_reducible first | exact HI192.out | apply IsS72.alloc | apply IsS72.drewN | apply IsS72.drew | apply IsS72.set_1 | apply IsS72.set_2) | exact HI192.out)); (case side2 => repeat (first | (with_reducible first | exact HB.out | apply zA | apply zB | apply zC | refine below_set ?_ (IsS72.ge HI192.out)) | exact HB.out)); rintro e w12 ⟨v205, rfl, ho0, hi, hb, hk⟩; refine ⟨_, rfl, ?_⟩; have n0_ := Aside0.mk (Kd.R_mono (Kd.R_told (Kd.R_oldK (IsS72.apart (show IsS72 w _ gb192 l0 t202 t203 from by repeat (first | (with_reducible first | exact HI192.out | apply IsS72.alloc | apply IsS72.drewN | apply IsS72.drew | apply IsS72.set_1 | apply IsS72.set_2) | exact HI192.out)) (by (with_reducible repeat (first | apply zG | apply zH | apply zI)); exact HO198.out) (by decide)) hk) (Kd.R_base ho0)) (fun _ h_ => h_.1)); have n1_ := Aside0.mk (Kd.R_lower (Kd.R_new' ho0 (Kd.R_lt (by (with_reducible repeat (first | apply zG | apply zH | apply zI)); exact HO198.out))) (zW (by repeat (first | (with_reducible first | exact HB.out | apply zA | apply zB | apply zC | refine below_set ?_ (IsS72.ge HI192.out)) | exact HB.out)))); have n2_ := Aside0.mk (hb); have n3_ := Aside0.mk (hi); clear HO198; clear HB; clear HI192; have HO198 := n0_; have HO206 := n1_; have HB := n2_; have HI192 := n3_; clear n0_ n1_ n2_ n3_; (try clear hb); (try clear hb2); (try clear hk); (try clear hi); (try clear ho0)) | ((with_reducible refine gate_callee (f := 47) rfl ?_); refine goesL_ (some 20) rfl rfl Try.func47 (by kernel_rfl) rfl #[.pointer (some ⟨gb192, 0, none⟩), .int .i64 30] rfl (by (try simp only [List.map_toArray, List.map_cons, List.map_nil]); first | done | rfl | (simp only [List.length_drop, List.length_take]; rfl)) ?_; (with_reducible refine (spec_l1Cur_one.calls k gb192 l0 t207 t208 30 t209 t210 t211 w _ ?side1 ?side2 A6.out).mono ?_); (case side1 => repeat (first | (with_reducible first | exact HI192.out | apply IsS72.alloc | apply IsS72.drewN | apply IsS72.drew | apply IsS72.set_1 | apply IsS72.set_2) | exact HI192.out)); (case side2 => repeat (first | (with_reducible first | exact HB.out | apply zA | apply zB | apply zC | refine below_set ?_ (IsS72.ge HI192.out)) | exact HB.out)); rintro e w13 ⟨rfl, hi, hb, hk⟩; refine ⟨_, rfl, ?_⟩; have n0_ := Aside0.mk (Kd.R_mono (Kd.R_keep (IsS72.apart (show IsS72 w _ gb192 l0 t207 t208 from by repeat (first | (with_reducible first | exact HI192.out | apply IsS72.alloc | apply IsS72.drewN | apply IsS72.drew | apply IsS72.set_1 | apply IsS72.set_2) | exact HI192.out)) (by (with_reducible repeat (first | apply zG | apply zH | apply zI)); exact HO198.out) (by decide)) hk (fun _ h => h.2)) (fun _ h => h.1)); have n1_ := Aside0.mk (Kd.R_mono (Kd.R_keep (IsS72.apart (show IsS72 w _ gb192 l0 t207 t208 from by repeat (first | (with_reducible first | exact HI192.out | apply IsS72.alloc | apply IsS72.drewN | apply IsS72.drew | apply IsS72.set_1 | apply IsS72.set_2) | exact HI192.out)) (by (with_reducible repeat (first | apply zG | apply zH | apply zI)); exact HO206.out) (by decide)) hk (fun _ h => h.2)) (fun _ h => h.1)); have n2_ := Aside0.mk (hb); have n3_ := Aside0.mk (hi); clear HO198; clear HO206; clear HB; clear HI192; have HO198 := n0_; have HO206 := n1_; have HB := n2_; have HI192 := n3_; clear n0_ n1_ n2_ n3_; (try clear hb); (try clear hb2); (try clear hk); (try clear hi)))
 (try simp only [Act.put, zT, zU, zV])
 go_cut [5, 6] (fun v5 v6 wc => ∃ (kq : Nat) (x5_6 : List (S53)) (x6_6 : List (S53)) (x193001_6 : Int) (x193002_6 : Int), Aside0 (spec_DrawMergeSamples.j1 kq x5_6 x6_6 l0 x193001_6 x193002_6 = some (r1, r2)) ∧ Aside0 (kq ≤ k) ∧ Aside0 (Kd.R k53 53 wc w.heap.size (fun k_ => some k_ ≠ (v6 : Value).ownBlock) v5 x5_6) ∧ Aside0 (Kd.R k53 53 wc w.heap.size (fun k_ => some k_ ≠ (v5 : Value).ownBlock) v6 x6_6) ∧ Aside0 (IsS72 w wc gb192 l0 x193001_6 x193002_6) ∧ Aside0 (Below w.heap.size w wc))
 case first =>
  have H := HC7.out
  clear HC7
  by_cases c14 : t209 = true
  ·subst c14
   have H1 : ((spec_l1Cur_pick.f k l0 t210 t211 11).bind fun bt212 => ((spec_l1Cur_longSamples.f k l0 bt212.2.1 bt212.2.2 (wrap64 (1990 + bt212.1))).bind fun bt215 => ((spec_l1Cur_longSamples.f k l0 bt215.2.1 bt215.2.2 5).bind fun bt220 => (spec_DrawMergeSamples.l0 k bt215.1 bt220.1 (bt220.1.length : Int) 0 l0 bt220.2.1 bt220.2.2)))) = some (r1, r2) := by rw [if_pos rfl] at H; exact H
   clear H
   have H := H1
   clear H1
   replace H := Option.bind_eq_some_iff.mp H
   obtain ⟨⟨t212, t213, t214⟩, A150, H⟩ := H
   replace H : ((spec_l1Cur_longSamples.f k l0 t213 t214 (wrap64 (1990 + t212))).bind fun bt215 => ((spec_l1Cur_longSamples.f k l0 bt215.2.1 bt215.2.2 5).bind fun bt220 => (spec_DrawMergeSamples.l0 k bt215.1 bt220.1 (bt220.1.length : Int) 0 l0 bt220.2.1 bt220.2.2))) = some (r1, r2) := H
   have A15 := Aside0.mk A150
   clear A150
   replace H := Option.bind_eq_some_iff.mp H
   obtain ⟨⟨t215, t218, t219⟩, A160, H⟩ := H
   replace H : ((spec_l1Cur_longSamples.f k l0 t218 t219 5).bind fun bt220 => (spec_DrawMergeSamples.l0 k t215 bt220.1 (bt220.1.length : Int) 0 l0 bt220.2.1 bt220.2.2)) = some (r1, r2) := H
   have A16 := Aside0.mk A160
   clear A160
   replace H := Option.bind_eq_some_iff.mp H
   obtain ⟨⟨t220, t223, t224⟩, A170, H⟩ := H
   replace H : (spec_DrawMergeSamples.l0 k t215 t220 (t220.length : Int) 0 l0 t223 t224) = some (r1, r2) := H
   have A17 := Aside0.mk A170
   clear A170
   have H' := Aside0.mk H
   clear H
   go_wp2_with (first | ((with_reducible refine gate_callee (f := 37) rfl ?_); refine goesL_ (some 23) rfl rfl Try.func37 (by kernel_rfl) rfl #[.pointer (some ⟨gb192, 0, none⟩), .int .i64 11] rfl (by (try simp only [List.map_toArray, List.map_cons, List.map_nil]); first | done | rfl | (simp only [List.length_drop, List.length_take]; rfl)) ?_; (with_reducible refine (spec_l1Cur_pick.calls k gb192 l0 t210 t211 11 t212 t213 t214 w _ ?side1 ?side2 A15.out).mono ?_); (case side1 => repeat (first | (with_reducible first | exact HI192.out | apply IsS72.alloc | apply IsS72.drewN | apply IsS72.drew | apply IsS72.set_1 | apply IsS72.set_2) | exact HI192.out)); (case side2 => repeat (first | (with_reducible first | exact HB.out | apply zA | apply zB | apply zC | refine below_set ?_ (IsS72.ge HI192.out)) | exact HB.out)); rintro e w18 ⟨rfl, hi, hb, hk⟩; refine ⟨_, rfl, ?_⟩; have n0_ := Aside0.mk (Kd.R_mono (Kd.R_keep (IsS72.apart (show IsS72 w _ gb192 l0 t210 t211 from by repeat (first | (with_reducible first | exact HI192.out | apply IsS72.alloc | apply IsS72.drewN | apply IsS72.drew | apply IsS72.set_1 | apply IsS72.set_2) | exact HI192.out)) (by (with_reducible repeat (first | apply zG | apply zH | apply zI)); exact HO198.out) (by decide)) hk (fun _ h => h.2)) (fun _ h => h.1)); have n1_ := Aside0.mk (Kd.R_mono (Kd.R_keep (IsS72.apart (show IsS72 w _ gb192 l0 t210 t211 from by repeat (first | (with_reducible first | exact HI192.out | apply IsS72.alloc | apply IsS72.drewN | apply IsS72.drew | apply IsS72.set_1 | apply IsS72.set_2) | exact HI192.out)) (by (with_reducible repeat (first | apply zG | apply zH | apply zI)); exact HO206.out) (by decide)) hk (fun _ h => h.2)) (fun _ h => h.1)); have n2_ := Aside0.mk (hb); have n3_ := Aside0.mk (hi); clear HO198; clear HO206; clear HB; clear HI192; have HO198 := n0_; have HO206 := n1_; have HB := n2_; have HI192 := n3_; clear n0_ n1_ n2_ n3_; (try clear hb); (try clear hb2); (try clear hk); (try clear hi)) | ((with_reducible refine gate_callee (f := 54) rfl ?_); refine goesL_ (some 25) rfl rfl Try.func54 (by kernel_rfl) rfl #[.pointer (some ⟨gb192, 0, none⟩), .int .i64 (wrap64 (1990 + t212))] rfl (by (try simp only [List.map_toArray, List.map_cons, List.map_nil]); first | done | rfl | (simp only [List.length_drop, List.length_take]; rfl)) ?_; (with_reducible refine (spec_l1Cur_longSamples.calls k gb192 l0 t213 t214 (wrap64 (1990 + t212)) t215 t218 t219 w _ ?side1 ?side2 A16.out).mono ?_); (case side1 => repeat (first | (with_reducible first | exact HI192.out | apply IsS72.alloc | apply IsS72.drewN | apply IsS72.drew | apply IsS72.set_1 | apply IsS72.set_2) | exact HI192.out)); (case side2 => repeat (first | (with_reducible first | exact HB.out | apply zA | apply zB | apply zC | refine below_set ?_ (IsS72.ge HI192.out)) | exact HB.out)); rintro e w19 ⟨v216, rfl, ho0, hi, hb, hk⟩; refine ⟨_, rfl, ?_⟩; have n0_ := Aside0.mk (Kd.R_mono (Kd.R_told (Kd.R_oldK (IsS72.apart (show IsS72 w _ gb192 l0 t213 t214 from by repeat (first | (with_reducible first | exact HI192.out | apply IsS72.alloc | apply IsS72.drewN | apply IsS72.drew | apply IsS72.set_1 | apply IsS72.set_2) | exact HI192.out)) (by (with_reducible repeat (first | apply zG | apply zH | apply zI)); exact HO198.out) (by decide)) hk) (Kd.R_base ho0)) (fun _ h_ => h_.1)); have n1_ := Aside0.mk (Kd.R_mono (Kd.R_told (Kd.R_oldK (IsS72.apart (show IsS72 w _ gb192 l0 t213 t214 from by repeat (first | (with_reducible first | exact HI192.out | apply IsS72.alloc | apply IsS72.drewN | apply IsS72.drew | apply IsS72.set_1 | apply IsS72.set_2) | exact HI192.out)) (by (with_reducible repeat (first | apply zG | apply zH | apply zI)); exact HO206.out) (by decide)) hk) (Kd.R_base ho0)) (fun _ h_ => h_.1)); have n2_ := Aside0.mk (Kd.R_lower (Kd.R_new' (Kd.R_new' ho0 (Kd.R_lt (by (with_reducible repeat (first | apply zG | apply zH | apply zI)); exact HO198.out))) (Kd.R_lt (by (with_reducible repeat (first | apply zG | apply zH | apply zI)); exact HO206.out))) (zW (by repeat (first | (with_reducible first | exact HB.out | apply zA | apply zB | apply zC | refine below_set ?_ (IsS72.ge HI192.out)) | exact HB.out)))); have n3_ := Aside0.mk (hb); have n4_ := Aside0.mk (hi); clear HO198; clear HO206; clear HB; clear HI192; have HO198 := n0_; have HO206 := n1_; have HO217 := n2_; have HB := n3_; have HI192 := n4_; clear n0_ n1_ n2_ n3_ n4_; (try clear hb); (try clear hb2); (try clear hk); (try clear hi); (try clear ho0)) | ((with_reducible refine gate_callee (f := 54) rfl ?_); refine goesL_ (some 27) rfl rfl Try.func54 (by kernel_rfl) rfl #[.pointer (some ⟨gb192, 0, none⟩), .int .i64 5] rfl (by (try simp only [List.map_toArray, List.map_cons, List.map_nil]); first | done | rfl | (simp only [List.length_drop, List.length_take]; rfl)) ?_; (with_reducible refine (spec_l1Cur_longSamples.calls k gb192 l0 t218 t219 5 t220 t223 t224 w _ ?side1 ?side2 A17.out).mono ?_); (case side1 => repeat (first | (with_reducible first | exact HI192.out | apply IsS72.alloc | apply IsS72.drewN | apply IsS72.drew | apply IsS72.set_1 | apply IsS72.set_2) | exact HI192.out)); (case side2 => repeat (first | (with_reducible first | exact HB.out | apply zA | apply zB | apply zC | refine below_set ?_ (IsS72.ge HI192.out)) | exact HB.out)); rintro e w20 ⟨v221, rfl, ho0, hi, hb, hk⟩; refine ⟨_, rfl, ?_⟩; have n0_ := Aside0.mk (Kd.R_mono (Kd.R_told (Kd.R_oldK (IsS72.apart (show IsS72 w _ gb192 l0 t218 t219 from by repeat (first | (with_reducible first | exact HI192.out | apply IsS72.alloc | apply IsS72.drewN | apply IsS72.drew | apply IsS72.set_1 | apply IsS72.set_2) | exact HI192.out)) (by (with_reducible repeat (first | apply zG | apply zH | apply zI)); exact HO198.out) (by decide)) hk) (Kd.R_base ho0)) (fun _ h_ => h_.1)); have n1_ := Aside0.mk (Kd.R_mono (Kd.R_told (Kd.R_oldK (IsS72.apart (show IsS72 w _ gb192 l0 t218 t219 from by repeat (first | (with_reducible first | exact HI192.out | apply IsS72.alloc | apply IsS72.drewN | apply IsS72.drew | apply IsS72.set_1 | apply IsS72.set_2) | exact HI192.out)) (by (with_reducible repeat (first | apply zG | apply zH | apply zI)); exact HO206.out) (by decide)) hk) (Kd.R_base ho0)) (fun _ h_ => h_.1)); have n2_ := Aside0.mk (Kd.R_mono (Kd.R_told (Kd.R_oldK (IsS72.apart (show IsS72 w _ gb192 l0 t218 t219 from by repeat (first | (with_reducible first | exact HI192.out | apply IsS72.alloc | apply IsS72.drewN | apply IsS72.drew | apply IsS72.set_1 | apply IsS72.set_2) | exact HI192.out)) (by (with_reducible repeat (first | apply zG | apply zH | apply zI)); exact HO217.out) (by decide)) hk) (Kd.R_base ho0)) (fun _ h_ => h_.1)); have n3_ := Aside0.mk (Kd.R_lower (Kd.R_new' (Kd.R_new' (Kd.R_new' ho0 (Kd.R_lt (by (with_reducible repeat (first | apply zG | apply zH | apply zI)); exact HO198.out))) (Kd.R_lt (by (with_reducible repeat (first | apply zG | apply zH | apply zI)); exact HO206.out))) (Kd.R_lt (by (with_reducible repeat (first | apply zG | apply zH | apply zI)); exact HO217.out))) (zW (by repeat (first | (with_reducible first | exact HB.out | apply zA | apply zB | apply zC | refine below_set ?_ (IsS72.ge HI192.out)) | exact HB.out)))); have n4_ := Aside0.mk (hb); have n5_ := Aside0.mk (hi); clear HO198; clear HO206; clear HO217; clear HB; clear HI192; have HO198 := n0_; have HO206 := n1_; have HO217 := n2_; have HO222 := n3_; have HB := n4_; have HI192 := n5_; clear n0_ n1_ n2_ n3_ n4_ n5_; (try clear hb); (try clear hb2); (try clear hk); (try clear hi); (try clear ho0); obtain ⟨Ao21, co21, eo21⟩ := Kd.R_slice HO222.out; subst eo21))
   go_loopg [30] k (fun kq v30 w' => ∃ (x6_1 : List (S53)) (x30_1 : Int), v30 = .int .i64 x30_1 ∧ Aside0 (spec_DrawMergeSamples.l0 kq t215 x6_1 (t220.length : Int) x30_1 l0 t223 t224 = some (r1, r2)) ∧ Aside0 (kq ≤ k) ∧ Aside0 (Kd.R k53 53 w' w.heap.size (fun k_ => some k_ ≠ ((.slice Ao21 t220.length co21) : Value).ownBlock) v216 t215) ∧ Aside0 (Kd.R k53 53 w' w.heap.size (fun k_ => some k_ ≠ (v216 : Value).ownBlock) (.slice Ao21 t220.length co21) x6_1) ∧ Aside0 (IsS72 w w' gb192 l0 t223 t224) ∧ Aside0 (Below w.heap.size w w'))
   case atStart => exact ⟨(t220), (0), (by first | rfl | (simp; done) | (simp [*]; done)), H', ⟨Nat.le_refl _⟩, ⟨by (with_reducible repeat (first | apply zG | apply zH | apply zI)); exact Kd.R_mono HO217.out (fun _ hk => hk.2)⟩, ⟨by (with_reducible repeat (first | apply zG | apply zH | apply zI)); exact Kd.R_mono HO222.out (fun _ hk => hk.2)⟩, ⟨by repeat (first | (with_reducible first | exact HI192.out | apply IsS72.alloc | apply IsS72.drewN | apply IsS72.drew | apply IsS72.set_1 | apply IsS72.set_2) | exact HI192.out)⟩, ⟨by repeat (first | (with_reducible first | exact HB.out | apply zA | apply zB | apply zC | refine below_set ?_ (IsS72.ge HI192.out)) | exact HB.out)⟩⟩
   case round =>
    clear H'
    try clear c1
    try clear c2
    try clear p2
    try clear c3
    try clear c4
    try clear c5
    try clear p6
    try clear c14
    obtain ⟨x6_1, x30_1, rfl, HA, HK1, HO_5, HO_6, HI192, HB⟩ := hrel
    have hl6_1 := (Kd.R_reads' HO_6.out).1
    rw [hl6_1] at HO_6
    (try simp only [hl6_1])
    (try simp only [hl6_1] at HO_5)
    cases gk with
    | zero => exact absurd HA.out (by simp [spec_DrawMergeSamples.l0])
    | succ k1 =>
     have H := HA.out
     clear HA
     simp only [spec_DrawMergeSamples.l0] at H
     by_cases c22 : x30_1 < (t220.length : Int)
     ·rw [if_pos c22] at H
      have c22b0 : decide (x30_1 < (t220.length : Int)) = true := decide_eq_true c22
      (try (have c22b9 := c22b0; simp only [hl6_1] at c22b9))
      clear c22
      (first | rw [c22b0] | (simp only [i64_w, i32_w]; rw [c22b0]) | skip)
      by_cases c23 : 0 ≤ x30_1
      ·rw [if_pos c23] at H
       have c23b0 : decide (0 ≤ x30_1) = true := decide_eq_true c23
       clear c23
       by_cases c24 : x30_1 < (x6_1.length : Int)
       ·rw [if_pos c24] at H
        have c24b0 : decide (x30_1 < (x6_1.length : Int)) = true := decide_eq_true c24
        (try (have c24b9 := c24b0; simp only [hl6_1] at c24b9))
        clear c24
        obtain ⟨y225, hy225⟩ : ∃ y_ : List (S53), y_ = (x6_1.set (x30_1 : Int).toNat (⟨wrap64 (10000 + x30_1), (rd_T53 x6_1 x30_1).f1⟩ : S53)) := ⟨_, rfl⟩
        replace H : (spec_DrawMergeSamples.l0 k1 t215 y225 (t220.length : Int) (wrap64 (x30_1 + 1)) l0 t223 t224) = some (r1, r2) := by first | (rw [hy225]; with_reducible exact H) | (have H2_ := (Option.bind_some _ _).symm.trans H; rw [hy225]; with_reducible exact H2_) | (have H2_ := (Option.bind_some _ _).symm.trans H; with_reducible exact H2_) | with_reducible exact H | (rw [hy225]; exact H) | exact H
        have Ny225 := Aside0.mk hy225
        clear hy225
        have H' := Aside0.mk H
        clear H
        have p25 : 0 ≤ (x30_1 : Int) := zX (by first | (with_reducible assumption) | assumption)
        have q25 : (x30_1 : Int) < ((x6_1.length : Int) : Int) := zX (by first | (with_reducible assumption) | assumption)
        obtain ⟨go25, co25, eo25, gb25, gl25, cl25, HG25⟩ := Kd.R_form HO_6.out (by omega)
        (first | cases eo25 | (injection eo25 with ea_ en_ ec_; (first | subst ea_ | (injection ea_ with ea_; subst ea_)); subst ec_; clear en_))
        have GB25 := Aside0.mk gb25
        have GG25 := Aside0.mk HG25
        clear gb25 gl25 HG25
        obtain ⟨ce25, hcl25, hM25, hcc25, hfr25⟩ := Kd.R_elem HO_6.out z53 (x30_1 : Int) p25 q25
        obtain rfl := k53_openM hM25
        have hx25_0 : wr.cell? ⟨go25, (x30_1 : Int).toNat * 2, none⟩ = some (.int .i64 ((rd_T53 x6_1 x30_1).f0)) := hcc25 0 _ rfl
        have hx25_1 : wr.cell? ⟨go25, (x30_1 : Int).toNat * 2 + 1, none⟩ = some (.int .i64 ((rd_T53 x6_1 x30_1).f1)) := hcc25 1 _ rfl
        have hf25_0 : wr.frozen? ⟨go25, (x30_1 : Int).toNat * 2, none⟩ = false := hfr25 0
        have hf25_1 : wr.frozen? ⟨go25, (x30_1 : Int).toNat * 2 + 1, none⟩ = false := hfr25 1
        clear hcl25 hcc25 hfr25 hM25
        replace p25 := eq_true p25
        replace q25 := eq_true q25
        have HX26 := Aside0.mk (show Kd.R k53 53 wr w.heap.size (fun k_ => some k_ ≠ (v216 : Value).ownBlock) (.slice (some ⟨go25, 0, none⟩) x6_1.length co21) x6_1 from (by (with_reducible repeat (first | apply zG | apply zH | apply zI)); exact HO_6.out))
        obtain ⟨ce26, hcl26, hM26, hcc26, hfr26⟩ := Kd.R_elem HX26.out z53 (x30_1 : Int) (zX (by first | (with_reducible assumption) | assumption)) (by have h_ : (x30_1 : Int) < ((x6_1.length : Int) : Int) := zX (by first | (with_reducible assumption) | assumption); first | exact h_ | (have e_ := (Kd.R_reads' HO_6.out).1; omega) | simpa using h_)
        obtain rfl := k53_openM hM26
        have HP26 := Kd.R_seg HX26.out (x30_1 : Int) (zX (by first | (with_reducible assumption) | assumption)) (by have h_ : (x30_1 : Int) < ((x6_1.length : Int) : Int) := zX (by first | (with_reducible assumption) | assumption); first | exact h_ | (have e_ := (Kd.R_reads' HO_6.out).1; omega) | simpa using h_) (seg := [.int .i64 (wrap64 (10000 + x30_1))]) (j := 0) hcl26 hcc26 (show 1 ≤ 2 from by decide) (x' := (⟨wrap64 (10000 + x30_1), (rd_T53 x6_1 x30_1).f1⟩ : S53)) (k53_mkM _ _ _ (⟨wrap64 (10000 + x30_1), (rd_T53 x6_1 x30_1).f1⟩ : S53) ) (fun _ hk => hk)
        have hx26_0 := hcc26 0 _ rfl
        (try simp only [show (k53).sz = 2 from rfl, Nat.mul_one, Nat.add_zero] at hx26_0)
        have hf26_0 := hfr26 0
        (try simp only [show (k53).sz = 2 from rfl, Nat.mul_one, Nat.add_zero] at hf26_0)
        clear hcl26 hcc26 hfr26 hM26
        go_wp2_with (first | ((with_reducible refine gate_store (t := 3) (p := 38) rfl ?_); refine store_event (t := 3) (p := 38) (v := ?vo_w27) (w1 := (wr.setCell ⟨go25, (x30_1 : Int).toNat * 2, none⟩ (.int .i64 (wrap64 (10000 + x30_1))))) ?hg ?ho ?hn ?hr ?_; (case ho => rfl); (case hg => rfl); (case hn => rfl); (case hr => first | (go_simp; done) | (go_simp; rfl)); intro w27 hw; have hg : wr.grownBy w27 (some go25) := (by rw [hw]; exact HP26.2); have hp_ : Kd.R k53 53 w27 w.heap.size (fun k_ => some k_ ≠ (v216 : Value).ownBlock) (.slice (some ⟨go25, 0, none⟩) x6_1.length co21) y225 := (by rw [hw, Ny225.out]; exact HP26.1); clear HP26; have n0_ := Aside0.mk (Kd.R_after (v := (.slice (some ⟨go25, 0, none⟩) x6_1.length co21)) (v1 := (.slice (some ⟨go25, 0, none⟩) x6_1.length co21)) (ok := (fun _ => True)) (by (with_reducible repeat (first | apply zG | apply zH | apply zI)); exact Kd.R_mono HO_5.out (fun _ hk => ⟨trivial, hk⟩)) hg (.inl rfl)); have n1_ := Aside0.mk (hp_); have n2_ := Aside0.mk (IsS72.grown (by repeat (first | (with_reducible first | exact HI192.out | apply IsS72.alloc | apply IsS72.drewN | apply IsS72.drew | apply IsS72.set_1 | apply IsS72.set_2) | exact HI192.out)) hg (IsS72.own_ne HI192.out HO_6.out (by decide))); have n3_ := Aside0.mk ((by rw [hw]; exact below_set (HB.out) GB25.out : Below w.heap.size w w27)); clear HO_5; clear HO_6; clear HI192; clear HB; have HO_5 := n0_; have HO_6 := n1_; have HI192 := n2_; have HB := n3_; clear n0_ n1_ n2_ n3_; clear hg hw hp_))
        (try simp only [← hl6_1])
        go_roundg k1
        case measure => have := HK1.out; omega
        case rel => exact ⟨(y225), (wrap64 (x30_1 + 1)), (by first | rfl | (simp; done) | (simp [*]; done)), H', ⟨by have := HK1.out; omega⟩, ⟨by (try simp only [hl6_1]); (with_reducible repeat (first | apply zG | apply zH | apply zI)); exact Kd.R_mono HO_5.out (fun _ hk => hk.2)⟩, ⟨by (try simp only [hl6_1]); (with_reducible repeat (first | apply zG | apply zH | apply zI)); exact HO_6.out⟩, ⟨by repeat (first | (with_reducible first | exact HI192.out | apply IsS72.alloc | apply IsS72.drewN | apply IsS72.drew | apply IsS72.set_1 | apply IsS72.set_2) | exact HI192.out)⟩, ⟨by repeat (first | (with_reducible first | exact HB.out | apply zA | apply zB | apply zC | refine below_set ?_ (IsS72.ge HI192.out)) | exact HB.out)⟩⟩
       ·rw [if_neg c24] at H
        exact absurd H (by simp)
      ·rw [if_neg c23] at H
       exact absurd H (by simp)
     ·rw [if_neg c22] at H
      have c22b0 : decide (x30_1 < (t220.length : Int)) = false := decide_eq_false c22
      (try (have c22b9 := c22b0; simp only [hl6_1] at c22b9))
      clear c22
      (first | rw [c22b0] | (simp only [i64_w, i32_w]; rw [c22b0]) | skip)
      have H' := Aside0.mk H
      clear H
      go_wp2
      (try simp only [← hl6_1])
      go_meet
      case rel => exact ⟨_, (t215), (x6_1), (t223), (t224), H', ⟨by have := HK1.out; first | omega | exact Nat.le_refl _⟩, ⟨by (try simp only [hl6_1]); (with_reducible repeat (first | apply zG | apply zH | apply zI)); exact HO_5.out⟩, ⟨by (try simp only [hl6_1]); (with_reducible repeat (first | apply zG | apply zH | apply zI)); exact HO_6.out⟩, ⟨by repeat (first | (with_reducible first | exact HI192.out | apply IsS72.alloc | apply IsS72.drewN | apply IsS72.drew | apply IsS72.set_1 | apply IsS72.set_2) | exact HI192.out)⟩, ⟨by repeat (first | (with_reducible first | exact HB.out | apply zA | apply zB | apply zC | refine below_set ?_ (IsS72.ge HI192.out)) | exact HB.out)⟩⟩
  ·replace c14 := Bool.eq_false_iff.mpr c14
   subst c14
   have H1 : (spec_DrawMergeSamples.j1 k t196 t204 l0 t210 t211) = some (r1, r2) := by rw [if_neg (show ¬ (false = true) by decide)] at H; exact H
   clear H
   have H := H1
   clear H1
   have H' := Aside0.mk H
   clear H
   go_wp2
   go_meet
   case rel => exact ⟨_, (t196), (t204), (t210), (t211), H', ⟨by first | omega | exact Nat.le_refl _⟩, ⟨by (with_reducible repeat (first | apply zG | apply zH | apply zI)); exact Kd.R_mono HO198.out (fun _ hk => hk.2)⟩, ⟨by (with_reducible repeat (first | apply zG | apply zH | apply zI)); exact Kd.R_mono HO206.out (fun _ hk => hk.2)⟩, ⟨by repeat (first | (with_reducible first | exact HI192.out | apply IsS72.alloc | apply IsS72.drewN | apply IsS72.drew | apply IsS72.set_1 | apply IsS72.set_2) | exact HI192.out)⟩, ⟨by repeat (first | (with_reducible first | exact HB.out | apply zA | apply zB | apply zC | refine below_set ?_ (IsS72.ge HI192.out)) | exact HB.out)⟩⟩
 case rest =>
  clear HC7
  try clear c1
  try clear c2
  try clear p2
  try clear q2
  try clear hx2
  try clear hf2
  try clear c3
  try clear c4
  try clear c5
  try clear p6
  try clear c14
  try clear c22
  try clear c22b0
  try clear c23
  try clear c23b0
  try clear c24
  try clear c24b0
  try clear c25
  try clear p25
  try clear q25
  try clear hx25
  try clear hf25
  try clear c26
  try clear hx26
  try clear hf26
  try clear hx25_0
  try clear hx25_1
  try clear hx26_0
  try clear p2
  try clear p25
  try clear p6
  try clear q25
  obtain ⟨kq, x5_6, x6_6, x193001_6, x193002_6, HA, HJ6, HO_5, HO_6, HI192, HB⟩ := hcut
  cases kq with
  | zero => exact absurd HA.out (by simp [spec_DrawMergeSamples.j1])
  | succ kj6 =>
   have H := HA.out
   clear HA
   simp only [spec_DrawMergeSamples.j1] at H
   replace H := Option.bind_eq_some_iff.mp H
   obtain ⟨⟨t226, t229, t230⟩, A280, H⟩ := H
   replace H : ((spec_l1Cur_oddSamples.f kj6 l0 t229 t230 x6_6).bind fun bt231 => (some (t226, bt231.1))) = some (r1, r2) := H
   have A28 := Aside0.mk A280
   clear A280
   replace H := Option.bind_eq_some_iff.mp H
   obtain ⟨⟨t231, t234, t235⟩, A290, H⟩ := H
   replace H : (some (t226, t231)) = some (r1, r2) := H
   have A29 := Aside0.mk A290
   clear A290
   simp only [Option.some.injEq, Prod.mk.injEq] at H
   obtain ⟨rfl, rfl⟩ := H
   obtain ⟨Ao30, co30, eo30⟩ := Kd.R_slice HO_5.out
   subst eo30
   go_wp2_with (first | ((with_reducible refine gate_callee (f := 55) rfl ?_); refine goesL_ (some 42) rfl rfl Try.func55 (by kernel_rfl) rfl #[.pointer (some ⟨gb192, 0, none⟩), .slice Ao30 x5_6.length co30] rfl (by (try simp only [List.map_toArray, List.map_cons, List.map_nil]); first | done | rfl | (simp only [List.length_drop, List.length_take]; rfl)) ?_; (with_reducible refine (spec_l1Cur_oddSamples.calls kj6 gb192 l0 x193001_6 x193002_6 (fun k_ => some k_ = (.slice Ao30 x5_6.length co30 : Value).ownBlock) (.slice Ao30 x5_6.length co30) x5_6 t226 t229 t230 w _ ?side1 ?side2 ?side3 A28.out).mono ?_); (case side1 => repeat (first | (with_reducible first | exact HI192.out | apply IsS72.alloc | apply IsS72.drewN | apply IsS72.drew | apply IsS72.set_1 | apply IsS72.set_2) | exact HI192.out)); (case side2 => repeat (first | (with_reducible first | exact HB.out | apply zA | apply zB | apply zC | refine below_set ?_ (IsS72.ge HI192.out)) | exact HB.out)); (case side3 => exact Kd.R_tight rfl HO_5.out); rintro e w31 ⟨v227, rfl, ho0, hi, hb, hkp⟩; refine ⟨_, rfl, ?_⟩; have n0_ := Aside0.mk (Kd.R_mono (ok' := fun k_ => some k_ ≠ (v227 : Value).ownBlock) (Kd.R_keptB ((IsS72.apart HI192.out HO_6.out (by decide))) hkp (fun k_ hk_ hs_ => Or.elim hs_ (fun hs_ => (hk_.1) hs_) (fun e_ => (hk_.2) e_))) (fun k_ hk_ => fun e_ => Or.elim (ho0.1 k_ e_.symm) (fun hs_ => hk_.2.1 (by first | exact hs_ | exact .inl hs_)) (fun hn_ => Nat.not_le.2 hk_.2.2 hn_))); have n1_ := Aside0.mk (hi); have n2_ := Aside0.mk (Kd.R_mono (ok' := fun k_ => some k_ ≠ (u6 : Value).ownBlock) ho0 (fun k_ hk_ => Or.elim hk_ (fun hs_ => fun e_ => ((((IsS72.apart HI192.out HO_6.out (by decide))).1 k_ e_.symm).1) hs_) (fun hn_ => (Kd.fresh' (Kd.R_lt (by (with_reducible repeat (first | apply zG | apply zH | apply zI)); exact HO_6.out)) k_ hn_)))); have n3_ := Aside0.mk (hb); clear HO_6; clear HI192; clear HB; clear HO_5; have HO_6 := n0_; have HI192 := n1_; have HO228 := n2_; have HB := n3_; clear n0_ n1_ n2_ n3_; (try clear hb); (try clear hkp); (try clear ho0); obtain ⟨Ao32, co32, eo32⟩ := Kd.R_slice HO_6.out; subst eo32) | ((with_reducible refine gate_callee (f := 55) rfl ?_); refine goesL_ (some 45) rfl rfl Try.func55 (by kernel_rfl) rfl #[.pointer (some ⟨gb192, 0, none⟩), .slice Ao32 x6_6.length co32] rfl (by (try simp only [List.map_toArray, List.map_cons, List.map_nil]); first | done | rfl | (simp only [List.length_drop, List.length_take]; rfl)) ?_; (with_reducible refine (spec_l1Cur_oddSamples.calls kj6 gb192 l0 t229 t230 (fun k_ => some k_ = (.slice Ao32 x6_6.length co32 : Value).ownBlock) (.slice Ao32 x6_6.length co32) x6_6 t231 t234 t235 w _ ?side1 ?side2 ?side3 A29.out).mono ?_); (case side1 => repeat (first | (with_reducible first | exact HI192.out | apply IsS72.alloc | apply IsS72.drewN | apply IsS72.drew | apply IsS72.set_1 | apply IsS72.set_2) | exact HI192.out)); (case side2 => repeat (first | (with_reducible first | exact HB.out | apply zA | apply zB | apply zC | refine below_set ?_ (IsS72.ge HI192.out)) | exact HB.out)); (case side3 => exact Kd.R_tight rfl HO_6.out); rintro e w33 ⟨v232, rfl, ho0, hi, hb, hkp⟩; refine ⟨_, rfl, ?_⟩; have n0_ := Aside0.mk (hi); have n1_ := Aside0.mk (Kd.R_mono (ok' := fun k_ => some k_ ≠ (v232 : Value).ownBlock) (Kd.R_keptB ((IsS72.apart HI192.out HO228.out (by decide))) hkp (fun k_ hk_ hs_ => Or.elim hs_ (fun hs_ => (hk_.1) hs_) (fun e_ => (hk_.2) e_))) (fun k_ hk_ => fun e_ => Or.elim (ho0.1 k_ e_.symm) (fun hs_ => hk_.2.1 (by first | exact hs_ | exact .inl hs_)) (fun hn_ => Nat.not_le.2 hk_.2.2 hn_))); have n2_ := Aside0.mk (Kd.R_mono (ok' := fun k_ => some k_ ≠ (v227 : Value).ownBlock) ho0 (fun k_ hk_ => Or.elim hk_ (fun hs_ => fun e_ => ((((IsS72.apart HI192.out HO228.out (by decide))).1 k_ e_.symm).1) hs_) (fun hn_ => (Kd.fresh' (Kd.R_lt (by (with_reducible repeat (first | apply zG | apply zH | apply zI)); exact HO228.out)) k_ hn_)))); have n3_ := Aside0.mk (hb); clear HI192; clear HO228; clear HB; clear HO_6; have HI192 := n0_; have HO228 := n1_; have HO233 := n2_; have HB := n3_; clear n0_ n1_ n2_ n3_; (try clear hb); (try clear hkp); (try clear ho0)))
   go_ret2
   exact ⟨_, _, by first | rfl | (simp [errW_none, errW_some] <;> rfl) | (simp [*, errW_none, errW_some] <;> rfl), by (with_reducible repeat (first | apply zG | apply zH | apply zI)); exact HO228.out, by (with_reducible repeat (first | apply zG | apply zH | apply zI)); exact HO233.out, by repeat (first | (with_reducible first | exact HB.out | apply zA | apply zB | apply zC | refine below_set ?_ (IsS72.ge HI192.out)) | exact HB.out)⟩

/-! ### spec_l3Time: function 56 -/
def spec_l3Time.f (a0 : Int) : Option (Bool) := if a0 ≥ 0 then (some (decide (a0 ≤ 1000000000000))) else (some false)
set_option maxHeartbeats 8000000 in
set_option maxRecDepth 100000 in
theorem spec_l3Time.calls (a0 : Int) (r : Bool) (w : World) (h : spec_l3Time.f a0 = some r) :
  Calls Try.prog 56 #[.int .i64 a0] w fun e w' => e = .returned (.bool r) ∧ Drawn0 w w' := by
 have H : (if a0 ≥ 0 then (some (decide (a0 ≤ 1000000000000))) else (some false)) = some r := h
 clear h
 by_cases c2 : a0 ≥ 0
 ·rw [if_pos c2] at H
  have c2b0 : decide (0 ≤ a0) = true := decide_eq_true c2
  clear c2
  obtain rfl := Option.some.inj H
  go_enter Try.func56, Try.ntmps56
  go_wp2
  go_ret
  exact ⟨by first | rfl | (simp; done) | (simp [*]; done), by repeat (first | exact Drawn0.refl _ | apply Drawn0.step)⟩
 ·rw [if_neg c2] at H
  have c2b0 : decide (0 ≤ a0) = false := decide_eq_false c2
  clear c2
  obtain rfl := Option.some.inj H
  go_enter Try.func56, Try.ntmps56
  go_wp2
  go_ret
  exact ⟨by first | rfl | (simp; done) | (simp [*]; done), by repeat (first | exact Drawn0.refl _ | apply Drawn0.step)⟩

end Go.Proofs.Ytppifefhpjhmaaa.PFnMerged
