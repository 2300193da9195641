-- Written by a program of this session (xprint.py, over the kit's print).
import Derived.Test.YtogjmchhafiafacPFnDedupx0
import Derived.Test.YtogjmchhafiafacPFnDedupx2
import Derived.Test.YtogjmchhafiafacPFnDedupx3
namespace Go.Proofs.Ytogjmchhafiafac.PFnDedup
open Go.RowKit Go.Proofs.YtogjmchhafiafacW.PrintWords Go.Proofs.YtogjmchhafiafacW.PrintLast Go.Proofs.YtogjmchhafiafacW.PrintMore Go.Proofs.Ytogjmchhafiafac.XWords
attribute [local go_sem] max2_int min2_int max_two min_two max_three min_three max_four min_four   -- for this text's walks alone
set_option linter.unusedVariables false
set_option linter.unusedSimpArgs false

/-! ### spec_DrawDedupSamples: function 12 -/
mutual
def spec_DrawDedupSamples.j2 : Nat → List (S37) → List (S37) → List Int → Int → Int → Option ((List (S37)) × (List (S37)) × Int)
 | 0, _, _, _, _, _ => none
 | k + 1, x6, x7, x196000, x196001, x196002 => (spec_l1Cur_oddSamples.f k x196000 x196001 x196002 x6).bind fun bt239 => ((spec_l1Cur_oddSamples.f k x196000 bt239.2.1 bt239.2.2 x7).bind fun bt244 => ((spec_l1Cur_pick.f k x196000 bt244.2.1 bt244.2.2 40).bind fun bt249 => ((some (([bt249.1, (-1), 1000000, 1000001] : List Int) : List Int)).bind fun y252 => ((spec_l1Cur_rare.f k x196000 bt249.2.1 bt249.2.2 4).bind fun bt255 => (if 0 ≤ bt255.1 then (if bt255.1 < (y252.length : Int) then (some (bt239.1, bt244.1, rd y252 bt255.1)) else (none)) else (none))))))
def spec_DrawDedupSamples.l0 : Nat → List (S37) → List (S37) → List (S37) → Int → Int → List Int → Int → Int → Option ((List (S37)) × (List (S37)) × Int)
 | 0, _, _, _, _, _, _, _, _ => none
 | k + 1, x6, x7, x24, x25, x26, x196000, x196001, x196002 => if x26 < x25 then (if 0 ≤ x26 then (if x26 < (x24.length : Int) then ((spec_l1Cur_one.f k x196000 x196001 x196002 3).bind fun bt217 => (if bt217.1 = true then (spec_DrawDedupSamples.l0 k x6 x7 x24 x25 (wrap64 (x26 + 1)) x196000 bt217.2.1 bt217.2.2) else ((spec_l1Cur_pick.f k x196000 bt217.2.1 bt217.2.2 2).bind fun bt220 => (if x7.length < 8796093022208 then (spec_DrawDedupSamples.l0 k x6 (x7 ++ [(⟨wrap64 ((wrap64 (((rd_T37 x24 x26).f0) + 1)) + bt220.1), (rd_T37 x24 x26).f1⟩ : S37)]) x24 x25 (wrap64 (x26 + 1)) x196000 bt220.2.1 bt220.2.2) else (none))))) else (none)) else (none)) else (spec_DrawDedupSamples.l1 k x6 x7 (wrap64 ((x7.length : Int) - 1)) x196000 x196001 x196002)
def spec_DrawDedupSamples.l1 : Nat → List (S37) → List (S37) → Int → List Int → Int → Int → Option ((List (S37)) × (List (S37)) × Int)
 | 0, _, _, _, _, _, _ => none
 | k + 1, x6, x7, x10, x196000, x196001, x196002 => if x10 > 0 then (if 0 ≤ x10 then (if x10 < (x7.length : Int) then (if 0 ≤ (wrap64 (x10 - 1)) then (if (wrap64 (x10 - 1)) < (x7.length : Int) then (if ((rd_T37 x7 x10).f0) ≤ ((rd_T37 x7 (wrap64 (x10 - 1))).f0) then (if x10 ≤ (x7.length : Int) then (if 0 ≤ (wrap64 (x10 + 1)) then (if (wrap64 (x10 + 1)) ≤ (x7.length : Int) then (spec_DrawDedupSamples.l1 k x6 (x7.eraseIdx (x10 : Int).toNat) (wrap64 (x10 - 1)) x196000 x196001 x196002) else (none)) else (none)) else (none)) else (spec_DrawDedupSamples.l1 k x6 x7 (wrap64 (x10 - 1)) x196000 x196001 x196002)) else (none)) else (none)) else (none)) else (none)) else (spec_DrawDedupSamples.j2 k x6 x7 x196000 x196001 x196002)
end
def spec_DrawDedupSamples.f (k : Nat) (l0 : List Int) : Option ((List (S37)) × (List (S37)) × Int) := (spec_l1Cur_pick.f k l0 0 0 20).bind fun bt196 => ((spec_l1Cur_samples.f k l0 bt196.2.1 bt196.2.2 bt196.1 20).bind fun bt199 => ((spec_l1Cur_pick.f k l0 bt199.2.1 bt199.2.2 20).bind fun bt204 => ((spec_l1Cur_samples.f k l0 bt204.2.1 bt204.2.2 bt204.1 20).bind fun bt207 => ((spec_l1Cur_one.f k l0 bt207.2.1 bt207.2.2 3).bind fun bt212 => (if bt212.1 = true then (spec_DrawDedupSamples.l0 k bt199.1 ([] : List (S37)) bt199.1 (bt199.1.length : Int) 0 l0 bt212.2.1 bt212.2.2) else (spec_DrawDedupSamples.j2 k bt199.1 bt207.1 l0 bt212.2.1 bt212.2.2))))))
theorem spec_DrawDedupSamples.mono_l : ∀ k, (∀ y0 y1 y2 y3 y4, LeO (spec_DrawDedupSamples.j2 k y0 y1 y2 y3 y4) (spec_DrawDedupSamples.j2 (k + 1) y0 y1 y2 y3 y4)) ∧ (∀ y0 y1 y2 y3 y4 y5 y6 y7, LeO (spec_DrawDedupSamples.l0 k y0 y1 y2 y3 y4 y5 y6 y7) (spec_DrawDedupSamples.l0 (k + 1) y0 y1 y2 y3 y4 y5 y6 y7)) ∧ (∀ y0 y1 y2 y3 y4 y5, LeO (spec_DrawDedupSamples.l1 k y0 y1 y2 y3 y4 y5) (spec_DrawDedupSamples.l1 (k + 1) y0 y1 y2 y3 y4 y5))
 | 0 => ⟨fun _ _ _ _ _ r h => by simp [spec_DrawDedupSamples.j2] at h, fun _ _ _ _ _ _ _ _ r h => by simp [spec_DrawDedupSamples.l0] at h, fun _ _ _ _ _ _ r h => by simp [spec_DrawDedupSamples.l1] at h⟩
 | k + 1 => by
  obtain ⟨ih0, ih1, ih2⟩ := spec_DrawDedupSamples.mono_l k
  refine ⟨?_, ?_, ?_⟩
  ·intro y0 y1 y2 y3 y4
   unfold spec_DrawDedupSamples.j2
   repeat' first
   | (with_reducible exact ih0 _ _ _ _ _)
   | (with_reducible exact ih1 _ _ _ _ _ _ _ _)
   | (with_reducible exact ih2 _ _ _ _ _ _)
   | (with_reducible exact spec_l1Cur_oddSamples.mono _ _ _ _ _)
   | (with_reducible exact spec_l1Cur_one.mono _ _ _ _ _)
   | (with_reducible exact spec_l1Cur_pick.mono _ _ _ _ _)
   | (with_reducible exact spec_l1Cur_rare.mono _ _ _ _ _)
   | (with_reducible exact spec_l1Cur_samples.mono _ _ _ _ _ _)
   | (with_reducible exact LeO.refl _)
   | (with_reducible exact LeO.none _)
   | (with_reducible refine LeO.ite ?_ ?_)
   | (with_reducible refine LeO.bind ?_ (fun _ => ?_))
   | exact ih0 _ _ _ _ _
   | exact ih1 _ _ _ _ _ _ _ _
   | exact ih2 _ _ _ _ _ _
   | exact spec_l1Cur_oddSamples.mono _ _ _ _ _
   | exact spec_l1Cur_one.mono _ _ _ _ _
   | exact spec_l1Cur_pick.mono _ _ _ _ _
   | exact spec_l1Cur_rare.mono _ _ _ _ _
   | exact spec_l1Cur_samples.mono _ _ _ _ _ _
   | exact LeO.none _
   | refine LeO.ite ?_ ?_
   | refine LeO.bind ?_ (fun _ => ?_)
  ·intro y0 y1 y2 y3 y4 y5 y6 y7
   unfold spec_DrawDedupSamples.l0
   repeat' first
   | (with_reducible exact ih0 _ _ _ _ _)
   | (with_reducible exact ih1 _ _ _ _ _ _ _ _)
   | (with_reducible exact ih2 _ _ _ _ _ _)
   | (with_reducible exact spec_l1Cur_oddSamples.mono _ _ _ _ _)
   | (with_reducible exact spec_l1Cur_one.mono _ _ _ _ _)
   | (with_reducible exact spec_l1Cur_pick.mono _ _ _ _ _)
   | (with_reducible exact spec_l1Cur_rare.mono _ _ _ _ _)
   | (with_reducible exact spec_l1Cur_samples.mono _ _ _ _ _ _)
   | (with_reducible exact LeO.refl _)
   | (with_reducible exact LeO.none _)
   | (with_reducible refine LeO.ite ?_ ?_)
   | (with_reducible refine LeO.bind ?_ (fun _ => ?_))
   | exact ih0 _ _ _ _ _
   | exact ih1 _ _ _ _ _ _ _ _
   | exact ih2 _ _ _ _ _ _
   | exact spec_l1Cur_oddSamples.mono _ _ _ _ _
   | exact spec_l1Cur_one.mono _ _ _ _ _
   | exact spec_l1Cur_pick.mono _ _ _ _ _
   | exact spec_l1Cur_rare.mono _ _ _ _ _
   | exact spec_l1Cur_samples.mono _ _ _ _ _ _
   | exact LeO.none _
   | refine LeO.ite ?_ ?_
   | refine LeO.bind ?_ (fun _ => ?_)
  ·intro y0 y1 y2 y3 y4 y5
   unfold spec_DrawDedupSamples.l1
   repeat' first
   | (with_reducible exact ih0 _ _ _ _ _)
   | (with_reducible exact ih1 _ _ _ _ _ _ _ _)
   | (with_reducible exact ih2 _ _ _ _ _ _)
   | (with_reducible exact spec_l1Cur_oddSamples.mono _ _ _ _ _)
   | (with_reducible exact spec_l1Cur_one.mono _ _ _ _ _)
   | (with_reducible exact spec_l1Cur_pick.mono _ _ _ _ _)
   | (with_reducible exact spec_l1Cur_rare.mono _ _ _ _ _)
   | (with_reducible exact spec_l1Cur_samples.mono _ _ _ _ _ _)
   | (with_reducible exact LeO.refl _)
   | (with_reducible exact LeO.none _)
   | (with_reducible refine LeO.ite ?_ ?_)
   | (with_reducible refine LeO.bind ?_ (fun _ => ?_))
   | exact ih0 _ _ _ _ _
   | exact ih1 _ _ _ _ _ _ _ _
   | exact ih2 _ _ _ _ _ _
   | exact spec_l1Cur_oddSamples.mono _ _ _ _ _
   | exact spec_l1Cur_one.mono _ _ _ _ _
   | exact spec_l1Cur_pick.mono _ _ _ _ _
   | exact spec_l1Cur_rare.mono _ _ _ _ _
   | exact spec_l1Cur_samples.mono _ _ _ _ _ _
   | exact LeO.none _
   | refine LeO.ite ?_ ?_
   | refine LeO.bind ?_ (fun _ => ?_)
theorem spec_DrawDedupSamples.mono : ∀ a0 k, LeO (spec_DrawDedupSamples.f k a0) (spec_DrawDedupSamples.f (k + 1) a0) := by
 intro a0 k
 obtain ⟨ih0, ih1, ih2⟩ := spec_DrawDedupSamples.mono_l k
 unfold spec_DrawDedupSamples.f
 repeat' first
   | (with_reducible exact ih0 _ _ _ _ _)
   | (with_reducible exact ih1 _ _ _ _ _ _ _ _)
   | (with_reducible exact ih2 _ _ _ _ _ _)
   | (with_reducible exact spec_l1Cur_oddSamples.mono _ _ _ _ _)
   | (with_reducible exact spec_l1Cur_one.mono _ _ _ _ _)
   | (with_reducible exact spec_l1Cur_pick.mono _ _ _ _ _)
   | (with_reducible exact spec_l1Cur_rare.mono _ _ _ _ _)
   | (with_reducible exact spec_l1Cur_samples.mono _ _ _ _ _ _)
   | (with_reducible exact LeO.refl _)
   | (with_reducible exact LeO.none _)
   | (with_reducible refine LeO.ite ?_ ?_)
   | (with_reducible refine LeO.bind ?_ (fun _ => ?_))
   | exact ih0 _ _ _ _ _
   | exact ih1 _ _ _ _ _ _ _ _
   | exact ih2 _ _ _ _ _ _
   | exact spec_l1Cur_oddSamples.mono _ _ _ _ _
   | exact spec_l1Cur_one.mono _ _ _ _ _
   | exact spec_l1Cur_pick.mono _ _ _ _ _
   | exact spec_l1Cur_rare.mono _ _ _ _ _
   | exact spec_l1Cur_samples.mono _ _ _ _ _ _
   | exact LeO.none _
   | refine LeO.ite ?_ ?_
   | refine LeO.bind ?_ (fun _ => ?_)
def spec_DrawDedupSamples.T10 : Bool × List (List Nat × List Nat) := (true, [([], []), ([], []), ([1], [1]), ([2], [2]), ([], []), ([4], [4]), ([3, 5], [3, 5]), ([], []), ([7], [7]), ([6, 8], [6, 8]), ([9], [9]), ([0, 10, 5], [0, 10]), ([11, 11, 0, 1, 2, 3, 4, 5, 6, 7, 8, 9, 10, 11], [0, 11])])
def spec_DrawDedupSamples.B10 : List Nat := [0, 0, 2, 6, 0, 16, 62, 0, 128, 510, 1022, 2047, 4095]
theorem spec_DrawDedupSamples.tab10 : rtab .any (opsOf Try.f12 10) = spec_DrawDedupSamples.T10 := by kernel_rfl
theorem spec_DrawDedupSamples.bits10 : waitsOk spec_DrawDedupSamples.T10.2 spec_DrawDedupSamples.B10 = true := by kernel_rfl
def spec_DrawDedupSamples.T15 : Bool × List (List Nat × List Nat) := (true, [([], []), ([], []), ([0, 1], [0, 1]), ([2], [2]), ([3], [3]), ([], []), ([], []), ([6], [6]), ([5, 7], [5, 7]), ([8], [8]), ([9], [9]), ([4, 10], [4, 10])])
def spec_DrawDedupSamples.B15 : List Nat := [0, 0, 3, 7, 15, 0, 0, 64, 224, 480, 992, 2047]
theorem spec_DrawDedupSamples.tab15 : rtab .any (opsOf Try.f12 15) = spec_DrawDedupSamples.T15 := by kernel_rfl
theorem spec_DrawDedupSamples.bits15 : waitsOk spec_DrawDedupSamples.T15.2 spec_DrawDedupSamples.B15 = true := by kernel_rfl
def spec_DrawDedupSamples.T16 : Bool × List (List Nat × List Nat) := (true, [([], []), ([], []), ([0, 1], [0, 1]), ([], []), ([], []), ([4], [4]), ([3, 5], [3, 5]), ([2, 6], [2, 6]), ([7, 7, 0, 1, 2, 3, 4, 5, 6, 7], [0, 3, 7])])
def spec_DrawDedupSamples.B16 : List Nat := [0, 0, 3, 0, 0, 16, 56, 127, 255]
theorem spec_DrawDedupSamples.tab16 : rtab .any (opsOf Try.f12 16) = spec_DrawDedupSamples.T16 := by kernel_rfl
theorem spec_DrawDedupSamples.bits16 : waitsOk spec_DrawDedupSamples.T16.2 spec_DrawDedupSamples.B16 = true := by kernel_rfl
def spec_DrawDedupSamples.T17 : Bool × List (List Nat × List Nat) := (true, [([], []), ([], []), ([0, 1], [0, 1]), ([], []), ([], []), ([3, 4, 2], [3, 4]), ([], []), ([6, 5], [6]), ([7], [7]), ([], []), ([9, 7], [9]), ([8, 10], [8, 10]), ([11], [11]), ([2, 10, 0, 1, 2], [2]), ([5, 13, 0, 1, 2, 3, 4, 5, 13], [5]), ([12, 14, 0, 1, 2, 3, 4, 5, 6, 7, 8, 9, 10, 11, 12, 13, 14], [12])])
def spec_DrawDedupSamples.B17 : List Nat := [0, 0, 3, 0, 0, 31, 0, 127, 255, 0, 767, 2047, 4095, 1791, 9983, 32767]
theorem spec_DrawDedupSamples.tab17 : rtab .any (opsOf Try.f12 17) = spec_DrawDedupSamples.T17 := by kernel_rfl
theorem spec_DrawDedupSamples.bits17 : waitsOk spec_DrawDedupSamples.T17.2 spec_DrawDedupSamples.B17 = true := by kernel_rfl
set_option maxHeartbeats 8000000 in
set_option maxRecDepth 100000 in
theorem spec_DrawDedupSamples.calls (k : Nat) (A0 : Option Addr) (c0 : Nat) (l0 : List Int) (r1 : List (S37)) (r2 : List (S37)) (r3 : Int) (w : World) (hr0 : Kd.C (Kd.int .u8) w A0 l0.length l0) (hc0 : l0.length ≤ c0) (h : spec_DrawDedupSamples.f k l0 = some (r1, r2, r3)) :
  Calls Try.prog 12 #[.slice A0 l0.length c0] w fun e w' => ∃ v0_ v1_ : Value, e = .returned (.tuple #[v0_, v1_, .int .i64 r3]) ∧ Kd.R k37 37 w' w.heap.size (fun k_ => some k_ ≠ (v1_ : Value).ownBlock) v0_ r1 ∧ Kd.R k37 37 w' w.heap.size (fun k_ => some k_ ≠ (v0_ : Value).ownBlock) v1_ r2 ∧ Below w.heap.size w w' := by
 have hu78 := Try.underlying78
 have hu37 := Try.underlying37
 have HR0 := Aside0.mk hr0
 have HC0 := Aside0.mk hc0
 clear hr0 hc0
 have HB := Aside0.mk (Below.refl w.heap.size w)
 have H : ((spec_l1Cur_pick.f k l0 0 0 20).bind fun bt196 => ((spec_l1Cur_samples.f k l0 bt196.2.1 bt196.2.2 bt196.1 20).bind fun bt199 => ((spec_l1Cur_pick.f k l0 bt199.2.1 bt199.2.2 20).bind fun bt204 => ((spec_l1Cur_samples.f k l0 bt204.2.1 bt204.2.2 bt204.1 20).bind fun bt207 => ((spec_l1Cur_one.f k l0 bt207.2.1 bt207.2.2 3).bind fun bt212 => (if bt212.1 = true then (spec_DrawDedupSamples.l0 k bt199.1 ([] : List (S37)) bt199.1 (bt199.1.length : Int) 0 l0 bt212.2.1 bt212.2.2) else (spec_DrawDedupSamples.j2 k bt199.1 bt207.1 l0 bt212.2.1 bt212.2.2))))))) = some (r1, r2, r3) := h
 clear h
 replace H := Option.bind_eq_some_iff.mp H
 obtain ⟨⟨t196, t197, t198⟩, A20, H⟩ := H
 replace H : ((spec_l1Cur_samples.f k l0 t197 t198 t196 20).bind fun bt199 => ((spec_l1Cur_pick.f k l0 bt199.2.1 bt199.2.2 20).bind fun bt204 => ((spec_l1Cur_samples.f k l0 bt204.2.1 bt204.2.2 bt204.1 20).bind fun bt207 => ((spec_l1Cur_one.f k l0 bt207.2.1 bt207.2.2 3).bind fun bt212 => (if bt212.1 = true then (spec_DrawDedupSamples.l0 k bt199.1 ([] : List (S37)) bt199.1 (bt199.1.length : Int) 0 l0 bt212.2.1 bt212.2.2) else (spec_DrawDedupSamples.j2 k bt199.1 bt207.1 l0 bt212.2.1 bt212.2.2)))))) = some (r1, r2, r3) := H
 have A2 := Aside0.mk A20
 clear A20
 replace H := Option.bind_eq_some_iff.mp H
 obtain ⟨⟨t199, t202, t203⟩, A30, H⟩ := H
 replace H : ((spec_l1Cur_pick.f k l0 t202 t203 20).bind fun bt204 => ((spec_l1Cur_samples.f k l0 bt204.2.1 bt204.2.2 bt204.1 20).bind fun bt207 => ((spec_l1Cur_one.f k l0 bt207.2.1 bt207.2.2 3).bind fun bt212 => (if bt212.1 = true then (spec_DrawDedupSamples.l0 k t199 ([] : List (S37)) t199 (t199.length : Int) 0 l0 bt212.2.1 bt212.2.2) else (spec_DrawDedupSamples.j2 k t199 bt207.1 l0 bt212.2.1 bt212.2.2))))) = some (r1, r2, r3) := H
 have A3 := Aside0.mk A30
 clear A30
 replace H := Option.bind_eq_some_iff.mp H
 obtain ⟨⟨t204, t205, t206⟩, A40, H⟩ := H
 replace H : ((spec_l1Cur_samples.f k l0 t205 t206 t204 20).bind fun bt207 => ((spec_l1Cur_one.f k l0 bt207.2.1 bt207.2.2 3).bind fun bt212 => (if bt212.1 = true then (spec_DrawDedupSamples.l0 k t199 ([] : List (S37)) t199 (t199.length : Int) 0 l0 bt212.2.1 bt212.2.2) else (spec_DrawDedupSamples.j2 k t199 bt207.1 l0 bt212.2.1 bt212.2.2)))) = some (r1, r2, r3) := H
 have A4 := Aside0.mk A40
 clear A40
 replace H := Option.bind_eq_some_iff.mp H
 obtain ⟨⟨t207, t210, t211⟩, A50, H⟩ := H
 replace H : ((spec_l1Cur_one.f k l0 t210 t211 3).bind fun bt212 => (if bt212.1 = true then (spec_DrawDedupSamples.l0 k t199 ([] : List (S37)) t199 (t199.length : Int) 0 l0 bt212.2.1 bt212.2.2) else (spec_DrawDedupSamples.j2 k t199 t207 l0 bt212.2.1 bt212.2.2))) = some (r1, r2, r3) := H
 have A5 := Aside0.mk A50
 clear A50
 replace H := Option.bind_eq_some_iff.mp H
 obtain ⟨⟨t212, t213, t214⟩, A60, H⟩ := H
 replace H : (if t212 = true then (spec_DrawDedupSamples.l0 k t199 ([] : List (S37)) t199 (t199.length : Int) 0 l0 t213 t214) else (spec_DrawDedupSamples.j2 k t199 t207 l0 t213 t214)) = some (r1, r2, r3) := H
 have A6 := Aside0.mk A60
 clear A60
 have HC7 := Aside0.mk H
 clear H
 go_enter Try.func12, Try.ntmps12
 go_upto_if 23 with (first | ((with_reducible refine gate_dst (N := 13) rfl ?_); refine box_event ?hg (N := 13) ?hd (cs := #[.slice A0 l0.length c0, .int .i64 0, .int .u64 0]) (t := 78) ?hr ?_; (case hd => rfl); (case hg => rfl); (case hr => first | (go_simp; done) | (go_simp; rfl)); intro gb195 hg w8 hbox hb; have n0_ := Aside0.mk (below_step (by repeat (first | (with_reducible first | exact HB.out | apply zA | apply zB | apply zC) | exact HB.out)) hb); have n1_ := Aside0.mk ((show IsS78 w w8 gb195 l0 0 0 from ⟨_, _, hbox, (by rw [hg]; exact (zW (by repeat (first | (with_reducible first | exact HB.out | apply zA | apply zB | apply zC) | exact HB.out))) : w.heap.size ≤ gb195), HR0.out⟩)); have n2_ := Aside0.mk ((by rw [hg]; exact (zW (by repeat (first | (with_reducible first | exact HB.out | apply zA | apply zB | apply zC) | exact HB.out))) : w.heap.size ≤ gb195)); have n3_ := Aside0.mk ((by rw [hg]; exact (zW (by repeat (first | (with_reducible first | exact HB.out | apply zA | apply zB | apply zC) | exact HB.out))) : w.heap.size ≤ gb195)); clear HB; have HB := n0_; have HI195 := n1_; have GW195 := n2_; have GE195 := n3_; clear n0_ n1_ n2_ n3_; clear hb hbox hg) | ((with_reducible refine gate_callee (f := 41) rfl ?_); refine goesL_ (some 16) rfl rfl Try.func41 (by kernel_rfl) rfl #[.pointer (some ⟨gb195, 0, none⟩), .int .i64 20] rfl (by (try simp only [List.map_toArray, List.map_cons, List.map_nil]); first | done | rfl | (simp only [List.length_drop, List.length_take]; rfl)) ?_; (with_reducible refine (spec_l1Cur_pick.calls k gb195 l0 0 0 20 t196 t197 t198 w _ ?side1 ?side2 A2.out).mono ?_); (case side1 => repeat (first | (with_reducible first | exact HI195.out | apply IsS78.alloc | apply IsS78.drewN | apply IsS78.drew | apply IsS78.set_1 | apply IsS78.set_2) | exact HI195.out)); (case side2 => repeat (first | (with_reducible first | exact HB.out | apply zA | apply zB | apply zC | refine below_set ?_ (IsS78.ge HI195.out)) | exact HB.out)); rintro e w9 ⟨rfl, hi, hb, hk⟩; refine ⟨_, rfl, ?_⟩; have n0_ := Aside0.mk (hb); have n1_ := Aside0.mk (hi); clear HB; clear HI195; have HB := n0_; have HI195 := n1_; clear n0_ n1_; (try clear hb); (try clear hb2); (try clear hk); (try clear hi)) | ((with_reducible refine gate_callee (f := 40) rfl ?_); refine goesL_ (some 17) rfl rfl Try.func40 (by kernel_rfl) rfl #[.pointer (some ⟨gb195, 0, none⟩), .int .i64 t196, .int .i64 20] rfl (by (try simp only [List.map_toArray, List.map_cons, List.map_nil]); first | done | rfl | (simp only [List.length_drop, List.length_take]; rfl)) ?_; (with_reducible refine (spec_l1Cur_samples.calls k gb195 l0 t197 t198 t196 20 t199 t202 t203 w _ ?side1 ?side2 A3.out).mono ?_); (case side1 => repeat (first | (with_reducible first | exact HI195.out | apply IsS78.alloc | apply IsS78.drewN | apply IsS78.drew | apply IsS78.set_1 | apply IsS78.set_2) | exact HI195.out)); (case side2 => repeat (first | (with_reducible first | exact HB.out | apply zA | apply zB | apply zC | refine below_set ?_ (IsS78.ge HI195.out)) | exact HB.out)); rintro e w10 ⟨v200, rfl, ho0, hi, hb, hk⟩; refine ⟨_, rfl, ?_⟩; have n0_ := Aside0.mk (Kd.R_lower ho0 (zW (by repeat (first | (with_reducible first | exact HB.out | apply zA | apply zB | apply zC | refine below_set ?_ (IsS78.ge HI195.out)) | exact HB.out)))); have n1_ := Aside0.mk (hb); have n2_ := Aside0.mk (hi); clear HB; clear HI195; have HO201 := n0_; have HB := n1_; have HI195 := n2_; clear n0_ n1_ n2_; (try clear hb); (try clear hb2); (try clear hk); (try clear hi); (try clear ho0)) | ((with_reducible refine gate_callee (f := 41) rfl ?_); refine goesL_ (some 20) rfl rfl Try.func41 (by kernel_rfl) rfl #[.pointer (some ⟨gb195, 0, none⟩), .int .i64 20] rfl (by (try simp only [List.map_toArray, List.map_cons, List.map_nil]); first | done | rfl | (simp only [List.length_drop, List.length_take]; rfl)) ?_; (with_reducible refine (spec_l1Cur_pick.calls k gb195 l0 t202 t203 20 t204 t205 t206 w _ ?side1 ?side2 A4.out).mono ?_); (case side1 => repeat (first | (with_reducible first | exact HI195.out | apply IsS78.alloc | apply IsS78.drewN | apply IsS78.drew | apply IsS78.set_1 | apply IsS78.set_2) | exact HI195.out)); (case side2 => repeat (first | (with_reducible first | exact HB.out | apply zA | apply zB | apply zC | refine below_set ?_ (IsS78.ge HI195.out)) | exact HB.out)); rintro e w11 ⟨rfl, hi, hb, hk⟩; refine ⟨_, rfl, ?_⟩; have n0_ := Aside0.mk (Kd.R_mono (Kd.R_keep (IsS78.apart (show IsS78 w _ gb195 l0 t202 t203 from by repeat (first | (with_reducible first | exact HI195.out | apply IsS78.alloc | apply IsS78.drewN | apply IsS78.drew | apply IsS78.set_1 | apply IsS78.set_2) | exact HI195.out)) (by (with_reducible repeat (first | apply zG | apply zH | apply zI)); exact HO201.out) (by decide)) hk (fun _ h => h.2)) (fun _ h => h.1)); have n1_ := Aside0.mk (hb); have n2_ := Aside0.mk (hi); clear HO201; clear HB; clear HI195; have HO201 := n0_; have HB := n1_; have HI195 := n2_; clear n0_ n1_ n2_; (try clear hb); (try clear hb2); (try clear hk); (try clear hi)) | ((with_reducible refine gate_callee (f := 40) rfl ?_); refine goesL_ (some 21) rfl rfl Try.func40 (by kernel_rfl) rfl #[.pointer (some ⟨gb195, 0, none⟩), .int .i64 t204, .int .i64 20] rfl (by (try simp only [List.map_toArray, List.map_cons, List.map_nil]); first | done | rfl | (simp only [List.length_drop, List.length_take]; rfl)) ?_; (with_reducible refine (spec_l1Cur_samples.calls k gb195 l0 t205 t206 t204 20 t207 t210 t211 w _ ?side1 ?side2 A5.out).mono ?_); (case side1 => repeat (first | (with_reducible first | exact HI195.out | apply IsS78.alloc | apply IsS78.drewN | apply IsS78.drew | apply IsS78.set_1 | apply IsS78.set_2) | exact HI195.out)); (case side2 => repeat (first | (with_reducible first | exact HB.out | apply zA | apply zB | apply zC | refine below_set ?_ (IsS78.ge HI195.out)) | exact HB.out)); rintro e w12 ⟨v208, rfl, ho0, hi, hb, hk⟩; refine ⟨_, rfl, ?_⟩; have n0_ := Aside0.mk (Kd.R_mono (Kd.R_told (Kd.R_oldK (IsS78.apart (show IsS78 w _ gb195 l0 t205 t206 from by repeat (first | (with_reducible first | exact HI195.out | apply IsS78.alloc | apply IsS78.drewN | apply IsS78.drew | apply IsS78.set_1 | apply IsS78.set_2) | exact HI195.out)) (by (with_reducible repeat (first | apply zG | apply zH | apply zI)); exact HO201.out) (by decide)) hk) (Kd.R_base ho0)) (fun _ h_ => h_.1)); have n1_ := Aside0.mk (Kd.R_lower (Kd.R_new' ho0 (Kd.R_lt (by (with_reducible repeat (first | apply zG | apply zH | apply zI)); exact HO201.out))) (zW (by repeat (first | (with_reducible first | exact HB.out | apply zA | apply zB | apply zC | refine below_set ?_ (IsS78.ge HI195.out)) | exact HB.out)))); have n2_ := Aside0.mk (hb); have n3_ := Aside0.mk (hi); clear HO201; clear HB; clear HI195; have HO201 := n0_; have HO209 := n1_; have HB := n2_; have HI195 := n3_; clear n0_ n1_ n2_ n3_; (try clear hb); (try clear hb2); (try clear hk); (try clear hi); (try clear ho0)) | ((with_reducible refine gate_callee (f := 42) rfl ?_); refine goesL_ (some 23) rfl rfl Try.func42 (by kernel_rfl) rfl #[.pointer (some ⟨gb195, 0, none⟩), .int .i64 3] rfl (by (try simp only [List.map_toArray, List.map_cons, List.map_nil]); first | done | rfl | (simp only [List.length_drop, List.length_take]; rfl)) ?_; (with_reducible refine (spec_l1Cur_one.calls k gb195 l0 t210 t211 3 t212 t213 t214 w _ ?side1 ?side2 A6.out).mono ?_); (case side1 => repeat (first | (with_reducible first | exact HI195.out | apply IsS78.alloc | apply IsS78.drewN | apply IsS78.drew | apply IsS78.set_1 | apply IsS78.set_2) | exact HI195.out)); (case side2 => repeat (first | (with_reducible first | exact HB.out | apply zA | apply zB | apply zC | refine below_set ?_ (IsS78.ge HI195.out)) | exact HB.out)); rintro e w13 ⟨rfl, hi, hb, hk⟩; refine ⟨_, rfl, ?_⟩; have n0_ := Aside0.mk (Kd.R_mono (Kd.R_keep (IsS78.apart (show IsS78 w _ gb195 l0 t210 t211 from by repeat (first | (with_reducible first | exact HI195.out | apply IsS78.alloc | apply IsS78.drewN | apply IsS78.drew | apply IsS78.set_1 | apply IsS78.set_2) | exact HI195.out)) (by (with_reducible repeat (first | apply zG | apply zH | apply zI)); exact HO201.out) (by decide)) hk (fun _ h => h.2)) (fun _ h => h.1)); have n1_ := Aside0.mk (Kd.R_mono (Kd.R_keep (IsS78.apart (show IsS78 w _ gb195 l0 t210 t211 from by repeat (first | (with_reducible first | exact HI195.out | apply IsS78.alloc | apply IsS78.drewN | apply IsS78.drew | apply IsS78.set_1 | apply IsS78.set_2) | exact HI195.out)) (by (with_reducible repeat (first | apply zG | apply zH | apply zI)); exact HO209.out) (by decide)) hk (fun _ h => h.2)) (fun _ h => h.1)); have n2_ := Aside0.mk (hb); have n3_ := Aside0.mk (hi); clear HO201; clear HO209; clear HB; clear HI195; have HO201 := n0_; have HO209 := n1_; have HB := n2_; have HI195 := n3_; clear n0_ n1_ n2_ n3_; (try clear hb); (try clear hb2); (try clear hk); (try clear hi)))
 (try simp only [Act.put, zT, zU, zV])
 go_cut [7] (fun v7 wc => ∃ (kq : Nat) (x7_6 : List (S37)) (x196001_6 : Int) (x196002_6 : Int), Aside0 (spec_DrawDedupSamples.j2 kq t199 x7_6 l0 x196001_6 x196002_6 = some (r1, r2, r3)) ∧ Aside0 (kq ≤ k) ∧ Aside0 (Kd.R k37 37 wc w.heap.size (fun k_ => some k_ ≠ (v7 : Value).ownBlock) v200 t199) ∧ Aside0 (Kd.R k37 37 wc w.heap.size (fun k_ => some k_ ≠ (v200 : Value).ownBlock) v7 x7_6) ∧ Aside0 (IsS78 w wc gb195 l0 x196001_6 x196002_6) ∧ Aside0 (Below w.heap.size w wc))
 case first =>
  have H := HC7.out
  clear HC7
  by_cases c14 : t212 = true
  ·subst c14
   have H1 : (spec_DrawDedupSamples.l0 k t199 ([] : List (S37)) t199 (t199.length : Int) 0 l0 t213 t214) = some (r1, r2, r3) := by rw [if_pos rfl] at H; exact H
   clear H
   have H := H1
   clear H1
   have H' := Aside0.mk H
   clear H
   obtain ⟨Ao15, co15, eo15⟩ := Kd.R_slice HO201.out
   subst eo15
   go_wp2
   go_loopg [7, 26] k (fun kq v7 v26 w' => ∃ (x7_1 : List (S37)) (x26_1 : Int) (x196001_1 : Int) (x196002_1 : Int), v26 = .int .i64 x26_1 ∧ Aside0 (spec_DrawDedupSamples.l0 kq t199 x7_1 t199 (t199.length : Int) x26_1 l0 x196001_1 x196002_1 = some (r1, r2, r3)) ∧ Aside0 (kq ≤ k) ∧ Aside0 (Kd.R k37 37 w' w.heap.size (fun k_ => some k_ ≠ (v7 : Value).ownBlock) (.slice Ao15 t199.length co15) t199) ∧ Aside0 (Kd.R k37 37 w' w.heap.size (fun k_ => some k_ ≠ ((.slice Ao15 t199.length co15) : Value).ownBlock ∧ some k_ ≠ ((.slice Ao15 t199.length co15) : Value).ownBlock) v7 x7_1) ∧ Aside0 (Kd.R k37 37 w' w.heap.size (fun k_ => some k_ ≠ (v7 : Value).ownBlock) (.slice Ao15 t199.length co15) t199) ∧ Aside0 (IsS78 w w' gb195 l0 x196001_1 x196002_1) ∧ Aside0 (Below w.heap.size w w'))
   case atStart => exact ⟨(([] : List (S37))), (0), (t213), (t214), (by first | rfl | (simp; done) | (simp [*]; done)), H', ⟨Nat.le_refl _⟩, ⟨by (with_reducible repeat (first | apply zG | apply zH | apply zI)); exact Kd.R_mono HO201.out (fun _ hk => (by simp [Value.ownBlock]))⟩, ⟨by first | exact Kd.R_nil _ _ _ _ _ | exact Kd.N_nil _ _ _ _ _ | exact Kd.V_nil _ _ _ _ _ | exact Kd.Q_nil _ _ _ _ _ | exact Kd.S_nil _ _ _ _ _⟩, ⟨by (with_reducible repeat (first | apply zG | apply zH | apply zI)); exact Kd.R_mono HO201.out (fun _ hk => (by simp [Value.ownBlock]))⟩, ⟨by repeat (first | (with_reducible first | exact HI195.out | apply IsS78.alloc | apply IsS78.drewN | apply IsS78.drew | apply IsS78.set_1 | apply IsS78.set_2) | exact HI195.out)⟩, ⟨by repeat (first | (with_reducible first | exact HB.out | apply zA | apply zB | apply zC | refine below_set ?_ (IsS78.ge HI195.out)) | exact HB.out)⟩⟩
   case round =>
    clear H'
    try clear c1
    try clear p2
    try clear c4
    try clear c12
    try clear c14
    obtain ⟨x7_1, x26_1, x196001_1, x196002_1, rfl, HA, HK1, HO_6, HO_7, HO_24, HI195, HB⟩ := hrel
    cases gk with
    | zero => exact absurd HA.out (by simp [spec_DrawDedupSamples.l0])
    | succ k1 =>
     have H := HA.out
     clear HA
     simp only [spec_DrawDedupSamples.l0] at H
     by_cases c16 : x26_1 < (t199.length : Int)
     ·rw [if_pos c16] at H
      have c16b0 : decide (x26_1 < (t199.length : Int)) = true := decide_eq_true c16
      clear c16
      (first | rw [c16b0] | (simp only [i64_w, i32_w]; rw [c16b0]) | skip)
      by_cases c17 : 0 ≤ x26_1
      ·rw [if_pos c17] at H
       have c17b0 : decide (0 ≤ x26_1) = true := decide_eq_true c17
       clear c17
       by_cases c18 : x26_1 < (t199.length : Int)
       ·rw [if_pos c18] at H
        have c18b0 : decide (x26_1 < (t199.length : Int)) = true := decide_eq_true c18
        clear c18
        replace H := Option.bind_eq_some_iff.mp H
        obtain ⟨⟨t217, t218, t219⟩, A190, H⟩ := H
        replace H : (if t217 = true then (spec_DrawDedupSamples.l0 k1 t199 x7_1 t199 (t199.length : Int) (wrap64 (x26_1 + 1)) l0 t218 t219) else ((spec_l1Cur_pick.f k1 l0 t218 t219 2).bind fun bt220 => (if x7_1.length < 8796093022208 then (spec_DrawDedupSamples.l0 k1 t199 (x7_1 ++ [(⟨wrap64 ((wrap64 (((rd_T37 t199 x26_1).f0) + 1)) + bt220.1), (rd_T37 t199 x26_1).f1⟩ : S37)]) t199 (t199.length : Int) (wrap64 (x26_1 + 1)) l0 bt220.2.1 bt220.2.2) else (none)))) = some (r1, r2, r3) := H
        have A19 := Aside0.mk A190
        clear A190
        by_cases c20 : t217 = true
        ·subst c20
         have H1 : (spec_DrawDedupSamples.l0 k1 t199 x7_1 t199 (t199.length : Int) (wrap64 (x26_1 + 1)) l0 t218 t219) = some (r1, r2, r3) := by rw [if_pos rfl] at H; exact H
         clear H
         have H := H1
         clear H1
         have H' := Aside0.mk H
         clear H
         have p215 : 0 ≤ (x26_1 : Int) := zX (by first | (with_reducible assumption) | assumption)
         have q215 : x26_1 < (t199.length : Int) := zX (by first | (with_reducible assumption) | assumption)
         obtain ⟨ad215, e215, hx215_0, hx215_1⟩ := at_T37 (Kd.R_reads' HO_24.out).2.2 x26_1 p215 q215
         cases e215
         replace p215 := eq_true p215
         replace q215 := eq_true q215
         go_wp2_with (first | ((with_reducible refine gate_dst (N := 9) rfl ?_); refine box_event ?hg (N := 9) ?hd (cs := #[.int .i64 0, .int .i64 0]) (t := 37) ?hr ?_; (case hd => rfl); (case hg => rfl); (case hr => first | (go_simp; done) | (go_simp; rfl)); intro gb216 hg w21 hbox hb; have n0_ := Aside0.mk (Kd.R_below (Kd.R_elderB (by (with_reducible repeat (first | apply zG | apply zH | apply zI)); exact HO_6.out) gb216 (Nat.le_of_eq hg.symm)) hb); have n1_ := Aside0.mk (Kd.R_below (Kd.R_elderB (by (with_reducible repeat (first | apply zG | apply zH | apply zI)); exact HO_7.out) gb216 (Nat.le_of_eq hg.symm)) hb); have n2_ := Aside0.mk (Kd.R_below (Kd.R_elderB (by (with_reducible repeat (first | apply zG | apply zH | apply zI)); exact HO_24.out) gb216 (Nat.le_of_eq hg.symm)) hb); have n3_ := Aside0.mk (IsS78.below (by repeat (first | (with_reducible first | exact HI195.out | apply IsS78.alloc | apply IsS78.drewN | apply IsS78.drew | apply IsS78.set_1 | apply IsS78.set_2) | exact HI195.out)) hb); have n4_ := Aside0.mk (below_step (by repeat (first | (with_reducible first | exact HB.out | apply zA | apply zB | apply zC | refine below_set ?_ (IsS78.ge HI195.out)) | exact HB.out)) hb); have n5_ := Aside0.mk (hbox); have n6_ := Aside0.mk ((by rw [hg]; exact (zW (by repeat (first | (with_reducible first | exact HB.out | apply zA | apply zB | apply zC | refine below_set ?_ (IsS78.ge HI195.out)) | exact HB.out))) : w.heap.size ≤ gb216)); have n7_ := Aside0.mk ((by rw [hg]; exact (zW (by repeat (first | (with_reducible first | exact HB.out | apply zA | apply zB | apply zC | refine below_set ?_ (IsS78.ge HI195.out)) | exact HB.out))) : w.heap.size ≤ gb216)); have n8_ := Aside0.mk ((by rw [hg]; exact Nat.ne_of_lt (IsS78.lt (show IsS78 w _ gb195 l0 x196001_1 x196002_1 from by repeat (first | (with_reducible first | exact HI195.out | apply IsS78.alloc | apply IsS78.drewN | apply IsS78.drew | apply IsS78.set_1 | apply IsS78.set_2) | exact HI195.out))) : gb195 ≠ gb216)); have n9_ := Aside0.mk ((by rw [hg]; exact Nat.ne_of_gt (IsS78.lt (show IsS78 w _ gb195 l0 x196001_1 x196002_1 from by repeat (first | (with_reducible first | exact HI195.out | apply IsS78.alloc | apply IsS78.drewN | apply IsS78.drew | apply IsS78.set_1 | apply IsS78.set_2) | exact HI195.out))) : gb216 ≠ gb195)); clear HO_6; clear HO_7; clear HO_24; clear HI195; clear HB; have HO_6 := n0_; have HO_7 := n1_; have HO_24 := n2_; have HI195 := n3_; have HB := n4_; have BK216 := n5_; have GW216 := n6_; have GE216 := n7_; have NB195_216 := n8_; have NB216_195 := n9_; clear n0_ n1_ n2_ n3_ n4_ n5_ n6_ n7_ n8_ n9_; clear hb hbox hg; have hnb22 := NB216_195.out; have hnc22 := NB195_216.out; have hcz23_0 : w21.cell? ⟨gb216, 0, none⟩ = some (.int .i64 0) := (zQ BK216.out 0).trans rfl; have hcz23_1 : w21.cell? ⟨gb216, 1, none⟩ = some (.int .i64 0) := (zQ BK216.out 1).trans rfl; have hfz23_0 := blk_frozen BK216.out 0; have hfz23_1 := blk_frozen BK216.out 1) | ((with_reducible refine gate_callee (f := 42) rfl ?_); refine goesL_ (some 31) rfl rfl Try.func42 (by kernel_rfl) rfl #[.pointer (some ⟨gb195, 0, none⟩), .int .i64 3] rfl (by (try simp only [List.map_toArray, List.map_cons, List.map_nil]); first | done | rfl | (simp only [List.length_drop, List.length_take]; rfl)) ?_; (with_reducible refine (spec_l1Cur_one.calls k1 gb195 l0 x196001_1 x196002_1 3 true t218 t219 w _ ?side1 ?side2 A19.out).mono ?_); (case side1 => repeat (first | (with_reducible first | exact HI195.out | apply IsS78.alloc | apply IsS78.drewN | apply IsS78.drew | apply IsS78.set_1 | apply IsS78.set_2 | refine IsS78.far ?_ NB195_216.out _) | exact HI195.out)); (case side2 => repeat (first | (with_reducible first | exact HB.out | apply zA | apply zB | apply zC | refine below_set ?_ (IsS78.ge HI195.out) | refine below_set ?_ GE216.out) | exact HB.out)); rintro e w24 ⟨rfl, hi, hb, hk⟩; refine ⟨_, rfl, ?_⟩; have n0_ := Aside0.mk (Kd.R_mono (Kd.R_keep (IsS78.apart (show IsS78 w _ gb195 l0 x196001_1 x196002_1 from by repeat (first | (with_reducible first | exact HI195.out | apply IsS78.alloc | apply IsS78.drewN | apply IsS78.drew | apply IsS78.set_1 | apply IsS78.set_2 | refine IsS78.far ?_ NB195_216.out _) | exact HI195.out)) (by (with_reducible repeat (first | apply zG | apply zH | apply zI)); exact (Kd.R_mono (Kd.R_far (p := ⟨gb216, 1, none⟩) (Kd.R_far (p := ⟨gb216, 0, none⟩) (Kd.R_mono HO_6.out (fun k_ hk => (⟨hk, hk.2⟩ : _ ∧ k_ ≠ gb216))) (fun _ hk => hk.2) (.int .i64 ((rd_T37 t199 x26_1).f0))) (fun _ hk => hk.2) (.int .i64 ((rd_T37 t199 x26_1).f1))) (fun _ h_ => h_.1))) (by decide)) hk (fun _ h => h.2)) (fun _ h => h.1)); have n1_ := Aside0.mk (Kd.R_mono (Kd.R_keep (IsS78.apart (show IsS78 w _ gb195 l0 x196001_1 x196002_1 from by repeat (first | (with_reducible first | exact HI195.out | apply IsS78.alloc | apply IsS78.drewN | apply IsS78.drew | apply IsS78.set_1 | apply IsS78.set_2 | refine IsS78.far ?_ NB195_216.out _) | exact HI195.out)) (by (with_reducible repeat (first | apply zG | apply zH | apply zI)); exact (Kd.R_mono (Kd.R_far (p := ⟨gb216, 1, none⟩) (Kd.R_far (p := ⟨gb216, 0, none⟩) (Kd.R_mono HO_7.out (fun k_ hk => (⟨hk, hk.2⟩ : _ ∧ k_ ≠ gb216))) (fun _ hk => hk.2) (.int .i64 ((rd_T37 t199 x26_1).f0))) (fun _ hk => hk.2) (.int .i64 ((rd_T37 t199 x26_1).f1))) (fun _ h_ => h_.1))) (by decide)) hk (fun _ h => h.2)) (fun _ h => h.1)); have n2_ := Aside0.mk (Kd.R_mono (Kd.R_keep (IsS78.apart (show IsS78 w _ gb195 l0 x196001_1 x196002_1 from by repeat (first | (with_reducible first | exact HI195.out | apply IsS78.alloc | apply IsS78.drewN | apply IsS78.drew | apply IsS78.set_1 | apply IsS78.set_2 | refine IsS78.far ?_ NB195_216.out _) | exact HI195.out)) (by (with_reducible repeat (first | apply zG | apply zH | apply zI)); exact (Kd.R_mono (Kd.R_far (p := ⟨gb216, 1, none⟩) (Kd.R_far (p := ⟨gb216, 0, none⟩) (Kd.R_mono HO_24.out (fun k_ hk => (⟨hk, hk.2⟩ : _ ∧ k_ ≠ gb216))) (fun _ hk => hk.2) (.int .i64 ((rd_T37 t199 x26_1).f0))) (fun _ hk => hk.2) (.int .i64 ((rd_T37 t199 x26_1).f1))) (fun _ h_ => h_.1))) (by decide)) hk (fun _ h => h.2)) (fun _ h => h.1)); have n3_ := Aside0.mk (KeepBut.blk hk (g' := gb216) (o := .cells #[.int .i64 ((rd_T37 t199 x26_1).f0), .int .i64 ((rd_T37 t199 x26_1).f1)] 37 (0, 0)) (by (with_reducible repeat (first | refine zE ?_ _ | refine zF ?_ | refine zD ?_ _)); refine blk_put (cs := #[.int .i64 ((rd_T37 t199 x26_1).f0), .int .i64 0]) ?_ 1 _ rfl; (with_reducible repeat (first | refine zE ?_ _ | refine zF ?_ | refine zD ?_ _)); refine blk_put (cs := #[.int .i64 0, .int .i64 0]) ?_ 0 _ rfl; (with_reducible repeat (first | refine zE ?_ _ | refine zF ?_ | refine zD ?_ _)); exact BK216.out) NB216_195.out (by simp)); have n4_ := Aside0.mk (hb); have n5_ := Aside0.mk (hi); clear HO_6; clear HO_7; clear HO_24; clear BK216; clear HB; clear HI195; have HO_6 := n0_; have HO_7 := n1_; have HO_24 := n2_; have BK216 := n3_; have HB := n4_; have HI195 := n5_; clear n0_ n1_ n2_ n3_ n4_ n5_; (try clear hb); (try clear hb2); (try clear hk); (try clear hi)))
         go_roundg k1
         case measure => have := HK1.out; omega
         case rel => exact ⟨(x7_1), (wrap64 (x26_1 + 1)), (t218), (t219), (by first | rfl | (simp; done) | (simp [*]; done)), H', ⟨by have := HK1.out; omega⟩, ⟨by (with_reducible repeat (first | apply zG | apply zH | apply zI)); exact Kd.R_mono HO_6.out (fun _ hk => hk.1)⟩, ⟨by (with_reducible repeat (first | apply zG | apply zH | apply zI)); exact Kd.R_mono HO_7.out (fun _ hk => ⟨hk.1.1, hk.1.2⟩)⟩, ⟨by (with_reducible repeat (first | apply zG | apply zH | apply zI)); exact Kd.R_mono HO_24.out (fun _ hk => hk.1)⟩, ⟨by repeat (first | (with_reducible first | exact HI195.out | apply IsS78.alloc | apply IsS78.drewN | apply IsS78.drew | apply IsS78.set_1 | apply IsS78.set_2 | refine IsS78.far ?_ NB195_216.out _) | exact HI195.out)⟩, ⟨by repeat (first | (with_reducible first | exact HB.out | apply zA | apply zB | apply zC | refine below_set ?_ (IsS78.ge HI195.out) | refine below_set ?_ GE216.out) | exact HB.out)⟩⟩
        ·replace c20 := Bool.eq_false_iff.mpr c20
         subst c20
         have H1 : ((spec_l1Cur_pick.f k1 l0 t218 t219 2).bind fun bt220 => (if x7_1.length < 8796093022208 then (spec_DrawDedupSamples.l0 k1 t199 (x7_1 ++ [(⟨wrap64 ((wrap64 (((rd_T37 t199 x26_1).f0) + 1)) + bt220.1), (rd_T37 t199 x26_1).f1⟩ : S37)]) t199 (t199.length : Int) (wrap64 (x26_1 + 1)) l0 bt220.2.1 bt220.2.2) else (none))) = some (r1, r2, r3) := by rw [if_neg (show ¬ (false = true) by decide)] at H; exact H
         clear H
         have H := H1
         clear H1
         replace H := Option.bind_eq_some_iff.mp H
         obtain ⟨⟨t220, t221, t222⟩, A250, H⟩ := H
         replace H : (if x7_1.length < 8796093022208 then (spec_DrawDedupSamples.l0 k1 t199 (x7_1 ++ [(⟨wrap64 ((wrap64 (((rd_T37 t199 x26_1).f0) + 1)) + t220), (rd_T37 t199 x26_1).f1⟩ : S37)]) t199 (t199.length : Int) (wrap64 (x26_1 + 1)) l0 t221 t222) else (none)) = some (r1, r2, r3) := H
         have A25 := Aside0.mk A250
         clear A250
         by_cases c26 : x7_1.length < 8796093022208
         ·rw [if_pos c26] at H
          have LMc26 := Aside0.mk c26
          clear c26
          obtain ⟨y223, hy223⟩ : ∃ y_ : List (S37), y_ = (x7_1 ++ [(⟨wrap64 ((wrap64 (((rd_T37 t199 x26_1).f0) + 1)) + t220), (rd_T37 t199 x26_1).f1⟩ : S37)]) := ⟨_, rfl⟩
          replace H : (spec_DrawDedupSamples.l0 k1 t199 y223 t199 (t199.length : Int) (wrap64 (x26_1 + 1)) l0 t221 t222) = some (r1, r2, r3) := by first | (rw [hy223]; with_reducible exact H) | (have H2_ := (Option.bind_some _ _).symm.trans H; rw [hy223]; with_reducible exact H2_) | (have H2_ := (Option.bind_some _ _).symm.trans H; with_reducible exact H2_) | with_reducible exact H | (rw [hy223]; exact H) | exact H
          have Ny223 := Aside0.mk hy223
          clear hy223
          have H' := Aside0.mk H
          clear H
          have p215 : 0 ≤ (x26_1 : Int) := zX (by first | (with_reducible assumption) | assumption)
          have q215 : x26_1 < (t199.length : Int) := zX (by first | (with_reducible assumption) | assumption)
          obtain ⟨ad215, e215, hx215_0, hx215_1⟩ := at_T37 (Kd.R_reads' HO_24.out).2.2 x26_1 p215 q215
          cases e215
          replace p215 := eq_true p215
          replace q215 := eq_true q215
          try go_wp2_with (first | ((with_reducible refine gate_dst (N := 9) rfl ?_); refine box_event ?hg (N := 9) ?hd (cs := #[.int .i64 0, .int .i64 0]) (t := 37) ?hr ?_; (case hd => rfl); (case hg => rfl); (case hr => first | (go_simp; done) | (go_simp; rfl)); intro gb216 hg w27 hbox hb; have n0_ := Aside0.mk (Kd.R_below (Kd.R_elderB (by (with_reducible repeat (first | apply zG | apply zH | apply zI)); exact HO_6.out) gb216 (Nat.le_of_eq hg.symm)) hb); have n1_ := Aside0.mk (Kd.R_below (Kd.R_elderB (by (with_reducible repeat (first | apply zG | apply zH | apply zI)); exact HO_7.out) gb216 (Nat.le_of_eq hg.symm)) hb); have n2_ := Aside0.mk (Kd.R_below (Kd.R_elderB (by (with_reducible repeat (first | apply zG | apply zH | apply zI)); exact HO_24.out) gb216 (Nat.le_of_eq hg.symm)) hb); have n3_ := Aside0.mk (IsS78.below (by repeat (first | (with_reducible first | exact HI195.out | apply IsS78.alloc | apply IsS78.drewN | apply IsS78.drew | apply IsS78.set_1 | apply IsS78.set_2) | exact HI195.out)) hb); have n4_ := Aside0.mk (below_step (by repeat (first | (with_reducible first | exact HB.out | apply zA | apply zB | apply zC | refine below_set ?_ (IsS78.ge HI195.out)) | exact HB.out)) hb); have n5_ := Aside0.mk (hbox); have n6_ := Aside0.mk ((by rw [hg]; exact (zW (by repeat (first | (with_reducible first | exact HB.out | apply zA | apply zB | apply zC | refine below_set ?_ (IsS78.ge HI195.out)) | exact HB.out))) : w.heap.size ≤ gb216)); have n7_ := Aside0.mk ((by rw [hg]; exact (zW (by repeat (first | (with_reducible first | exact HB.out | apply zA | apply zB | apply zC | refine below_set ?_ (IsS78.ge HI195.out)) | exact HB.out))) : w.heap.size ≤ gb216)); have n8_ := Aside0.mk ((by rw [hg]; exact Nat.ne_of_lt (IsS78.lt (show IsS78 w _ gb195 l0 x196001_1 x196002_1 from by repeat (first | (with_reducible first | exact HI195.out | apply IsS78.alloc | apply IsS78.drewN | apply IsS78.drew | apply IsS78.set_1 | apply IsS78.set_2) | exact HI195.out))) : gb195 ≠ gb216)); have n9_ := Aside0.mk ((by rw [hg]; exact Nat.ne_of_gt (IsS78.lt (show IsS78 w _ gb195 l0 x196001_1 x196002_1 from by repeat (first | (with_reducible first | exact HI195.out | apply IsS78.alloc | apply IsS78.drewN | apply IsS78.drew | apply IsS78.set_1 | apply IsS78.set_2) | exact HI195.out))) : gb216 ≠ gb195)); clear HO_6; clear HO_7; clear HO_24; clear HI195; clear HB; have HO_6 := n0_; have HO_7 := n1_; have HO_24 := n2_; have HI195 := n3_; have HB := n4_; have BK216 := n5_; have GW216 := n6_; have GE216 := n7_; have NB195_216 := n8_; have NB216_195 := n9_; clear n0_ n1_ n2_ n3_ n4_ n5_ n6_ n7_ n8_ n9_; clear hb hbox hg; have hnb28 := NB216_195.out; have hnc28 := NB195_216.out; have hcz29_0 : w27.cell? ⟨gb216, 0, none⟩ = some (.int .i64 0) := (zQ BK216.out 0).trans rfl; have hcz29_1 : w27.cell? ⟨gb216, 1, none⟩ = some (.int .i64 0) := (zQ BK216.out 1).trans rfl; have hfz29_0 := blk_frozen BK216.out 0; have hfz29_1 := blk_frozen BK216.out 1) | ((with_reducible refine gate_callee (f := 42) rfl ?_); refine goesL_ (some 31) rfl rfl Try.func42 (by kernel_rfl) rfl #[.pointer (some ⟨gb195, 0, none⟩), .int .i64 3] rfl (by (try simp only [List.map_toArray, List.map_cons, List.map_nil]); first | done | rfl | (simp only [List.length_drop, List.length_take]; rfl)) ?_; (with_reducible refine (spec_l1Cur_one.calls k1 gb195 l0 x196001_1 x196002_1 3 false t218 t219 w _ ?side1 ?side2 A19.out).mono ?_); (case side1 => repeat (first | (with_reducible first | exact HI195.out | apply IsS78.alloc | apply IsS78.drewN | apply IsS78.drew | apply IsS78.set_1 | apply IsS78.set_2 | refine IsS78.far ?_ NB195_216.out _) | exact HI195.out)); (case side2 => repeat (first | (with_reducible first | exact HB.out | apply zA | apply zB | apply zC | refine below_set ?_ (IsS78.ge HI195.out) | refine below_set ?_ GE216.out) | exact HB.out)); rintro e w30 ⟨rfl, hi, hb, hk⟩; refine ⟨_, rfl, ?_⟩; have n0_ := Aside0.mk (Kd.R_mono (Kd.R_keep (IsS78.apart (show IsS78 w _ gb195 l0 x196001_1 x196002_1 from by repeat (first | (with_reducible first | exact HI195.out | apply IsS78.alloc | apply IsS78.drewN | apply IsS78.drew | apply IsS78.set_1 | apply IsS78.set_2 | refine IsS78.far ?_ NB195_216.out _) | exact HI195.out)) (by (with_reducible repeat (first | apply zG | apply zH | apply zI)); exact (Kd.R_mono (Kd.R_far (p := ⟨gb216, 1, none⟩) (Kd.R_far (p := ⟨gb216, 0, none⟩) (Kd.R_mono HO_6.out (fun k_ hk => (⟨hk, hk.2⟩ : _ ∧ k_ ≠ gb216))) (fun _ hk => hk.2) (.int .i64 ((rd_T37 t199 x26_1).f0))) (fun _ hk => hk.2) (.int .i64 ((rd_T37 t199 x26_1).f1))) (fun _ h_ => h_.1))) (by decide)) hk (fun _ h => h.2)) (fun _ h => h.1)); have n1_ := Aside0.mk (Kd.R_mono (Kd.R_keep (IsS78.apart (show IsS78 w _ gb195 l0 x196001_1 x196002_1 from by repeat (first | (with_reducible first | exact HI195.out | apply IsS78.alloc | apply IsS78.drewN | apply IsS78.drew | apply IsS78.set_1 | apply IsS78.set_2 | refine IsS78.far ?_ NB195_216.out _) | exact HI195.out)) (by (with_reducible repeat (first | apply zG | apply zH | apply zI)); exact (Kd.R_mono (Kd.R_far (p := ⟨gb216, 1, none⟩) (Kd.R_far (p := ⟨gb216, 0, none⟩) (Kd.R_mono HO_7.out (fun k_ hk => (⟨hk, hk.2⟩ : _ ∧ k_ ≠ gb216))) (fun _ hk => hk.2) (.int .i64 ((rd_T37 t199 x26_1).f0))) (fun _ hk => hk.2) (.int .i64 ((rd_T37 t199 x26_1).f1))) (fun _ h_ => h_.1))) (by decide)) hk (fun _ h => h.2)) (fun _ h => h.1)); have n2_ := Aside0.mk (Kd.R_mono (Kd.R_keep (IsS78.apart (show IsS78 w _ gb195 l0 x196001_1 x196002_1 from by repeat (first | (with_reducible first | exact HI195.out | apply IsS78.alloc | apply IsS78.drewN | apply IsS78.drew | apply IsS78.set_1 | apply IsS78.set_2 | refine IsS78.far ?_ NB195_216.out _) | exact HI195.out)) (by (with_reducible repeat (first | apply zG | apply zH | apply zI)); exact (Kd.R_mono (Kd.R_far (p := ⟨gb216, 1, none⟩) (Kd.R_far (p := ⟨gb216, 0, none⟩) (Kd.R_mono HO_24.out (fun k_ hk => (⟨hk, hk.2⟩ : _ ∧ k_ ≠ gb216))) (fun _ hk => hk.2) (.int .i64 ((rd_T37 t199 x26_1).f0))) (fun _ hk => hk.2) (.int .i64 ((rd_T37 t199 x26_1).f1))) (fun _ h_ => h_.1))) (by decide)) hk (fun _ h => h.2)) (fun _ h => h.1)); have n3_ := Aside0.mk (KeepBut.blk hk (g' := gb216) (o := .cells #[.int .i64 ((rd_T37 t199 x26_1).f0), .int .i64 ((rd_T37 t199 x26_1).f1)] 37 (0, 0)) (by (with_reducible repeat (first | refine zE ?_ _ | refine zF ?_ | refine zD ?_ _)); refine blk_put (cs := #[.int .i64 ((rd_T37 t199 x26_1).f0), .int .i64 0]) ?_ 1 _ rfl; (with_reducible repeat (first | refine zE ?_ _ | refine zF ?_ | refine zD ?_ _)); refine blk_put (cs := #[.int .i64 0, .int .i64 0]) ?_ 0 _ rfl; (with_reducible repeat (first | refine zE ?_ _ | refine zF ?_ | refine zD ?_ _)); exact BK216.out) NB216_195.out (by simp)); have n4_ := Aside0.mk (hb); have n5_ := Aside0.mk (hi); clear HO_6; clear HO_7; clear HO_24; clear BK216; clear HB; clear HI195; have HO_6 := n0_; have HO_7 := n1_; have HO_24 := n2_; have BK216 := n3_; have HB := n4_; have HI195 := n5_; clear n0_ n1_ n2_ n3_ n4_ n5_; (try clear hb); (try clear hb2); (try clear hk); (try clear hi)))
          have n0_ := Aside0.mk (zI HO_6.out)
          have n1_ := Aside0.mk (zI HO_7.out)
          have n2_ := Aside0.mk (zI HO_24.out)
          have n3_ := Aside0.mk (zF BK216.out)
          have n4_ := Aside0.mk (IsS78.drew HI195.out)
          have n5_ := Aside0.mk (zC HB.out)
          try clear HO_6
          try clear HO_7
          try clear HO_24
          clear BK216
          clear HI195
          clear HB
          have HO_6 := n0_
          have HO_7 := n1_
          have HO_24 := n2_
          have BK216 := n3_
          have HI195 := n4_
          have HB := n5_
          clear n0_ n1_ n2_ n3_ n4_ n5_
          refine start_ (n := 13) (S := fun w' => w'.cell? ⟨gb216, 0, none⟩ = some (.int .i64 ((rd_T37 t199 x26_1).f0)) ∧ w'.cell? ⟨gb216, 1, none⟩ = some (.int .i64 ((rd_T37 t199 x26_1).f1))) (ds := []) #[false, false, false, false, false, false, false, false, false, false, false, false, false] (by kernel_rfl) rfl rfl ⟨(zQ BK216.out 0).trans rfl, (zQ BK216.out 1).trans rfl⟩ (fun hHeld => ?_); refine with_tabW spec_DrawDedupSamples.tab10 spec_DrawDedupSamples.bits10 (fun HT_ HW_ => ?_)
          generalize w30.drew = w31 at HO_6 HO_7 HO_24 BK216 HI195 HB hHeld ⊢
          refine pure_ (i := 0) (N := some 33) (v := ?_) (a' := ?_) #[true, false, false, false, false, false, false, false, false, false, false, false, false] rfl rfl (any_of HT_.out (by kernel_rfl)) (fun _ _ _ h => h) (Or.inl ⟨by rfl, ?_⟩) ?_ ?_
          rotate_left
          ·intro w'
           go_simp
           with_reducible rfl
          rotate_left
          ·simp only [Act.put, zT, zU, zV, i64_w, i32_w]
           rfl
          refine pure_ (i := 1) (N := some 34) (v := ?_) (a' := ?_) #[true, true, false, false, false, false, false, false, false, false, false, false, false] rfl rfl (any_of HT_.out (by kernel_rfl)) (fun _ _ _ h => h) (Or.inl ⟨by rfl, ?_⟩) ?_ ?_
          rotate_left
          ·intro w'
           go_simp
           with_reducible rfl
          rotate_left
          ·simp only [Act.put, zT, zU, zV, i64_w, i32_w]
           rfl
          refine pure_ (i := 4) (N := some 37) (v := ?_) (a' := ?_) #[true, true, false, false, true, false, false, false, false, false, false, false, false] rfl rfl (any_of HT_.out (by kernel_rfl)) (fun _ _ _ h => h) (Or.inl ⟨by rfl, ?_⟩) ?_ ?_
          rotate_left
          ·intro w'
           go_simp
           with_reducible rfl
          rotate_left
          ·simp only [Act.put, zT, zU, zV, i64_w, i32_w]
           rfl
          refine pure_ (i := 7) (N := some 40) (v := ?_) (a' := ?_) #[true, true, false, false, true, false, false, true, false, false, false, false, false] rfl rfl (any_of HT_.out (by kernel_rfl)) (fun _ _ _ h => h) (Or.inl ⟨by rfl, ?_⟩) ?_ ?_
          rotate_left
          ·intro w'
           go_simp
           with_reducible rfl
          rotate_left
          ·simp only [Act.put, zT, zU, zV, i64_w, i32_w]
           rfl
          refine take_ (i := 2) (N := some 35) (v := ?_) (a' := ?_) #[true, true, true, false, true, false, false, true, false, false, false, false, false] rfl rfl (take_ofW HT_.out HW_.out (by kernel_rfl)) (fun _ _ _ h => h) (Or.inl ⟨by rfl, ?_⟩) hHeld ?_ ?_
          rotate_left
          ·rintro w' ⟨s0, s1⟩
           go_simp
           with_reducible rfl
          rotate_left
          ·simp only [Act.put, zT, zU, zV, i64_w, i32_w]
           rfl
          refine pure_ (i := 3) (N := some 36) (v := ?_) (a' := ?_) #[true, true, true, true, true, false, false, true, false, false, false, false, false] rfl rfl (any_of HT_.out (by kernel_rfl)) (fun _ _ _ h => h) (Or.inl ⟨by rfl, ?_⟩) ?_ ?_
          rotate_left
          ·intro w'
           go_simp
           with_reducible rfl
          rotate_left
          ·simp only [Act.put, zT, zU, zV, i64_w, i32_w]
           rfl
          refine take_ (i := 8) (N := some 41) (v := ?_) (a' := ?_) #[true, true, true, true, true, false, false, true, true, false, false, false, false] rfl rfl (take_ofW HT_.out HW_.out (by kernel_rfl)) (fun _ _ _ h => h) (Or.inl ⟨by rfl, ?_⟩) hHeld ?_ ?_
          rotate_left
          ·rintro w' ⟨s0, s1⟩
           go_simp
           with_reducible rfl
          rotate_left
          ·simp only [Act.put, zT, zU, zV, i64_w, i32_w]
           rfl
          refine one_ (i := 5) (N := some 38) #[true, true, true, true, true, true, false, true, true, false, false, false, false] rfl rfl (one_of HT_.out (by kernel_rfl)) (by decide) (fun K hK => ?_)
          refine goes_ Try.func41 (by kernel_rfl) rfl #[.pointer (some ⟨gb195, 0, none⟩), .int .i64 2] (by rfl) rfl rfl (by (try simp only [List.map_toArray, List.map_cons, List.map_nil]); first | done | rfl | (simp only [List.length_drop, List.length_take]; rfl)) ?_
          with_reducible refine (spec_l1Cur_pick.calls k1 gb195 l0 t218 t219 2 t220 t221 t222 w _ ?side1 ?side2 A25.out).mono ?_
          (case side1 => repeat (first | (with_reducible first | exact HI195.out | apply IsS78.alloc | apply IsS78.drewN | apply IsS78.drew | apply IsS78.set_1 | apply IsS78.set_2 | refine IsS78.far ?_ NB195_216.out _) | exact HI195.out))
          (case side2 => repeat (first | (with_reducible first | exact HB.out | apply zA | apply zB | apply zC | refine below_set ?_ (IsS78.ge HI195.out) | refine below_set ?_ GE216.out) | exact HB.out))
          rintro e w32 ⟨rfl, hi, hb, hk⟩
          refine ⟨_, rfl, ?_⟩
          have n0_ := Aside0.mk (Kd.R_mono (Kd.R_keep (IsS78.apart (show IsS78 w _ gb195 l0 t218 t219 from by repeat (first | (with_reducible first | exact HI195.out | apply IsS78.alloc | apply IsS78.drewN | apply IsS78.drew | apply IsS78.set_1 | apply IsS78.set_2 | refine IsS78.far ?_ NB195_216.out _) | exact HI195.out)) (by (with_reducible repeat (first | apply zG | apply zH | apply zI)); exact HO_6.out) (by decide)) hk (fun _ h => h.2)) (fun _ h => h.1))
          have n1_ := Aside0.mk (Kd.R_mono (Kd.R_keep (IsS78.apart (show IsS78 w _ gb195 l0 t218 t219 from by repeat (first | (with_reducible first | exact HI195.out | apply IsS78.alloc | apply IsS78.drewN | apply IsS78.drew | apply IsS78.set_1 | apply IsS78.set_2 | refine IsS78.far ?_ NB195_216.out _) | exact HI195.out)) (by (with_reducible repeat (first | apply zG | apply zH | apply zI)); exact HO_7.out) (by decide)) hk (fun _ h => h.2)) (fun _ h => h.1))
          have n2_ := Aside0.mk (Kd.R_mono (Kd.R_keep (IsS78.apart (show IsS78 w _ gb195 l0 t218 t219 from by repeat (first | (with_reducible first | exact HI195.out | apply IsS78.alloc | apply IsS78.drewN | apply IsS78.drew | apply IsS78.set_1 | apply IsS78.set_2 | refine IsS78.far ?_ NB195_216.out _) | exact HI195.out)) (by (with_reducible repeat (first | apply zG | apply zH | apply zI)); exact HO_24.out) (by decide)) hk (fun _ h => h.2)) (fun _ h => h.1))
          have n3_ := Aside0.mk (KeepBut.blk hk (g' := gb216) (o := .cells #[.int .i64 ((rd_T37 t199 x26_1).f0), .int .i64 ((rd_T37 t199 x26_1).f1)] 37 (0, 0)) (by (with_reducible repeat (first | refine zE ?_ _ | refine zF ?_ | refine zD ?_ _)); exact BK216.out) NB216_195.out (by simp))
          have n4_ := Aside0.mk (hb)
          have n5_ := Aside0.mk (hi)
          try clear HO_6
          try clear HO_7
          try clear HO_24
          clear BK216
          clear HB
          clear HI195
          have HO_6 := n0_
          have HO_7 := n1_
          have HO_24 := n2_
          have BK216 := n3_
          have HB := n4_
          have HI195 := n5_
          clear n0_ n1_ n2_ n3_ n4_ n5_
          (try clear hb)
          (try clear hb2)
          (try clear hk)
          (try clear hi)
          refine hK.out _ _ ⟨(zQ BK216.out 0).trans rfl, (zQ BK216.out 1).trans rfl⟩ (fun hHeld => ?_)
          clear hK K
          refine norm_ (a' := ?_) ?_ ?_
          rotate_left
          ·show Act.put _ (some 38) _ = _
           simp only [Act.put, zT, zU, zV, i64_w, i32_w]
           rfl
          refine pure_ (i := 6) (N := some 39) (v := ?_) (a' := ?_) #[true, true, true, true, true, true, true, true, true, false, false, false, false] rfl rfl (any_of HT_.out (by kernel_rfl)) (fun _ _ _ h => h) (Or.inl ⟨by rfl, ?_⟩) ?_ ?_
          rotate_left
          ·intro w'
           go_simp
           with_reducible rfl
          rotate_left
          ·simp only [Act.put, zT, zU, zV, i64_w, i32_w]
           rfl
          refine pure_ (i := 9) (N := some 42) (v := ?_) (a' := ?_) #[true, true, true, true, true, true, true, true, true, true, false, false, false] rfl rfl (any_of HT_.out (by kernel_rfl)) (fun _ _ _ h => h) (Or.inl ⟨by rfl, ?_⟩) ?_ ?_
          rotate_left
          ·intro w'
           go_simp
           with_reducible rfl
          rotate_left
          ·simp only [Act.put, zT, zU, zV, i64_w, i32_w]
           rfl
          refine one_ (i := 10) (N := some 43) #[true, true, true, true, true, true, true, true, true, true, true, false, false] rfl rfl (one_of HT_.out (by kernel_rfl)) (by decide) (fun K hK => ?_)
          refine value_ (w1 := ?_) (v := ?_) (by rfl) rfl ?_ ?_
          rotate_left 2
          ·go_simp
           constructor
           ·rfl
           ·rfl
          refine hK.out _ _ ⟨(zQ (zD BK216.out _) 0).trans rfl, (zQ (zD BK216.out _) 1).trans rfl⟩ (fun hHeld => ?_)
          clear hK K
          refine norm_ (a' := ?_) ?_ ?_
          rotate_left
          ·show Act.put _ (some 43) _ = _
           simp only [Act.put, zT, zU, zV, i64_w, i32_w]
           rfl
          refine one_ (i := 11) (N := some 44) #[true, true, true, true, true, true, true, true, true, true, true, true, false] rfl rfl (one_of HT_.out (by kernel_rfl)) (by decide) (fun K hK => ?_)
          refine Kd.R_append_step k37 (w0 := w) w.heap.size (by rfl) (.tmp 33) (.tmp 43) 30 37 (.agg #[(.int .i64 0), (.int .i64 0)]) 16 rfl Try.underlying30 info37 rfl (by decide) (by omega) u7 x7_1 (⟨wrap64 ((wrap64 (((rd_T37 t199 x26_1).f0) + 1)) + t220), (rd_T37 t199 x26_1).f1⟩ : S37) [.int .i64 (wrap64 ((wrap64 (((rd_T37 t199 x26_1).f0) + 1)) + t220)), .int .i64 ((rd_T37 t199 x26_1).f1)] (fun k_ => some k_ ≠ (.slice (some ad215) t199.length co15 : Value).ownBlock ∧ some k_ ≠ (.slice (some ad215) t199.length co15 : Value).ownBlock ∧ k_ ≠ gb216) (fun _ => False) rfl rfl ?aP (fun _ hk => hk.elim) ?aF ?aO ?aB ?aS ?aL ?_
          (case aP => exact k37_mkM _ _ _ (⟨wrap64 ((wrap64 (((rd_T37 t199 x26_1).f0) + 1)) + t220), (rd_T37 t199 x26_1).f1⟩ : S37))
          (case aB => exact (by repeat (first | (with_reducible first | exact HB.out | apply zA | apply zB | apply zC | refine below_set ?_ (IsS78.ge HI195.out) | refine below_set ?_ GE216.out) | exact HB.out)))
          (case aF => exact (fun k_ hk => ⟨Kd.fresh' (Kd.R_lt (by (with_reducible repeat (first | apply zG | apply zH | apply zI)); exact HO_6.out)) k_ hk, Kd.fresh' (Kd.R_lt (by (with_reducible repeat (first | apply zG | apply zH | apply zI)); exact HO_24.out)) k_ hk, Kd.freshB (g := gb216) (o := .cells #[.int .i64 ((rd_T37 t199 x26_1).f0), .int .i64 ((rd_T37 t199 x26_1).f1)] 37 (0, 0)) (by (with_reducible repeat (first | refine zE ?_ _ | refine zF ?_ | refine zD ?_ _)); exact BK216.out) k_ hk⟩))
          (case aO => exact (by (with_reducible repeat (first | apply zG | apply zH | apply zI)); exact Kd.R_mono HO_7.out (fun _ hk => ⟨hk.1.1, ⟨hk.1.2, hk.2⟩⟩)))
          (case aS => exact (zW (by repeat (first | (with_reducible first | exact HB.out | apply zA | apply zB | apply zC | refine below_set ?_ (IsS78.ge HI195.out) | refine below_set ?_ GE216.out) | exact HB.out))))
          (case aL => have := LMc26.out; omega)
          intro v224 w33 ho hb hg hat
          rw [← Ny223.out] at ho
          have n0_ := Aside0.mk (Kd.R_after (ok := (fun k_ => k_ ≠ gb216)) (by (with_reducible repeat (first | apply zG | apply zH | apply zI)); exact Kd.R_mono HO_6.out (fun _ hk => ⟨hk.2, hk.1⟩)) hg hat)
          have n1_ := Aside0.mk (Kd.R_after (ok := (fun k_ => k_ ≠ gb216)) (by (with_reducible repeat (first | apply zG | apply zH | apply zI)); exact Kd.R_mono HO_24.out (fun _ hk => ⟨hk.2, hk.1⟩)) hg hat)
          have n2_ := Aside0.mk (IsS78.grown (by repeat (first | (with_reducible first | exact HI195.out | apply IsS78.alloc | apply IsS78.drewN | apply IsS78.drew | apply IsS78.set_1 | apply IsS78.set_2 | refine IsS78.far ?_ NB195_216.out _) | exact HI195.out)) hg (IsS78.own_ne HI195.out HO_7.out (by decide)))
          have n3_ := Aside0.mk (blk_grown (g := gb216) (o := .cells #[.int .i64 ((rd_T37 t199 x26_1).f0), .int .i64 ((rd_T37 t199 x26_1).f1)] 37 (0, 0)) (by (with_reducible repeat (first | refine zE ?_ _ | refine zF ?_ | refine zD ?_ _)); exact BK216.out) hg (Kd.R_away HO_7.out (fun _ hk => hk.2)))
          have n4_ := Aside0.mk (hb)
          have n5_ := Aside0.mk (ho)
          try clear HO_6
          try clear HO_24
          clear HI195
          clear BK216
          clear HB
          try clear HO_7
          have HO_6 := n0_
          have HO_24 := n1_
          have HI195 := n2_
          have BK216 := n3_
          have HB := n4_
          have HO225 := n5_
          clear n0_ n1_ n2_ n3_ n4_ n5_
          clear ho hb hg hat
          refine hK.out _ _ ⟨(zQ BK216.out 0).trans rfl, (zQ BK216.out 1).trans rfl⟩ (fun hHeld => ?_)
          clear hK K
          refine norm_ (a' := ?_) ?_ ?_
          rotate_left
          ·show Act.put _ (some 44) _ = _
           simp only [Act.put, zT, zU, zV, i64_w, i32_w]
           rfl
          refine pure_ (i := 12) (N := some 7) (v := ?_) (a' := ?_) #[true, true, true, true, true, true, true, true, true, true, true, true, true] rfl rfl (any_of HT_.out (by kernel_rfl)) (fun _ _ _ h => h) (Or.inl ⟨by rfl, ?_⟩) ?_ ?_
          rotate_left
          ·intro w'
           go_simp
           with_reducible rfl
          rotate_left
          ·simp only [Act.put, zT, zU, zV, i64_w, i32_w]
           rfl
          refine done_ (done_of HT_.out (by kernel_rfl)) ?_
          try go_wp2
          go_roundg k1
          case measure => have := HK1.out; omega
          case rel => exact ⟨(y223), (wrap64 (x26_1 + 1)), (t221), (t222), (by first | rfl | (simp; done) | (simp [*]; done)), H', ⟨by have := HK1.out; omega⟩, ⟨by (with_reducible repeat (first | apply zG | apply zH | apply zI)); exact Kd.R_mono HO_6.out (fun _ hk => hk.2)⟩, ⟨by (with_reducible repeat (first | apply zG | apply zH | apply zI)); exact Kd.R_mono HO225.out (fun _ hk => ⟨hk.1, hk.2.1⟩)⟩, ⟨by (with_reducible repeat (first | apply zG | apply zH | apply zI)); exact Kd.R_mono HO_24.out (fun _ hk => hk.2)⟩, ⟨by repeat (first | (with_reducible first | exact HI195.out | apply IsS78.alloc | apply IsS78.drewN | apply IsS78.drew | apply IsS78.set_1 | apply IsS78.set_2 | refine IsS78.far ?_ NB195_216.out _) | exact HI195.out)⟩, ⟨by repeat (first | (with_reducible first | exact HB.out | apply zA | apply zB | apply zC | refine below_set ?_ (IsS78.ge HI195.out) | refine below_set ?_ GE216.out) | exact HB.out)⟩⟩
         ·rw [if_neg c26] at H
          exact absurd H (by simp)
       ·rw [if_neg c18] at H
        exact absurd H (by simp)
      ·rw [if_neg c17] at H
       exact absurd H (by simp)
     ·rw [if_neg c16] at H
      have c16b0 : decide (x26_1 < (t199.length : Int)) = false := decide_eq_false c16
      clear c16
      (first | rw [c16b0] | (simp only [i64_w, i32_w]; rw [c16b0]) | skip)
      have H' := Aside0.mk H
      clear H
      obtain ⟨Ao34, co34, eo34⟩ := Kd.R_slice HO_7.out
      subst eo34
      go_wp2
      go_loopg [7, 10] k1 (fun kq v7 v10 w' => ∃ (x7_2 : List (S37)) (x10_2 : Int), v10 = .int .i64 x10_2 ∧ Aside0 (spec_DrawDedupSamples.l1 kq t199 x7_2 x10_2 l0 x196001_1 x196002_1 = some (r1, r2, r3)) ∧ Aside0 (kq ≤ k1) ∧ Aside0 (Kd.R k37 37 w' w.heap.size (fun k_ => some k_ ≠ (v7 : Value).ownBlock) (.slice Ao15 t199.length co15) t199) ∧ Aside0 (Kd.R k37 37 w' w.heap.size (fun k_ => some k_ ≠ ((.slice Ao15 t199.length co15) : Value).ownBlock) v7 x7_2) ∧ Aside0 (IsS78 w w' gb195 l0 x196001_1 x196002_1) ∧ Aside0 (Below w.heap.size w w'))
      case atStart => exact ⟨(x7_1), (wrap64 ((x7_1.length : Int) - 1)), (by first | rfl | (simp; done) | (simp [*]; done)), H', ⟨Nat.le_refl _⟩, ⟨by (with_reducible repeat (first | apply zG | apply zH | apply zI)); exact HO_6.out⟩, ⟨by (with_reducible repeat (first | apply zG | apply zH | apply zI)); exact Kd.R_mono HO_7.out (fun _ hk => hk.1)⟩, ⟨by repeat (first | (with_reducible first | exact HI195.out | apply IsS78.alloc | apply IsS78.drewN | apply IsS78.drew | apply IsS78.set_1 | apply IsS78.set_2) | exact HI195.out)⟩, ⟨by repeat (first | (with_reducible first | exact HB.out | apply zA | apply zB | apply zC | refine below_set ?_ (IsS78.ge HI195.out)) | exact HB.out)⟩⟩
      case round =>
       clear H'
       try clear c1
       try clear c2
       try clear p2
       try clear q2
       try clear hx2
       try clear c4
       try clear p6
       try clear c12
       try clear c14
       try clear c16
       try clear c16b0
       try clear c17
       try clear c17b0
       try clear c18
       try clear c18b0
       try clear c20
       try clear p21
       try clear q21
       try clear hx21
       try clear c22
       try clear c26
       try clear c28
       try clear hcz23_0
       try clear hcz23_1
       try clear hcz29_0
       try clear hcz29_1
       try clear hfz23_0
       try clear hfz23_1
       try clear hfz29_0
       try clear hfz29_1
       try clear hx215_0
       try clear hx215_1
       try clear p2
       try clear p215
       try clear q215
       obtain ⟨x7_2, x10_2, rfl, HA, HK2, HO_6, HO_7, HI195, HB⟩ := hrel
       cases gk with
       | zero => exact absurd HA.out (by simp [spec_DrawDedupSamples.l1])
       | succ k2 =>
        have H := HA.out
        clear HA
        simp only [spec_DrawDedupSamples.l1] at H
        by_cases c35 : x10_2 > 0
        ·rw [if_pos c35] at H
         have c35b0 : decide (0 < x10_2) = true := decide_eq_true c35
         clear c35
         by_cases c36 : 0 ≤ x10_2
         ·rw [if_pos c36] at H
          have c36b0 : decide (0 ≤ x10_2) = true := decide_eq_true c36
          clear c36
          by_cases c37 : x10_2 < (x7_2.length : Int)
          ·rw [if_pos c37] at H
           have c37b0 : decide (x10_2 < (x7_2.length : Int)) = true := decide_eq_true c37
           clear c37
           obtain ⟨ji38, hji38⟩ : ∃ j_ : Int, (wrap64 (x10_2 - 1)) = j_ := ⟨_, rfl⟩
           replace H : (if 0 ≤ (ji38) then (if (ji38) < (x7_2.length : Int) then (if ((rd_T37 x7_2 x10_2).f0) ≤ ((rd_T37 x7_2 (ji38)).f0) then (if x10_2 ≤ (x7_2.length : Int) then (if 0 ≤ (wrap64 (x10_2 + 1)) then (if (wrap64 (x10_2 + 1)) ≤ (x7_2.length : Int) then (spec_DrawDedupSamples.l1 k2 t199 (x7_2.eraseIdx (x10_2 : Int).toNat) ji38 l0 x196001_1 x196002_1) else (none)) else (none)) else (none)) else (spec_DrawDedupSamples.l1 k2 t199 x7_2 ji38 l0 x196001_1 x196002_1)) else (none)) else (none)) = some (r1, r2, r3) := by first | (rw [hji38] at H; exact H) | (simp only [hji38] at H ⊢; exact H)
           have hji38w : (IntKind.i64.wrap (x10_2 - 1)) = ji38 := (i64_w _).trans hji38
           by_cases c39 : 0 ≤ (ji38)
           ·rw [if_pos c39] at H
            have c39b0 : decide (0 ≤ (ji38)) = true := decide_eq_true c39
            clear c39
            by_cases c40 : (ji38) < (x7_2.length : Int)
            ·rw [if_pos c40] at H
             have c40b0 : decide ((ji38) < (x7_2.length : Int)) = true := decide_eq_true c40
             clear c40
             by_cases c41 : ((rd_T37 x7_2 x10_2).f0) ≤ ((rd_T37 x7_2 (ji38)).f0)
             ·rw [if_pos c41] at H
              have c41b0 : decide (((rd_T37 x7_2 x10_2).f0) ≤ ((rd_T37 x7_2 (ji38)).f0)) = true := decide_eq_true c41
              clear c41
              have c42b0 := eq_true (zX (by first | (with_reducible assumption) | assumption) : 0 ≤ x10_2)
              by_cases c43 : x10_2 ≤ (x7_2.length : Int)
              ·rw [if_pos c43] at H
               have c43b0 := eq_true c43
               have c43b1 : decide (x10_2 ≤ (x7_2.length : Int)) = true := decide_eq_true c43
               clear c43
               obtain ⟨y228, hy228⟩ : ∃ y_ : List (S37), y_ = (x7_2.take (x10_2 : Int).toNat) := ⟨_, rfl⟩
               replace H : (if 0 ≤ (wrap64 (x10_2 + 1)) then (if (wrap64 (x10_2 + 1)) ≤ (x7_2.length : Int) then (spec_DrawDedupSamples.l1 k2 t199 (x7_2.eraseIdx (x10_2 : Int).toNat) ji38 l0 x196001_1 x196002_1) else (none)) else (none)) = some (r1, r2, r3) := by first | (rw [hy228]; with_reducible exact H) | (have H2_ := (Option.bind_some _ _).symm.trans H; rw [hy228]; with_reducible exact H2_) | (have H2_ := (Option.bind_some _ _).symm.trans H; with_reducible exact H2_) | with_reducible exact H | (rw [hy228]; exact H) | exact H
               have Ny228 := Aside0.mk hy228
               clear hy228
               obtain ⟨ji44, hji44⟩ : ∃ j_ : Int, (wrap64 (x10_2 + 1)) = j_ := ⟨_, rfl⟩
               replace H : (if 0 ≤ (ji44) then (if (ji44) ≤ (x7_2.length : Int) then (spec_DrawDedupSamples.l1 k2 t199 (x7_2.eraseIdx (x10_2 : Int).toNat) ji38 l0 x196001_1 x196002_1) else (none)) else (none)) = some (r1, r2, r3) := by first | (rw [hji44] at H; exact H) | (simp only [hji44] at H ⊢; exact H)
               have hji44w : (IntKind.i64.wrap (x10_2 + 1)) = ji44 := (i64_w _).trans hji44
               by_cases c45 : 0 ≤ (ji44)
               ·rw [if_pos c45] at H
                have c45b0 := eq_true c45
                have c45b1 : decide (0 ≤ (ji44)) = true := decide_eq_true c45
                clear c45
                by_cases c46 : (ji44) ≤ (x7_2.length : Int)
                ·rw [if_pos c46] at H
                 have c46b0 := eq_true c46
                 have c46b1 : decide ((ji44) ≤ (x7_2.length : Int)) = true := decide_eq_true c46
                 clear c46
                 obtain ⟨y232, hy232⟩ : ∃ y_ : List (S37), y_ = (x7_2.drop ((ji44) : Int).toNat) := ⟨_, rfl⟩
                 replace H : (spec_DrawDedupSamples.l1 k2 t199 (x7_2.eraseIdx (x10_2 : Int).toNat) ji38 l0 x196001_1 x196002_1) = some (r1, r2, r3) := by first | (rw [hy232]; with_reducible exact H) | (have H2_ := (Option.bind_some _ _).symm.trans H; rw [hy232]; with_reducible exact H2_) | (have H2_ := (Option.bind_some _ _).symm.trans H; with_reducible exact H2_) | with_reducible exact H | (rw [hy232]; exact H) | exact H
                 have Ny232 := Aside0.mk hy232
                 clear hy232
                 obtain ⟨y236, hy236⟩ : ∃ y_ : List (S37), y_ = (x7_2.eraseIdx (x10_2 : Int).toNat) := ⟨_, rfl⟩
                 replace H : (spec_DrawDedupSamples.l1 k2 t199 y236 ji38 l0 x196001_1 x196002_1) = some (r1, r2, r3) := by first | (rw [hy236]; with_reducible exact H) | (have H2_ := (Option.bind_some _ _).symm.trans H; rw [hy236]; with_reducible exact H2_) | (have H2_ := (Option.bind_some _ _).symm.trans H; with_reducible exact H2_) | with_reducible exact H | (rw [hy236]; exact H) | exact H
                 have Ny236 := Aside0.mk hy236
                 clear hy236
                 have H' := Aside0.mk H
                 clear H
                 try go_wp2
                 have n0_ := Aside0.mk (zI HO_6.out)
                 have n1_ := Aside0.mk (zI HO_7.out)
                 have n2_ := Aside0.mk (IsS78.drew HI195.out)
                 have n3_ := Aside0.mk (zC HB.out)
                 try clear HO_6
                 try clear HO_7
                 clear HI195
                 clear HB
                 have HO_6 := n0_
                 have HO_7 := n1_
                 have HI195 := n2_
                 have HB := n3_
                 clear n0_ n1_ n2_ n3_
                 obtain ⟨Ao48, co48, eo48⟩ := Kd.R_slice HO_7.out
                 (first | subst eo48 | (injection eo48 with f1_ f2_ f3_; have f4_ := f1_.symm; have f5_ := f3_.symm; clear f1_ f2_ f3_; subst f4_; subst f5_))
                 have p226 : 0 ≤ (x10_2 : Int) := zX (by first | (with_reducible assumption) | assumption)
                 have q226 : x10_2 < (x7_2.length : Int) := zX (by first | (with_reducible assumption) | assumption)
                 obtain ⟨ad226, e226, hx226_0, hx226_1⟩ := at_T37 (Kd.R_reads' HO_7.out).2.2 x10_2 p226 q226
                 cases e226
                 replace p226 := eq_true p226
                 replace q226 := eq_true q226
                 have p227 : 0 ≤ ((ji38) : Int) := zX (by first | (with_reducible assumption) | assumption)
                 have q227 : (ji38) < (x7_2.length : Int) := zX (by first | (with_reducible assumption) | assumption)
                 obtain ⟨ad227, e227, hx227_0, hx227_1⟩ := at_T37 (Kd.R_reads' HO_7.out).2.2 (ji38) p227 q227
                 obtain rfl : ad226 = ad227 := (by injection e227)
                 replace p227 := eq_true p227
                 replace q227 := eq_true q227
                 refine start_ (n := 12) (S := fun w' => w'.cell? (ad226.add ((x10_2).toNat * 2)) = some (.int .i64 ((rd_T37 x7_2 x10_2).f0)) ∧ w'.cell? ⟨(ad226.add ((x10_2).toNat * 2)).block, (ad226.add ((x10_2).toNat * 2)).off + 1, none⟩ = some (.int .i64 ((rd_T37 x7_2 x10_2).f1)) ∧ w'.cell? (ad226.add (((ji38)).toNat * 2)) = some (.int .i64 ((rd_T37 x7_2 (ji38)).f0)) ∧ w'.cell? ⟨(ad226.add (((ji38)).toNat * 2)).block, (ad226.add (((ji38)).toNat * 2)).off + 1, none⟩ = some (.int .i64 ((rd_T37 x7_2 (ji38)).f1))) (ds := []) #[false, false, false, false, false, false, false, false, false, false, false, false] (by kernel_rfl) rfl rfl ⟨hx226_0, hx226_1, hx227_0, hx227_1⟩ (fun hHeld => ?_); refine with_tabW spec_DrawDedupSamples.tab15 spec_DrawDedupSamples.bits15 (fun HT_ HW_ => ?_)
                 generalize wr.drew = w47 at HO_6 HO_7 HI195 HB hx226_0 hx226_1 hx227_0 hx227_1 hHeld ⊢
                 refine pure_ (i := 0) (N := some 53) (v := ?_) (a' := ?_) #[true, false, false, false, false, false, false, false, false, false, false, false] rfl rfl (any_of HT_.out (by kernel_rfl)) (fun _ _ _ h => h) (Or.inl ⟨by rfl, ?_⟩) ?_ ?_
                 rotate_left
                 ·intro w'
                  go_simp
                  with_reducible rfl
                 rotate_left
                 ·simp only [Act.put, zT, zU, zV, i64_w, i32_w]
                  rfl
                 refine pure_ (i := 1) (N := some 54) (v := ?_) (a' := ?_) #[true, true, false, false, false, false, false, false, false, false, false, false] rfl rfl (any_of HT_.out (by kernel_rfl)) (fun _ _ _ h => h) (Or.inl ⟨by rfl, ?_⟩) ?_ ?_
                 rotate_left
                 ·intro w'
                  go_simp
                  with_reducible rfl
                 rotate_left
                 ·simp only [Act.put, zT, zU, zV, i64_w, i32_w]
                  rfl
                 refine pure_ (i := 2) (N := some 55) (v := ?_) (a' := ?_) #[true, true, true, false, false, false, false, false, false, false, false, false] rfl rfl (any_of HT_.out (by kernel_rfl)) (fun _ _ _ h => h) (Or.inl ⟨by rfl, ?_⟩) ?_ ?_
                 rotate_left
                 ·intro w'
                  go_simp
                  with_reducible rfl
                 rotate_left
                 ·simp only [Act.put, zT, zU, zV, i64_w, i32_w]
                  rfl
                 refine pure_ (i := 3) (N := some 56) (v := ?_) (a' := ?_) #[true, true, true, true, false, false, false, false, false, false, false, false] rfl rfl (any_of HT_.out (by kernel_rfl)) (fun _ _ _ h => h) (Or.inl ⟨by rfl, ?_⟩) ?_ ?_
                 rotate_left
                 ·intro w'
                  go_simp
                  with_reducible rfl
                 rotate_left
                 ·simp only [Act.put, zT, zU, zV, i64_w, i32_w]
                  rfl
                 refine pure_ (i := 5) (N := some 58) (v := ?_) (a' := ?_) #[true, true, true, true, false, true, false, false, false, false, false, false] rfl rfl (any_of HT_.out (by kernel_rfl)) (fun _ _ _ h => h) (Or.inl ⟨by rfl, ?_⟩) ?_ ?_
                 rotate_left
                 ·intro w'
                  go_simp
                  with_reducible rfl
                 rotate_left
                 ·simp only [Act.put, zT, zU, zV, i64_w, i32_w]
                  rfl
                 refine pure_ (i := 6) (N := some 59) (v := ?_) (a' := ?_) #[true, true, true, true, false, true, true, false, false, false, false, false] rfl rfl (any_of HT_.out (by kernel_rfl)) (fun _ _ _ h => h) (Or.inl ⟨by rfl, ?_⟩) ?_ ?_
                 rotate_left
                 ·intro w'
                  go_simp
                  with_reducible rfl
                 rotate_left
                 ·simp only [Act.put, zT, zU, zV, i64_w, i32_w]
                  rfl
                 refine pure_ (i := 7) (N := some 60) (v := ?_) (a' := ?_) #[true, true, true, true, false, true, true, true, false, false, false, false] rfl rfl (any_of HT_.out (by kernel_rfl)) (fun _ _ _ h => h) (Or.inl ⟨by rfl, ?_⟩) ?_ ?_
                 rotate_left
                 ·intro w'
                  go_simp
                  with_reducible rfl
                 rotate_left
                 ·simp only [Act.put, zT, zU, zV, i64_w, i32_w]
                  rfl
                 refine pure_ (i := 8) (N := some 61) (v := ?_) (a' := ?_) #[true, true, true, true, false, true, true, true, true, false, false, false] rfl rfl (any_of HT_.out (by kernel_rfl)) (fun _ _ _ h => h) (Or.inl ⟨by rfl, ?_⟩) ?_ ?_
                 rotate_left
                 ·intro w'
                  go_simp
                  with_reducible rfl
                 rotate_left
                 ·simp only [Act.put, zT, zU, zV, i64_w, i32_w]
                  rfl
                 refine pure_ (i := 9) (N := some 62) (v := ?_) (a' := ?_) #[true, true, true, true, false, true, true, true, true, true, false, false] rfl rfl (any_of HT_.out (by kernel_rfl)) (fun _ _ _ h => h) (Or.inl ⟨by rfl, ?_⟩) ?_ ?_
                 rotate_left
                 ·intro w'
                  go_simp
                  with_reducible rfl
                 rotate_left
                 ·simp only [Act.put, zT, zU, zV, i64_w, i32_w]
                  rfl
                 refine take_ (i := 4) (N := some 57) (v := ?_) (a' := ?_) #[true, true, true, true, true, true, true, true, true, true, false, false] rfl rfl (take_ofW HT_.out HW_.out (by kernel_rfl)) (fun _ _ _ h => h) (Or.inl ⟨by rfl, ?_⟩) hHeld ?_ ?_
                 rotate_left
                 ·rintro w' ⟨s0, s1, s2, s3⟩
                  go_simp
                  with_reducible rfl
                 rotate_left
                 ·simp only [Act.put, zT, zU, zV, i64_w, i32_w]
                  rfl
                 refine take_ (i := 10) (N := some 63) (v := ?_) (a' := ?_) #[true, true, true, true, true, true, true, true, true, true, true, false] rfl rfl (take_ofW HT_.out HW_.out (by kernel_rfl)) (fun _ _ _ h => h) (Or.inl ⟨by rfl, ?_⟩) hHeld ?_ ?_
                 rotate_left
                 ·rintro w' ⟨s0, s1, s2, s3⟩
                  go_simp
                  with_reducible rfl
                 rotate_left
                 ·simp only [Act.put, zT, zU, zV, i64_w, i32_w]
                  rfl
                 refine pure_ (i := 11) (N := some 64) (v := ?_) (a' := ?_) #[true, true, true, true, true, true, true, true, true, true, true, true] rfl rfl (any_of HT_.out (by kernel_rfl)) (fun _ _ _ h => h) (Or.inl ⟨by rfl, ?_⟩) ?_ ?_
                 rotate_left
                 ·intro w'
                  go_simp
                  with_reducible rfl
                 rotate_left
                 ·simp only [Act.put, zT, zU, zV, i64_w, i32_w]
                  rfl
                 refine done_ (done_of HT_.out (by kernel_rfl)) ?_
                 try go_wp2
                 have n0_ := Aside0.mk (zI HO_6.out)
                 have n1_ := Aside0.mk (zI HO_7.out)
                 have n2_ := Aside0.mk (IsS78.drew HI195.out)
                 have n3_ := Aside0.mk (zC HB.out)
                 try clear HO_6
                 try clear HO_7
                 clear HI195
                 clear HB
                 have HO_6 := n0_
                 have HO_7 := n1_
                 have HI195 := n2_
                 have HB := n3_
                 clear n0_ n1_ n2_ n3_
                 have q50 : (x10_2 : Int) ≤ ((x7_2.length : Int) : Int) := zX (by first | (with_reducible assumption) | assumption)
                 obtain ⟨i050, hi050, _, hsz50, _⟩ := info_parts info37
                 have hroom50 : x7_2.length ≤ co48 := (Kd.R_reads' HO_7.out).2.1
                 have hC50 : Kd.C k37 _ (some ad226) x7_2.length x7_2 := (Kd.R_reads' HO_7.out).2.2
                 have hcut50 := cut_to (P := Try.prog) 30 37 .i64 Try.underlying30 hi050 (some ad226) x7_2.length co48 x10_2 (zX (by first | (with_reducible assumption) | assumption)) q50 hroom50
                 have hr50 := Kd.C_take (m := (x10_2 : Int).toNat) hC50 (by omega)
                 have hy50 : y228.length = (x10_2 : Int).toNat := (by rw [Ny228.out, List.length_take]; omega)
                 rw [← Ny228.out] at hr50
                 rw [← hy50] at hcut50
                 have HR231 := Aside0.mk hr50
                 have HC231 := Aside0.mk (show y228.length ≤ co48 from by omega)
                 clear hr50 hC50 hroom50 hi050 hsz50
                 have KY50 := Aside0.mk hy50
                 clear hy50
                 have KL50 := Aside0.mk (show (x10_2 : Int).toNat ≤ x7_2.length from by omega)
                 replace q50 := eq_true q50
                 have q51 : ((ji44) : Int) ≤ ((x7_2.length : Int) : Int) := zX (by first | (with_reducible assumption) | assumption)
                 obtain ⟨i051, hi051, _, hsz51, _⟩ := info_parts info37
                 have hroom51 : x7_2.length ≤ co48 := (Kd.R_reads' HO_7.out).2.1
                 have hC51 : Kd.C k37 _ (some ad226) x7_2.length x7_2 := (Kd.R_reads' HO_7.out).2.2
                 have q051 : (0 : Int) ≤ ((ji44) : Int) := zX (by first | (with_reducible assumption) | assumption)
                 have hcut51 := cut_from (P := Try.prog) 30 37 .i64 Try.underlying30 hi051 2 hsz51 (some ad226) x7_2.length co48 (ji44) q051 q51
                 have hr51 := Kd.C_drop (m := ((ji44) : Int).toNat) (c := co48) hC51 (by omega) hroom51
                 obtain ⟨A51, hA51⟩ : ∃ A1, A1 = (if co48 = ((ji44) : Int).toNat then (some ad226) else ((some ad226) : Option Addr).map (·.add (((ji44) : Int).toNat * 2))) := ⟨_, rfl⟩
                 obtain ⟨c51, hc51⟩ : ∃ c1, c1 = co48 - ((ji44) : Int).toNat := ⟨_, rfl⟩
                 have hy51 : y232.length = x7_2.length - ((ji44) : Int).toNat := (by rw [Ny232.out, List.length_drop] <;> omega)
                 rw [show (x7_2).drop ((ji44) : Int).toNat = y232 from Ny232.out.symm] at hr51
                 replace hr51 : Kd.C k37 _ A51 y232.length y232 := (by rw [hA51]; exact hr51)
                 rw [← hy51, ← hA51, ← hc51] at hcut51
                 have HR235 := Aside0.mk hr51
                 have HC235 := Aside0.mk (show y232.length ≤ c51 from by rw [hy51, hc51]; exact Nat.sub_le_sub_right hroom51 _)
                 clear hr51 hC51 hroom51 hi051 hsz51 hc51
                 have KY51 := Aside0.mk hy51
                 have KA51 := Aside0.mk hA51
                 clear hy51 hA51
                 have KL51 := Aside0.mk (show ((ji44) : Int).toNat ≤ x7_2.length from by omega)
                 replace q51 := eq_true q51
                 obtain ⟨go53, co53, eo53, gb53, gl53, cl53, HG53⟩ := Kd.R_form HO_7.out (by have hj_ : 0 ≤ (x10_2 : Int) := zX (by first | (with_reducible assumption) | assumption); have hl_ : (ji44 : Int) ≤ (x7_2.length : Int) := zX (by first | (with_reducible assumption) | assumption); have hh_ : (x10_2 : Int) ≤ (x7_2.length : Int) := zX (by first | (with_reducible assumption) | assumption); rw [← hji44] at hl_; unfold wrap64 at hl_; omega)
                 (first | cases eo53 | (injection eo53 with ea_ en_ ec_; (first | subst ea_ | (injection ea_ with ea_; subst ea_)); subst ec_; clear en_))
                 have GB53 := Aside0.mk gb53
                 have GG53 := Aside0.mk HG53
                 clear gb53 gl53 HG53
                 (first | simp only [add_plain] at hx226_0 | skip)
                 (first | simp only [add_plain] at hx226_1 | skip)
                 (first | simp only [add_plain] at hx227_0 | skip)
                 (first | simp only [add_plain] at hx227_1 | skip)
                 refine start_ (n := 9) (S := fun w' => True) (ds := []) #[false, false, false, false, false, false, false, false, false] (by kernel_rfl) rfl rfl trivial (fun hHeld => ?_); refine with_tabW spec_DrawDedupSamples.tab16 spec_DrawDedupSamples.bits16 (fun HT_ HW_ => ?_)
                 generalize w47.drew = w49 at HO_6 HO_7 HI195 HB GG53 HR231 HR235 hx226_0 hx226_1 hx227_0 hx227_1 hHeld ⊢
                 refine pure_ (i := 0) (N := some 65) (v := ?_) (a' := ?_) #[true, false, false, false, false, false, false, false, false] rfl rfl (any_of HT_.out (by kernel_rfl)) (fun _ _ _ h => h) (Or.inl ⟨by rfl, ?_⟩) ?_ ?_
                 rotate_left
                 ·intro w'
                  go_simp
                  with_reducible rfl
                 rotate_left
                 ·simp only [Act.put, zT, zU, zV, i64_w, i32_w]
                  rfl
                 refine pure_ (i := 1) (N := some 66) (v := ?_) (a' := ?_) #[true, true, false, false, false, false, false, false, false] rfl rfl (any_of HT_.out (by kernel_rfl)) (fun _ _ _ h => h) (Or.inl ⟨by rfl, ?_⟩) ?_ ?_
                 rotate_left
                 ·intro w'
                  go_simp
                  with_reducible rfl
                 rotate_left
                 ·simp only [Act.put, zT, zU, zV, i64_w, i32_w]
                  rfl
                 refine pure_ (i := 2) (N := some 67) (v := ?_) (a' := ?_) #[true, true, true, false, false, false, false, false, false] rfl rfl (any_of HT_.out (by kernel_rfl)) (fun _ _ _ h => h) (Or.inl ⟨by rfl, ?_⟩) ?_ ?_
                 rotate_left
                 ·intro w'
                  go_simp
                  with_reducible rfl
                 rotate_left
                 ·simp only [Act.put, zT, zU, zV, i64_w, i32_w]
                  rfl
                 refine pure_ (i := 3) (N := some 68) (v := ?_) (a' := ?_) #[true, true, true, true, false, false, false, false, false] rfl rfl (any_of HT_.out (by kernel_rfl)) (fun _ _ _ h => h) (Or.inl ⟨by rfl, ?_⟩) ?_ ?_
                 rotate_left
                 ·intro w'
                  go_simp
                  with_reducible rfl
                 rotate_left
                 ·simp only [Act.put, zT, zU, zV, i64_w, i32_w]
                  rfl
                 refine pure_ (i := 4) (N := some 69) (v := ?_) (a' := ?_) #[true, true, true, true, true, false, false, false, false] rfl rfl (any_of HT_.out (by kernel_rfl)) (fun _ _ _ h => h) (Or.inl ⟨by rfl, ?_⟩) ?_ ?_
                 rotate_left
                 ·intro w'
                  go_simp
                  with_reducible rfl
                 rotate_left
                 ·simp only [Act.put, zT, zU, zV, i64_w, i32_w]
                  rfl
                 refine pure_ (i := 5) (N := some 70) (v := ?_) (a' := ?_) #[true, true, true, true, true, true, false, false, false] rfl rfl (any_of HT_.out (by kernel_rfl)) (fun _ _ _ h => h) (Or.inl ⟨by rfl, ?_⟩) ?_ ?_
                 rotate_left
                 ·intro w'
                  go_simp
                  with_reducible rfl
                 rotate_left
                 ·simp only [Act.put, zT, zU, zV, i64_w, i32_w]
                  rfl
                 refine pure_ (i := 6) (N := some 71) (v := ?_) (a' := ?_) #[true, true, true, true, true, true, true, false, false] rfl rfl (any_of HT_.out (by kernel_rfl)) (fun _ _ _ h => h) (Or.inl ⟨by rfl, ?_⟩) ?_ ?_
                 rotate_left
                 ·intro w'
                  go_simp
                  with_reducible rfl
                 rotate_left
                 ·simp only [Act.put, zT, zU, zV, i64_w, i32_w]
                  rfl
                 refine one_ (i := 7) (N := some 72) #[true, true, true, true, true, true, true, true, false] rfl rfl (one_of HT_.out (by kernel_rfl)) (by decide) (fun K hK => ?_)
                 have hj_ : 0 ≤ (x10_2 : Int) := zX (by first | (with_reducible assumption) | assumption)
                 have hl_ : (ji44 : Int) ≤ (x7_2.length : Int) := zX (by first | (with_reducible assumption) | assumption)
                 have hh_ : (x10_2 : Int) ≤ (x7_2.length : Int) := zX (by first | (with_reducible assumption) | assumption)
                 have hb_ := (Kd.R_reads' HO_7.out).2.2.2.1
                 have h0_ : (0 : Int) ≤ (ji44 : Int) := zX (by first | (with_reducible assumption) | assumption)
                 have hy1_ := KY50.out
                 have hk_ : (ji44 : Int).toNat = y228.length + 1 := (by have hw_ : (ji44 : Int) = x10_2 + 1 := (by have h00_ := h0_; rw [← hji44] at h00_ ⊢; unfold wrap64 at h00_ ⊢; omega); rw [hw_]; omega)
                 refine Kd.R_delete_step k37 (w0 := w) w.heap.size (by rfl) (.tmp 67) (.tmp 71) 30 37 rfl Try.underlying30 (by kernel_rfl) (g := go53) (n := x7_2.length) (c := co48) (k := y228.length) rfl rfl ?hA ?hm (by (with_reducible repeat (first | apply zG | apply zH | apply zI)); exact HO_7.out) ?hk (by repeat (first | (with_reducible first | exact HB.out | apply zA | apply zB | apply zC | refine below_set ?_ (IsS78.ge HI195.out)) | exact HB.out)) (zW (by repeat (first | (with_reducible first | exact HB.out | apply zA | apply zB | apply zC | refine below_set ?_ (IsS78.ge HI195.out)) | exact HB.out))) ?_
                 (case hA => have ha_ := KA51.out; rw [hk_] at ha_; exact ha_)
                 (case hm => have ha_ := KY51.out; omega)
                 (case hk => omega)
                 intro w52 ho hb hg
                 clear hj_ hl_ hh_ hb_ hk_ h0_
                 rw [hy1_, ← Ny236.out] at ho
                 clear hy1_
                 have hn_ : x7_2.length - 1 = y236.length := (by have := (Kd.R_reads' ho).1; omega)
                 rw [hn_] at ho ⊢
                 clear hn_
                 have n0_ := Aside0.mk (Kd.R_after (v := (.slice (some ⟨go53, 0, none⟩) x7_2.length co48)) (v1 := .slice (some ⟨go53, 0, none⟩) y236.length co48) (ok := (fun _ => True)) (by (with_reducible repeat (first | apply zG | apply zH | apply zI)); exact Kd.R_mono HO_6.out (fun _ hk => ⟨trivial, hk⟩)) hg (.inl rfl))
                 have n1_ := Aside0.mk (ho)
                 have n2_ := Aside0.mk (IsS78.grown (by repeat (first | (with_reducible first | exact HI195.out | apply IsS78.alloc | apply IsS78.drewN | apply IsS78.drew | apply IsS78.set_1 | apply IsS78.set_2) | exact HI195.out)) hg (IsS78.own_ne HI195.out HO_7.out (by decide)))
                 have n3_ := Aside0.mk (hb)
                 try clear HO_6
                 try clear HO_7
                 clear HI195
                 clear HB
                 have HO_6 := n0_
                 have HO_7 := n1_
                 have HI195 := n2_
                 have HB := n3_
                 clear n0_ n1_ n2_ n3_
                 clear ho hb hg
                 refine hK.out _ _ trivial (fun hHeld => ?_)
                 clear hK K
                 refine norm_ (a' := ?_) ?_ ?_
                 rotate_left
                 ·show Act.put _ (some 72) _ = _
                  simp only [Act.put, zT, zU, zV, i64_w, i32_w]
                  rfl
                 refine pure_ (i := 8) (N := some 7) (v := ?_) (a' := ?_) #[true, true, true, true, true, true, true, true, true] rfl rfl (any_of HT_.out (by kernel_rfl)) (fun _ _ _ h => h) (Or.inl ⟨by rfl, ?_⟩) ?_ ?_
                 rotate_left
                 ·intro w'
                  go_simp
                  with_reducible rfl
                 rotate_left
                 ·simp only [Act.put, zT, zU, zV, i64_w, i32_w]
                  rfl
                 refine done_ (done_of HT_.out (by kernel_rfl)) ?_
                 try go_wp2
                 go_roundg k2
                 case measure => have := HK1.out; have := HK2.out; omega
                 case rel => exact ⟨(y236), (ji38), (by first | rfl | (simp; done) | (simp only [← hji38] <;> (first | rfl | simp)) | (simp [*]; done)), H', ⟨by have := HK1.out; have := HK2.out; omega⟩, ⟨by (with_reducible repeat (first | apply zG | apply zH | apply zI)); exact Kd.R_mono HO_6.out (fun _ hk => hk.2)⟩, ⟨by (with_reducible repeat (first | apply zG | apply zH | apply zI)); exact HO_7.out⟩, ⟨by repeat (first | (with_reducible first | exact HI195.out | apply IsS78.alloc | apply IsS78.drewN | apply IsS78.drew | apply IsS78.set_1 | apply IsS78.set_2) | exact HI195.out)⟩, ⟨by repeat (first | (with_reducible first | exact HB.out | apply zA | apply zB | apply zC | refine below_set ?_ (IsS78.ge HI195.out)) | exact HB.out)⟩⟩
                ·rw [if_neg c46] at H
                 exact absurd H (by simp)
               ·rw [if_neg c45] at H
                exact absurd H (by simp)
              ·rw [if_neg c43] at H
               exact absurd H (by simp)
             ·rw [if_neg c41] at H
              have c41b0 : decide (((rd_T37 x7_2 x10_2).f0) ≤ ((rd_T37 x7_2 (ji38)).f0)) = false := decide_eq_false c41
              clear c41
              have H' := Aside0.mk H
              clear H
              try go_wp2
              have n0_ := Aside0.mk (zI HO_6.out)
              have n1_ := Aside0.mk (zI HO_7.out)
              have n2_ := Aside0.mk (IsS78.drew HI195.out)
              have n3_ := Aside0.mk (zC HB.out)
              try clear HO_6
              try clear HO_7
              clear HI195
              clear HB
              have HO_6 := n0_
              have HO_7 := n1_
              have HI195 := n2_
              have HB := n3_
              clear n0_ n1_ n2_ n3_
              obtain ⟨Ao55, co55, eo55⟩ := Kd.R_slice HO_7.out
              (first | subst eo55 | (injection eo55 with f1_ f2_ f3_; have f4_ := f1_.symm; have f5_ := f3_.symm; clear f1_ f2_ f3_; subst f4_; subst f5_))
              have p226 : 0 ≤ (x10_2 : Int) := zX (by first | (with_reducible assumption) | assumption)
              have q226 : x10_2 < (x7_2.length : Int) := zX (by first | (with_reducible assumption) | assumption)
              obtain ⟨ad226, e226, hx226_0, hx226_1⟩ := at_T37 (Kd.R_reads' HO_7.out).2.2 x10_2 p226 q226
              cases e226
              replace p226 := eq_true p226
              replace q226 := eq_true q226
              have p227 : 0 ≤ ((ji38) : Int) := zX (by first | (with_reducible assumption) | assumption)
              have q227 : (ji38) < (x7_2.length : Int) := zX (by first | (with_reducible assumption) | assumption)
              obtain ⟨ad227, e227, hx227_0, hx227_1⟩ := at_T37 (Kd.R_reads' HO_7.out).2.2 (ji38) p227 q227
              obtain rfl : ad226 = ad227 := (by injection e227)
              replace p227 := eq_true p227
              replace q227 := eq_true q227
              refine start_ (n := 12) (S := fun w' => w'.cell? (ad226.add ((x10_2).toNat * 2)) = some (.int .i64 ((rd_T37 x7_2 x10_2).f0)) ∧ w'.cell? ⟨(ad226.add ((x10_2).toNat * 2)).block, (ad226.add ((x10_2).toNat * 2)).off + 1, none⟩ = some (.int .i64 ((rd_T37 x7_2 x10_2).f1)) ∧ w'.cell? (ad226.add (((ji38)).toNat * 2)) = some (.int .i64 ((rd_T37 x7_2 (ji38)).f0)) ∧ w'.cell? ⟨(ad226.add (((ji38)).toNat * 2)).block, (ad226.add (((ji38)).toNat * 2)).off + 1, none⟩ = some (.int .i64 ((rd_T37 x7_2 (ji38)).f1))) (ds := []) #[false, false, false, false, false, false, false, false, false, false, false, false] (by kernel_rfl) rfl rfl ⟨hx226_0, hx226_1, hx227_0, hx227_1⟩ (fun hHeld => ?_); refine with_tabW spec_DrawDedupSamples.tab15 spec_DrawDedupSamples.bits15 (fun HT_ HW_ => ?_)
              generalize wr.drew = w54 at HO_6 HO_7 HI195 HB hx226_0 hx226_1 hx227_0 hx227_1 hHeld ⊢
              refine pure_ (i := 0) (N := some 53) (v := ?_) (a' := ?_) #[true, false, false, false, false, false, false, false, false, false, false, false] rfl rfl (any_of HT_.out (by kernel_rfl)) (fun _ _ _ h => h) (Or.inl ⟨by rfl, ?_⟩) ?_ ?_
              rotate_left
              ·intro w'
               go_simp
               with_reducible rfl
              rotate_left
              ·simp only [Act.put, zT, zU, zV, i64_w, i32_w]
               rfl
              refine pure_ (i := 1) (N := some 54) (v := ?_) (a' := ?_) #[true, true, false, false, false, false, false, false, false, false, false, false] rfl rfl (any_of HT_.out (by kernel_rfl)) (fun _ _ _ h => h) (Or.inl ⟨by rfl, ?_⟩) ?_ ?_
              rotate_left
              ·intro w'
               go_simp
               with_reducible rfl
              rotate_left
              ·simp only [Act.put, zT, zU, zV, i64_w, i32_w]
               rfl
              refine pure_ (i := 2) (N := some 55) (v := ?_) (a' := ?_) #[true, true, true, false, false, false, false, false, false, false, false, false] rfl rfl (any_of HT_.out (by kernel_rfl)) (fun _ _ _ h => h) (Or.inl ⟨by rfl, ?_⟩) ?_ ?_
              rotate_left
              ·intro w'
               go_simp
               with_reducible rfl
              rotate_left
              ·simp only [Act.put, zT, zU, zV, i64_w, i32_w]
               rfl
              refine pure_ (i := 3) (N := some 56) (v := ?_) (a' := ?_) #[true, true, true, true, false, false, false, false, false, false, false, false] rfl rfl (any_of HT_.out (by kernel_rfl)) (fun _ _ _ h => h) (Or.inl ⟨by rfl, ?_⟩) ?_ ?_
              rotate_left
              ·intro w'
               go_simp
               with_reducible rfl
              rotate_left
              ·simp only [Act.put, zT, zU, zV, i64_w, i32_w]
               rfl
              refine pure_ (i := 5) (N := some 58) (v := ?_) (a' := ?_) #[true, true, true, true, false, true, false, false, false, false, false, false] rfl rfl (any_of HT_.out (by kernel_rfl)) (fun _ _ _ h => h) (Or.inl ⟨by rfl, ?_⟩) ?_ ?_
              rotate_left
              ·intro w'
               go_simp
               with_reducible rfl
              rotate_left
              ·simp only [Act.put, zT, zU, zV, i64_w, i32_w]
               rfl
              refine pure_ (i := 6) (N := some 59) (v := ?_) (a' := ?_) #[true, true, true, true, false, true, true, false, false, false, false, false] rfl rfl (any_of HT_.out (by kernel_rfl)) (fun _ _ _ h => h) (Or.inl ⟨by rfl, ?_⟩) ?_ ?_
              rotate_left
              ·intro w'
               go_simp
               with_reducible rfl
              rotate_left
              ·simp only [Act.put, zT, zU, zV, i64_w, i32_w]
               rfl
              refine pure_ (i := 7) (N := some 60) (v := ?_) (a' := ?_) #[true, true, true, true, false, true, true, true, false, false, false, false] rfl rfl (any_of HT_.out (by kernel_rfl)) (fun _ _ _ h => h) (Or.inl ⟨by rfl, ?_⟩) ?_ ?_
              rotate_left
              ·intro w'
               go_simp
               with_reducible rfl
              rotate_left
              ·simp only [Act.put, zT, zU, zV, i64_w, i32_w]
               rfl
              refine pure_ (i := 8) (N := some 61) (v := ?_) (a' := ?_) #[true, true, true, true, false, true, true, true, true, false, false, false] rfl rfl (any_of HT_.out (by kernel_rfl)) (fun _ _ _ h => h) (Or.inl ⟨by rfl, ?_⟩) ?_ ?_
              rotate_left
              ·intro w'
               go_simp
               with_reducible rfl
              rotate_left
              ·simp only [Act.put, zT, zU, zV, i64_w, i32_w]
               rfl
              refine pure_ (i := 9) (N := some 62) (v := ?_) (a' := ?_) #[true, true, true, true, false, true, true, true, true, true, false, false] rfl rfl (any_of HT_.out (by kernel_rfl)) (fun _ _ _ h => h) (Or.inl ⟨by rfl, ?_⟩) ?_ ?_
              rotate_left
              ·intro w'
               go_simp
               with_reducible rfl
              rotate_left
              ·simp only [Act.put, zT, zU, zV, i64_w, i32_w]
               rfl
              refine take_ (i := 4) (N := some 57) (v := ?_) (a' := ?_) #[true, true, true, true, true, true, true, true, true, true, false, false] rfl rfl (take_ofW HT_.out HW_.out (by kernel_rfl)) (fun _ _ _ h => h) (Or.inl ⟨by rfl, ?_⟩) hHeld ?_ ?_
              rotate_left
              ·rintro w' ⟨s0, s1, s2, s3⟩
               go_simp
               with_reducible rfl
              rotate_left
              ·simp only [Act.put, zT, zU, zV, i64_w, i32_w]
               rfl
              refine take_ (i := 10) (N := some 63) (v := ?_) (a' := ?_) #[true, true, true, true, true, true, true, true, true, true, true, false] rfl rfl (take_ofW HT_.out HW_.out (by kernel_rfl)) (fun _ _ _ h => h) (Or.inl ⟨by rfl, ?_⟩) hHeld ?_ ?_
              rotate_left
              ·rintro w' ⟨s0, s1, s2, s3⟩
               go_simp
               with_reducible rfl
              rotate_left
              ·simp only [Act.put, zT, zU, zV, i64_w, i32_w]
               rfl
              refine pure_ (i := 11) (N := some 64) (v := ?_) (a' := ?_) #[true, true, true, true, true, true, true, true, true, true, true, true] rfl rfl (any_of HT_.out (by kernel_rfl)) (fun _ _ _ h => h) (Or.inl ⟨by rfl, ?_⟩) ?_ ?_
              rotate_left
              ·intro w'
               go_simp
               with_reducible rfl
              rotate_left
              ·simp only [Act.put, zT, zU, zV, i64_w, i32_w]
               rfl
              refine done_ (done_of HT_.out (by kernel_rfl)) ?_
              try go_wp2
              go_roundg k2
              case measure => have := HK1.out; have := HK2.out; omega
              case rel => exact ⟨(x7_2), (ji38), (by first | rfl | (simp; done) | (simp only [← hji38] <;> (first | rfl | simp)) | (simp [*]; done)), H', ⟨by have := HK1.out; have := HK2.out; omega⟩, ⟨by (with_reducible repeat (first | apply zG | apply zH | apply zI)); exact HO_6.out⟩, ⟨by (with_reducible repeat (first | apply zG | apply zH | apply zI)); exact HO_7.out⟩, ⟨by repeat (first | (with_reducible first | exact HI195.out | apply IsS78.alloc | apply IsS78.drewN | apply IsS78.drew | apply IsS78.set_1 | apply IsS78.set_2) | exact HI195.out)⟩, ⟨by repeat (first | (with_reducible first | exact HB.out | apply zA | apply zB | apply zC | refine below_set ?_ (IsS78.ge HI195.out)) | exact HB.out)⟩⟩
            ·rw [if_neg c40] at H
             exact absurd H (by simp)
           ·rw [if_neg c39] at H
            exact absurd H (by simp)
          ·rw [if_neg c37] at H
           exact absurd H (by simp)
         ·rw [if_neg c36] at H
          exact absurd H (by simp)
        ·rw [if_neg c35] at H
         have c35b0 : decide (0 < x10_2) = false := decide_eq_false c35
         clear c35
         have H' := Aside0.mk H
         clear H
         go_wp2
         go_meet
         case rel => exact ⟨_, (x7_2), (x196001_1), (x196002_1), H', ⟨by have := HK1.out; have := HK2.out; first | omega | exact Nat.le_refl _⟩, ⟨by (with_reducible repeat (first | apply zG | apply zH | apply zI)); exact HO_6.out⟩, ⟨by (with_reducible repeat (first | apply zG | apply zH | apply zI)); exact HO_7.out⟩, ⟨by repeat (first | (with_reducible first | exact HI195.out | apply IsS78.alloc | apply IsS78.drewN | apply IsS78.drew | apply IsS78.set_1 | apply IsS78.set_2) | exact HI195.out)⟩, ⟨by repeat (first | (with_reducible first | exact HB.out | apply zA | apply zB | apply zC | refine below_set ?_ (IsS78.ge HI195.out)) | exact HB.out)⟩⟩
  ·replace c14 := Bool.eq_false_iff.mpr c14
   subst c14
   have H1 : (spec_DrawDedupSamples.j2 k t199 t207 l0 t213 t214) = some (r1, r2, r3) := by rw [if_neg (show ¬ (false = true) by decide)] at H; exact H
   clear H
   have H := H1
   clear H1
   have H' := Aside0.mk H
   clear H
   go_wp2
   go_meet
   case rel => exact ⟨_, (t207), (t213), (t214), H', ⟨by first | omega | exact Nat.le_refl _⟩, ⟨by (with_reducible repeat (first | apply zG | apply zH | apply zI)); exact Kd.R_mono HO201.out (fun _ hk => hk.2)⟩, ⟨by (with_reducible repeat (first | apply zG | apply zH | apply zI)); exact Kd.R_mono HO209.out (fun _ hk => hk.2)⟩, ⟨by repeat (first | (with_reducible first | exact HI195.out | apply IsS78.alloc | apply IsS78.drewN | apply IsS78.drew | apply IsS78.set_1 | apply IsS78.set_2) | exact HI195.out)⟩, ⟨by repeat (first | (with_reducible first | exact HB.out | apply zA | apply zB | apply zC | refine below_set ?_ (IsS78.ge HI195.out)) | exact HB.out)⟩⟩
 case rest =>
  clear HC7
  try clear c1
  try clear c2
  try clear p2
  try clear q2
  try clear hx2
  try clear c3
  try clear c4
  try clear c5
  try clear q5
  try clear p6
  try clear c12
  try clear c14
  try clear c16
  try clear c16b0
  try clear c17
  try clear c17b0
  try clear c18
  try clear c18b0
  try clear c20
  try clear p21
  try clear q21
  try clear hx21
  try clear c22
  try clear p22
  try clear q22
  try clear hx22
  try clear c26
  try clear c28
  try clear c35
  try clear c35b0
  try clear c36
  try clear c36b0
  try clear c37
  try clear c37b0
  try clear c39
  try clear c39b0
  try clear c40
  try clear c40b0
  try clear c41
  try clear c41b0
  try clear c42
  try clear c42b0
  try clear c43
  try clear c43b0
  try clear c43b1
  try clear c45
  try clear c45b0
  try clear c45b1
  try clear c46
  try clear c46b0
  try clear c46b1
  try clear q50
  try clear c51
  try clear q51
  try clear hcz23_0
  try clear hcz23_1
  try clear hcz29_0
  try clear hcz29_1
  try clear hfz23_0
  try clear hfz23_1
  try clear hfz29_0
  try clear hfz29_1
  try clear hx215_0
  try clear hx215_1
  try clear hx226_0
  try clear hx226_1
  try clear hx227_0
  try clear hx227_1
  try clear p2
  try clear p21
  try clear p215
  try clear p226
  try clear p227
  try clear p6
  try clear q051
  try clear q2
  try clear q21
  try clear q215
  try clear q226
  try clear q227
  try clear q50
  try clear q51
  obtain ⟨kq, x7_6, x196001_6, x196002_6, HA, HJ6, HO_6, HO_7, HI195, HB⟩ := hcut
  cases kq with
  | zero => exact absurd HA.out (by simp [spec_DrawDedupSamples.j2])
  | succ kj6 =>
   have H := HA.out
   clear HA
   simp only [spec_DrawDedupSamples.j2] at H
   replace H := Option.bind_eq_some_iff.mp H
   obtain ⟨⟨t239, t242, t243⟩, A560, H⟩ := H
   replace H : ((spec_l1Cur_oddSamples.f kj6 l0 t242 t243 x7_6).bind fun bt244 => ((spec_l1Cur_pick.f kj6 l0 bt244.2.1 bt244.2.2 40).bind fun bt249 => ((some (([bt249.1, (-1), 1000000, 1000001] : List Int) : List Int)).bind fun y252 => ((spec_l1Cur_rare.f kj6 l0 bt249.2.1 bt249.2.2 4).bind fun bt255 => (if 0 ≤ bt255.1 then (if bt255.1 < (y252.length : Int) then (some (t239, bt244.1, rd y252 bt255.1)) else (none)) else (none)))))) = some (r1, r2, r3) := H
   have A56 := Aside0.mk A560
   clear A560
   replace H := Option.bind_eq_some_iff.mp H
   obtain ⟨⟨t244, t247, t248⟩, A570, H⟩ := H
   replace H : ((spec_l1Cur_pick.f kj6 l0 t247 t248 40).bind fun bt249 => ((some (([bt249.1, (-1), 1000000, 1000001] : List Int) : List Int)).bind fun y252 => ((spec_l1Cur_rare.f kj6 l0 bt249.2.1 bt249.2.2 4).bind fun bt255 => (if 0 ≤ bt255.1 then (if bt255.1 < (y252.length : Int) then (some (t239, t244, rd y252 bt255.1)) else (none)) else (none))))) = some (r1, r2, r3) := H
   have A57 := Aside0.mk A570
   clear A570
   replace H := Option.bind_eq_some_iff.mp H
   obtain ⟨⟨t249, t250, t251⟩, A580, H⟩ := H
   replace H : ((some (([t249, (-1), 1000000, 1000001] : List Int) : List Int)).bind fun y252 => ((spec_l1Cur_rare.f kj6 l0 t250 t251 4).bind fun bt255 => (if 0 ≤ bt255.1 then (if bt255.1 < (y252.length : Int) then (some (t239, t244, rd y252 bt255.1)) else (none)) else (none)))) = some (r1, r2, r3) := H
   have A58 := Aside0.mk A580
   clear A580
   obtain ⟨y252, hy252⟩ : ∃ y_ : List Int, y_ = (([t249, (-1), 1000000, 1000001] : List Int)) := ⟨_, rfl⟩
   replace H : ((spec_l1Cur_rare.f kj6 l0 t250 t251 4).bind fun bt255 => (if 0 ≤ bt255.1 then (if bt255.1 < (y252.length : Int) then (some (t239, t244, rd y252 bt255.1)) else (none)) else (none))) = some (r1, r2, r3) := by first | (rw [hy252]; with_reducible exact H) | (have H2_ := (Option.bind_some _ _).symm.trans H; rw [hy252]; with_reducible exact H2_) | (have H2_ := (Option.bind_some _ _).symm.trans H; with_reducible exact H2_) | with_reducible exact H | (rw [hy252]; exact H) | exact H
   have Ny252 := Aside0.mk hy252
   clear hy252
   replace H := Option.bind_eq_some_iff.mp H
   obtain ⟨⟨t255, t256, t257⟩, A590, H⟩ := H
   replace H : (if 0 ≤ t255 then (if t255 < (y252.length : Int) then (some (t239, t244, rd y252 t255)) else (none)) else (none)) = some (r1, r2, r3) := H
   have A59 := Aside0.mk A590
   clear A590
   by_cases c60 : 0 ≤ t255
   ·rw [if_pos c60] at H
    have c60b0 : decide (0 ≤ t255) = true := decide_eq_true c60
    clear c60
    by_cases c61 : t255 < (y252.length : Int)
    ·rw [if_pos c61] at H
     have c61b0 : decide (t255 < (y252.length : Int)) = true := decide_eq_true c61
     clear c61
     simp only [Option.some.injEq, Prod.mk.injEq] at H
     obtain ⟨rfl, rfl, rfl⟩ := H
     obtain ⟨Ao62, co62, eo62⟩ := Kd.R_slice HO_6.out
     subst eo62
     obtain ⟨Ao63, co63, eo63⟩ := Kd.R_slice HO_7.out
     subst eo63
     try go_wp2
     have pi258 : (0 ≤ (t255 : Int)) = True := eq_true (zX (by first | (with_reducible assumption) | assumption))
     have qi258 : (t255 < (y252.length : Int)) = True := eq_true (zX (by first | (with_reducible assumption) | assumption))
     have n0_ := Aside0.mk (zI HO_6.out)
     have n1_ := Aside0.mk (zI HO_7.out)
     have n2_ := Aside0.mk (IsS78.drew HI195.out)
     have n3_ := Aside0.mk (zC HB.out)
     try clear HO_6
     try clear HO_7
     clear HI195
     clear HB
     have HO_6 := n0_
     have HO_7 := n1_
     have HI195 := n2_
     have HB := n3_
     clear n0_ n1_ n2_ n3_
     refine start_ (n := 16) (S := fun w' => True) (ds := []) #[false, false, false, false, false, false, false, false, false, false, false, false, false, false, false, false] (by kernel_rfl) rfl rfl trivial (fun hHeld => ?_); refine with_tabW spec_DrawDedupSamples.tab17 spec_DrawDedupSamples.bits17 (fun HT_ HW_ => ?_)
     generalize wc.drew = w64 at HO_6 HO_7 HI195 HB hHeld ⊢
     refine pure_ (i := 0) (N := some 73) (v := ?_) (a' := ?_) #[true, false, false, false, false, false, false, false, false, false, false, false, false, false, false, false] rfl rfl (any_of HT_.out (by kernel_rfl)) (fun _ _ _ h => h) (Or.inl ⟨by rfl, ?_⟩) ?_ ?_
     rotate_left
     ·intro w'
      go_simp
      with_reducible rfl
     rotate_left
     ·simp only [Act.put, zT, zU, zV, i64_w, i32_w]
      rfl
     refine pure_ (i := 1) (N := some 74) (v := ?_) (a' := ?_) #[true, true, false, false, false, false, false, false, false, false, false, false, false, false, false, false] rfl rfl (any_of HT_.out (by kernel_rfl)) (fun _ _ _ h => h) (Or.inl ⟨by rfl, ?_⟩) ?_ ?_
     rotate_left
     ·intro w'
      go_simp
      with_reducible rfl
     rotate_left
     ·simp only [Act.put, zT, zU, zV, i64_w, i32_w]
      rfl
     refine pure_ (i := 3) (N := some 76) (v := ?_) (a' := ?_) #[true, true, false, true, false, false, false, false, false, false, false, false, false, false, false, false] rfl rfl (any_of HT_.out (by kernel_rfl)) (fun _ _ _ h => h) (Or.inl ⟨by rfl, ?_⟩) ?_ ?_
     rotate_left
     ·intro w'
      go_simp
      with_reducible rfl
     rotate_left
     ·simp only [Act.put, zT, zU, zV, i64_w, i32_w]
      rfl
     refine pure_ (i := 4) (N := some 77) (v := ?_) (a' := ?_) #[true, true, false, true, true, false, false, false, false, false, false, false, false, false, false, false] rfl rfl (any_of HT_.out (by kernel_rfl)) (fun _ _ _ h => h) (Or.inl ⟨by rfl, ?_⟩) ?_ ?_
     rotate_left
     ·intro w'
      go_simp
      with_reducible rfl
     rotate_left
     ·simp only [Act.put, zT, zU, zV, i64_w, i32_w]
      rfl
     refine pure_ (i := 6) (N := some 79) (v := ?_) (a' := ?_) #[true, true, false, true, true, false, true, false, false, false, false, false, false, false, false, false] rfl rfl (any_of HT_.out (by kernel_rfl)) (fun _ _ _ h => h) (Or.inl ⟨by rfl, ?_⟩) ?_ ?_
     rotate_left
     ·intro w'
      go_simp
      with_reducible rfl
     rotate_left
     ·simp only [Act.put, zT, zU, zV, i64_w, i32_w]
      rfl
     refine pure_ (i := 9) (N := some 82) (v := ?_) (a' := ?_) #[true, true, false, true, true, false, true, false, false, true, false, false, false, false, false, false] rfl rfl (any_of HT_.out (by kernel_rfl)) (fun _ _ _ h => h) (Or.inl ⟨by rfl, ?_⟩) ?_ ?_
     rotate_left
     ·intro w'
      go_simp
      with_reducible rfl
     rotate_left
     ·simp only [Act.put, zT, zU, zV, i64_w, i32_w]
      rfl
     refine one_ (i := 2) (N := some 75) #[true, true, true, true, true, false, true, false, false, true, false, false, false, false, false, false] rfl rfl (one_of HT_.out (by kernel_rfl)) (by decide) (fun K hK => ?_)
     refine goes_ Try.func43 (by kernel_rfl) rfl #[.pointer (some ⟨gb195, 0, none⟩), .slice Ao62 t199.length co62] (by rfl) rfl rfl (by (try simp only [List.map_toArray, List.map_cons, List.map_nil]); first | done | rfl | (simp only [List.length_drop, List.length_take]; rfl)) ?_
     with_reducible refine (spec_l1Cur_oddSamples.calls kj6 gb195 l0 x196001_6 x196002_6 (fun k_ => some k_ = (.slice Ao62 t199.length co62 : Value).ownBlock) (.slice Ao62 t199.length co62) t199 t239 t242 t243 w _ ?side1 ?side2 ?side3 A56.out).mono ?_
     (case side1 => repeat (first | (with_reducible first | exact HI195.out | apply IsS78.alloc | apply IsS78.drewN | apply IsS78.drew | apply IsS78.set_1 | apply IsS78.set_2) | exact HI195.out))
     (case side2 => repeat (first | (with_reducible first | exact HB.out | apply zA | apply zB | apply zC | refine below_set ?_ (IsS78.ge HI195.out)) | exact HB.out))
     (case side3 => exact Kd.R_tight rfl HO_6.out)
     rintro e w65 ⟨v240, rfl, ho0, hi, hb, hkp⟩
     refine ⟨_, rfl, ?_⟩
     have n0_ := Aside0.mk (Kd.R_mono (ok' := fun k_ => some k_ ≠ (v240 : Value).ownBlock) (Kd.R_keptB ((IsS78.apart HI195.out HO_7.out (by decide))) hkp (fun k_ hk_ hs_ => Or.elim hs_ (fun hs_ => (hk_.1) hs_) (fun e_ => (hk_.2) e_))) (fun k_ hk_ => fun e_ => Or.elim (ho0.1 k_ e_.symm) (fun hs_ => hk_.2.1 (by first | exact hs_ | exact .inl hs_)) (fun hn_ => Nat.not_le.2 hk_.2.2 hn_)))
     have n1_ := Aside0.mk (hi)
     have n2_ := Aside0.mk (Kd.R_mono (ok' := fun k_ => some k_ ≠ (.slice Ao63 x7_6.length co63 : Value).ownBlock) ho0 (fun k_ hk_ => Or.elim hk_ (fun hs_ => fun e_ => ((((IsS78.apart HI195.out HO_7.out (by decide))).1 k_ e_.symm).1) hs_) (fun hn_ => (Kd.fresh' (Kd.R_lt (by (with_reducible repeat (first | apply zG | apply zH | apply zI)); exact HO_7.out)) k_ hn_))))
     have n3_ := Aside0.mk (hb)
     try clear HO_7
     clear HI195
     clear HB
     try clear HO_6
     have HO_7 := n0_
     have HI195 := n1_
     have HO241 := n2_
     have HB := n3_
     clear n0_ n1_ n2_ n3_
     (try clear hb)
     (try clear hkp)
     (try clear ho0)
     refine hK.out _ _ trivial (fun hHeld => ?_)
     clear hK K
     refine norm_ (a' := ?_) ?_ ?_
     rotate_left
     ·show Act.put _ (some 75) _ = _
      simp only [Act.put, zT, zU, zV, i64_w, i32_w]
      rfl
     refine one_ (i := 5) (N := some 78) #[true, true, true, true, true, true, true, false, false, true, false, false, false, false, false, false] rfl rfl (one_of HT_.out (by kernel_rfl)) (by decide) (fun K hK => ?_)
     refine goes_ Try.func43 (by kernel_rfl) rfl #[.pointer (some ⟨gb195, 0, none⟩), .slice Ao63 x7_6.length co63] (by rfl) rfl rfl (by (try simp only [List.map_toArray, List.map_cons, List.map_nil]); first | done | rfl | (simp only [List.length_drop, List.length_take]; rfl)) ?_
     with_reducible refine (spec_l1Cur_oddSamples.calls kj6 gb195 l0 t242 t243 (fun k_ => some k_ = (.slice Ao63 x7_6.length co63 : Value).ownBlock) (.slice Ao63 x7_6.length co63) x7_6 t244 t247 t248 w _ ?side1 ?side2 ?side3 A57.out).mono ?_
     (case side1 => repeat (first | (with_reducible first | exact HI195.out | apply IsS78.alloc | apply IsS78.drewN | apply IsS78.drew | apply IsS78.set_1 | apply IsS78.set_2) | exact HI195.out))
     (case side2 => repeat (first | (with_reducible first | exact HB.out | apply zA | apply zB | apply zC | refine below_set ?_ (IsS78.ge HI195.out)) | exact HB.out))
     (case side3 => exact Kd.R_tight rfl HO_7.out)
     rintro e w66 ⟨v245, rfl, ho0, hi, hb, hkp⟩
     refine ⟨_, rfl, ?_⟩
     have n0_ := Aside0.mk (hi)
     have n1_ := Aside0.mk (Kd.R_mono (ok' := fun k_ => some k_ ≠ (v245 : Value).ownBlock) (Kd.R_keptB ((IsS78.apart HI195.out HO241.out (by decide))) hkp (fun k_ hk_ hs_ => Or.elim hs_ (fun hs_ => (hk_.1) hs_) (fun e_ => (hk_.2) e_))) (fun k_ hk_ => fun e_ => Or.elim (ho0.1 k_ e_.symm) (fun hs_ => hk_.2.1 (by first | exact hs_ | exact .inl hs_)) (fun hn_ => Nat.not_le.2 hk_.2.2 hn_)))
     have n2_ := Aside0.mk (Kd.R_mono (ok' := fun k_ => some k_ ≠ (v240 : Value).ownBlock) ho0 (fun k_ hk_ => Or.elim hk_ (fun hs_ => fun e_ => ((((IsS78.apart HI195.out HO241.out (by decide))).1 k_ e_.symm).1) hs_) (fun hn_ => (Kd.fresh' (Kd.R_lt (by (with_reducible repeat (first | apply zG | apply zH | apply zI)); exact HO241.out)) k_ hn_))))
     have n3_ := Aside0.mk (hb)
     clear HI195
     try clear HO241
     clear HB
     try clear HO_7
     have HI195 := n0_
     have HO241 := n1_
     have HO246 := n2_
     have HB := n3_
     clear n0_ n1_ n2_ n3_
     (try clear hb)
     (try clear hkp)
     (try clear ho0)
     refine hK.out _ _ trivial (fun hHeld => ?_)
     clear hK K
     refine norm_ (a' := ?_) ?_ ?_
     rotate_left
     ·show Act.put _ (some 78) _ = _
      simp only [Act.put, zT, zU, zV, i64_w, i32_w]
      rfl
     refine one_ (i := 7) (N := some 80) #[true, true, true, true, true, true, true, true, false, true, false, false, false, false, false, false] rfl rfl (one_of HT_.out (by kernel_rfl)) (by decide) (fun K hK => ?_)
     refine goes_ Try.func41 (by kernel_rfl) rfl #[.pointer (some ⟨gb195, 0, none⟩), .int .i64 40] (by rfl) rfl rfl (by (try simp only [List.map_toArray, List.map_cons, List.map_nil]); first | done | rfl | (simp only [List.length_drop, List.length_take]; rfl)) ?_
     with_reducible refine (spec_l1Cur_pick.calls kj6 gb195 l0 t247 t248 40 t249 t250 t251 w _ ?side1 ?side2 A58.out).mono ?_
     (case side1 => repeat (first | (with_reducible first | exact HI195.out | apply IsS78.alloc | apply IsS78.drewN | apply IsS78.drew | apply IsS78.set_1 | apply IsS78.set_2) | exact HI195.out))
     (case side2 => repeat (first | (with_reducible first | exact HB.out | apply zA | apply zB | apply zC | refine below_set ?_ (IsS78.ge HI195.out)) | exact HB.out))
     rintro e w67 ⟨rfl, hi, hb, hk⟩
     refine ⟨_, rfl, ?_⟩
     have n0_ := Aside0.mk (Kd.R_mono (Kd.R_keep (IsS78.apart (show IsS78 w _ gb195 l0 t247 t248 from by repeat (first | (with_reducible first | exact HI195.out | apply IsS78.alloc | apply IsS78.drewN | apply IsS78.drew | apply IsS78.set_1 | apply IsS78.set_2) | exact HI195.out)) (by (with_reducible repeat (first | apply zG | apply zH | apply zI)); exact HO241.out) (by decide)) hk (fun _ h => h.2)) (fun _ h => h.1))
     have n1_ := Aside0.mk (Kd.R_mono (Kd.R_keep (IsS78.apart (show IsS78 w _ gb195 l0 t247 t248 from by repeat (first | (with_reducible first | exact HI195.out | apply IsS78.alloc | apply IsS78.drewN | apply IsS78.drew | apply IsS78.set_1 | apply IsS78.set_2) | exact HI195.out)) (by (with_reducible repeat (first | apply zG | apply zH | apply zI)); exact HO246.out) (by decide)) hk (fun _ h => h.2)) (fun _ h => h.1))
     have n2_ := Aside0.mk (hb)
     have n3_ := Aside0.mk (hi)
     try clear HO241
     try clear HO246
     clear HB
     clear HI195
     have HO241 := n0_
     have HO246 := n1_
     have HB := n2_
     have HI195 := n3_
     clear n0_ n1_ n2_ n3_
     (try clear hb)
     (try clear hb2)
     (try clear hk)
     (try clear hi)
     refine hK.out _ _ trivial (fun hHeld => ?_)
     clear hK K
     refine norm_ (a' := ?_) ?_ ?_
     rotate_left
     ·show Act.put _ (some 80) _ = _
      simp only [Act.put, zT, zU, zV, i64_w, i32_w]
      rfl
     refine join_ (σ := Value × Addr) 3 #[true, true, true, true, true, true, true, true, true, true, true, false, false, true, true, false] (fun s_ => [(81, s_.1), (83, .int .i64 t255), (2, v240), (3, v245)]) (fun s_ w' => (Kd.R k37 37 w' w.heap.size (fun k_ => some k_ ≠ (v245 : Value).ownBlock) v240 t239) ∧ (Kd.R k37 37 w' w.heap.size (fun k_ => some k_ ≠ (v240 : Value).ownBlock) v245 t244) ∧ (Kd.R (Kd.int .i64) 3 w' w.heap.size (fun _ => True) s_.1 y252) ∧ (∃ c_, (s_.1 : Value) = .slice (some s_.2) y252.length c_) ∧ (IsS78 w w' gb195 l0 t256 t257) ∧ (Below w.heap.size w w')) ?_ ?_
     rotate_left
     ·intro hCont
      refine two_ (i := 8) (j := 10) (Ni := some 81) (Nj := some 83) #[true, true, true, true, true, true, true, true, true, true, false, false, false, false, false, false] #[true, true, true, true, true, true, true, true, false, true, true, false, false, false, false, false] rfl rfl rfl rfl (two_of HT_.out (by kernel_rfl)) (by decide) (by decide) (fun K hK => ?_) (fun K hK => ?_)
      ·skip
       refine Kd.R_lit_step (Kd.int .i64) _ 3 ?hg (N := 81) ?hd (xs := ([t249, (-1), 1000000, 1000001] : List Int)) (inner := [.int .i64 t249, .int .i64 (-1), .int .i64 1000000, .int .i64 1000001]) (ok := fun _ => True) (okp := fun _ => True) ?hr ?hp (fun _ hk => hk) trivial (Below.refl _ _) (Nat.le_refl _) (by simp) ?_; (case hd => rfl); (case hg => rfl); (case hr => first | (go_simp; done) | (go_simp; rfl)); (case hp => exact (Reps.one (show Kd.M (Kd.int .i64) _ _ _ t249 [.int .i64 t249] from rfl) (Reps.one (show Kd.M (Kd.int .i64) _ _ _ (-1) [.int .i64 (-1)] from rfl) (Reps.one (show Kd.M (Kd.int .i64) _ _ _ 1000000 [.int .i64 1000000] from rfl) (Reps.one (show Kd.M (Kd.int .i64) _ _ _ 1000001 [.int .i64 1000001] from rfl) (Reps.none _ _))))))
       intro v253 w68 ho69 hb hg_ hnew_
       clear hg_ hnew_
       (first | rw [← Ny252.out] at ho69 | (simp only [Int.reduceToNat] at ho69; rw [← Ny252.out] at ho69))
       have n0_ := Aside0.mk (Kd.R_below (by (with_reducible repeat (first | apply zG | apply zH | apply zI)); exact HO241.out) hb)
       have n1_ := Aside0.mk (Kd.R_below (by (with_reducible repeat (first | apply zG | apply zH | apply zI)); exact HO246.out) hb)
       have n2_ := Aside0.mk (Kd.R_lower ho69 (zW (by repeat (first | (with_reducible first | exact HB.out | apply zA | apply zB | apply zC | refine below_set ?_ (IsS78.ge HI195.out)) | exact HB.out))))
       have n3_ := Aside0.mk (IsS78.below (by repeat (first | (with_reducible first | exact HI195.out | apply IsS78.alloc | apply IsS78.drewN | apply IsS78.drew | apply IsS78.set_1 | apply IsS78.set_2) | exact HI195.out)) hb)
       have n4_ := Aside0.mk (below_step (by repeat (first | (with_reducible first | exact HB.out | apply zA | apply zB | apply zC | refine below_set ?_ (IsS78.ge HI195.out)) | exact HB.out)) hb)
       try clear HO241
       try clear HO246
       clear HI195
       clear HB
       have HO241 := n0_
       have HO246 := n1_
       have HO254 := n2_
       have HI195 := n3_
       have HB := n4_
       clear n0_ n1_ n2_ n3_ n4_
       clear hb ho69
       obtain ⟨Ao70, co70, eo70⟩ := Kd.R_slice HO254.out
       subst eo70
       obtain ⟨ado70, fo70, _⟩ := Kd.at_int (Kd.R_reads' HO254.out).2.2 0 (by decide) (by rw [Ny252.out]; simp)
       cases fo70
       refine hK.out _ _ trivial (fun hHeld => ?_)
       clear hK K
       refine norm_ (a' := ?_) ?_ ?_
       rotate_left
       ·show Act.put _ (some 81) _ = _
        simp only [Act.put, zT, zU, zV, i64_w, i32_w]
        rfl
       refine one_ (i := 10) (N := some 83) #[true, true, true, true, true, true, true, true, true, true, true, false, false, false, false, false] rfl rfl (one_of HT_.out (by kernel_rfl)) (by decide) (fun K hK => ?_)
       refine goes_ Try.func44 (by kernel_rfl) rfl #[.pointer (some ⟨gb195, 0, none⟩), .int .i64 4] (by rfl) rfl rfl (by (try simp only [List.map_toArray, List.map_cons, List.map_nil]); first | done | rfl | (simp only [List.length_drop, List.length_take]; rfl)) ?_
       with_reducible refine (spec_l1Cur_rare.calls kj6 gb195 l0 t250 t251 4 t255 t256 t257 w _ ?side1 ?side2 A59.out).mono ?_
       (case side1 => repeat (first | (with_reducible first | exact HI195.out | apply IsS78.alloc | apply IsS78.drewN | apply IsS78.drew | apply IsS78.set_1 | apply IsS78.set_2) | exact HI195.out))
       (case side2 => repeat (first | (with_reducible first | exact HB.out | apply zA | apply zB | apply zC | refine below_set ?_ (IsS78.ge HI195.out)) | exact HB.out))
       rintro e w71 ⟨rfl, hi, hb, hk⟩
       refine ⟨_, rfl, ?_⟩
       have n0_ := Aside0.mk (Kd.R_mono (Kd.R_keep (IsS78.apart (show IsS78 w _ gb195 l0 t250 t251 from by repeat (first | (with_reducible first | exact HI195.out | apply IsS78.alloc | apply IsS78.drewN | apply IsS78.drew | apply IsS78.set_1 | apply IsS78.set_2) | exact HI195.out)) (by (with_reducible repeat (first | apply zG | apply zH | apply zI)); exact HO241.out) (by decide)) hk (fun _ h => h.2)) (fun _ h => h.1))
       have n1_ := Aside0.mk (Kd.R_mono (Kd.R_keep (IsS78.apart (show IsS78 w _ gb195 l0 t250 t251 from by repeat (first | (with_reducible first | exact HI195.out | apply IsS78.alloc | apply IsS78.drewN | apply IsS78.drew | apply IsS78.set_1 | apply IsS78.set_2) | exact HI195.out)) (by (with_reducible repeat (first | apply zG | apply zH | apply zI)); exact HO246.out) (by decide)) hk (fun _ h => h.2)) (fun _ h => h.1))
       have n2_ := Aside0.mk (Kd.R_mono (Kd.R_keep (IsS78.apart (show IsS78 w _ gb195 l0 t250 t251 from by repeat (first | (with_reducible first | exact HI195.out | apply IsS78.alloc | apply IsS78.drewN | apply IsS78.drew | apply IsS78.set_1 | apply IsS78.set_2) | exact HI195.out)) (by (with_reducible repeat (first | apply zG | apply zH | apply zI)); exact HO254.out) (by decide)) hk (fun _ h => h.2)) (fun _ h => h.1))
       have n3_ := Aside0.mk (hb)
       have n4_ := Aside0.mk (hi)
       try clear HO241
       try clear HO246
       try clear HO254
       clear HB
       clear HI195
       have HO241 := n0_
       have HO246 := n1_
       have HO254 := n2_
       have HB := n3_
       have HI195 := n4_
       clear n0_ n1_ n2_ n3_ n4_
       (try clear hb)
       (try clear hb2)
       (try clear hk)
       (try clear hi)
       refine hK.out _ _ trivial (fun hHeld => ?_)
       clear hK K
       refine norm_ (a' := ?_) ?_ ?_
       rotate_left
       ·show Act.put _ (some 83) _ = _
        simp only [Act.put, zT, zU, zV, i64_w, i32_w]
        rfl
       refine pure_ (i := 13) (N := some 2) (v := ?_) (a' := ?_) #[true, true, true, true, true, true, true, true, true, true, true, false, false, true, false, false] rfl rfl (any_of HT_.out (by kernel_rfl)) (fun _ _ _ h => h) (Or.inl ⟨by rfl, ?_⟩) ?_ ?_
       rotate_left
       ·intro w'
        go_simp
        with_reducible rfl
       rotate_left
       ·simp only [Act.put, zT, zU, zV, i64_w, i32_w]
        rfl
       refine pure_ (i := 14) (N := some 3) (v := ?_) (a' := ?_) #[true, true, true, true, true, true, true, true, true, true, true, false, false, true, true, false] rfl rfl (any_of HT_.out (by kernel_rfl)) (fun _ _ _ h => h) (Or.inl ⟨by rfl, ?_⟩) ?_ ?_
       rotate_left
       ·intro w'
        go_simp
        with_reducible rfl
       rotate_left
       ·simp only [Act.put, zT, zU, zV, i64_w, i32_w]
        rfl
       exact norm_ (by simp only [putAll, Act.put, zT, zU, zV]) (hCont (.slice (some ado70) y252.length co70, ado70) _ ⟨(by (with_reducible repeat (first | apply zG | apply zH | apply zI)); exact HO241.out), (by (with_reducible repeat (first | apply zG | apply zH | apply zI)); exact HO246.out), (by (with_reducible repeat (first | apply zG | apply zH | apply zI)); exact HO254.out), ⟨_, rfl⟩, (by repeat (first | (with_reducible first | exact HI195.out | apply IsS78.alloc | apply IsS78.drewN | apply IsS78.drew | apply IsS78.set_1 | apply IsS78.set_2) | exact HI195.out)), (by repeat (first | (with_reducible first | exact HB.out | apply zA | apply zB | apply zC | refine below_set ?_ (IsS78.ge HI195.out)) | exact HB.out))⟩)
      ·skip
       refine goes_ Try.func44 (by kernel_rfl) rfl #[.pointer (some ⟨gb195, 0, none⟩), .int .i64 4] (by rfl) rfl rfl (by (try simp only [List.map_toArray, List.map_cons, List.map_nil]); first | done | rfl | (simp only [List.length_drop, List.length_take]; rfl)) ?_
       with_reducible refine (spec_l1Cur_rare.calls kj6 gb195 l0 t250 t251 4 t255 t256 t257 w _ ?side1 ?side2 A59.out).mono ?_
       (case side1 => repeat (first | (with_reducible first | exact HI195.out | apply IsS78.alloc | apply IsS78.drewN | apply IsS78.drew | apply IsS78.set_1 | apply IsS78.set_2) | exact HI195.out))
       (case side2 => repeat (first | (with_reducible first | exact HB.out | apply zA | apply zB | apply zC | refine below_set ?_ (IsS78.ge HI195.out)) | exact HB.out))
       rintro e w68 ⟨rfl, hi, hb, hk⟩
       refine ⟨_, rfl, ?_⟩
       have n0_ := Aside0.mk (Kd.R_mono (Kd.R_keep (IsS78.apart (show IsS78 w _ gb195 l0 t250 t251 from by repeat (first | (with_reducible first | exact HI195.out | apply IsS78.alloc | apply IsS78.drewN | apply IsS78.drew | apply IsS78.set_1 | apply IsS78.set_2) | exact HI195.out)) (by (with_reducible repeat (first | apply zG | apply zH | apply zI)); exact HO241.out) (by decide)) hk (fun _ h => h.2)) (fun _ h => h.1))
       have n1_ := Aside0.mk (Kd.R_mono (Kd.R_keep (IsS78.apart (show IsS78 w _ gb195 l0 t250 t251 from by repeat (first | (with_reducible first | exact HI195.out | apply IsS78.alloc | apply IsS78.drewN | apply IsS78.drew | apply IsS78.set_1 | apply IsS78.set_2) | exact HI195.out)) (by (with_reducible repeat (first | apply zG | apply zH | apply zI)); exact HO246.out) (by decide)) hk (fun _ h => h.2)) (fun _ h => h.1))
       have n2_ := Aside0.mk (hb)
       have n3_ := Aside0.mk (hi)
       try clear HO241
       try clear HO246
       clear HB
       clear HI195
       have HO241 := n0_
       have HO246 := n1_
       have HB := n2_
       have HI195 := n3_
       clear n0_ n1_ n2_ n3_
       (try clear hb)
       (try clear hb2)
       (try clear hk)
       (try clear hi)
       refine hK.out _ _ trivial (fun hHeld => ?_)
       clear hK K
       refine norm_ (a' := ?_) ?_ ?_
       rotate_left
       ·show Act.put _ (some 83) _ = _
        simp only [Act.put, zT, zU, zV, i64_w, i32_w]
        rfl
       refine pure_ (i := 13) (N := some 2) (v := ?_) (a' := ?_) #[true, true, true, true, true, true, true, true, false, true, true, false, false, true, false, false] rfl rfl (any_of HT_.out (by kernel_rfl)) (fun _ _ _ h => h) (Or.inl ⟨by rfl, ?_⟩) ?_ ?_
       rotate_left
       ·intro w'
        go_simp
        with_reducible rfl
       rotate_left
       ·simp only [Act.put, zT, zU, zV, i64_w, i32_w]
        rfl
       refine pure_ (i := 14) (N := some 3) (v := ?_) (a' := ?_) #[true, true, true, true, true, true, true, true, false, true, true, false, false, true, true, false] rfl rfl (any_of HT_.out (by kernel_rfl)) (fun _ _ _ h => h) (Or.inl ⟨by rfl, ?_⟩) ?_ ?_
       rotate_left
       ·intro w'
        go_simp
        with_reducible rfl
       rotate_left
       ·simp only [Act.put, zT, zU, zV, i64_w, i32_w]
        rfl
       refine one_ (i := 8) (N := some 81) #[true, true, true, true, true, true, true, true, true, true, true, false, false, true, true, false] rfl rfl (one_of HT_.out (by kernel_rfl)) (by decide) (fun K hK => ?_)
       refine Kd.R_lit_step (Kd.int .i64) _ 3 ?hg (N := 81) ?hd (xs := ([t249, (-1), 1000000, 1000001] : List Int)) (inner := [.int .i64 t249, .int .i64 (-1), .int .i64 1000000, .int .i64 1000001]) (ok := fun _ => True) (okp := fun _ => True) ?hr ?hp (fun _ hk => hk) trivial (Below.refl _ _) (Nat.le_refl _) (by simp) ?_; (case hd => rfl); (case hg => rfl); (case hr => first | (go_simp; done) | (go_simp; rfl)); (case hp => exact (Reps.one (show Kd.M (Kd.int .i64) _ _ _ t249 [.int .i64 t249] from rfl) (Reps.one (show Kd.M (Kd.int .i64) _ _ _ (-1) [.int .i64 (-1)] from rfl) (Reps.one (show Kd.M (Kd.int .i64) _ _ _ 1000000 [.int .i64 1000000] from rfl) (Reps.one (show Kd.M (Kd.int .i64) _ _ _ 1000001 [.int .i64 1000001] from rfl) (Reps.none _ _))))))
       intro v253 w69 ho70 hb hg_ hnew_
       clear hg_ hnew_
       (first | rw [← Ny252.out] at ho70 | (simp only [Int.reduceToNat] at ho70; rw [← Ny252.out] at ho70))
       have n0_ := Aside0.mk (Kd.R_below (by (with_reducible repeat (first | apply zG | apply zH | apply zI)); exact HO241.out) hb)
       have n1_ := Aside0.mk (Kd.R_below (by (with_reducible repeat (first | apply zG | apply zH | apply zI)); exact HO246.out) hb)
       have n2_ := Aside0.mk (Kd.R_lower ho70 (zW (by repeat (first | (with_reducible first | exact HB.out | apply zA | apply zB | apply zC | refine below_set ?_ (IsS78.ge HI195.out)) | exact HB.out))))
       have n3_ := Aside0.mk (IsS78.below (by repeat (first | (with_reducible first | exact HI195.out | apply IsS78.alloc | apply IsS78.drewN | apply IsS78.drew | apply IsS78.set_1 | apply IsS78.set_2) | exact HI195.out)) hb)
       have n4_ := Aside0.mk (below_step (by repeat (first | (with_reducible first | exact HB.out | apply zA | apply zB | apply zC | refine below_set ?_ (IsS78.ge HI195.out)) | exact HB.out)) hb)
       try clear HO241
       try clear HO246
       clear HI195
       clear HB
       have HO241 := n0_
       have HO246 := n1_
       have HO254 := n2_
       have HI195 := n3_
       have HB := n4_
       clear n0_ n1_ n2_ n3_ n4_
       clear hb ho70
       obtain ⟨Ao71, co71, eo71⟩ := Kd.R_slice HO254.out
       subst eo71
       obtain ⟨ado71, fo71, _⟩ := Kd.at_int (Kd.R_reads' HO254.out).2.2 0 (by decide) (by rw [Ny252.out]; simp)
       cases fo71
       refine hK.out _ _ trivial (fun hHeld => ?_)
       clear hK K
       refine norm_ (a' := ?_) ?_ ?_
       rotate_left
       ·show Act.put _ (some 81) _ = _
        simp only [Act.put, zT, zU, zV, i64_w, i32_w]
        rfl
       exact norm_ (by simp only [putAll, Act.put, zT, zU, zV]) (hCont (.slice (some ado71) y252.length co71, ado71) _ ⟨(by (with_reducible repeat (first | apply zG | apply zH | apply zI)); exact HO241.out), (by (with_reducible repeat (first | apply zG | apply zH | apply zI)); exact HO246.out), (by (with_reducible repeat (first | apply zG | apply zH | apply zI)); exact HO254.out), ⟨_, rfl⟩, (by repeat (first | (with_reducible first | exact HI195.out | apply IsS78.alloc | apply IsS78.drewN | apply IsS78.drew | apply IsS78.set_1 | apply IsS78.set_2) | exact HI195.out)), (by repeat (first | (with_reducible first | exact HB.out | apply zA | apply zB | apply zC | refine below_set ?_ (IsS78.ge HI195.out)) | exact HB.out))⟩)
     rintro ⟨v253, adz_v253⟩ w72 ⟨h0_, h1_, h2_, h3_, h4_, h5_⟩
     have n0_ : Aside0 (Kd.R k37 37 w72 w.heap.size (fun k_ => some k_ ≠ (v245 : Value).ownBlock) v240 t239) := ⟨h0_⟩
     have n1_ : Aside0 (Kd.R k37 37 w72 w.heap.size (fun k_ => some k_ ≠ (v240 : Value).ownBlock) v245 t244) := ⟨h1_⟩
     have n2_ : Aside0 (Kd.R (Kd.int .i64) 3 w72 w.heap.size (fun _ => True) v253 y252) := ⟨h2_⟩
     have n3_ : Aside0 (∃ c_, (v253 : Value) = .slice (some adz_v253) y252.length c_) := ⟨h3_⟩
     have n4_ : Aside0 (IsS78 w w72 gb195 l0 t256 t257) := ⟨h4_⟩
     have n5_ : Aside0 (Below w.heap.size w w72) := ⟨h5_⟩
     try clear HO_6
     try clear HO_7
     clear HI195
     clear HB
     clear h0_ h1_ h2_ h3_ h4_ h5_
     have HO241 := n0_
     have HO246 := n1_
     have HO254 := n2_
     have HA_HO254 := n3_
     have HI195 := n4_
     have HB := n5_
     clear n0_ n1_ n2_ n3_ n4_ n5_
     have hHeld := trivial
     obtain ⟨co73, eo73⟩ := HA_HO254.out
     clear HA_HO254
     subst eo73
     refine norm_ (a' := ?_) ?_ ?_
     rotate_left
     ·simp only [putAll, Act.put, zT, zU, zV]
      rfl
     refine pure_ (i := 11) (N := some 84) (v := ?_) (a' := ?_) #[true, true, true, true, true, true, true, true, true, true, true, true, false, true, true, false] rfl rfl (any_of HT_.out (by kernel_rfl)) (fun _ _ _ h => h) (Or.inl ⟨by rfl, ?_⟩) ?_ ?_
     rotate_left
     ·intro w'
      go_simp
      with_reducible rfl
     rotate_left
     ·simp only [Act.put, zT, zU, zV, i64_w, i32_w]
      rfl
     refine one_ (i := 12) (N := some 85) #[true, true, true, true, true, true, true, true, true, true, true, true, true, true, true, false] rfl rfl (one_of HT_.out (by kernel_rfl)) (by decide) (fun K hK => ?_)
     (have p258 : 0 ≤ (t255 : Int) := zX (by first | (with_reducible assumption) | assumption); have q258 : t255 < (y252.length : Int) := zX (by first | (with_reducible assumption) | assumption); obtain ⟨ad258, e258, hx258_0⟩ := Kd.at_int (Kd.R_reads' HO254.out).2.2 t255 p258 q258; obtain rfl : adz_v253 = ad258 := (by injection e258))
     refine value_ (w1 := ?_) (v := ?_) (by rfl) rfl ?_ ?_
     rotate_left 2
     ·go_simp
      constructor
      ·rfl
      ·rfl
     clear hx258_0
     refine hK.out _ _ trivial (fun hHeld => ?_)
     clear hK K
     refine norm_ (a' := ?_) ?_ ?_
     rotate_left
     ·show Act.put _ (some 85) _ = _
      simp only [Act.put, zT, zU, zV, i64_w, i32_w]
      rfl
     refine pure_ (i := 15) (N := some 4) (v := ?_) (a' := ?_) #[true, true, true, true, true, true, true, true, true, true, true, true, true, true, true, true] rfl rfl (any_of HT_.out (by kernel_rfl)) (fun _ _ _ h => h) (Or.inl ⟨by rfl, ?_⟩) ?_ ?_
     rotate_left
     ·intro w'
      go_simp
      with_reducible rfl
     rotate_left
     ·simp only [Act.put, zT, zU, zV, i64_w, i32_w]
      rfl
     refine done_ (done_of HT_.out (by kernel_rfl)) ?_
     try go_wp2
     go_ret3
     exact ⟨_, _, by first | rfl | (simp [errW_none, errW_some] <;> rfl) | (simp [*, errW_none, errW_some] <;> rfl), by (with_reducible repeat (first | apply zG | apply zH | apply zI)); exact HO241.out, by (with_reducible repeat (first | apply zG | apply zH | apply zI)); exact HO246.out, by repeat (first | (with_reducible first | exact HB.out | apply zA | apply zB | apply zC | refine below_set ?_ (IsS78.ge HI195.out)) | exact HB.out)⟩
    ·rw [if_neg c61] at H
     exact absurd H (by simp)
   ·rw [if_neg c60] at H
    exact absurd H (by simp)

end Go.Proofs.Ytogjmchhafiafac.PFnDedup
