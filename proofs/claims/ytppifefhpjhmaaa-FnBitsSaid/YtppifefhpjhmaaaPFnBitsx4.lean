-- Written by a program of this session (xprint.py, over the kit's print).
import Derived.Test.YtppifefhpjhmaaaPFnBitsx0
import Derived.Test.YtppifefhpjhmaaaPFnBitsx1
import Derived.Test.YtppifefhpjhmaaaPFnBitsx2
import Derived.Test.YtppifefhpjhmaaaPFnBitsx3
namespace Go.Proofs.Ytppifefhpjhmaaa.PFnBits
open Go.RowKit Go.Proofs.YtppifefhpjhmaaaW.PrintWords Go.Proofs.YtppifefhpjhmaaaW.PrintLast Go.Proofs.YtppifefhpjhmaaaW.PrintMore Go.Proofs.Ytppifefhpjhmaaa.XWords
attribute [local go_sem] max2_int min2_int max_two min_two max_three min_three max_four min_four   -- for this text's walks alone
set_option linter.unusedVariables false
set_option linter.unusedSimpArgs false

/-! ### spec_DrawAddBits: function 17 -/
def spec_DrawAddBits.j0 : Nat → List Int → Int → Int → List Int → Int → Option (List Int × Int × Int × Int)
 | 0, _, _, _, _, _ => none
 | k + 1, x191000, x191001, x191002, x204000, x204001 => (spec_l1Cur_sized.f k x191000 x191001 x191002).bind fun bt213 => ((spec_l1Cur_pick.f k x191000 bt213.2.1 bt213.2.2 20).bind fun bt216 => ((some (([bt216.1, 64, 63, 65, (-1), 0] : List Int) : List Int)).bind fun y219 => ((spec_l1Cur_rare.f k x191000 bt216.2.1 bt216.2.2 6).bind fun bt222 => (if 0 ≤ bt222.1 then (if bt222.1 < (y219.length : Int) then (some (x204000, x204001, bt213.1, rd y219 bt222.1)) else (none)) else (none)))))
def spec_DrawAddBits.f (k : Nat) (l0 : List Int) : Option (List Int × Int × Int × Int) := (spec_l1Cur_bits.f k l0 0 0 12).bind fun bt191 => ((spec_l1Cur_oddBits.f k l0 bt191.2.2.1 bt191.2.2.2 bt191.1 bt191.2.1).bind fun bt197 => ((spec_l1Cur_one.f k l0 bt197.2.2.1 bt197.2.2.2 20).bind fun bt204 => (if bt204.1 = true then ((spec_l1Cur_fullBits.f k l0 bt204.2.1 bt204.2.2).bind fun bt207 => (spec_DrawAddBits.j0 k l0 bt207.2.2.1 bt207.2.2.2 bt207.1 bt207.2.1)) else (spec_DrawAddBits.j0 k l0 bt204.2.1 bt204.2.2 bt197.1 bt197.2.1))))
theorem spec_DrawAddBits.mono_l : ∀ k, (∀ y0 y1 y2 y3 y4, LeO (spec_DrawAddBits.j0 k y0 y1 y2 y3 y4) (spec_DrawAddBits.j0 (k + 1) y0 y1 y2 y3 y4))
 | 0 => fun _ _ _ _ _ r h => by simp [spec_DrawAddBits.j0] at h
 | k + 1 => by
  have ih0 := spec_DrawAddBits.mono_l k
  ·intro y0 y1 y2 y3 y4
   unfold spec_DrawAddBits.j0
   repeat' first
   | (with_reducible exact ih0 _ _ _ _ _)
   | (with_reducible exact spec_l1Cur_bits.mono _ _ _ _ _)
   | (with_reducible exact spec_l1Cur_fullBits.mono _ _ _ _)
   | (with_reducible exact spec_l1Cur_oddBits.mono _ _ _ _ _ _)
   | (with_reducible exact spec_l1Cur_one.mono _ _ _ _ _)
   | (with_reducible exact spec_l1Cur_pick.mono _ _ _ _ _)
   | (with_reducible exact spec_l1Cur_rare.mono _ _ _ _ _)
   | (with_reducible exact spec_l1Cur_sized.mono _ _ _ _)
   | (with_reducible exact LeO.refl _)
   | (with_reducible exact LeO.none _)
   | (with_reducible refine LeO.ite ?_ ?_)
   | (with_reducible refine LeO.bind ?_ (fun _ => ?_))
   | exact ih0 _ _ _ _ _
   | exact spec_l1Cur_bits.mono _ _ _ _ _
   | exact spec_l1Cur_fullBits.mono _ _ _ _
   | exact spec_l1Cur_oddBits.mono _ _ _ _ _ _
   | exact spec_l1Cur_one.mono _ _ _ _ _
   | exact spec_l1Cur_pick.mono _ _ _ _ _
   | exact spec_l1Cur_rare.mono _ _ _ _ _
   | exact spec_l1Cur_sized.mono _ _ _ _
   | exact LeO.none _
   | refine LeO.ite ?_ ?_
   | refine LeO.bind ?_ (fun _ => ?_)
theorem spec_DrawAddBits.mono : ∀ a0 k, LeO (spec_DrawAddBits.f k a0) (spec_DrawAddBits.f (k + 1) a0) := by
 intro a0 k
 have ih0 := spec_DrawAddBits.mono_l k
 unfold spec_DrawAddBits.f
 repeat' first
   | (with_reducible exact ih0 _ _ _ _ _)
   | (with_reducible exact spec_l1Cur_bits.mono _ _ _ _ _)
   | (with_reducible exact spec_l1Cur_fullBits.mono _ _ _ _)
   | (with_reducible exact spec_l1Cur_oddBits.mono _ _ _ _ _ _)
   | (with_reducible exact spec_l1Cur_one.mono _ _ _ _ _)
   | (with_reducible exact spec_l1Cur_pick.mono _ _ _ _ _)
   | (with_reducible exact spec_l1Cur_rare.mono _ _ _ _ _)
   | (with_reducible exact spec_l1Cur_sized.mono _ _ _ _)
   | (with_reducible exact LeO.refl _)
   | (with_reducible exact LeO.none _)
   | (with_reducible refine LeO.ite ?_ ?_)
   | (with_reducible refine LeO.bind ?_ (fun _ => ?_))
   | exact ih0 _ _ _ _ _
   | exact spec_l1Cur_bits.mono _ _ _ _ _
   | exact spec_l1Cur_fullBits.mono _ _ _ _
   | exact spec_l1Cur_oddBits.mono _ _ _ _ _ _
   | exact spec_l1Cur_one.mono _ _ _ _ _
   | exact spec_l1Cur_pick.mono _ _ _ _ _
   | exact spec_l1Cur_rare.mono _ _ _ _ _
   | exact spec_l1Cur_sized.mono _ _ _ _
   | exact LeO.none _
   | refine LeO.ite ?_ ?_
   | refine LeO.bind ?_ (fun _ => ?_)
def spec_DrawAddBits.T5 : Bool × List (List Nat × List Nat) := (true, [([], []), ([], []), ([1], [1]), ([], []), ([3, 2], [3]), ([4], [4]), ([], []), ([6, 4], [6]), ([5, 7], [5, 7]), ([8], [8]), ([0, 7, 0], [0]), ([2, 10, 0, 1, 2, 10], [2]), ([9, 11, 0, 1, 2, 3, 4, 5, 6, 7, 8, 9, 10, 11], [9])])
def spec_DrawAddBits.B5 : List Nat := [0, 0, 2, 0, 14, 30, 0, 94, 254, 510, 223, 1247, 4095]
theorem spec_DrawAddBits.tab5 : rtab .any (opsOf Try.f17 5) = spec_DrawAddBits.T5 := by kernel_rfl
theorem spec_DrawAddBits.bits5 : waitsOk spec_DrawAddBits.T5.2 spec_DrawAddBits.B5 = true := by kernel_rfl
set_option maxHeartbeats 8000000 in
set_option maxRecDepth 100000 in
theorem spec_DrawAddBits.calls (k : Nat) (A0 : Option Addr) (c0 : Nat) (l0 : List Int) (r1 : List Int) (r2 : Int) (r3 : Int) (r4 : Int) (w : World) (hr0 : Kd.C (Kd.int .u8) w A0 l0.length l0) (hc0 : l0.length ≤ c0) (h : spec_DrawAddBits.f k l0 = some (r1, r2, r3, r4)) :
  Calls Try.prog 17 #[.slice A0 l0.length c0] w fun e w' => ∃ v0_ : Value, e = .returned (.tuple #[.agg #[v0_, .int .i64 r2], .int .i64 r3, .int .i64 r4]) ∧ Kd.R (Kd.int .u8) 5 w' w.heap.size (fun _ => True) v0_ r1 ∧ Below w.heap.size w w' := by
 have hu37 := Try.underlying37
 have hu72 := Try.underlying72
 have HR0 := Aside0.mk hr0
 have HC0 := Aside0.mk hc0
 clear hr0 hc0
 have HB := Aside0.mk (Below.refl w.heap.size w)
 have H : ((spec_l1Cur_bits.f k l0 0 0 12).bind fun bt191 => ((spec_l1Cur_oddBits.f k l0 bt191.2.2.1 bt191.2.2.2 bt191.1 bt191.2.1).bind fun bt197 => ((spec_l1Cur_one.f k l0 bt197.2.2.1 bt197.2.2.2 20).bind fun bt204 => (if bt204.1 = true then ((spec_l1Cur_fullBits.f k l0 bt204.2.1 bt204.2.2).bind fun bt207 => (spec_DrawAddBits.j0 k l0 bt207.2.2.1 bt207.2.2.2 bt207.1 bt207.2.1)) else (spec_DrawAddBits.j0 k l0 bt204.2.1 bt204.2.2 bt197.1 bt197.2.1))))) = some (r1, r2, r3, r4) := h
 clear h
 replace H := Option.bind_eq_some_iff.mp H
 obtain ⟨⟨t191, t194, t195, t196⟩, A20, H⟩ := H
 replace H : ((spec_l1Cur_oddBits.f k l0 t195 t196 t191 t194).bind fun bt197 => ((spec_l1Cur_one.f k l0 bt197.2.2.1 bt197.2.2.2 20).bind fun bt204 => (if bt204.1 = true then ((spec_l1Cur_fullBits.f k l0 bt204.2.1 bt204.2.2).bind fun bt207 => (spec_DrawAddBits.j0 k l0 bt207.2.2.1 bt207.2.2.2 bt207.1 bt207.2.1)) else (spec_DrawAddBits.j0 k l0 bt204.2.1 bt204.2.2 bt197.1 bt197.2.1)))) = some (r1, r2, r3, r4) := H
 have A2 := Aside0.mk A20
 clear A20
 replace H := Option.bind_eq_some_iff.mp H
 obtain ⟨⟨t197, t200, t201, t202⟩, A30, H⟩ := H
 replace H : ((spec_l1Cur_one.f k l0 t201 t202 20).bind fun bt204 => (if bt204.1 = true then ((spec_l1Cur_fullBits.f k l0 bt204.2.1 bt204.2.2).bind fun bt207 => (spec_DrawAddBits.j0 k l0 bt207.2.2.1 bt207.2.2.2 bt207.1 bt207.2.1)) else (spec_DrawAddBits.j0 k l0 bt204.2.1 bt204.2.2 t197 t200))) = some (r1, r2, r3, r4) := H
 have A3 := Aside0.mk A30
 clear A30
 replace H := Option.bind_eq_some_iff.mp H
 obtain ⟨⟨t204, t205, t206⟩, A40, H⟩ := H
 replace H : (if t204 = true then ((spec_l1Cur_fullBits.f k l0 t205 t206).bind fun bt207 => (spec_DrawAddBits.j0 k l0 bt207.2.2.1 bt207.2.2.2 bt207.1 bt207.2.1)) else (spec_DrawAddBits.j0 k l0 t205 t206 t197 t200)) = some (r1, r2, r3, r4) := H
 have A4 := Aside0.mk A40
 clear A40
 have HC5 := Aside0.mk H
 clear H
 go_enter Try.func17, Try.ntmps17
 go_upto_if 15 with (first | ((with_reducible refine gate_dst (N := 2) rfl ?_); refine box_event ?hg (N := 2) ?hd (cs := #[.slice none 0 0, .int .i64 0]) (t := 37) ?hr ?_; (case hd => rfl); (case hg => rfl); (case hr => first | (go_simp; done) | (go_simp; rfl)); intro gb189 hg w6 hbox hb; have n0_ := Aside0.mk (below_step (by repeat (first | (with_reducible first | exact HB.out | apply zA | apply zB | apply zC) | exact HB.out)) hb); have n1_ := Aside0.mk (hbox); have n2_ := Aside0.mk ((by rw [hg]; exact (zW (by repeat (first | (with_reducible first | exact HB.out | apply zA | apply zB | apply zC) | exact HB.out))) : w.heap.size ≤ gb189)); have n3_ := Aside0.mk ((by rw [hg]; exact (zW (by repeat (first | (with_reducible first | exact HB.out | apply zA | apply zB | apply zC) | exact HB.out))) : w.heap.size ≤ gb189)); clear HB; have HB := n0_; have BK189 := n1_; have GW189 := n2_; have GE189 := n3_; clear n0_ n1_ n2_ n3_; clear hb hbox hg) | ((with_reducible refine gate_dst (N := 9) rfl ?_); refine box_event ?hg (N := 9) ?hd (cs := #[.slice A0 l0.length c0, .int .i64 0, .int .u64 0]) (t := 72) ?hr ?_; (case hd => rfl); (case hg => rfl); (case hr => first | (go_simp; done) | (go_simp; rfl)); intro gb190 hg w7 hbox hb; have n0_ := Aside0.mk (blk_below (g := gb189) (o := .cells #[.slice none 0 0, .int .i64 0] 37 (0, 0)) (by (with_reducible repeat (first | refine zE ?_ _ | refine zF ?_ | refine zD ?_ _)); exact BK189.out) hb); have n1_ := Aside0.mk (below_step (by repeat (first | (with_reducible first | exact HB.out | apply zA | apply zB | apply zC | refine below_set ?_ GE189.out) | exact HB.out)) hb); have n2_ := Aside0.mk ((show IsS72 w w7 gb190 l0 0 0 from ⟨_, _, hbox, (by rw [hg]; exact (zW (by repeat (first | (with_reducible first | exact HB.out | apply zA | apply zB | apply zC | refine below_set ?_ GE189.out) | exact HB.out))) : w.heap.size ≤ gb190), HR0.out⟩)); have n3_ := Aside0.mk ((by rw [hg]; exact (zW (by repeat (first | (with_reducible first | exact HB.out | apply zA | apply zB | apply zC | refine below_set ?_ GE189.out) | exact HB.out))) : w.heap.size ≤ gb190)); have n4_ := Aside0.mk ((by rw [hg]; exact (zW (by repeat (first | (with_reducible first | exact HB.out | apply zA | apply zB | apply zC | refine below_set ?_ GE189.out) | exact HB.out))) : w.heap.size ≤ gb190)); have n5_ := Aside0.mk ((by rw [hg]; exact Nat.ne_of_lt (blk_lt (g := gb189) (o := .cells #[.slice none 0 0, .int .i64 0] 37 (0, 0)) (by (with_reducible repeat (first | refine zE ?_ _ | refine zF ?_ | refine zD ?_ _)); exact BK189.out)) : gb189 ≠ gb190)); have n6_ := Aside0.mk ((by rw [hg]; exact Nat.ne_of_gt (blk_lt (g := gb189) (o := .cells #[.slice none 0 0, .int .i64 0] 37 (0, 0)) (by (with_reducible repeat (first | refine zE ?_ _ | refine zF ?_ | refine zD ?_ _)); exact BK189.out)) : gb190 ≠ gb189)); clear BK189; clear HB; have BK189 := n0_; have HB := n1_; have HI190 := n2_; have GW190 := n3_; have GE190 := n4_; have NB189_190 := n5_; have NB190_189 := n6_; clear n0_ n1_ n2_ n3_ n4_ n5_ n6_; clear hb hbox hg) | ((with_reducible refine gate_callee (f := 46) rfl ?_); refine goesL_ (some 12) rfl rfl Try.func46 (by kernel_rfl) rfl #[.pointer (some ⟨gb190, 0, none⟩), .int .i64 12] rfl (by (try simp only [List.map_toArray, List.map_cons, List.map_nil]); first | done | rfl | (simp only [List.length_drop, List.length_take]; rfl)) ?_; (with_reducible refine (spec_l1Cur_bits.calls k gb190 l0 0 0 12 t191 t194 t195 t196 w _ ?side1 ?side2 A2.out).mono ?_); (case side1 => repeat (first | (with_reducible first | exact HI190.out | apply IsS72.alloc | apply IsS72.drewN | apply IsS72.drew | apply IsS72.set_1 | apply IsS72.set_2 | refine IsS72.far ?_ NB190_189.out _) | exact HI190.out)); (case side2 => repeat (first | (with_reducible first | exact HB.out | apply zA | apply zB | apply zC | refine below_set ?_ (IsS72.ge HI190.out) | refine below_set ?_ GE189.out) | exact HB.out)); rintro e w8 ⟨v192, rfl, ho0, hi, hb, hk⟩; refine ⟨_, rfl, ?_⟩; have n0_ := Aside0.mk (KeepBut.blk hk (g' := gb189) (o := .cells #[.slice none 0 0, .int .i64 0] 37 (0, 0)) (by (with_reducible repeat (first | refine zE ?_ _ | refine zF ?_ | refine zD ?_ _)); exact BK189.out) NB189_190.out (by simp)); have n1_ := Aside0.mk (Kd.R_lower ho0 (zW (by repeat (first | (with_reducible first | exact HB.out | apply zA | apply zB | apply zC | refine below_set ?_ (IsS72.ge HI190.out) | refine below_set ?_ GE189.out) | exact HB.out)))); have n2_ := Aside0.mk (hb); have n3_ := Aside0.mk (hi); clear BK189; clear HB; clear HI190; have BK189 := n0_; have HO193 := n1_; have HB := n2_; have HI190 := n3_; clear n0_ n1_ n2_ n3_; (try clear hb); (try clear hb2); (try clear hk); (try clear hi); (try clear ho0); obtain ⟨Ao9, co9, eo9⟩ := Kd.R_slice HO193.out; subst eo9) | ((with_reducible refine gate_callee (f := 45) rfl ?_); refine goesL_ (some 13) rfl rfl Try.func45 (by kernel_rfl) rfl #[.pointer (some ⟨gb190, 0, none⟩), .agg #[.slice Ao9 t191.length co9, .int .i64 t194]] rfl (by (try simp only [List.map_toArray, List.map_cons, List.map_nil]); first | done | rfl | (simp only [List.length_drop, List.length_take]; rfl)) ?_; (with_reducible refine (spec_l1Cur_oddBits.calls k gb190 l0 t195 t196 (fun k_ => some k_ = (.slice Ao9 t191.length co9 : Value).ownBlock) (.slice Ao9 t191.length co9) t191 t194 t197 t200 t201 t202 w _ ?side1 ?side2 ?side3 A3.out).mono ?_); (case side1 => repeat (first | (with_reducible first | exact HI190.out | apply IsS72.alloc | apply IsS72.drewN | apply IsS72.drew | apply IsS72.set_1 | apply IsS72.set_2 | refine IsS72.far ?_ NB190_189.out _) | exact HI190.out)); (case side2 => repeat (first | (with_reducible first | exact HB.out | apply zA | apply zB | apply zC | refine below_set ?_ (IsS72.ge HI190.out) | refine below_set ?_ GE189.out) | exact HB.out)); (case side3 => exact Kd.R_tight rfl HO193.out); rintro e w10 ⟨v198, rfl, ho0, hi, hb, hkp⟩; refine ⟨_, rfl, ?_⟩; have n0_ := Aside0.mk (blk_kept (by (with_reducible repeat (first | refine zE ?_ _ | refine zF ?_ | refine zD ?_ _)); exact BK189.out) hkp (fun hs_ => Or.elim hs_ (fun hs_ => (fun e_ => (Kd.R_ne HO193.out BK189.out (by decide)) e_) hs_) (fun e_ => NB189_190.out e_))); have n1_ := Aside0.mk (hi); have n2_ := Aside0.mk (Kd.R_mono (ok' := fun k_ => True) ho0 (fun k_ hk_ => trivial)); have n3_ := Aside0.mk (hb); clear BK189; clear HI190; clear HB; clear HO193; have BK189 := n0_; have HI190 := n1_; have HO199 := n2_; have HB := n3_; clear n0_ n1_ n2_ n3_; (try clear hb); (try clear hkp); (try clear ho0)) | ((with_reducible refine gate_dst (N := 6) rfl ?_); refine box_event ?hg (N := 6) ?hd (cs := #[.slice none 0 0, .int .i64 0]) (t := 37) ?hr ?_; (case hd => rfl); (case hg => rfl); (case hr => first | (go_simp; done) | (go_simp; rfl)); intro gb203 hg w11 hbox hb; have n0_ := Aside0.mk (Kd.R_below (by (with_reducible repeat (first | apply zG | apply zH | apply zI)); exact HO199.out) hb); have n1_ := Aside0.mk (blk_below (g := gb189) (o := .cells #[.slice none 0 0, .int .i64 0] 37 (0, 0)) (by (with_reducible repeat (first | refine zE ?_ _ | refine zF ?_ | refine zD ?_ _)); exact BK189.out) hb); have n2_ := Aside0.mk (IsS72.below (by repeat (first | (with_reducible first | exact HI190.out | apply IsS72.alloc | apply IsS72.drewN | apply IsS72.drew | apply IsS72.set_1 | apply IsS72.set_2 | refine IsS72.far ?_ NB190_189.out _) | exact HI190.out)) hb); have n3_ := Aside0.mk (below_step (by repeat (first | (with_reducible first | exact HB.out | apply zA | apply zB | apply zC | refine below_set ?_ (IsS72.ge HI190.out) | refine below_set ?_ GE189.out) | exact HB.out)) hb); have n4_ := Aside0.mk (hbox); have n5_ := Aside0.mk ((by rw [hg]; exact (zW (by repeat (first | (with_reducible first | exact HB.out | apply zA | apply zB | apply zC | refine below_set ?_ (IsS72.ge HI190.out) | refine below_set ?_ GE189.out) | exact HB.out))) : w.heap.size ≤ gb203)); have n6_ := Aside0.mk ((by rw [hg]; exact (zW (by repeat (first | (with_reducible first | exact HB.out | apply zA | apply zB | apply zC | refine below_set ?_ (IsS72.ge HI190.out) | refine below_set ?_ GE189.out) | exact HB.out))) : w.heap.size ≤ gb203)); have n7_ := Aside0.mk ((by rw [hg]; exact Nat.ne_of_lt (blk_lt (g := gb189) (o := .cells #[.slice none 0 0, .int .i64 0] 37 (0, 0)) (by (with_reducible repeat (first | refine zE ?_ _ | refine zF ?_ | refine zD ?_ _)); exact BK189.out)) : gb189 ≠ gb203)); have n8_ := Aside0.mk ((by rw [hg]; exact Nat.ne_of_gt (blk_lt (g := gb189) (o := .cells #[.slice none 0 0, .int .i64 0] 37 (0, 0)) (by (with_reducible repeat (first | refine zE ?_ _ | refine zF ?_ | refine zD ?_ _)); exact BK189.out)) : gb203 ≠ gb189)); have n9_ := Aside0.mk ((by rw [hg]; exact Nat.ne_of_lt (IsS72.lt (show IsS72 w _ gb190 l0 t201 t202 from by repeat (first | (with_reducible first | exact HI190.out | apply IsS72.alloc | apply IsS72.drewN | apply IsS72.drew | apply IsS72.set_1 | apply IsS72.set_2 | refine IsS72.far ?_ NB190_189.out _) | exact HI190.out))) : gb190 ≠ gb203)); have n10_ := Aside0.mk ((by rw [hg]; exact Nat.ne_of_gt (IsS72.lt (show IsS72 w _ gb190 l0 t201 t202 from by repeat (first | (with_reducible first | exact HI190.out | apply IsS72.alloc | apply IsS72.drewN | apply IsS72.drew | apply IsS72.set_1 | apply IsS72.set_2 | refine IsS72.far ?_ NB190_189.out _) | exact HI190.out))) : gb203 ≠ gb190)); clear HO199; clear BK189; clear HI190; clear HB; have HO199 := n0_; have BK189 := n1_; have HI190 := n2_; have HB := n3_; have BK203 := n4_; have GW203 := n5_; have GE203 := n6_; have NB189_203 := n7_; have NB203_189 := n8_; have NB190_203 := n9_; have NB203_190 := n10_; clear n0_ n1_ n2_ n3_ n4_ n5_ n6_ n7_ n8_ n9_ n10_; clear hb hbox hg; obtain ⟨Ao12, co12, eo12⟩ := Kd.R_slice HO199.out; subst eo12; have hnb13 := NB203_189.out; have hnc13 := NB189_203.out; have hnb14 := NB203_190.out; have hnc14 := NB190_203.out; have hcz15_0 : w11.cell? ⟨gb203, 0, none⟩ = some (.slice none 0 0) := (zQ BK203.out 0).trans rfl; have hcz15_1 : w11.cell? ⟨gb203, 1, none⟩ = some (.int .i64 0) := (zQ BK203.out 1).trans rfl; have hfz15_0 := blk_frozen BK203.out 0; have hfz15_1 := blk_frozen BK203.out 1) | ((with_reducible refine gate_callee (f := 47) rfl ?_); refine goesL_ (some 15) rfl rfl Try.func47 (by kernel_rfl) rfl #[.pointer (some ⟨gb190, 0, none⟩), .int .i64 20] rfl (by (try simp only [List.map_toArray, List.map_cons, List.map_nil]); first | done | rfl | (simp only [List.length_drop, List.length_take]; rfl)) ?_; (with_reducible refine (spec_l1Cur_one.calls k gb190 l0 t201 t202 20 t204 t205 t206 w _ ?side1 ?side2 A4.out).mono ?_); (case side1 => repeat (first | (with_reducible first | exact HI190.out | apply IsS72.alloc | apply IsS72.drewN | apply IsS72.drew | apply IsS72.set_1 | apply IsS72.set_2 | refine IsS72.far ?_ NB190_189.out _ | refine IsS72.far ?_ NB190_203.out _) | exact HI190.out)); (case side2 => repeat (first | (with_reducible first | exact HB.out | apply zA | apply zB | apply zC | refine below_set ?_ (IsS72.ge HI190.out) | refine below_set ?_ GE189.out | refine below_set ?_ GE203.out) | exact HB.out)); rintro e w16 ⟨rfl, hi, hb, hk⟩; refine ⟨_, rfl, ?_⟩; have n0_ := Aside0.mk (KeepBut.blk hk (g' := gb189) (o := .cells #[.slice none 0 0, .int .i64 0] 37 (0, 0)) (by (with_reducible repeat (first | refine zE ?_ _ | refine zF ?_ | refine zD ?_ _)); refine blk_far ?_ NB189_203.out _; (with_reducible repeat (first | refine zE ?_ _ | refine zF ?_ | refine zD ?_ _)); refine blk_far ?_ NB189_203.out _; (with_reducible repeat (first | refine zE ?_ _ | refine zF ?_ | refine zD ?_ _)); exact BK189.out) NB189_190.out (by simp)); have n1_ := Aside0.mk (Kd.R_mono (Kd.R_keep (IsS72.apart (show IsS72 w _ gb190 l0 t201 t202 from by repeat (first | (with_reducible first | exact HI190.out | apply IsS72.alloc | apply IsS72.drewN | apply IsS72.drew | apply IsS72.set_1 | apply IsS72.set_2 | refine IsS72.far ?_ NB190_189.out _ | refine IsS72.far ?_ NB190_203.out _) | exact HI190.out)) (by (with_reducible repeat (first | apply zG | apply zH | apply zI)); exact (Kd.R_mono (Kd.R_far (p := ⟨gb203, 1, none⟩) (Kd.R_far (p := ⟨gb203, 0, none⟩) (Kd.R_types HO199.out BK203.out (by decide)) (fun _ hk => hk.2) (.slice Ao12 t197.length co12)) (fun _ hk => hk.2) (.int .i64 t200)) (fun _ h_ => h_.1))) (by decide)) hk (fun _ h => h.2)) (fun _ h => h.1)); have n2_ := Aside0.mk (KeepBut.blk hk (g' := gb203) (o := .cells #[.slice Ao12 t197.length co12, .int .i64 t200] 37 (0, 0)) (by (with_reducible repeat (first | refine zE ?_ _ | refine zF ?_ | refine zD ?_ _)); refine blk_put (cs := #[.slice Ao12 t197.length co12, .int .i64 0]) ?_ 1 _ rfl; (with_reducible repeat (first | refine zE ?_ _ | refine zF ?_ | refine zD ?_ _)); refine blk_put (cs := #[.slice none 0 0, .int .i64 0]) ?_ 0 _ rfl; (with_reducible repeat (first | refine zE ?_ _ | refine zF ?_ | refine zD ?_ _)); exact BK203.out) NB203_190.out (by simp)); have n3_ := Aside0.mk (hb); have n4_ := Aside0.mk (hi); clear BK189; clear HO199; clear BK203; clear HB; clear HI190; have BK189 := n0_; have HO199 := n1_; have BK203 := n2_; have HB := n3_; have HI190 := n4_; clear n0_ n1_ n2_ n3_ n4_; (try clear hb); (try clear hb2); (try clear hk); (try clear hi)))
 (try simp only [Act.put, zT, zU, zV])
 go_cut [] (fun wc => ∃ (kq : Nat) (x191001_4 : Int) (x191002_4 : Int) (x204000_4 : List Int) (x204001_4 : Int) (u204000 : Value), Aside0 (spec_DrawAddBits.j0 kq l0 x191001_4 x191002_4 x204000_4 x204001_4 = some (r1, r2, r3, r4)) ∧ Aside0 (kq ≤ k) ∧ Aside0 (Kd.R (Kd.int .u8) 5 wc w.heap.size (fun _ => True) u204000 x204000_4) ∧ Aside0 (wc.heap[gb189]? = some (.cells #[(.slice none 0 0), .int .i64 0] 37 (0, 0))) ∧ Aside0 (wc.heap[gb203]? = some (.cells #[u204000, .int .i64 x204001_4] 37 (0, 0))) ∧ Aside0 (IsS72 w wc gb190 l0 x191001_4 x191002_4) ∧ Aside0 (Below w.heap.size w wc))
 case first =>
  have H := HC5.out
  clear HC5
  by_cases c17 : t204 = true
  ·subst c17
   have H1 : ((spec_l1Cur_fullBits.f k l0 t205 t206).bind fun bt207 => (spec_DrawAddBits.j0 k l0 bt207.2.2.1 bt207.2.2.2 bt207.1 bt207.2.1)) = some (r1, r2, r3, r4) := by rw [if_pos rfl] at H; exact H
   clear H
   have H := H1
   clear H1
   replace H := Option.bind_eq_some_iff.mp H
   obtain ⟨⟨t207, t210, t211, t212⟩, A180, H⟩ := H
   replace H : (spec_DrawAddBits.j0 k l0 t211 t212 t207 t210) = some (r1, r2, r3, r4) := H
   have A18 := Aside0.mk A180
   clear A180
   have H' := Aside0.mk H
   clear H
   go_wp2_with (first | ((with_reducible refine gate_callee (f := 48) rfl ?_); refine goesL_ (some 17) rfl rfl Try.func48 (by kernel_rfl) rfl #[.pointer (some ⟨gb190, 0, none⟩)] rfl (by (try simp only [List.map_toArray, List.map_cons, List.map_nil]); first | done | rfl | (simp only [List.length_drop, List.length_take]; rfl)) ?_; (with_reducible refine (spec_l1Cur_fullBits.calls k gb190 l0 t205 t206 t207 t210 t211 t212 w _ ?side1 ?side2 A18.out).mono ?_); (case side1 => repeat (first | (with_reducible first | exact HI190.out | apply IsS72.alloc | apply IsS72.drewN | apply IsS72.drew | apply IsS72.set_1 | apply IsS72.set_2 | refine IsS72.far ?_ NB190_189.out _ | refine IsS72.far ?_ NB190_203.out _) | exact HI190.out)); (case side2 => repeat (first | (with_reducible first | exact HB.out | apply zA | apply zB | apply zC | refine below_set ?_ (IsS72.ge HI190.out) | refine below_set ?_ GE189.out | refine below_set ?_ GE203.out) | exact HB.out)); rintro e w19 ⟨v208, rfl, ho0, hi, hb, hk⟩; refine ⟨_, rfl, ?_⟩; have n0_ := Aside0.mk (KeepBut.blk hk (g' := gb189) (o := .cells #[.slice none 0 0, .int .i64 0] 37 (0, 0)) (by (with_reducible repeat (first | refine zE ?_ _ | refine zF ?_ | refine zD ?_ _)); exact BK189.out) NB189_190.out (by simp)); have n1_ := Aside0.mk (Kd.R_mono (Kd.R_told (Kd.R_oldK (IsS72.apart (show IsS72 w _ gb190 l0 t205 t206 from by repeat (first | (with_reducible first | exact HI190.out | apply IsS72.alloc | apply IsS72.drewN | apply IsS72.drew | apply IsS72.set_1 | apply IsS72.set_2 | refine IsS72.far ?_ NB190_189.out _ | refine IsS72.far ?_ NB190_203.out _) | exact HI190.out)) (by (with_reducible repeat (first | apply zG | apply zH | apply zI)); exact HO199.out) (by decide)) hk) (Kd.R_base ho0)) (fun _ h_ => h_.1)); have n2_ := Aside0.mk (KeepBut.blk hk (g' := gb203) (o := .cells #[.slice Ao12 t197.length co12, .int .i64 t200] 37 (0, 0)) (by (with_reducible repeat (first | refine zE ?_ _ | refine zF ?_ | refine zD ?_ _)); exact BK203.out) NB203_190.out (by simp)); have n3_ := Aside0.mk (Kd.R_lower (Kd.R_new' ho0 (Kd.R_lt (by (with_reducible repeat (first | apply zG | apply zH | apply zI)); exact HO199.out))) (zW (by repeat (first | (with_reducible first | exact HB.out | apply zA | apply zB | apply zC | refine below_set ?_ (IsS72.ge HI190.out) | refine below_set ?_ GE189.out | refine below_set ?_ GE203.out) | exact HB.out)))); have n4_ := Aside0.mk (hb); have n5_ := Aside0.mk (hi); clear BK189; clear HO199; clear BK203; clear HB; clear HI190; have BK189 := n0_; have HO199 := n1_; have BK203 := n2_; have HO209 := n3_; have HB := n4_; have HI190 := n5_; clear n0_ n1_ n2_ n3_ n4_ n5_; (try clear hb); (try clear hb2); (try clear hk); (try clear hi); (try clear ho0); obtain ⟨Ao20, co20, eo20⟩ := Kd.R_slice HO209.out; subst eo20; have hnb21 := NB203_189.out; have hnc21 := NB189_203.out; have hnb22 := NB203_190.out; have hnc22 := NB190_203.out; have hcz23_0 : w19.cell? ⟨gb203, 0, none⟩ = some (.slice Ao12 t197.length co12) := (zQ BK203.out 0).trans rfl; have hcz23_1 : w19.cell? ⟨gb203, 1, none⟩ = some (.int .i64 t200) := (zQ BK203.out 1).trans rfl; have hfz23_0 := blk_frozen BK203.out 0; have hfz23_1 := blk_frozen BK203.out 1))
   go_meet
   case rel => exact ⟨_, (t211), (t212), (t207), (t210), (.slice Ao20 t207.length co20), H', ⟨by first | omega | exact Nat.le_refl _⟩, ⟨by (with_reducible repeat (first | apply zG | apply zH | apply zI)); exact Kd.R_mono (Kd.R_far (p := ⟨gb203, 1, none⟩) (Kd.R_far (p := ⟨gb203, 0, none⟩) (Kd.R_types HO209.out BK203.out (by decide)) (fun _ hk => hk.2) (.slice Ao20 t207.length co20)) (fun _ hk => hk.2) (.int .i64 t210)) (fun _ hk => trivial)⟩, ⟨by (with_reducible repeat (first | refine zE ?_ _ | refine zF ?_ | refine zD ?_ _)); refine blk_far ?_ NB189_203.out _; (with_reducible repeat (first | refine zE ?_ _ | refine zF ?_ | refine zD ?_ _)); refine blk_far ?_ NB189_203.out _; (with_reducible repeat (first | refine zE ?_ _ | refine zF ?_ | refine zD ?_ _)); exact BK189.out⟩, ⟨by (with_reducible repeat (first | refine zE ?_ _ | refine zF ?_ | refine zD ?_ _)); refine blk_put (cs := #[.slice Ao20 t207.length co20, .int .i64 t200]) ?_ 1 _ rfl; (with_reducible repeat (first | refine zE ?_ _ | refine zF ?_ | refine zD ?_ _)); refine blk_put (cs := #[.slice Ao12 t197.length co12, .int .i64 t200]) ?_ 0 _ rfl; (with_reducible repeat (first | refine zE ?_ _ | refine zF ?_ | refine zD ?_ _)); exact BK203.out⟩, ⟨by repeat (first | (with_reducible first | exact HI190.out | apply IsS72.alloc | apply IsS72.drewN | apply IsS72.drew | apply IsS72.set_1 | apply IsS72.set_2 | refine IsS72.far ?_ NB190_189.out _ | refine IsS72.far ?_ NB190_203.out _) | exact HI190.out)⟩, ⟨by repeat (first | (with_reducible first | exact HB.out | apply zA | apply zB | apply zC | refine below_set ?_ (IsS72.ge HI190.out) | refine below_set ?_ GE189.out | refine below_set ?_ GE203.out) | exact HB.out)⟩⟩
  ·replace c17 := Bool.eq_false_iff.mpr c17
   subst c17
   have H1 : (spec_DrawAddBits.j0 k l0 t205 t206 t197 t200) = some (r1, r2, r3, r4) := by rw [if_neg (show ¬ (false = true) by decide)] at H; exact H
   clear H
   have H := H1
   clear H1
   have H' := Aside0.mk H
   clear H
   go_wp2
   go_meet
   case rel => exact ⟨_, (t205), (t206), (t197), (t200), (.slice Ao12 t197.length co12), H', ⟨by first | omega | exact Nat.le_refl _⟩, ⟨by (with_reducible repeat (first | apply zG | apply zH | apply zI)); exact HO199.out⟩, ⟨by (with_reducible repeat (first | refine zE ?_ _ | refine zF ?_ | refine zD ?_ _)); exact BK189.out⟩, ⟨by (with_reducible repeat (first | refine zE ?_ _ | refine zF ?_ | refine zD ?_ _)); exact BK203.out⟩, ⟨by repeat (first | (with_reducible first | exact HI190.out | apply IsS72.alloc | apply IsS72.drewN | apply IsS72.drew | apply IsS72.set_1 | apply IsS72.set_2 | refine IsS72.far ?_ NB190_189.out _ | refine IsS72.far ?_ NB190_203.out _) | exact HI190.out)⟩, ⟨by repeat (first | (with_reducible first | exact HB.out | apply zA | apply zB | apply zC | refine below_set ?_ (IsS72.ge HI190.out) | refine below_set ?_ GE189.out | refine below_set ?_ GE203.out) | exact HB.out)⟩⟩
 case rest =>
  clear HC5
  try clear c1
  try clear c2
  try clear p2
  try clear c4
  try clear c13
  try clear c14
  try clear c17
  try clear c21
  try clear c22
  try clear hcz15_0
  try clear hcz15_1
  try clear hcz23_0
  try clear hcz23_1
  try clear hfz15_0
  try clear hfz15_1
  try clear hfz23_0
  try clear hfz23_1
  obtain ⟨kq, x191001_4, x191002_4, x204000_4, x204001_4, u204000, HA, HJ4, HO_204000, BK189, BK203, HI190, HB⟩ := hcut
  obtain ⟨AoZ, coZ, eoZ⟩ := Kd.R_slice HO_204000.out
  subst eoZ
  cases kq with
  | zero => exact absurd HA.out (by simp [spec_DrawAddBits.j0])
  | succ kj4 =>
   have H := HA.out
   clear HA
   simp only [spec_DrawAddBits.j0] at H
   replace H := Option.bind_eq_some_iff.mp H
   obtain ⟨⟨t213, t214, t215⟩, A240, H⟩ := H
   replace H : ((spec_l1Cur_pick.f kj4 l0 t214 t215 20).bind fun bt216 => ((some (([bt216.1, 64, 63, 65, (-1), 0] : List Int) : List Int)).bind fun y219 => ((spec_l1Cur_rare.f kj4 l0 bt216.2.1 bt216.2.2 6).bind fun bt222 => (if 0 ≤ bt222.1 then (if bt222.1 < (y219.length : Int) then (some (x204000_4, x204001_4, t213, rd y219 bt222.1)) else (none)) else (none))))) = some (r1, r2, r3, r4) := H
   have A24 := Aside0.mk A240
   clear A240
   replace H := Option.bind_eq_some_iff.mp H
   obtain ⟨⟨t216, t217, t218⟩, A250, H⟩ := H
   replace H : ((some (([t216, 64, 63, 65, (-1), 0] : List Int) : List Int)).bind fun y219 => ((spec_l1Cur_rare.f kj4 l0 t217 t218 6).bind fun bt222 => (if 0 ≤ bt222.1 then (if bt222.1 < (y219.length : Int) then (some (x204000_4, x204001_4, t213, rd y219 bt222.1)) else (none)) else (none)))) = some (r1, r2, r3, r4) := H
   have A25 := Aside0.mk A250
   clear A250
   obtain ⟨y219, hy219⟩ : ∃ y_ : List Int, y_ = (([t216, 64, 63, 65, (-1), 0] : List Int)) := ⟨_, rfl⟩
   replace H : ((spec_l1Cur_rare.f kj4 l0 t217 t218 6).bind fun bt222 => (if 0 ≤ bt222.1 then (if bt222.1 < (y219.length : Int) then (some (x204000_4, x204001_4, t213, rd y219 bt222.1)) else (none)) else (none))) = some (r1, r2, r3, r4) := by first | (rw [hy219]; with_reducible exact H) | (have H2_ := (Option.bind_some _ _).symm.trans H; rw [hy219]; with_reducible exact H2_) | (have H2_ := (Option.bind_some _ _).symm.trans H; with_reducible exact H2_) | with_reducible exact H | (rw [hy219]; exact H) | exact H
   have Ny219 := Aside0.mk hy219
   clear hy219
   replace H := Option.bind_eq_some_iff.mp H
   obtain ⟨⟨t222, t223, t224⟩, A260, H⟩ := H
   replace H : (if 0 ≤ t222 then (if t222 < (y219.length : Int) then (some (x204000_4, x204001_4, t213, rd y219 t222)) else (none)) else (none)) = some (r1, r2, r3, r4) := H
   have A26 := Aside0.mk A260
   clear A260
   by_cases c27 : 0 ≤ t222
   ·rw [if_pos c27] at H
    have c27b0 : decide (0 ≤ t222) = true := decide_eq_true c27
    clear c27
    by_cases c28 : t222 < (y219.length : Int)
    ·rw [if_pos c28] at H
     have c28b0 : decide (t222 < (y219.length : Int)) = true := decide_eq_true c28
     clear c28
     simp only [Option.some.injEq, Prod.mk.injEq] at H
     obtain ⟨rfl, rfl, rfl, rfl⟩ := H
     try go_wp2
     have pi225 : (0 ≤ (t222 : Int)) = True := eq_true (zX (by first | (with_reducible assumption) | assumption))
     have qi225 : (t222 < (y219.length : Int)) = True := eq_true (zX (by first | (with_reducible assumption) | assumption))
     have n0_ := Aside0.mk (zI HO_204000.out)
     have n1_ := Aside0.mk (zF BK189.out)
     have n2_ := Aside0.mk (zF BK203.out)
     have n3_ := Aside0.mk (IsS72.drew HI190.out)
     have n4_ := Aside0.mk (zC HB.out)
     try clear HO_204000
     clear BK189
     clear BK203
     clear HI190
     clear HB
     have HO_204000 := n0_
     have BK189 := n1_
     have BK203 := n2_
     have HI190 := n3_
     have HB := n4_
     clear n0_ n1_ n2_ n3_ n4_
     refine start_ (n := 13) (S := fun w' => w'.cell? ⟨gb203, 0, none⟩ = some ((.slice AoZ x204000_4.length coZ)) ∧ w'.cell? ⟨gb203, 1, none⟩ = some (.int .i64 x204001_4)) (ds := []) #[false, false, false, false, false, false, false, false, false, false, false, false, false] (by kernel_rfl) rfl rfl ⟨(zQ BK203.out 0).trans rfl, (zQ BK203.out 1).trans rfl⟩ (fun hHeld => ?_); refine with_tabW spec_DrawAddBits.tab5 spec_DrawAddBits.bits5 (fun HT_ HW_ => ?_)
     generalize wc.drew = w29 at HO_204000 BK189 BK203 HI190 HB hHeld ⊢
     refine pure_ (i := 1) (N := some 19) (v := ?_) (a' := ?_) #[false, true, false, false, false, false, false, false, false, false, false, false, false] rfl rfl (any_of HT_.out (by kernel_rfl)) (fun _ _ _ h => h) (Or.inl ⟨by rfl, ?_⟩) ?_ ?_
     rotate_left
     ·intro w'
      go_simp
      with_reducible rfl
     rotate_left
     ·simp only [Act.put, zT, zU, zV, i64_w, i32_w]
      rfl
     refine pure_ (i := 3) (N := some 21) (v := ?_) (a' := ?_) #[false, true, false, true, false, false, false, false, false, false, false, false, false] rfl rfl (any_of HT_.out (by kernel_rfl)) (fun _ _ _ h => h) (Or.inl ⟨by rfl, ?_⟩) ?_ ?_
     rotate_left
     ·intro w'
      go_simp
      with_reducible rfl
     rotate_left
     ·simp only [Act.put, zT, zU, zV, i64_w, i32_w]
      rfl
     refine pure_ (i := 6) (N := some 24) (v := ?_) (a' := ?_) #[false, true, false, true, false, false, true, false, false, false, false, false, false] rfl rfl (any_of HT_.out (by kernel_rfl)) (fun _ _ _ h => h) (Or.inl ⟨by rfl, ?_⟩) ?_ ?_
     rotate_left
     ·intro w'
      go_simp
      with_reducible rfl
     rotate_left
     ·simp only [Act.put, zT, zU, zV, i64_w, i32_w]
      rfl
     refine take_ (i := 0) (N := some 18) (v := ?_) (a' := ?_) #[true, true, false, true, false, false, true, false, false, false, false, false, false] rfl rfl (take_ofW HT_.out HW_.out (by kernel_rfl)) (fun _ _ _ h => h) (Or.inl ⟨by rfl, ?_⟩) hHeld ?_ ?_
     rotate_left
     ·rintro w' ⟨s0, s1⟩
      go_simp
      with_reducible rfl
     rotate_left
     ·simp only [Act.put, zT, zU, zV, i64_w, i32_w]
      rfl
     refine one_ (i := 2) (N := some 20) #[true, true, true, true, false, false, true, false, false, false, false, false, false] rfl rfl (one_of HT_.out (by kernel_rfl)) (by decide) (fun K hK => ?_)
     refine goes_ Try.func38 (by kernel_rfl) rfl #[.pointer (some ⟨gb190, 0, none⟩)] (by rfl) rfl rfl (by (try simp only [List.map_toArray, List.map_cons, List.map_nil]); first | done | rfl | (simp only [List.length_drop, List.length_take]; rfl)) ?_
     with_reducible refine (spec_l1Cur_sized.calls kj4 gb190 l0 x191001_4 x191002_4 t213 t214 t215 w _ ?side1 ?side2 A24.out).mono ?_
     (case side1 => repeat (first | (with_reducible first | exact HI190.out | apply IsS72.alloc | apply IsS72.drewN | apply IsS72.drew | apply IsS72.set_1 | apply IsS72.set_2 | refine IsS72.far ?_ NB190_189.out _ | refine IsS72.far ?_ NB190_203.out _) | exact HI190.out))
     (case side2 => repeat (first | (with_reducible first | exact HB.out | apply zA | apply zB | apply zC | refine below_set ?_ (IsS72.ge HI190.out) | refine below_set ?_ GE189.out | refine below_set ?_ GE203.out) | exact HB.out))
     rintro e w30 ⟨rfl, hi, hb, hk⟩
     refine ⟨_, rfl, ?_⟩
     have n0_ := Aside0.mk (Kd.R_mono (Kd.R_keep (IsS72.apart (show IsS72 w _ gb190 l0 x191001_4 x191002_4 from by repeat (first | (with_reducible first | exact HI190.out | apply IsS72.alloc | apply IsS72.drewN | apply IsS72.drew | apply IsS72.set_1 | apply IsS72.set_2 | refine IsS72.far ?_ NB190_189.out _ | refine IsS72.far ?_ NB190_203.out _) | exact HI190.out)) (by (with_reducible repeat (first | apply zG | apply zH | apply zI)); exact HO_204000.out) (by decide)) hk (fun _ h => h.2)) (fun _ h => h.1))
     have n1_ := Aside0.mk (KeepBut.blk hk (g' := gb189) (o := .cells #[.slice none 0 0, .int .i64 0] 37 (0, 0)) (by (with_reducible repeat (first | refine zE ?_ _ | refine zF ?_ | refine zD ?_ _)); exact BK189.out) NB189_190.out (by simp))
     have n2_ := Aside0.mk (KeepBut.blk hk (g' := gb203) (o := .cells #[(.slice AoZ x204000_4.length coZ), .int .i64 x204001_4] 37 (0, 0)) (by (with_reducible repeat (first | refine zE ?_ _ | refine zF ?_ | refine zD ?_ _)); exact BK203.out) NB203_190.out (by simp))
     have n3_ := Aside0.mk (hb)
     have n4_ := Aside0.mk (hi)
     try clear HO_204000
     clear BK189
     clear BK203
     clear HB
     clear HI190
     have HO_204000 := n0_
     have BK189 := n1_
     have BK203 := n2_
     have HB := n3_
     have HI190 := n4_
     clear n0_ n1_ n2_ n3_ n4_
     (try clear hb)
     (try clear hb2)
     (try clear hk)
     (try clear hi)
     refine hK.out _ _ ⟨(zQ BK203.out 0).trans rfl, (zQ BK203.out 1).trans rfl⟩ (fun hHeld => ?_)
     clear hK K
     refine norm_ (a' := ?_) ?_ ?_
     rotate_left
     ·show Act.put _ (some 20) _ = _
      simp only [Act.put, zT, zU, zV, i64_w, i32_w]
      rfl
     refine one_ (i := 4) (N := some 22) #[true, true, true, true, true, false, true, false, false, false, false, false, false] rfl rfl (one_of HT_.out (by kernel_rfl)) (by decide) (fun K hK => ?_)
     refine goes_ Try.func37 (by kernel_rfl) rfl #[.pointer (some ⟨gb190, 0, none⟩), .int .i64 20] (by rfl) rfl rfl (by (try simp only [List.map_toArray, List.map_cons, List.map_nil]); first | done | rfl | (simp only [List.length_drop, List.length_take]; rfl)) ?_
     with_reducible refine (spec_l1Cur_pick.calls kj4 gb190 l0 t214 t215 20 t216 t217 t218 w _ ?side1 ?side2 A25.out).mono ?_
     (case side1 => repeat (first | (with_reducible first | exact HI190.out | apply IsS72.alloc | apply IsS72.drewN | apply IsS72.drew | apply IsS72.set_1 | apply IsS72.set_2 | refine IsS72.far ?_ NB190_189.out _ | refine IsS72.far ?_ NB190_203.out _) | exact HI190.out))
     (case side2 => repeat (first | (with_reducible first | exact HB.out | apply zA | apply zB | apply zC | refine below_set ?_ (IsS72.ge HI190.out) | refine below_set ?_ GE189.out | refine below_set ?_ GE203.out) | exact HB.out))
     rintro e w31 ⟨rfl, hi, hb, hk⟩
     refine ⟨_, rfl, ?_⟩
     have n0_ := Aside0.mk (Kd.R_mono (Kd.R_keep (IsS72.apart (show IsS72 w _ gb190 l0 t214 t215 from by repeat (first | (with_reducible first | exact HI190.out | apply IsS72.alloc | apply IsS72.drewN | apply IsS72.drew | apply IsS72.set_1 | apply IsS72.set_2 | refine IsS72.far ?_ NB190_189.out _ | refine IsS72.far ?_ NB190_203.out _) | exact HI190.out)) (by (with_reducible repeat (first | apply zG | apply zH | apply zI)); exact HO_204000.out) (by decide)) hk (fun _ h => h.2)) (fun _ h => h.1))
     have n1_ := Aside0.mk (KeepBut.blk hk (g' := gb189) (o := .cells #[.slice none 0 0, .int .i64 0] 37 (0, 0)) (by (with_reducible repeat (first | refine zE ?_ _ | refine zF ?_ | refine zD ?_ _)); exact BK189.out) NB189_190.out (by simp))
     have n2_ := Aside0.mk (KeepBut.blk hk (g' := gb203) (o := .cells #[(.slice AoZ x204000_4.length coZ), .int .i64 x204001_4] 37 (0, 0)) (by (with_reducible repeat (first | refine zE ?_ _ | refine zF ?_ | refine zD ?_ _)); exact BK203.out) NB203_190.out (by simp))
     have n3_ := Aside0.mk (hb)
     have n4_ := Aside0.mk (hi)
     try clear HO_204000
     clear BK189
     clear BK203
     clear HB
     clear HI190
     have HO_204000 := n0_
     have BK189 := n1_
     have BK203 := n2_
     have HB := n3_
     have HI190 := n4_
     clear n0_ n1_ n2_ n3_ n4_
     (try clear hb)
     (try clear hb2)
     (try clear hk)
     (try clear hi)
     refine hK.out _ _ ⟨(zQ BK203.out 0).trans rfl, (zQ BK203.out 1).trans rfl⟩ (fun hHeld => ?_)
     clear hK K
     refine norm_ (a' := ?_) ?_ ?_
     rotate_left
     ·show Act.put _ (some 22) _ = _
      simp only [Act.put, zT, zU, zV, i64_w, i32_w]
      rfl
     refine join_ (σ := Value × Addr) 1 #[true, true, true, true, true, true, true, true, true, true, true, true, false] (fun s_ => [(23, s_.1), (25, .int .i64 t222), (27, .int .i64 (rd y219 t222)), (26, .pointer (some (s_.2.add (t222).toNat))), (3, .int .i64 t213)]) (fun s_ w' => (w'.cell? ⟨gb203, 0, none⟩ = some (.slice AoZ x204000_4.length coZ) ∧ w'.cell? ⟨gb203, 1, none⟩ = some (.int .i64 x204001_4)) ∧ (Kd.R (Kd.int .i64) 3 w' w.heap.size (fun _ => True) s_.1 y219) ∧ (Kd.R (Kd.int .u8) 5 w' w.heap.size (fun _ => True) (.slice AoZ x204000_4.length coZ) x204000_4) ∧ (∃ c_, (s_.1 : Value) = .slice (some s_.2) y219.length c_) ∧ (w'.heap[gb189]? = some (.cells #[(.slice AoZ x204000_4.length coZ), .int .i64 x204001_4] 37 (0, 0))) ∧ (w'.heap[gb203]? = some (.cells #[(.slice AoZ x204000_4.length coZ), .int .i64 x204001_4] 37 (0, 0))) ∧ (IsS72 w w' gb190 l0 t223 t224) ∧ (Below w.heap.size w w')) ?_ ?_
     rotate_left
     ·intro hJ5_7_9_10
      refine join_ (σ := Value × Addr) 3 #[true, true, true, true, true, true, true, true, true, true, false, false, false] (fun s_ => [(23, s_.1), (25, .int .i64 t222), (27, .int .i64 (rd y219 t222)), (26, .pointer (some (s_.2.add (t222).toNat)))]) (fun s_ w' => (w'.cell? ⟨gb203, 0, none⟩ = some ((.slice AoZ x204000_4.length coZ)) ∧ w'.cell? ⟨gb203, 1, none⟩ = some (.int .i64 x204001_4)) ∧ (Kd.R (Kd.int .i64) 3 w' w.heap.size (fun _ => True) s_.1 y219) ∧ (Kd.R (Kd.int .u8) 5 w' w.heap.size (fun _ => True) (.slice AoZ x204000_4.length coZ) x204000_4) ∧ (∃ c_, (s_.1 : Value) = .slice (some s_.2) y219.length c_) ∧ (w'.heap[gb189]? = some (.cells #[.slice none 0 0, .int .i64 0] 37 (0, 0))) ∧ (w'.heap[gb203]? = some (.cells #[(.slice AoZ x204000_4.length coZ), .int .i64 x204001_4] 37 (0, 0))) ∧ (IsS72 w w' gb190 l0 t223 t224) ∧ (Below w.heap.size w w')) ?_ ?_
      rotate_left
      ·intro hJ5_7_9
       refine join_ (σ := Value × Addr) 2 #[true, true, true, true, true, true, true, true, true, false, true, true, false] (fun s_ => [(23, s_.1), (25, .int .i64 t222), (26, .pointer (some (s_.2.add (t222).toNat))), (3, .int .i64 t213)]) (fun s_ w' => (w'.cell? ⟨gb203, 0, none⟩ = some (.slice AoZ x204000_4.length coZ) ∧ w'.cell? ⟨gb203, 1, none⟩ = some (.int .i64 x204001_4)) ∧ (Kd.R (Kd.int .i64) 3 w' w.heap.size (fun _ => True) s_.1 y219) ∧ (Kd.R (Kd.int .u8) 5 w' w.heap.size (fun _ => True) (.slice AoZ x204000_4.length coZ) x204000_4) ∧ (∃ c_, (s_.1 : Value) = .slice (some s_.2) y219.length c_) ∧ (w'.heap[gb189]? = some (.cells #[(.slice AoZ x204000_4.length coZ), .int .i64 x204001_4] 37 (0, 0))) ∧ (w'.heap[gb203]? = some (.cells #[(.slice AoZ x204000_4.length coZ), .int .i64 x204001_4] 37 (0, 0))) ∧ (IsS72 w w' gb190 l0 t223 t224) ∧ (Below w.heap.size w w')) ?_ ?_
       rotate_left
       ·intro hJ5_7_10
        refine join_ (σ := Value × Addr) 4 #[true, true, true, true, true, true, true, true, true, false, false, false, false] (fun s_ => [(23, s_.1), (25, .int .i64 t222), (26, .pointer (some (s_.2.add (t222).toNat)))]) (fun s_ w' => (w'.cell? ⟨gb203, 0, none⟩ = some ((.slice AoZ x204000_4.length coZ)) ∧ w'.cell? ⟨gb203, 1, none⟩ = some (.int .i64 x204001_4)) ∧ (Kd.R (Kd.int .i64) 3 w' w.heap.size (fun _ => True) s_.1 y219) ∧ (Kd.R (Kd.int .u8) 5 w' w.heap.size (fun _ => True) (.slice AoZ x204000_4.length coZ) x204000_4) ∧ (∃ c_, (s_.1 : Value) = .slice (some s_.2) y219.length c_) ∧ (w'.heap[gb189]? = some (.cells #[.slice none 0 0, .int .i64 0] 37 (0, 0))) ∧ (w'.heap[gb203]? = some (.cells #[(.slice AoZ x204000_4.length coZ), .int .i64 x204001_4] 37 (0, 0))) ∧ (IsS72 w w' gb190 l0 t223 t224) ∧ (Below w.heap.size w w')) ?_ ?_
        rotate_left
        ·intro hJ5_7
         refine join_ (σ := Unit) 4 #[true, true, true, true, true, false, true, true, false, false, true, true, false] (fun s_ => [(25, .int .i64 t222), (3, .int .i64 t213)]) (fun s_ w' => (w'.cell? ⟨gb203, 0, none⟩ = some ((.slice AoZ x204000_4.length coZ)) ∧ w'.cell? ⟨gb203, 1, none⟩ = some (.int .i64 x204001_4)) ∧ (Kd.R (Kd.int .u8) 5 w' w.heap.size (fun _ => True) (.slice AoZ x204000_4.length coZ) x204000_4) ∧ (w'.heap[gb189]? = some (.cells #[(.slice AoZ x204000_4.length coZ), .int .i64 x204001_4] 37 (0, 0))) ∧ (w'.heap[gb203]? = some (.cells #[(.slice AoZ x204000_4.length coZ), .int .i64 x204001_4] 37 (0, 0))) ∧ (IsS72 w w' gb190 l0 t223 t224) ∧ (Below w.heap.size w w')) ?_ ?_
         rotate_left
         ·intro hJ7_10
          refine join_ (σ := Value × Addr) 6 #[true, true, true, true, true, true, true, false, false, false, false, false, false] (fun s_ => [(23, s_.1)]) (fun s_ w' => (w'.cell? ⟨gb203, 0, none⟩ = some ((.slice AoZ x204000_4.length coZ)) ∧ w'.cell? ⟨gb203, 1, none⟩ = some (.int .i64 x204001_4)) ∧ (Kd.R (Kd.int .i64) 3 w' w.heap.size (fun _ => True) s_.1 y219) ∧ (Kd.R (Kd.int .u8) 5 w' w.heap.size (fun _ => True) (.slice AoZ x204000_4.length coZ) x204000_4) ∧ (∃ c_, (s_.1 : Value) = .slice (some s_.2) y219.length c_) ∧ (w'.heap[gb189]? = some (.cells #[.slice none 0 0, .int .i64 0] 37 (0, 0))) ∧ (w'.heap[gb203]? = some (.cells #[(.slice AoZ x204000_4.length coZ), .int .i64 x204001_4] 37 (0, 0))) ∧ (IsS72 w w' gb190 l0 t217 t218) ∧ (Below w.heap.size w w')) ?_ ?_
          rotate_left
          ·intro hJ5
           refine join_ (σ := Unit) 6 #[true, true, true, true, true, false, true, true, false, false, false, false, false] (fun s_ => [(25, .int .i64 t222)]) (fun s_ w' => (w'.cell? ⟨gb203, 0, none⟩ = some ((.slice AoZ x204000_4.length coZ)) ∧ w'.cell? ⟨gb203, 1, none⟩ = some (.int .i64 x204001_4)) ∧ (Kd.R (Kd.int .u8) 5 w' w.heap.size (fun _ => True) (.slice AoZ x204000_4.length coZ) x204000_4) ∧ (w'.heap[gb189]? = some (.cells #[.slice none 0 0, .int .i64 0] 37 (0, 0))) ∧ (w'.heap[gb203]? = some (.cells #[(.slice AoZ x204000_4.length coZ), .int .i64 x204001_4] 37 (0, 0))) ∧ (IsS72 w w' gb190 l0 t223 t224) ∧ (Below w.heap.size w w')) ?_ ?_
           rotate_left
           ·intro hJ7
            refine two_ (i := 5) (j := 7) (Ni := some 23) (Nj := some 25) #[true, true, true, true, true, true, true, false, false, false, false, false, false] #[true, true, true, true, true, false, true, true, false, false, false, false, false] rfl rfl rfl rfl (two_of HT_.out (by kernel_rfl)) (by decide) (by decide) (fun K hK => ?_) (fun K hK => ?_)
            ·skip
             refine Kd.R_lit_step (Kd.int .i64) _ 3 ?hg (N := 23) ?hd (xs := ([t216, 64, 63, 65, (-1), 0] : List Int)) (inner := [.int .i64 t216, .int .i64 64, .int .i64 63, .int .i64 65, .int .i64 (-1), .int .i64 0]) (ok := fun _ => True) (okp := fun _ => True) ?hr ?hp (fun _ hk => hk) trivial (Below.refl _ _) (Nat.le_refl _) (by simp) ?_; (case hd => rfl); (case hg => rfl); (case hr => first | (go_simp; done) | (go_simp; rfl)); (case hp => exact (Reps.one (show Kd.M (Kd.int .i64) _ _ _ t216 [.int .i64 t216] from rfl) (Reps.one (show Kd.M (Kd.int .i64) _ _ _ 64 [.int .i64 64] from rfl) (Reps.one (show Kd.M (Kd.int .i64) _ _ _ 63 [.int .i64 63] from rfl) (Reps.one (show Kd.M (Kd.int .i64) _ _ _ 65 [.int .i64 65] from rfl) (Reps.one (show Kd.M (Kd.int .i64) _ _ _ (-1) [.int .i64 (-1)] from rfl) (Reps.one (show Kd.M (Kd.int .i64) _ _ _ 0 [.int .i64 0] from rfl) (Reps.none _ _))))))))
             intro v220 w32 ho33 hb hg_ hnew_
             clear hg_ hnew_
             (first | rw [← Ny219.out] at ho33 | (simp only [Int.reduceToNat] at ho33; rw [← Ny219.out] at ho33))
             have n0_ := Aside0.mk (Kd.R_below (by (with_reducible repeat (first | apply zG | apply zH | apply zI)); exact HO_204000.out) hb)
             have n1_ := Aside0.mk (Kd.R_lower ho33 (zW (by repeat (first | (with_reducible first | exact HB.out | apply zA | apply zB | apply zC | refine below_set ?_ (IsS72.ge HI190.out) | refine below_set ?_ GE189.out | refine below_set ?_ GE203.out) | exact HB.out))))
             have n2_ := Aside0.mk (blk_below (g := gb189) (o := .cells #[.slice none 0 0, .int .i64 0] 37 (0, 0)) (by (with_reducible repeat (first | refine zE ?_ _ | refine zF ?_ | refine zD ?_ _)); exact BK189.out) hb)
             have n3_ := Aside0.mk (blk_below (g := gb203) (o := .cells #[(.slice AoZ x204000_4.length coZ), .int .i64 x204001_4] 37 (0, 0)) (by (with_reducible repeat (first | refine zE ?_ _ | refine zF ?_ | refine zD ?_ _)); exact BK203.out) hb)
             have n4_ := Aside0.mk (IsS72.below (by repeat (first | (with_reducible first | exact HI190.out | apply IsS72.alloc | apply IsS72.drewN | apply IsS72.drew | apply IsS72.set_1 | apply IsS72.set_2 | refine IsS72.far ?_ NB190_189.out _ | refine IsS72.far ?_ NB190_203.out _) | exact HI190.out)) hb)
             have n5_ := Aside0.mk (below_step (by repeat (first | (with_reducible first | exact HB.out | apply zA | apply zB | apply zC | refine below_set ?_ (IsS72.ge HI190.out) | refine below_set ?_ GE189.out | refine below_set ?_ GE203.out) | exact HB.out)) hb)
             try clear HO_204000
             clear BK189
             clear BK203
             clear HI190
             clear HB
             have HO_204000 := n0_
             have HO221 := n1_
             have BK189 := n2_
             have BK203 := n3_
             have HI190 := n4_
             have HB := n5_
             clear n0_ n1_ n2_ n3_ n4_ n5_
             clear hb ho33
             obtain ⟨Ao34, co34, eo34⟩ := Kd.R_slice HO221.out
             subst eo34
             obtain ⟨ado34, fo34, _⟩ := Kd.at_int (Kd.R_reads' HO221.out).2.2 0 (by decide) (by rw [Ny219.out]; simp)
             cases fo34
             refine hK.out _ _ ⟨(zQ BK203.out 0).trans rfl, (zQ BK203.out 1).trans rfl⟩ (fun hHeld => ?_)
             clear hK K
             refine norm_ (a' := ?_) ?_ ?_
             rotate_left
             ·show Act.put _ (some 23) _ = _
              simp only [Act.put, zT, zU, zV, i64_w, i32_w]
              rfl
             exact norm_ (by first | (simp only [putAll, Act.put, zT, zU, zV]; done) | (simp only [putAll, Act.put, zT, zU, zV]; rfl)) (hJ5 (.slice (some ado34) y219.length co34, ado34) _ ⟨hHeld, (by (with_reducible repeat (first | apply zG | apply zH | apply zI)); exact HO221.out), (by (with_reducible repeat (first | apply zG | apply zH | apply zI)); exact HO_204000.out), ⟨_, rfl⟩, (by (with_reducible repeat (first | refine zE ?_ _ | refine zF ?_ | refine zD ?_ _)); exact BK189.out), (by (with_reducible repeat (first | refine zE ?_ _ | refine zF ?_ | refine zD ?_ _)); exact BK203.out), (by repeat (first | (with_reducible first | exact HI190.out | apply IsS72.alloc | apply IsS72.drewN | apply IsS72.drew | apply IsS72.set_1 | apply IsS72.set_2 | refine IsS72.far ?_ NB190_189.out _ | refine IsS72.far ?_ NB190_203.out _) | exact HI190.out)), (by repeat (first | (with_reducible first | exact HB.out | apply zA | apply zB | apply zC | refine below_set ?_ (IsS72.ge HI190.out) | refine below_set ?_ GE189.out | refine below_set ?_ GE203.out) | exact HB.out))⟩)
            ·skip
             refine goes_ Try.func49 (by kernel_rfl) rfl #[.pointer (some ⟨gb190, 0, none⟩), .int .i64 6] (by rfl) rfl rfl (by (try simp only [List.map_toArray, List.map_cons, List.map_nil]); first | done | rfl | (simp only [List.length_drop, List.length_take]; rfl)) ?_
             with_reducible refine (spec_l1Cur_rare.calls kj4 gb190 l0 t217 t218 6 t222 t223 t224 w _ ?side1 ?side2 A26.out).mono ?_
             (case side1 => repeat (first | (with_reducible first | exact HI190.out | apply IsS72.alloc | apply IsS72.drewN | apply IsS72.drew | apply IsS72.set_1 | apply IsS72.set_2 | refine IsS72.far ?_ NB190_189.out _ | refine IsS72.far ?_ NB190_203.out _) | exact HI190.out))
             (case side2 => repeat (first | (with_reducible first | exact HB.out | apply zA | apply zB | apply zC | refine below_set ?_ (IsS72.ge HI190.out) | refine below_set ?_ GE189.out | refine below_set ?_ GE203.out) | exact HB.out))
             rintro e w32 ⟨rfl, hi, hb, hk⟩
             refine ⟨_, rfl, ?_⟩
             have n0_ := Aside0.mk (Kd.R_mono (Kd.R_keep (IsS72.apart (show IsS72 w _ gb190 l0 t217 t218 from by repeat (first | (with_reducible first | exact HI190.out | apply IsS72.alloc | apply IsS72.drewN | apply IsS72.drew | apply IsS72.set_1 | apply IsS72.set_2 | refine IsS72.far ?_ NB190_189.out _ | refine IsS72.far ?_ NB190_203.out _) | exact HI190.out)) (by (with_reducible repeat (first | apply zG | apply zH | apply zI)); exact HO_204000.out) (by decide)) hk (fun _ h => h.2)) (fun _ h => h.1))
             have n1_ := Aside0.mk (KeepBut.blk hk (g' := gb189) (o := .cells #[.slice none 0 0, .int .i64 0] 37 (0, 0)) (by (with_reducible repeat (first | refine zE ?_ _ | refine zF ?_ | refine zD ?_ _)); exact BK189.out) NB189_190.out (by simp))
             have n2_ := Aside0.mk (KeepBut.blk hk (g' := gb203) (o := .cells #[(.slice AoZ x204000_4.length coZ), .int .i64 x204001_4] 37 (0, 0)) (by (with_reducible repeat (first | refine zE ?_ _ | refine zF ?_ | refine zD ?_ _)); exact BK203.out) NB203_190.out (by simp))
             have n3_ := Aside0.mk (hb)
             have n4_ := Aside0.mk (hi)
             try clear HO_204000
             clear BK189
             clear BK203
             clear HB
             clear HI190
             have HO_204000 := n0_
             have BK189 := n1_
             have BK203 := n2_
             have HB := n3_
             have HI190 := n4_
             clear n0_ n1_ n2_ n3_ n4_
             (try clear hb)
             (try clear hb2)
             (try clear hk)
             (try clear hi)
             refine hK.out _ _ ⟨(zQ BK203.out 0).trans rfl, (zQ BK203.out 1).trans rfl⟩ (fun hHeld => ?_)
             clear hK K
             refine norm_ (a' := ?_) ?_ ?_
             rotate_left
             ·show Act.put _ (some 25) _ = _
              simp only [Act.put, zT, zU, zV, i64_w, i32_w]
              rfl
             exact norm_ (by first | (simp only [putAll, Act.put, zT, zU, zV]; done) | (simp only [putAll, Act.put, zT, zU, zV]; rfl)) (hJ7 () _ ⟨hHeld, (by (with_reducible repeat (first | apply zG | apply zH | apply zI)); exact HO_204000.out), (by (with_reducible repeat (first | refine zE ?_ _ | refine zF ?_ | refine zD ?_ _)); exact BK189.out), (by (with_reducible repeat (first | refine zE ?_ _ | refine zF ?_ | refine zD ?_ _)); exact BK203.out), (by repeat (first | (with_reducible first | exact HI190.out | apply IsS72.alloc | apply IsS72.drewN | apply IsS72.drew | apply IsS72.set_1 | apply IsS72.set_2 | refine IsS72.far ?_ NB190_189.out _ | refine IsS72.far ?_ NB190_203.out _) | exact HI190.out)), (by repeat (first | (with_reducible first | exact HB.out | apply zA | apply zB | apply zC | refine below_set ?_ (IsS72.ge HI190.out) | refine below_set ?_ GE189.out | refine below_set ?_ GE203.out) | exact HB.out))⟩)
           ·skip
            rintro _ w33 ⟨hS_, h0_, h1_, h2_, h3_, h4_⟩
            have n0_ : Aside0 (Kd.R (Kd.int .u8) 5 w33 w.heap.size (fun _ => True) (.slice AoZ x204000_4.length coZ) x204000_4) := ⟨h0_⟩
            have n1_ : Aside0 (w33.heap[gb189]? = some (.cells #[.slice none 0 0, .int .i64 0] 37 (0, 0))) := ⟨h1_⟩
            have n2_ : Aside0 (w33.heap[gb203]? = some (.cells #[(.slice AoZ x204000_4.length coZ), .int .i64 x204001_4] 37 (0, 0))) := ⟨h2_⟩
            have n3_ : Aside0 (IsS72 w w33 gb190 l0 t223 t224) := ⟨h3_⟩
            have n4_ : Aside0 (Below w.heap.size w w33) := ⟨h4_⟩
            try clear HO_204000
            clear BK189
            clear BK203
            clear HI190
            clear HB
            clear h0_ h1_ h2_ h3_ h4_
            have HO_204000 := n0_
            have BK189 := n1_
            have BK203 := n2_
            have HI190 := n3_
            have HB := n4_
            clear n0_ n1_ n2_ n3_ n4_
            have hHeld : w33.cell? ⟨gb203, 0, none⟩ = some ((.slice AoZ x204000_4.length coZ)) ∧ w33.cell? ⟨gb203, 1, none⟩ = some (.int .i64 x204001_4) := hS_
            refine norm_ (a' := ?_) ?_ ?_
            rotate_left
            ·simp only [putAll, Act.put, zT, zU, zV]
             rfl
            refine two_ (i := 5) (j := 10) (Ni := some 23) (Nj := none) #[true, true, true, true, true, true, true, true, false, false, false, false, false] #[true, true, true, true, true, false, true, true, false, false, true, false, false] rfl rfl rfl rfl (two_of HT_.out (by kernel_rfl)) (by decide) (by decide) (fun K hK => ?_) (fun K hK => ?_)
            ·skip
             refine Kd.R_lit_step (Kd.int .i64) _ 3 ?hg (N := 23) ?hd (xs := ([t216, 64, 63, 65, (-1), 0] : List Int)) (inner := [.int .i64 t216, .int .i64 64, .int .i64 63, .int .i64 65, .int .i64 (-1), .int .i64 0]) (ok := fun _ => True) (okp := fun _ => True) ?hr ?hp (fun _ hk => hk) trivial (Below.refl _ _) (Nat.le_refl _) (by simp) ?_; (case hd => rfl); (case hg => rfl); (case hr => first | (go_simp; done) | (go_simp; rfl)); (case hp => exact (Reps.one (show Kd.M (Kd.int .i64) _ _ _ t216 [.int .i64 t216] from rfl) (Reps.one (show Kd.M (Kd.int .i64) _ _ _ 64 [.int .i64 64] from rfl) (Reps.one (show Kd.M (Kd.int .i64) _ _ _ 63 [.int .i64 63] from rfl) (Reps.one (show Kd.M (Kd.int .i64) _ _ _ 65 [.int .i64 65] from rfl) (Reps.one (show Kd.M (Kd.int .i64) _ _ _ (-1) [.int .i64 (-1)] from rfl) (Reps.one (show Kd.M (Kd.int .i64) _ _ _ 0 [.int .i64 0] from rfl) (Reps.none _ _))))))))
             intro v220 w34 ho35 hb hg_ hnew_
             clear hg_ hnew_
             (first | rw [← Ny219.out] at ho35 | (simp only [Int.reduceToNat] at ho35; rw [← Ny219.out] at ho35))
             have n0_ := Aside0.mk (Kd.R_below (by (with_reducible repeat (first | apply zG | apply zH | apply zI)); exact HO_204000.out) hb)
             have n1_ := Aside0.mk (Kd.R_lower ho35 (zW (by repeat (first | (with_reducible first | exact HB.out | apply zA | apply zB | apply zC | refine below_set ?_ (IsS72.ge HI190.out) | refine below_set ?_ GE189.out | refine below_set ?_ GE203.out) | exact HB.out))))
             have n2_ := Aside0.mk (blk_below (g := gb189) (o := .cells #[.slice none 0 0, .int .i64 0] 37 (0, 0)) (by (with_reducible repeat (first | refine zE ?_ _ | refine zF ?_ | refine zD ?_ _)); exact BK189.out) hb)
             have n3_ := Aside0.mk (blk_below (g := gb203) (o := .cells #[(.slice AoZ x204000_4.length coZ), .int .i64 x204001_4] 37 (0, 0)) (by (with_reducible repeat (first | refine zE ?_ _ | refine zF ?_ | refine zD ?_ _)); exact BK203.out) hb)
             have n4_ := Aside0.mk (IsS72.below (by repeat (first | (with_reducible first | exact HI190.out | apply IsS72.alloc | apply IsS72.drewN | apply IsS72.drew | apply IsS72.set_1 | apply IsS72.set_2 | refine IsS72.far ?_ NB190_189.out _ | refine IsS72.far ?_ NB190_203.out _) | exact HI190.out)) hb)
             have n5_ := Aside0.mk (below_step (by repeat (first | (with_reducible first | exact HB.out | apply zA | apply zB | apply zC | refine below_set ?_ (IsS72.ge HI190.out) | refine below_set ?_ GE189.out | refine below_set ?_ GE203.out) | exact HB.out)) hb)
             try clear HO_204000
             clear BK189
             clear BK203
             clear HI190
             clear HB
             have HO_204000 := n0_
             have HO221 := n1_
             have BK189 := n2_
             have BK203 := n3_
             have HI190 := n4_
             have HB := n5_
             clear n0_ n1_ n2_ n3_ n4_ n5_
             clear hb ho35
             obtain ⟨Ao36, co36, eo36⟩ := Kd.R_slice HO221.out
             subst eo36
             obtain ⟨ado36, fo36, _⟩ := Kd.at_int (Kd.R_reads' HO221.out).2.2 0 (by decide) (by rw [Ny219.out]; simp)
             cases fo36
             refine hK.out _ _ ⟨(zQ BK203.out 0).trans rfl, (zQ BK203.out 1).trans rfl⟩ (fun hHeld => ?_)
             clear hK K
             refine norm_ (a' := ?_) ?_ ?_
             rotate_left
             ·show Act.put _ (some 23) _ = _
              simp only [Act.put, zT, zU, zV, i64_w, i32_w]
              rfl
             refine pure_ (i := 8) (N := some 26) (v := ?_) (a' := ?_) #[true, true, true, true, true, true, true, true, true, false, false, false, false] rfl rfl (any_of HT_.out (by kernel_rfl)) (fun _ _ _ h => h) (Or.inl ⟨by rfl, ?_⟩) ?_ ?_
             rotate_left
             ·intro w'
              go_simp
              with_reducible rfl
             rotate_left
             ·simp only [Act.put, zT, zU, zV, i64_w, i32_w]
              rfl
             exact norm_ (by first | (simp only [putAll, Act.put, zT, zU, zV]; done) | (simp only [putAll, Act.put, zT, zU, zV]; rfl)) (hJ5_7 (.slice (some ado36) y219.length co36, ado36) _ ⟨hHeld, (by (with_reducible repeat (first | apply zG | apply zH | apply zI)); exact HO221.out), (by (with_reducible repeat (first | apply zG | apply zH | apply zI)); exact HO_204000.out), ⟨_, rfl⟩, (by (with_reducible repeat (first | refine zE ?_ _ | refine zF ?_ | refine zD ?_ _)); exact BK189.out), (by (with_reducible repeat (first | refine zE ?_ _ | refine zF ?_ | refine zD ?_ _)); exact BK203.out), (by repeat (first | (with_reducible first | exact HI190.out | apply IsS72.alloc | apply IsS72.drewN | apply IsS72.drew | apply IsS72.set_1 | apply IsS72.set_2 | refine IsS72.far ?_ NB190_189.out _ | refine IsS72.far ?_ NB190_203.out _) | exact HI190.out)), (by repeat (first | (with_reducible first | exact HB.out | apply zA | apply zB | apply zC | refine below_set ?_ (IsS72.ge HI190.out) | refine below_set ?_ GE189.out | refine below_set ?_ GE203.out) | exact HB.out))⟩)
            ·skip
             have hs35 : w33.cell? ⟨gb189, 0, none⟩ = some (.slice none 0 0) := (zQ BK189.out 0).trans rfl
             have hfs35 := blk_frozen BK189.out 0
             have hns35_1 := NB203_189.out
             have hms35_1 := NB189_203.out
             have hs36 : w33.cell? ⟨gb189, 1, none⟩ = some (.int .i64 0) := (zQ BK189.out 1).trans rfl
             have hfs36 := blk_frozen BK189.out 1
             have hns36_1 := NB203_189.out
             have hms36_1 := NB189_203.out
             refine skip_ (w1 := ?_) (by rfl) rfl ?_ ?_
             rotate_left
             ·go_simp
              rfl
             refine hK.out _ _ ⟨((far2 (g := gb189) NB203_189.out).trans (hHeld.1)), ((far2 (g := gb189) NB203_189.out).trans (hHeld.2))⟩ (fun hHeld => ?_)
             clear hK K
             refine pure_ (i := 11) (N := some 3) (v := ?_) (a' := ?_) #[true, true, true, true, true, false, true, true, false, false, true, true, false] rfl rfl (any_of HT_.out (by kernel_rfl)) (fun _ _ _ h => h) (Or.inl ⟨by rfl, ?_⟩) ?_ ?_
             rotate_left
             ·intro w'
              go_simp
              with_reducible rfl
             rotate_left
             ·simp only [Act.put, zT, zU, zV, i64_w, i32_w]
              rfl
             exact norm_ (by first | (simp only [putAll, Act.put, zT, zU, zV]; done) | (simp only [putAll, Act.put, zT, zU, zV]; rfl)) (hJ7_10 () _ ⟨hHeld, (by (with_reducible repeat (first | apply zG | apply zH | apply zI)); exact Kd.R_mono (Kd.R_far (p := ⟨gb189, 1, none⟩) (Kd.R_far (p := ⟨gb189, 0, none⟩) (Kd.R_types HO_204000.out BK189.out (by decide)) (fun _ hk => hk.2) (.slice AoZ x204000_4.length coZ)) (fun _ hk => hk.2) (.int .i64 x204001_4)) (fun _ hk => trivial)), (by (with_reducible repeat (first | refine zE ?_ _ | refine zF ?_ | refine zD ?_ _)); refine blk_put (cs := #[(.slice AoZ x204000_4.length coZ), .int .i64 0]) ?_ 1 _ rfl; (with_reducible repeat (first | refine zE ?_ _ | refine zF ?_ | refine zD ?_ _)); refine blk_put (cs := #[.slice none 0 0, .int .i64 0]) ?_ 0 _ rfl; (with_reducible repeat (first | refine zE ?_ _ | refine zF ?_ | refine zD ?_ _)); exact BK189.out), (by (with_reducible repeat (first | refine zE ?_ _ | refine zF ?_ | refine zD ?_ _)); refine blk_far ?_ NB203_189.out _; (with_reducible repeat (first | refine zE ?_ _ | refine zF ?_ | refine zD ?_ _)); refine blk_far ?_ NB203_189.out _; (with_reducible repeat (first | refine zE ?_ _ | refine zF ?_ | refine zD ?_ _)); exact BK203.out), (by repeat (first | (with_reducible first | exact HI190.out | apply IsS72.alloc | apply IsS72.drewN | apply IsS72.drew | apply IsS72.set_1 | apply IsS72.set_2 | refine IsS72.far ?_ NB190_189.out _ | refine IsS72.far ?_ NB190_203.out _) | exact HI190.out)), (by repeat (first | (with_reducible first | exact HB.out | apply zA | apply zB | apply zC | refine below_set ?_ (IsS72.ge HI190.out) | refine below_set ?_ GE189.out | refine below_set ?_ GE203.out) | exact HB.out))⟩)
          ·skip
           rintro ⟨v220, adz_v220⟩ w35 ⟨hS_, h0_, h1_, h2_, h3_, h4_, h5_, h6_⟩
           have n0_ : Aside0 (Kd.R (Kd.int .i64) 3 w35 w.heap.size (fun _ => True) v220 y219) := ⟨h0_⟩
           have n1_ : Aside0 (Kd.R (Kd.int .u8) 5 w35 w.heap.size (fun _ => True) (.slice AoZ x204000_4.length coZ) x204000_4) := ⟨h1_⟩
           have n2_ : Aside0 (∃ c_, (v220 : Value) = .slice (some adz_v220) y219.length c_) := ⟨h2_⟩
           have n3_ : Aside0 (w35.heap[gb189]? = some (.cells #[.slice none 0 0, .int .i64 0] 37 (0, 0))) := ⟨h3_⟩
           have n4_ : Aside0 (w35.heap[gb203]? = some (.cells #[(.slice AoZ x204000_4.length coZ), .int .i64 x204001_4] 37 (0, 0))) := ⟨h4_⟩
           have n5_ : Aside0 (IsS72 w w35 gb190 l0 t217 t218) := ⟨h5_⟩
           have n6_ : Aside0 (Below w.heap.size w w35) := ⟨h6_⟩
           try clear HO_204000
           clear BK189
           clear BK203
           clear HI190
           clear HB
           clear h0_ h1_ h2_ h3_ h4_ h5_ h6_
           have HO221 := n0_
           have HO_204000 := n1_
           have HA_HO221 := n2_
           have BK189 := n3_
           have BK203 := n4_
           have HI190 := n5_
           have HB := n6_
           clear n0_ n1_ n2_ n3_ n4_ n5_ n6_
           have hHeld : w35.cell? ⟨gb203, 0, none⟩ = some ((.slice AoZ x204000_4.length coZ)) ∧ w35.cell? ⟨gb203, 1, none⟩ = some (.int .i64 x204001_4) := hS_
           obtain ⟨co36, eo36⟩ := HA_HO221.out
           clear HA_HO221
           subst eo36
           refine norm_ (a' := ?_) ?_ ?_
           rotate_left
           ·simp only [putAll, Act.put, zT, zU, zV]
            rfl
           refine one_ (i := 7) (N := some 25) #[true, true, true, true, true, true, true, true, false, false, false, false, false] rfl rfl (one_of HT_.out (by kernel_rfl)) (by decide) (fun K hK => ?_)
           refine goes_ Try.func49 (by kernel_rfl) rfl #[.pointer (some ⟨gb190, 0, none⟩), .int .i64 6] (by rfl) rfl rfl (by (try simp only [List.map_toArray, List.map_cons, List.map_nil]); first | done | rfl | (simp only [List.length_drop, List.length_take]; rfl)) ?_
           with_reducible refine (spec_l1Cur_rare.calls kj4 gb190 l0 t217 t218 6 t222 t223 t224 w _ ?side1 ?side2 A26.out).mono ?_
           (case side1 => repeat (first | (with_reducible first | exact HI190.out | apply IsS72.alloc | apply IsS72.drewN | apply IsS72.drew | apply IsS72.set_1 | apply IsS72.set_2 | refine IsS72.far ?_ NB190_189.out _ | refine IsS72.far ?_ NB190_203.out _) | exact HI190.out))
           (case side2 => repeat (first | (with_reducible first | exact HB.out | apply zA | apply zB | apply zC | refine below_set ?_ (IsS72.ge HI190.out) | refine below_set ?_ GE189.out | refine below_set ?_ GE203.out) | exact HB.out))
           rintro e w37 ⟨rfl, hi, hb, hk⟩
           refine ⟨_, rfl, ?_⟩
           have n0_ := Aside0.mk (Kd.R_mono (Kd.R_keep (IsS72.apart (show IsS72 w _ gb190 l0 t217 t218 from by repeat (first | (with_reducible first | exact HI190.out | apply IsS72.alloc | apply IsS72.drewN | apply IsS72.drew | apply IsS72.set_1 | apply IsS72.set_2 | refine IsS72.far ?_ NB190_189.out _ | refine IsS72.far ?_ NB190_203.out _) | exact HI190.out)) (by (with_reducible repeat (first | apply zG | apply zH | apply zI)); exact HO_204000.out) (by decide)) hk (fun _ h => h.2)) (fun _ h => h.1))
           have n1_ := Aside0.mk (KeepBut.blk hk (g' := gb189) (o := .cells #[.slice none 0 0, .int .i64 0] 37 (0, 0)) (by (with_reducible repeat (first | refine zE ?_ _ | refine zF ?_ | refine zD ?_ _)); exact BK189.out) NB189_190.out (by simp))
           have n2_ := Aside0.mk (KeepBut.blk hk (g' := gb203) (o := .cells #[(.slice AoZ x204000_4.length coZ), .int .i64 x204001_4] 37 (0, 0)) (by (with_reducible repeat (first | refine zE ?_ _ | refine zF ?_ | refine zD ?_ _)); exact BK203.out) NB203_190.out (by simp))
           have n3_ := Aside0.mk (Kd.R_mono (Kd.R_keep (IsS72.apart (show IsS72 w _ gb190 l0 t217 t218 from by repeat (first | (with_reducible first | exact HI190.out | apply IsS72.alloc | apply IsS72.drewN | apply IsS72.drew | apply IsS72.set_1 | apply IsS72.set_2 | refine IsS72.far ?_ NB190_189.out _ | refine IsS72.far ?_ NB190_203.out _) | exact HI190.out)) (by (with_reducible repeat (first | apply zG | apply zH | apply zI)); exact HO221.out) (by decide)) hk (fun _ h => h.2)) (fun _ h => h.1))
           have n4_ := Aside0.mk (hb)
           have n5_ := Aside0.mk (hi)
           try clear HO_204000
           clear BK189
           clear BK203
           try clear HO221
           clear HB
           clear HI190
           have HO_204000 := n0_
           have BK189 := n1_
           have BK203 := n2_
           have HO221 := n3_
           have HB := n4_
           have HI190 := n5_
           clear n0_ n1_ n2_ n3_ n4_ n5_
           (try clear hb)
           (try clear hb2)
           (try clear hk)
           (try clear hi)
           refine hK.out _ _ ⟨(zQ BK203.out 0).trans rfl, (zQ BK203.out 1).trans rfl⟩ (fun hHeld => ?_)
           clear hK K
           refine norm_ (a' := ?_) ?_ ?_
           rotate_left
           ·show Act.put _ (some 25) _ = _
            simp only [Act.put, zT, zU, zV, i64_w, i32_w]
            rfl
           refine pure_ (i := 8) (N := some 26) (v := ?_) (a' := ?_) #[true, true, true, true, true, true, true, true, true, false, false, false, false] rfl rfl (any_of HT_.out (by kernel_rfl)) (fun _ _ _ h => h) (Or.inl ⟨by rfl, ?_⟩) ?_ ?_
           rotate_left
           ·intro w'
            go_simp
            with_reducible rfl
           rotate_left
           ·simp only [Act.put, zT, zU, zV, i64_w, i32_w]
            rfl
           exact norm_ (by first | (simp only [putAll, Act.put, zT, zU, zV]; done) | (simp only [putAll, Act.put, zT, zU, zV]; rfl)) (hJ5_7 (.slice (some adz_v220) y219.length co36, adz_v220) _ ⟨hHeld, (by (with_reducible repeat (first | apply zG | apply zH | apply zI)); exact HO221.out), (by (with_reducible repeat (first | apply zG | apply zH | apply zI)); exact HO_204000.out), ⟨_, rfl⟩, (by (with_reducible repeat (first | refine zE ?_ _ | refine zF ?_ | refine zD ?_ _)); exact BK189.out), (by (with_reducible repeat (first | refine zE ?_ _ | refine zF ?_ | refine zD ?_ _)); exact BK203.out), (by repeat (first | (with_reducible first | exact HI190.out | apply IsS72.alloc | apply IsS72.drewN | apply IsS72.drew | apply IsS72.set_1 | apply IsS72.set_2 | refine IsS72.far ?_ NB190_189.out _ | refine IsS72.far ?_ NB190_203.out _) | exact HI190.out)), (by repeat (first | (with_reducible first | exact HB.out | apply zA | apply zB | apply zC | refine below_set ?_ (IsS72.ge HI190.out) | refine below_set ?_ GE189.out | refine below_set ?_ GE203.out) | exact HB.out))⟩)
         ·skip
          rintro _ w36 ⟨hS_, h0_, h1_, h2_, h3_, h4_⟩
          have n0_ : Aside0 (Kd.R (Kd.int .u8) 5 w36 w.heap.size (fun _ => True) (.slice AoZ x204000_4.length coZ) x204000_4) := ⟨h0_⟩
          have n1_ : Aside0 (w36.heap[gb189]? = some (.cells #[(.slice AoZ x204000_4.length coZ), .int .i64 x204001_4] 37 (0, 0))) := ⟨h1_⟩
          have n2_ : Aside0 (w36.heap[gb203]? = some (.cells #[(.slice AoZ x204000_4.length coZ), .int .i64 x204001_4] 37 (0, 0))) := ⟨h2_⟩
          have n3_ : Aside0 (IsS72 w w36 gb190 l0 t223 t224) := ⟨h3_⟩
          have n4_ : Aside0 (Below w.heap.size w w36) := ⟨h4_⟩
          try clear HO_204000
          clear BK189
          clear BK203
          clear HI190
          clear HB
          clear h0_ h1_ h2_ h3_ h4_
          have HO_204000 := n0_
          have BK189 := n1_
          have BK203 := n2_
          have HI190 := n3_
          have HB := n4_
          clear n0_ n1_ n2_ n3_ n4_
          have hHeld : w36.cell? ⟨gb203, 0, none⟩ = some ((.slice AoZ x204000_4.length coZ)) ∧ w36.cell? ⟨gb203, 1, none⟩ = some (.int .i64 x204001_4) := hS_
          refine norm_ (a' := ?_) ?_ ?_
          rotate_left
          ·simp only [putAll, Act.put, zT, zU, zV]
           rfl
          refine one_ (i := 5) (N := some 23) #[true, true, true, true, true, true, true, true, false, false, true, true, false] rfl rfl (one_of HT_.out (by kernel_rfl)) (by decide) (fun K hK => ?_)
          refine Kd.R_lit_step (Kd.int .i64) _ 3 ?hg (N := 23) ?hd (xs := ([t216, 64, 63, 65, (-1), 0] : List Int)) (inner := [.int .i64 t216, .int .i64 64, .int .i64 63, .int .i64 65, .int .i64 (-1), .int .i64 0]) (ok := fun _ => True) (okp := fun _ => True) ?hr ?hp (fun _ hk => hk) trivial (Below.refl _ _) (Nat.le_refl _) (by simp) ?_; (case hd => rfl); (case hg => rfl); (case hr => first | (go_simp; done) | (go_simp; rfl)); (case hp => exact (Reps.one (show Kd.M (Kd.int .i64) _ _ _ t216 [.int .i64 t216] from rfl) (Reps.one (show Kd.M (Kd.int .i64) _ _ _ 64 [.int .i64 64] from rfl) (Reps.one (show Kd.M (Kd.int .i64) _ _ _ 63 [.int .i64 63] from rfl) (Reps.one (show Kd.M (Kd.int .i64) _ _ _ 65 [.int .i64 65] from rfl) (Reps.one (show Kd.M (Kd.int .i64) _ _ _ (-1) [.int .i64 (-1)] from rfl) (Reps.one (show Kd.M (Kd.int .i64) _ _ _ 0 [.int .i64 0] from rfl) (Reps.none _ _))))))))
          intro v220 w37 ho38 hb hg_ hnew_
          clear hg_ hnew_
          (first | rw [← Ny219.out] at ho38 | (simp only [Int.reduceToNat] at ho38; rw [← Ny219.out] at ho38))
          have n0_ := Aside0.mk (Kd.R_below (by (with_reducible repeat (first | apply zG | apply zH | apply zI)); exact HO_204000.out) hb)
          have n1_ := Aside0.mk (Kd.R_lower ho38 (zW (by repeat (first | (with_reducible first | exact HB.out | apply zA | apply zB | apply zC | refine below_set ?_ (IsS72.ge HI190.out) | refine below_set ?_ GE189.out | refine below_set ?_ GE203.out) | exact HB.out))))
          have n2_ := Aside0.mk (blk_below (g := gb189) (o := .cells #[(.slice AoZ x204000_4.length coZ), .int .i64 x204001_4] 37 (0, 0)) (by (with_reducible repeat (first | refine zE ?_ _ | refine zF ?_ | refine zD ?_ _)); exact BK189.out) hb)
          have n3_ := Aside0.mk (blk_below (g := gb203) (o := .cells #[(.slice AoZ x204000_4.length coZ), .int .i64 x204001_4] 37 (0, 0)) (by (with_reducible repeat (first | refine zE ?_ _ | refine zF ?_ | refine zD ?_ _)); exact BK203.out) hb)
          have n4_ := Aside0.mk (IsS72.below (by repeat (first | (with_reducible first | exact HI190.out | apply IsS72.alloc | apply IsS72.drewN | apply IsS72.drew | apply IsS72.set_1 | apply IsS72.set_2 | refine IsS72.far ?_ NB190_189.out _ | refine IsS72.far ?_ NB190_203.out _) | exact HI190.out)) hb)
          have n5_ := Aside0.mk (below_step (by repeat (first | (with_reducible first | exact HB.out | apply zA | apply zB | apply zC | refine below_set ?_ (IsS72.ge HI190.out) | refine below_set ?_ GE189.out | refine below_set ?_ GE203.out) | exact HB.out)) hb)
          try clear HO_204000
          clear BK189
          clear BK203
          clear HI190
          clear HB
          have HO_204000 := n0_
          have HO221 := n1_
          have BK189 := n2_
          have BK203 := n3_
          have HI190 := n4_
          have HB := n5_
          clear n0_ n1_ n2_ n3_ n4_ n5_
          clear hb ho38
          obtain ⟨Ao39, co39, eo39⟩ := Kd.R_slice HO221.out
          subst eo39
          obtain ⟨ado39, fo39, _⟩ := Kd.at_int (Kd.R_reads' HO221.out).2.2 0 (by decide) (by rw [Ny219.out]; simp)
          cases fo39
          refine hK.out _ _ ⟨(zQ BK203.out 0).trans rfl, (zQ BK203.out 1).trans rfl⟩ (fun hHeld => ?_)
          clear hK K
          refine norm_ (a' := ?_) ?_ ?_
          rotate_left
          ·show Act.put _ (some 23) _ = _
           simp only [Act.put, zT, zU, zV, i64_w, i32_w]
           rfl
          refine pure_ (i := 8) (N := some 26) (v := ?_) (a' := ?_) #[true, true, true, true, true, true, true, true, true, false, true, true, false] rfl rfl (any_of HT_.out (by kernel_rfl)) (fun _ _ _ h => h) (Or.inl ⟨by rfl, ?_⟩) ?_ ?_
          rotate_left
          ·intro w'
           go_simp
           with_reducible rfl
          rotate_left
          ·simp only [Act.put, zT, zU, zV, i64_w, i32_w]
           rfl
          exact norm_ (by first | (simp only [putAll, Act.put, zT, zU, zV]; done) | (simp only [putAll, Act.put, zT, zU, zV]; rfl)) (hJ5_7_10 (.slice (some ado39) y219.length co39, ado39) _ ⟨hHeld, (by (with_reducible repeat (first | apply zG | apply zH | apply zI)); exact HO221.out), (by (with_reducible repeat (first | apply zG | apply zH | apply zI)); exact HO_204000.out), ⟨_, rfl⟩, (by (with_reducible repeat (first | refine zE ?_ _ | refine zF ?_ | refine zD ?_ _)); exact BK189.out), (by (with_reducible repeat (first | refine zE ?_ _ | refine zF ?_ | refine zD ?_ _)); exact BK203.out), (by repeat (first | (with_reducible first | exact HI190.out | apply IsS72.alloc | apply IsS72.drewN | apply IsS72.drew | apply IsS72.set_1 | apply IsS72.set_2 | refine IsS72.far ?_ NB190_189.out _ | refine IsS72.far ?_ NB190_203.out _) | exact HI190.out)), (by repeat (first | (with_reducible first | exact HB.out | apply zA | apply zB | apply zC | refine below_set ?_ (IsS72.ge HI190.out) | refine below_set ?_ GE189.out | refine below_set ?_ GE203.out) | exact HB.out))⟩)
        ·skip
         rintro ⟨v220, adz_v220⟩ w36 ⟨hS_, h0_, h1_, h2_, h3_, h4_, h5_, h6_⟩
         have n0_ : Aside0 (Kd.R (Kd.int .i64) 3 w36 w.heap.size (fun _ => True) v220 y219) := ⟨h0_⟩
         have n1_ : Aside0 (Kd.R (Kd.int .u8) 5 w36 w.heap.size (fun _ => True) (.slice AoZ x204000_4.length coZ) x204000_4) := ⟨h1_⟩
         have n2_ : Aside0 (∃ c_, (v220 : Value) = .slice (some adz_v220) y219.length c_) := ⟨h2_⟩
         have n3_ : Aside0 (w36.heap[gb189]? = some (.cells #[.slice none 0 0, .int .i64 0] 37 (0, 0))) := ⟨h3_⟩
         have n4_ : Aside0 (w36.heap[gb203]? = some (.cells #[(.slice AoZ x204000_4.length coZ), .int .i64 x204001_4] 37 (0, 0))) := ⟨h4_⟩
         have n5_ : Aside0 (IsS72 w w36 gb190 l0 t223 t224) := ⟨h5_⟩
         have n6_ : Aside0 (Below w.heap.size w w36) := ⟨h6_⟩
         try clear HO_204000
         clear BK189
         clear BK203
         clear HI190
         clear HB
         clear h0_ h1_ h2_ h3_ h4_ h5_ h6_
         have HO221 := n0_
         have HO_204000 := n1_
         have HA_HO221 := n2_
         have BK189 := n3_
         have BK203 := n4_
         have HI190 := n5_
         have HB := n6_
         clear n0_ n1_ n2_ n3_ n4_ n5_ n6_
         have hHeld : w36.cell? ⟨gb203, 0, none⟩ = some ((.slice AoZ x204000_4.length coZ)) ∧ w36.cell? ⟨gb203, 1, none⟩ = some (.int .i64 x204001_4) := hS_
         obtain ⟨co37, eo37⟩ := HA_HO221.out
         clear HA_HO221
         subst eo37
         refine norm_ (a' := ?_) ?_ ?_
         rotate_left
         ·simp only [putAll, Act.put, zT, zU, zV]
          rfl
         refine two_ (i := 9) (j := 10) (Ni := some 27) (Nj := none) #[true, true, true, true, true, true, true, true, true, true, false, false, false] #[true, true, true, true, true, true, true, true, true, false, true, false, false] rfl rfl rfl rfl (two_of HT_.out (by kernel_rfl)) (by decide) (by decide) (fun K hK => ?_) (fun K hK => ?_)
         ·skip
          (have p225 : 0 ≤ (t222 : Int) := zX (by first | (with_reducible assumption) | assumption); have q225 : t222 < (y219.length : Int) := zX (by first | (with_reducible assumption) | assumption); obtain ⟨ad225, e225, hx225_0⟩ := Kd.at_int (Kd.R_reads' HO221.out).2.2 t222 p225 q225; obtain rfl : adz_v220 = ad225 := (by injection e225))
          refine value_ (w1 := ?_) (v := ?_) (by rfl) rfl ?_ ?_
          rotate_left 2
          ·go_simp
           constructor
           ·rfl
           ·rfl
          clear hx225_0
          refine hK.out _ _ ⟨(zQ BK203.out 0).trans rfl, (zQ BK203.out 1).trans rfl⟩ (fun hHeld => ?_)
          clear hK K
          refine norm_ (a' := ?_) ?_ ?_
          rotate_left
          ·show Act.put _ (some 27) _ = _
           simp only [Act.put, zT, zU, zV, i64_w, i32_w]
           rfl
          exact norm_ (by first | (simp only [putAll, Act.put, zT, zU, zV]; done) | (simp only [putAll, Act.put, zT, zU, zV]; rfl)) (hJ5_7_9 (.slice (some adz_v220) y219.length co37, adz_v220) _ ⟨hHeld, (by (with_reducible repeat (first | apply zG | apply zH | apply zI)); exact HO221.out), (by (with_reducible repeat (first | apply zG | apply zH | apply zI)); exact HO_204000.out), ⟨_, rfl⟩, (by (with_reducible repeat (first | refine zE ?_ _ | refine zF ?_ | refine zD ?_ _)); exact BK189.out), (by (with_reducible repeat (first | refine zE ?_ _ | refine zF ?_ | refine zD ?_ _)); exact BK203.out), (by repeat (first | (with_reducible first | exact HI190.out | apply IsS72.alloc | apply IsS72.drewN | apply IsS72.drew | apply IsS72.set_1 | apply IsS72.set_2 | refine IsS72.far ?_ NB190_189.out _ | refine IsS72.far ?_ NB190_203.out _) | exact HI190.out)), (by repeat (first | (with_reducible first | exact HB.out | apply zA | apply zB | apply zC | refine below_set ?_ (IsS72.ge HI190.out) | refine below_set ?_ GE189.out | refine below_set ?_ GE203.out) | exact HB.out))⟩)
         ·skip
          have hs39 : w36.cell? ⟨gb189, 0, none⟩ = some (.slice none 0 0) := (zQ BK189.out 0).trans rfl
          have hfs39 := blk_frozen BK189.out 0
          have hns39_1 := NB203_189.out
          have hms39_1 := NB189_203.out
          have hs40 : w36.cell? ⟨gb189, 1, none⟩ = some (.int .i64 0) := (zQ BK189.out 1).trans rfl
          have hfs40 := blk_frozen BK189.out 1
          have hns40_1 := NB203_189.out
          have hms40_1 := NB189_203.out
          refine skip_ (w1 := ?_) (by rfl) rfl ?_ ?_
          rotate_left
          ·go_simp
           rfl
          refine hK.out _ _ ⟨((far2 (g := gb189) NB203_189.out).trans (hHeld.1)), ((far2 (g := gb189) NB203_189.out).trans (hHeld.2))⟩ (fun hHeld => ?_)
          clear hK K
          refine pure_ (i := 11) (N := some 3) (v := ?_) (a' := ?_) #[true, true, true, true, true, true, true, true, true, false, true, true, false] rfl rfl (any_of HT_.out (by kernel_rfl)) (fun _ _ _ h => h) (Or.inl ⟨by rfl, ?_⟩) ?_ ?_
          rotate_left
          ·intro w'
           go_simp
           with_reducible rfl
          rotate_left
          ·simp only [Act.put, zT, zU, zV, i64_w, i32_w]
           rfl
          exact norm_ (by first | (simp only [putAll, Act.put, zT, zU, zV]; done) | (simp only [putAll, Act.put, zT, zU, zV]; rfl)) (hJ5_7_10 (.slice (some adz_v220) y219.length co37, adz_v220) _ ⟨hHeld, (by (with_reducible repeat (first | apply zG | apply zH | apply zI)); exact Kd.R_mono (Kd.R_far (p := ⟨gb189, 1, none⟩) (Kd.R_far (p := ⟨gb189, 0, none⟩) (Kd.R_types HO221.out BK189.out (by decide)) (fun _ hk => hk.2) (.slice AoZ x204000_4.length coZ)) (fun _ hk => hk.2) (.int .i64 x204001_4)) (fun _ hk => trivial)), (by (with_reducible repeat (first | apply zG | apply zH | apply zI)); exact Kd.R_mono (Kd.R_far (p := ⟨gb189, 1, none⟩) (Kd.R_far (p := ⟨gb189, 0, none⟩) (Kd.R_types HO_204000.out BK189.out (by decide)) (fun _ hk => hk.2) (.slice AoZ x204000_4.length coZ)) (fun _ hk => hk.2) (.int .i64 x204001_4)) (fun _ hk => trivial)), ⟨_, rfl⟩, (by (with_reducible repeat (first | refine zE ?_ _ | refine zF ?_ | refine zD ?_ _)); refine blk_put (cs := #[.slice AoZ x204000_4.length coZ, .int .i64 0]) ?_ 1 _ rfl; (with_reducible repeat (first | refine zE ?_ _ | refine zF ?_ | refine zD ?_ _)); refine blk_put (cs := #[.slice none 0 0, .int .i64 0]) ?_ 0 _ rfl; (with_reducible repeat (first | refine zE ?_ _ | refine zF ?_ | refine zD ?_ _)); exact BK189.out), (by (with_reducible repeat (first | refine zE ?_ _ | refine zF ?_ | refine zD ?_ _)); refine blk_far ?_ NB203_189.out _; (with_reducible repeat (first | refine zE ?_ _ | refine zF ?_ | refine zD ?_ _)); refine blk_far ?_ NB203_189.out _; (with_reducible repeat (first | refine zE ?_ _ | refine zF ?_ | refine zD ?_ _)); exact BK203.out), (by repeat (first | (with_reducible first | exact HI190.out | apply IsS72.alloc | apply IsS72.drewN | apply IsS72.drew | apply IsS72.set_1 | apply IsS72.set_2 | refine IsS72.far ?_ NB190_189.out _ | refine IsS72.far ?_ NB190_203.out _) | exact HI190.out)), (by repeat (first | (with_reducible first | exact HB.out | apply zA | apply zB | apply zC | refine below_set ?_ (IsS72.ge HI190.out) | refine below_set ?_ GE189.out | refine below_set ?_ GE203.out) | exact HB.out))⟩)
       ·skip
        rintro ⟨v220, adz_v220⟩ w39 ⟨hS_, h0_, h1_, h2_, h3_, h4_, h5_, h6_⟩
        have n0_ : Aside0 (Kd.R (Kd.int .i64) 3 w39 w.heap.size (fun _ => True) v220 y219) := ⟨h0_⟩
        have n1_ : Aside0 (Kd.R (Kd.int .u8) 5 w39 w.heap.size (fun _ => True) (.slice AoZ x204000_4.length coZ) x204000_4) := ⟨h1_⟩
        have n2_ : Aside0 (∃ c_, (v220 : Value) = .slice (some adz_v220) y219.length c_) := ⟨h2_⟩
        have n3_ : Aside0 (w39.heap[gb189]? = some (.cells #[(.slice AoZ x204000_4.length coZ), .int .i64 x204001_4] 37 (0, 0))) := ⟨h3_⟩
        have n4_ : Aside0 (w39.heap[gb203]? = some (.cells #[(.slice AoZ x204000_4.length coZ), .int .i64 x204001_4] 37 (0, 0))) := ⟨h4_⟩
        have n5_ : Aside0 (IsS72 w w39 gb190 l0 t223 t224) := ⟨h5_⟩
        have n6_ : Aside0 (Below w.heap.size w w39) := ⟨h6_⟩
        try clear HO_204000
        clear BK189
        clear BK203
        clear HI190
        clear HB
        clear h0_ h1_ h2_ h3_ h4_ h5_ h6_
        have HO221 := n0_
        have HO_204000 := n1_
        have HA_HO221 := n2_
        have BK189 := n3_
        have BK203 := n4_
        have HI190 := n5_
        have HB := n6_
        clear n0_ n1_ n2_ n3_ n4_ n5_ n6_
        have hHeld : w39.cell? ⟨gb203, 0, none⟩ = some ((.slice AoZ x204000_4.length coZ)) ∧ w39.cell? ⟨gb203, 1, none⟩ = some (.int .i64 x204001_4) := hS_
        obtain ⟨co40, eo40⟩ := HA_HO221.out
        clear HA_HO221
        subst eo40
        refine norm_ (a' := ?_) ?_ ?_
        rotate_left
        ·simp only [putAll, Act.put, zT, zU, zV]
         rfl
        refine one_ (i := 9) (N := some 27) #[true, true, true, true, true, true, true, true, true, true, true, true, false] rfl rfl (one_of HT_.out (by kernel_rfl)) (by decide) (fun K hK => ?_)
        (have p225 : 0 ≤ (t222 : Int) := zX (by first | (with_reducible assumption) | assumption); have q225 : t222 < (y219.length : Int) := zX (by first | (with_reducible assumption) | assumption); obtain ⟨ad225, e225, hx225_0⟩ := Kd.at_int (Kd.R_reads' HO221.out).2.2 t222 p225 q225; obtain rfl : adz_v220 = ad225 := (by injection e225))
        refine value_ (w1 := ?_) (v := ?_) (by rfl) rfl ?_ ?_
        rotate_left 2
        ·go_simp
         constructor
         ·rfl
         ·rfl
        clear hx225_0
        refine hK.out _ _ ⟨(zQ BK203.out 0).trans rfl, (zQ BK203.out 1).trans rfl⟩ (fun hHeld => ?_)
        clear hK K
        refine norm_ (a' := ?_) ?_ ?_
        rotate_left
        ·show Act.put _ (some 27) _ = _
         simp only [Act.put, zT, zU, zV, i64_w, i32_w]
         rfl
        exact norm_ (by first | (simp only [putAll, Act.put, zT, zU, zV]; done) | (simp only [putAll, Act.put, zT, zU, zV]; rfl)) (hJ5_7_9_10 (.slice (some adz_v220) y219.length co40, adz_v220) _ ⟨hHeld, (by (with_reducible repeat (first | apply zG | apply zH | apply zI)); exact HO221.out), (by (with_reducible repeat (first | apply zG | apply zH | apply zI)); exact HO_204000.out), ⟨_, rfl⟩, (by (with_reducible repeat (first | refine zE ?_ _ | refine zF ?_ | refine zD ?_ _)); exact BK189.out), (by (with_reducible repeat (first | refine zE ?_ _ | refine zF ?_ | refine zD ?_ _)); exact BK203.out), (by repeat (first | (with_reducible first | exact HI190.out | apply IsS72.alloc | apply IsS72.drewN | apply IsS72.drew | apply IsS72.set_1 | apply IsS72.set_2 | refine IsS72.far ?_ NB190_189.out _ | refine IsS72.far ?_ NB190_203.out _) | exact HI190.out)), (by repeat (first | (with_reducible first | exact HB.out | apply zA | apply zB | apply zC | refine below_set ?_ (IsS72.ge HI190.out) | refine below_set ?_ GE189.out | refine below_set ?_ GE203.out) | exact HB.out))⟩)
      ·skip
       rintro ⟨v220, adz_v220⟩ w36 ⟨hS_, h0_, h1_, h2_, h3_, h4_, h5_, h6_⟩
       have n0_ : Aside0 (Kd.R (Kd.int .i64) 3 w36 w.heap.size (fun _ => True) v220 y219) := ⟨h0_⟩
       have n1_ : Aside0 (Kd.R (Kd.int .u8) 5 w36 w.heap.size (fun _ => True) (.slice AoZ x204000_4.length coZ) x204000_4) := ⟨h1_⟩
       have n2_ : Aside0 (∃ c_, (v220 : Value) = .slice (some adz_v220) y219.length c_) := ⟨h2_⟩
       have n3_ : Aside0 (w36.heap[gb189]? = some (.cells #[.slice none 0 0, .int .i64 0] 37 (0, 0))) := ⟨h3_⟩
       have n4_ : Aside0 (w36.heap[gb203]? = some (.cells #[(.slice AoZ x204000_4.length coZ), .int .i64 x204001_4] 37 (0, 0))) := ⟨h4_⟩
       have n5_ : Aside0 (IsS72 w w36 gb190 l0 t223 t224) := ⟨h5_⟩
       have n6_ : Aside0 (Below w.heap.size w w36) := ⟨h6_⟩
       try clear HO_204000
       clear BK189
       clear BK203
       clear HI190
       clear HB
       clear h0_ h1_ h2_ h3_ h4_ h5_ h6_
       have HO221 := n0_
       have HO_204000 := n1_
       have HA_HO221 := n2_
       have BK189 := n3_
       have BK203 := n4_
       have HI190 := n5_
       have HB := n6_
       clear n0_ n1_ n2_ n3_ n4_ n5_ n6_
       have hHeld : w36.cell? ⟨gb203, 0, none⟩ = some ((.slice AoZ x204000_4.length coZ)) ∧ w36.cell? ⟨gb203, 1, none⟩ = some (.int .i64 x204001_4) := hS_
       obtain ⟨co37, eo37⟩ := HA_HO221.out
       clear HA_HO221
       subst eo37
       refine norm_ (a' := ?_) ?_ ?_
       rotate_left
       ·simp only [putAll, Act.put, zT, zU, zV]
        rfl
       refine one_ (i := 10) (N := none) #[true, true, true, true, true, true, true, true, true, true, true, false, false] rfl rfl (one_of HT_.out (by kernel_rfl)) (by decide) (fun K hK => ?_)
       have hs39 : w36.cell? ⟨gb189, 0, none⟩ = some (.slice none 0 0) := (zQ BK189.out 0).trans rfl
       have hfs39 := blk_frozen BK189.out 0
       have hns39_1 := NB203_189.out
       have hms39_1 := NB189_203.out
       have hs40 : w36.cell? ⟨gb189, 1, none⟩ = some (.int .i64 0) := (zQ BK189.out 1).trans rfl
       have hfs40 := blk_frozen BK189.out 1
       have hns40_1 := NB203_189.out
       have hms40_1 := NB189_203.out
       refine skip_ (w1 := ?_) (by rfl) rfl ?_ ?_
       rotate_left
       ·go_simp
        rfl
       refine hK.out _ _ ⟨((far2 (g := gb189) NB203_189.out).trans (hHeld.1)), ((far2 (g := gb189) NB203_189.out).trans (hHeld.2))⟩ (fun hHeld => ?_)
       clear hK K
       refine pure_ (i := 11) (N := some 3) (v := ?_) (a' := ?_) #[true, true, true, true, true, true, true, true, true, true, true, true, false] rfl rfl (any_of HT_.out (by kernel_rfl)) (fun _ _ _ h => h) (Or.inl ⟨by rfl, ?_⟩) ?_ ?_
       rotate_left
       ·intro w'
        go_simp
        with_reducible rfl
       rotate_left
       ·simp only [Act.put, zT, zU, zV, i64_w, i32_w]
        rfl
       exact norm_ (by first | (simp only [putAll, Act.put, zT, zU, zV]; done) | (simp only [putAll, Act.put, zT, zU, zV]; rfl)) (hJ5_7_9_10 (.slice (some adz_v220) y219.length co37, adz_v220) _ ⟨hHeld, (by (with_reducible repeat (first | apply zG | apply zH | apply zI)); exact Kd.R_mono (Kd.R_far (p := ⟨gb189, 1, none⟩) (Kd.R_far (p := ⟨gb189, 0, none⟩) (Kd.R_types HO221.out BK189.out (by decide)) (fun _ hk => hk.2) (.slice AoZ x204000_4.length coZ)) (fun _ hk => hk.2) (.int .i64 x204001_4)) (fun _ hk => trivial)), (by (with_reducible repeat (first | apply zG | apply zH | apply zI)); exact Kd.R_mono (Kd.R_far (p := ⟨gb189, 1, none⟩) (Kd.R_far (p := ⟨gb189, 0, none⟩) (Kd.R_types HO_204000.out BK189.out (by decide)) (fun _ hk => hk.2) (.slice AoZ x204000_4.length coZ)) (fun _ hk => hk.2) (.int .i64 x204001_4)) (fun _ hk => trivial)), ⟨_, rfl⟩, (by (with_reducible repeat (first | refine zE ?_ _ | refine zF ?_ | refine zD ?_ _)); refine blk_put (cs := #[.slice AoZ x204000_4.length coZ, .int .i64 0]) ?_ 1 _ rfl; (with_reducible repeat (first | refine zE ?_ _ | refine zF ?_ | refine zD ?_ _)); refine blk_put (cs := #[.slice none 0 0, .int .i64 0]) ?_ 0 _ rfl; (with_reducible repeat (first | refine zE ?_ _ | refine zF ?_ | refine zD ?_ _)); exact BK189.out), (by (with_reducible repeat (first | refine zE ?_ _ | refine zF ?_ | refine zD ?_ _)); refine blk_far ?_ NB203_189.out _; (with_reducible repeat (first | refine zE ?_ _ | refine zF ?_ | refine zD ?_ _)); refine blk_far ?_ NB203_189.out _; (with_reducible repeat (first | refine zE ?_ _ | refine zF ?_ | refine zD ?_ _)); exact BK203.out), (by repeat (first | (with_reducible first | exact HI190.out | apply IsS72.alloc | apply IsS72.drewN | apply IsS72.drew | apply IsS72.set_1 | apply IsS72.set_2 | refine IsS72.far ?_ NB190_189.out _ | refine IsS72.far ?_ NB190_203.out _) | exact HI190.out)), (by repeat (first | (with_reducible first | exact HB.out | apply zA | apply zB | apply zC | refine below_set ?_ (IsS72.ge HI190.out) | refine below_set ?_ GE189.out | refine below_set ?_ GE203.out) | exact HB.out))⟩)
     rintro ⟨v220, adz_v220⟩ w39 ⟨hS_, h0_, h1_, h2_, h3_, h4_, h5_, h6_⟩
     have n0_ : Aside0 (Kd.R (Kd.int .i64) 3 w39 w.heap.size (fun _ => True) v220 y219) := ⟨h0_⟩
     have n1_ : Aside0 (Kd.R (Kd.int .u8) 5 w39 w.heap.size (fun _ => True) (.slice AoZ x204000_4.length coZ) x204000_4) := ⟨h1_⟩
     have n2_ : Aside0 (∃ c_, (v220 : Value) = .slice (some adz_v220) y219.length c_) := ⟨h2_⟩
     have n3_ : Aside0 (w39.heap[gb189]? = some (.cells #[(.slice AoZ x204000_4.length coZ), .int .i64 x204001_4] 37 (0, 0))) := ⟨h3_⟩
     have n4_ : Aside0 (w39.heap[gb203]? = some (.cells #[(.slice AoZ x204000_4.length coZ), .int .i64 x204001_4] 37 (0, 0))) := ⟨h4_⟩
     have n5_ : Aside0 (IsS72 w w39 gb190 l0 t223 t224) := ⟨h5_⟩
     have n6_ : Aside0 (Below w.heap.size w w39) := ⟨h6_⟩
     try clear HO_204000
     clear BK189
     clear BK203
     clear HI190
     clear HB
     clear h0_ h1_ h2_ h3_ h4_ h5_ h6_
     have HO221 := n0_
     have HO_204000 := n1_
     have HA_HO221 := n2_
     have BK189 := n3_
     have BK203 := n4_
     have HI190 := n5_
     have HB := n6_
     clear n0_ n1_ n2_ n3_ n4_ n5_ n6_
     have hHeld : w39.cell? ⟨gb203, 0, none⟩ = some ((.slice AoZ x204000_4.length coZ)) ∧ w39.cell? ⟨gb203, 1, none⟩ = some (.int .i64 x204001_4) := hS_
     obtain ⟨co40, eo40⟩ := HA_HO221.out
     clear HA_HO221
     subst eo40
     refine norm_ (a' := ?_) ?_ ?_
     rotate_left
     ·simp only [putAll, Act.put, zT, zU, zV]
      rfl
     refine pure_ (i := 12) (N := some 4) (v := ?_) (a' := ?_) #[true, true, true, true, true, true, true, true, true, true, true, true, true] rfl rfl (any_of HT_.out (by kernel_rfl)) (fun _ _ _ h => h) (Or.inl ⟨by rfl, ?_⟩) ?_ ?_
     rotate_left
     ·intro w'
      go_simp
      with_reducible rfl
     rotate_left
     ·simp only [Act.put, zT, zU, zV, i64_w, i32_w]
      rfl
     refine done_ (done_of HT_.out (by kernel_rfl)) ?_
     try go_wp2
     refine bodyPost_ret (results_ctt rfl _ _ gb189 37 #[(.slice AoZ x204000_4.length coZ), .int .i64 x204001_4] (0, 0) _ rfl (by (with_reducible repeat (first | refine zE ?_ _ | refine zF ?_ | refine zD ?_ _)); exact BK189.out) Try.underlying37 rfl (by kernel_rfl)) rfl ?_
     exact ⟨_, by first | rfl | (simp [errW_none, errW_some] <;> rfl) | (simp [*, errW_none, errW_some] <;> rfl), by (with_reducible repeat (first | apply zG | apply zH | apply zI)); exact HO_204000.out, by repeat (first | (with_reducible first | exact HB.out | apply zA | apply zB | apply zC | refine below_set ?_ (IsS72.ge HI190.out) | refine below_set ?_ GE189.out | refine below_set ?_ GE203.out) | exact HB.out)⟩
    ·rw [if_neg c28] at H
     exact absurd H (by simp)
   ·rw [if_neg c27] at H
    exact absurd H (by simp)

end Go.Proofs.Ytppifefhpjhmaaa.PFnBits
