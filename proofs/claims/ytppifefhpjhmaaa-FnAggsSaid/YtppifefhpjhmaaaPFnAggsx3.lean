-- Written by a program of this session (xprint.py, over the kit's print).
import Derived.Test.YtppifefhpjhmaaaPFnAggsx0
import Derived.Test.YtppifefhpjhmaaaPFnAggsx2
namespace Go.Proofs.Ytppifefhpjhmaaa.PFnAggs
open Go.RowKit Go.Proofs.YtppifefhpjhmaaaW.PrintWords Go.Proofs.YtppifefhpjhmaaaW.PrintLast Go.Proofs.YtppifefhpjhmaaaW.PrintMore Go.Proofs.Ytppifefhpjhmaaa.XWords
attribute [local go_sem] max2_int min2_int max_two min_two max_three min_three max_four min_four   -- for this text's walks alone
set_option linter.unusedVariables false
set_option linter.unusedSimpArgs false

/-! ### spec_DrawMergeAgg: function 9 -/
def spec_DrawMergeAgg.f (k : Nat) (l0 : List Int) : Option (Int × Int × Int × Int × Int × Int × Int × Int × Int × Int × Int × Int × Int × Int × Int × Int) := (spec_l1Cur_pick.f k l0 0 0 20).bind fun bt141 => ((spec_l1Cur_pick.f k l0 bt141.2.1 bt141.2.2 9).bind fun bt144 => ((spec_l1Cur_sized.f k l0 bt144.2.1 bt144.2.2).bind fun bt147 => ((spec_l1Cur_sized.f k l0 bt147.2.1 bt147.2.2).bind fun bt150 => ((spec_l1Cur_sized.f k l0 bt150.2.1 bt150.2.2).bind fun bt153 => ((spec_l1Cur_sized.f k l0 bt153.2.1 bt153.2.2).bind fun bt156 => ((spec_l1Cur_sized.f k l0 bt156.2.1 bt156.2.2).bind fun bt159 => ((spec_l1Cur_sized.f k l0 bt159.2.1 bt159.2.2).bind fun bt162 => ((spec_l1Cur_pick.f k l0 bt162.2.1 bt162.2.2 40).bind fun bt166 => ((spec_l1Cur_pick.f k l0 bt166.2.1 bt166.2.2 9).bind fun bt169 => ((spec_l1Cur_sized.f k l0 bt169.2.1 bt169.2.2).bind fun bt172 => ((spec_l1Cur_sized.f k l0 bt172.2.1 bt172.2.2).bind fun bt175 => ((spec_l1Cur_sized.f k l0 bt175.2.1 bt175.2.2).bind fun bt178 => ((spec_l1Cur_sized.f k l0 bt178.2.1 bt178.2.2).bind fun bt181 => ((spec_l1Cur_sized.f k l0 bt181.2.1 bt181.2.2).bind fun bt184 => ((spec_l1Cur_sized.f k l0 bt184.2.1 bt184.2.2).bind fun bt187 => (some (bt141.1, bt144.1, bt147.1, bt150.1, bt153.1, bt156.1, bt159.1, bt162.1, bt166.1, bt169.1, bt172.1, bt175.1, bt178.1, bt181.1, bt184.1, bt187.1)))))))))))))))))
theorem spec_DrawMergeAgg.mono : ∀ a0 k, LeO (spec_DrawMergeAgg.f k a0) (spec_DrawMergeAgg.f (k + 1) a0) := by
 intro a0 k
 unfold spec_DrawMergeAgg.f
 repeat' first
   | (with_reducible exact spec_l1Cur_pick.mono _ _ _ _ _)
   | (with_reducible exact spec_l1Cur_sized.mono _ _ _ _)
   | (with_reducible exact LeO.refl _)
   | (with_reducible exact LeO.none _)
   | (with_reducible refine LeO.ite ?_ ?_)
   | (with_reducible refine LeO.bind ?_ (fun _ => ?_))
   | exact spec_l1Cur_pick.mono _ _ _ _ _
   | exact spec_l1Cur_sized.mono _ _ _ _
   | exact LeO.none _
   | refine LeO.ite ?_ ?_
   | refine LeO.bind ?_ (fun _ => ?_)
set_option maxHeartbeats 8000000 in
set_option maxRecDepth 100000 in
theorem spec_DrawMergeAgg.calls (k : Nat) (A0 : Option Addr) (c0 : Nat) (l0 : List Int) (r1 : Int) (r2 : Int) (r3 : Int) (r4 : Int) (r5 : Int) (r6 : Int) (r7 : Int) (r8 : Int) (r9 : Int) (r10 : Int) (r11 : Int) (r12 : Int) (r13 : Int) (r14 : Int) (r15 : Int) (r16 : Int) (w : World) (hr0 : Kd.C (Kd.int .u8) w A0 l0.length l0) (hc0 : l0.length ≤ c0) (h : spec_DrawMergeAgg.f k l0 = some (r1, r2, r3, r4, r5, r6, r7, r8, r9, r10, r11, r12, r13, r14, r15, r16)) :
  Calls Try.prog 9 #[.slice A0 l0.length c0] w fun e w' => e = .returned (.tuple #[.agg #[.int .i64 r1, .int .i64 r2, .int .i64 r3, .int .i64 r4, .int .i64 r5, .int .i64 r6, .int .i64 r7, .int .i64 r8], .agg #[.int .i64 r9, .int .i64 r10, .int .i64 r11, .int .i64 r12, .int .i64 r13, .int .i64 r14, .int .i64 r15, .int .i64 r16]]) ∧ Below w.heap.size w w' := by
 have hu24 := Try.underlying24
 have hu72 := Try.underlying72
 have HR0 := Aside0.mk hr0
 have HC0 := Aside0.mk hc0
 clear hr0 hc0
 have HB := Aside0.mk (Below.refl w.heap.size w)
 have H : ((spec_l1Cur_pick.f k l0 0 0 20).bind fun bt141 => ((spec_l1Cur_pick.f k l0 bt141.2.1 bt141.2.2 9).bind fun bt144 => ((spec_l1Cur_sized.f k l0 bt144.2.1 bt144.2.2).bind fun bt147 => ((spec_l1Cur_sized.f k l0 bt147.2.1 bt147.2.2).bind fun bt150 => ((spec_l1Cur_sized.f k l0 bt150.2.1 bt150.2.2).bind fun bt153 => ((spec_l1Cur_sized.f k l0 bt153.2.1 bt153.2.2).bind fun bt156 => ((spec_l1Cur_sized.f k l0 bt156.2.1 bt156.2.2).bind fun bt159 => ((spec_l1Cur_sized.f k l0 bt159.2.1 bt159.2.2).bind fun bt162 => ((spec_l1Cur_pick.f k l0 bt162.2.1 bt162.2.2 40).bind fun bt166 => ((spec_l1Cur_pick.f k l0 bt166.2.1 bt166.2.2 9).bind fun bt169 => ((spec_l1Cur_sized.f k l0 bt169.2.1 bt169.2.2).bind fun bt172 => ((spec_l1Cur_sized.f k l0 bt172.2.1 bt172.2.2).bind fun bt175 => ((spec_l1Cur_sized.f k l0 bt175.2.1 bt175.2.2).bind fun bt178 => ((spec_l1Cur_sized.f k l0 bt178.2.1 bt178.2.2).bind fun bt181 => ((spec_l1Cur_sized.f k l0 bt181.2.1 bt181.2.2).bind fun bt184 => ((spec_l1Cur_sized.f k l0 bt184.2.1 bt184.2.2).bind fun bt187 => (some (bt141.1, bt144.1, bt147.1, bt150.1, bt153.1, bt156.1, bt159.1, bt162.1, bt166.1, bt169.1, bt172.1, bt175.1, bt178.1, bt181.1, bt184.1, bt187.1)))))))))))))))))) = some (r1, r2, r3, r4, r5, r6, r7, r8, r9, r10, r11, r12, r13, r14, r15, r16) := h
 clear h
 replace H := Option.bind_eq_some_iff.mp H
 obtain ⟨⟨t141, t142, t143⟩, A20, H⟩ := H
 replace H : ((spec_l1Cur_pick.f k l0 t142 t143 9).bind fun bt144 => ((spec_l1Cur_sized.f k l0 bt144.2.1 bt144.2.2).bind fun bt147 => ((spec_l1Cur_sized.f k l0 bt147.2.1 bt147.2.2).bind fun bt150 => ((spec_l1Cur_sized.f k l0 bt150.2.1 bt150.2.2).bind fun bt153 => ((spec_l1Cur_sized.f k l0 bt153.2.1 bt153.2.2).bind fun bt156 => ((spec_l1Cur_sized.f k l0 bt156.2.1 bt156.2.2).bind fun bt159 => ((spec_l1Cur_sized.f k l0 bt159.2.1 bt159.2.2).bind fun bt162 => ((spec_l1Cur_pick.f k l0 bt162.2.1 bt162.2.2 40).bind fun bt166 => ((spec_l1Cur_pick.f k l0 bt166.2.1 bt166.2.2 9).bind fun bt169 => ((spec_l1Cur_sized.f k l0 bt169.2.1 bt169.2.2).bind fun bt172 => ((spec_l1Cur_sized.f k l0 bt172.2.1 bt172.2.2).bind fun bt175 => ((spec_l1Cur_sized.f k l0 bt175.2.1 bt175.2.2).bind fun bt178 => ((spec_l1Cur_sized.f k l0 bt178.2.1 bt178.2.2).bind fun bt181 => ((spec_l1Cur_sized.f k l0 bt181.2.1 bt181.2.2).bind fun bt184 => ((spec_l1Cur_sized.f k l0 bt184.2.1 bt184.2.2).bind fun bt187 => (some (t141, bt144.1, bt147.1, bt150.1, bt153.1, bt156.1, bt159.1, bt162.1, bt166.1, bt169.1, bt172.1, bt175.1, bt178.1, bt181.1, bt184.1, bt187.1))))))))))))))))) = some (r1, r2, r3, r4, r5, r6, r7, r8, r9, r10, r11, r12, r13, r14, r15, r16) := H
 have A2 := Aside0.mk A20
 clear A20
 replace H := Option.bind_eq_some_iff.mp H
 obtain ⟨⟨t144, t145, t146⟩, A30, H⟩ := H
 replace H : ((spec_l1Cur_sized.f k l0 t145 t146).bind fun bt147 => ((spec_l1Cur_sized.f k l0 bt147.2.1 bt147.2.2).bind fun bt150 => ((spec_l1Cur_sized.f k l0 bt150.2.1 bt150.2.2).bind fun bt153 => ((spec_l1Cur_sized.f k l0 bt153.2.1 bt153.2.2).bind fun bt156 => ((spec_l1Cur_sized.f k l0 bt156.2.1 bt156.2.2).bind fun bt159 => ((spec_l1Cur_sized.f k l0 bt159.2.1 bt159.2.2).bind fun bt162 => ((spec_l1Cur_pick.f k l0 bt162.2.1 bt162.2.2 40).bind fun bt166 => ((spec_l1Cur_pick.f k l0 bt166.2.1 bt166.2.2 9).bind fun bt169 => ((spec_l1Cur_sized.f k l0 bt169.2.1 bt169.2.2).bind fun bt172 => ((spec_l1Cur_sized.f k l0 bt172.2.1 bt172.2.2).bind fun bt175 => ((spec_l1Cur_sized.f k l0 bt175.2.1 bt175.2.2).bind fun bt178 => ((spec_l1Cur_sized.f k l0 bt178.2.1 bt178.2.2).bind fun bt181 => ((spec_l1Cur_sized.f k l0 bt181.2.1 bt181.2.2).bind fun bt184 => ((spec_l1Cur_sized.f k l0 bt184.2.1 bt184.2.2).bind fun bt187 => (some (t141, t144, bt147.1, bt150.1, bt153.1, bt156.1, bt159.1, bt162.1, bt166.1, bt169.1, bt172.1, bt175.1, bt178.1, bt181.1, bt184.1, bt187.1)))))))))))))))) = some (r1, r2, r3, r4, r5, r6, r7, r8, r9, r10, r11, r12, r13, r14, r15, r16) := H
 have A3 := Aside0.mk A30
 clear A30
 replace H := Option.bind_eq_some_iff.mp H
 obtain ⟨⟨t147, t148, t149⟩, A40, H⟩ := H
 replace H : ((spec_l1Cur_sized.f k l0 t148 t149).bind fun bt150 => ((spec_l1Cur_sized.f k l0 bt150.2.1 bt150.2.2).bind fun bt153 => ((spec_l1Cur_sized.f k l0 bt153.2.1 bt153.2.2).bind fun bt156 => ((spec_l1Cur_sized.f k l0 bt156.2.1 bt156.2.2).bind fun bt159 => ((spec_l1Cur_sized.f k l0 bt159.2.1 bt159.2.2).bind fun bt162 => ((spec_l1Cur_pick.f k l0 bt162.2.1 bt162.2.2 40).bind fun bt166 => ((spec_l1Cur_pick.f k l0 bt166.2.1 bt166.2.2 9).bind fun bt169 => ((spec_l1Cur_sized.f k l0 bt169.2.1 bt169.2.2).bind fun bt172 => ((spec_l1Cur_sized.f k l0 bt172.2.1 bt172.2.2).bind fun bt175 => ((spec_l1Cur_sized.f k l0 bt175.2.1 bt175.2.2).bind fun bt178 => ((spec_l1Cur_sized.f k l0 bt178.2.1 bt178.2.2).bind fun bt181 => ((spec_l1Cur_sized.f k l0 bt181.2.1 bt181.2.2).bind fun bt184 => ((spec_l1Cur_sized.f k l0 bt184.2.1 bt184.2.2).bind fun bt187 => (some (t141, t144, t147, bt150.1, bt153.1, bt156.1, bt159.1, bt162.1, bt166.1, bt169.1, bt172.1, bt175.1, bt178.1, bt181.1, bt184.1, bt187.1))))))))))))))) = some (r1, r2, r3, r4, r5, r6, r7, r8, r9, r10, r11, r12, r13, r14, r15, r16) := H
 have A4 := Aside0.mk A40
 clear A40
 replace H := Option.bind_eq_some_iff.mp H
 obtain ⟨⟨t150, t151, t152⟩, A50, H⟩ := H
 replace H : ((spec_l1Cur_sized.f k l0 t151 t152).bind fun bt153 => ((spec_l1Cur_sized.f k l0 bt153.2.1 bt153.2.2).bind fun bt156 => ((spec_l1Cur_sized.f k l0 bt156.2.1 bt156.2.2).bind fun bt159 => ((spec_l1Cur_sized.f k l0 bt159.2.1 bt159.2.2).bind fun bt162 => ((spec_l1Cur_pick.f k l0 bt162.2.1 bt162.2.2 40).bind fun bt166 => ((spec_l1Cur_pick.f k l0 bt166.2.1 bt166.2.2 9).bind fun bt169 => ((spec_l1Cur_sized.f k l0 bt169.2.1 bt169.2.2).bind fun bt172 => ((spec_l1Cur_sized.f k l0 bt172.2.1 bt172.2.2).bind fun bt175 => ((spec_l1Cur_sized.f k l0 bt175.2.1 bt175.2.2).bind fun bt178 => ((spec_l1Cur_sized.f k l0 bt178.2.1 bt178.2.2).bind fun bt181 => ((spec_l1Cur_sized.f k l0 bt181.2.1 bt181.2.2).bind fun bt184 => ((spec_l1Cur_sized.f k l0 bt184.2.1 bt184.2.2).bind fun bt187 => (some (t141, t144, t147, t150, bt153.1, bt156.1, bt159.1, bt162.1, bt166.1, bt169.1, bt172.1, bt175.1, bt178.1, bt181.1, bt184.1, bt187.1)))))))))))))) = some (r1, r2, r3, r4, r5, r6, r7, r8, r9, r10, r11, r12, r13, r14, r15, r16) := H
 have A5 := Aside0.mk A50
 clear A50
 replace H := Option.bind_eq_some_iff.mp H
 obtain ⟨⟨t153, t154, t155⟩, A60, H⟩ := H
 replace H : ((spec_l1Cur_sized.f k l0 t154 t155).bind fun bt156 => ((spec_l1Cur_sized.f k l0 bt156.2.1 bt156.2.2).bind fun bt159 => ((spec_l1Cur_sized.f k l0 bt159.2.1 bt159.2.2).bind fun bt162 => ((spec_l1Cur_pick.f k l0 bt162.2.1 bt162.2.2 40).bind fun bt166 => ((spec_l1Cur_pick.f k l0 bt166.2.1 bt166.2.2 9).bind fun bt169 => ((spec_l1Cur_sized.f k l0 bt169.2.1 bt169.2.2).bind fun bt172 => ((spec_l1Cur_sized.f k l0 bt172.2.1 bt172.2.2).bind fun bt175 => ((spec_l1Cur_sized.f k l0 bt175.2.1 bt175.2.2).bind fun bt178 => ((spec_l1Cur_sized.f k l0 bt178.2.1 bt178.2.2).bind fun bt181 => ((spec_l1Cur_sized.f k l0 bt181.2.1 bt181.2.2).bind fun bt184 => ((spec_l1Cur_sized.f k l0 bt184.2.1 bt184.2.2).bind fun bt187 => (some (t141, t144, t147, t150, t153, bt156.1, bt159.1, bt162.1, bt166.1, bt169.1, bt172.1, bt175.1, bt178.1, bt181.1, bt184.1, bt187.1))))))))))))) = some (r1, r2, r3, r4, r5, r6, r7, r8, r9, r10, r11, r12, r13, r14, r15, r16) := H
 have A6 := Aside0.mk A60
 clear A60
 replace H := Option.bind_eq_some_iff.mp H
 obtain ⟨⟨t156, t157, t158⟩, A70, H⟩ := H
 replace H : ((spec_l1Cur_sized.f k l0 t157 t158).bind fun bt159 => ((spec_l1Cur_sized.f k l0 bt159.2.1 bt159.2.2).bind fun bt162 => ((spec_l1Cur_pick.f k l0 bt162.2.1 bt162.2.2 40).bind fun bt166 => ((spec_l1Cur_pick.f k l0 bt166.2.1 bt166.2.2 9).bind fun bt169 => ((spec_l1Cur_sized.f k l0 bt169.2.1 bt169.2.2).bind fun bt172 => ((spec_l1Cur_sized.f k l0 bt172.2.1 bt172.2.2).bind fun bt175 => ((spec_l1Cur_sized.f k l0 bt175.2.1 bt175.2.2).bind fun bt178 => ((spec_l1Cur_sized.f k l0 bt178.2.1 bt178.2.2).bind fun bt181 => ((spec_l1Cur_sized.f k l0 bt181.2.1 bt181.2.2).bind fun bt184 => ((spec_l1Cur_sized.f k l0 bt184.2.1 bt184.2.2).bind fun bt187 => (some (t141, t144, t147, t150, t153, t156, bt159.1, bt162.1, bt166.1, bt169.1, bt172.1, bt175.1, bt178.1, bt181.1, bt184.1, bt187.1)))))))))))) = some (r1, r2, r3, r4, r5, r6, r7, r8, r9, r10, r11, r12, r13, r14, r15, r16) := H
 have A7 := Aside0.mk A70
 clear A70
 replace H := Option.bind_eq_some_iff.mp H
 obtain ⟨⟨t159, t160, t161⟩, A80, H⟩ := H
 replace H : ((spec_l1Cur_sized.f k l0 t160 t161).bind fun bt162 => ((spec_l1Cur_pick.f k l0 bt162.2.1 bt162.2.2 40).bind fun bt166 => ((spec_l1Cur_pick.f k l0 bt166.2.1 bt166.2.2 9).bind fun bt169 => ((spec_l1Cur_sized.f k l0 bt169.2.1 bt169.2.2).bind fun bt172 => ((spec_l1Cur_sized.f k l0 bt172.2.1 bt172.2.2).bind fun bt175 => ((spec_l1Cur_sized.f k l0 bt175.2.1 bt175.2.2).bind fun bt178 => ((spec_l1Cur_sized.f k l0 bt178.2.1 bt178.2.2).bind fun bt181 => ((spec_l1Cur_sized.f k l0 bt181.2.1 bt181.2.2).bind fun bt184 => ((spec_l1Cur_sized.f k l0 bt184.2.1 bt184.2.2).bind fun bt187 => (some (t141, t144, t147, t150, t153, t156, t159, bt162.1, bt166.1, bt169.1, bt172.1, bt175.1, bt178.1, bt181.1, bt184.1, bt187.1))))))))))) = some (r1, r2, r3, r4, r5, r6, r7, r8, r9, r10, r11, r12, r13, r14, r15, r16) := H
 have A8 := Aside0.mk A80
 clear A80
 replace H := Option.bind_eq_some_iff.mp H
 obtain ⟨⟨t162, t163, t164⟩, A90, H⟩ := H
 replace H : ((spec_l1Cur_pick.f k l0 t163 t164 40).bind fun bt166 => ((spec_l1Cur_pick.f k l0 bt166.2.1 bt166.2.2 9).bind fun bt169 => ((spec_l1Cur_sized.f k l0 bt169.2.1 bt169.2.2).bind fun bt172 => ((spec_l1Cur_sized.f k l0 bt172.2.1 bt172.2.2).bind fun bt175 => ((spec_l1Cur_sized.f k l0 bt175.2.1 bt175.2.2).bind fun bt178 => ((spec_l1Cur_sized.f k l0 bt178.2.1 bt178.2.2).bind fun bt181 => ((spec_l1Cur_sized.f k l0 bt181.2.1 bt181.2.2).bind fun bt184 => ((spec_l1Cur_sized.f k l0 bt184.2.1 bt184.2.2).bind fun bt187 => (some (t141, t144, t147, t150, t153, t156, t159, t162, bt166.1, bt169.1, bt172.1, bt175.1, bt178.1, bt181.1, bt184.1, bt187.1)))))))))) = some (r1, r2, r3, r4, r5, r6, r7, r8, r9, r10, r11, r12, r13, r14, r15, r16) := H
 have A9 := Aside0.mk A90
 clear A90
 replace H := Option.bind_eq_some_iff.mp H
 obtain ⟨⟨t166, t167, t168⟩, A100, H⟩ := H
 replace H : ((spec_l1Cur_pick.f k l0 t167 t168 9).bind fun bt169 => ((spec_l1Cur_sized.f k l0 bt169.2.1 bt169.2.2).bind fun bt172 => ((spec_l1Cur_sized.f k l0 bt172.2.1 bt172.2.2).bind fun bt175 => ((spec_l1Cur_sized.f k l0 bt175.2.1 bt175.2.2).bind fun bt178 => ((spec_l1Cur_sized.f k l0 bt178.2.1 bt178.2.2).bind fun bt181 => ((spec_l1Cur_sized.f k l0 bt181.2.1 bt181.2.2).bind fun bt184 => ((spec_l1Cur_sized.f k l0 bt184.2.1 bt184.2.2).bind fun bt187 => (some (t141, t144, t147, t150, t153, t156, t159, t162, t166, bt169.1, bt172.1, bt175.1, bt178.1, bt181.1, bt184.1, bt187.1))))))))) = some (r1, r2, r3, r4, r5, r6, r7, r8, r9, r10, r11, r12, r13, r14, r15, r16) := H
 have A10 := Aside0.mk A100
 clear A100
 replace H := Option.bind_eq_some_iff.mp H
 obtain ⟨⟨t169, t170, t171⟩, A110, H⟩ := H
 replace H : ((spec_l1Cur_sized.f k l0 t170 t171).bind fun bt172 => ((spec_l1Cur_sized.f k l0 bt172.2.1 bt172.2.2).bind fun bt175 => ((spec_l1Cur_sized.f k l0 bt175.2.1 bt175.2.2).bind fun bt178 => ((spec_l1Cur_sized.f k l0 bt178.2.1 bt178.2.2).bind fun bt181 => ((spec_l1Cur_sized.f k l0 bt181.2.1 bt181.2.2).bind fun bt184 => ((spec_l1Cur_sized.f k l0 bt184.2.1 bt184.2.2).bind fun bt187 => (some (t141, t144, t147, t150, t153, t156, t159, t162, t166, t169, bt172.1, bt175.1, bt178.1, bt181.1, bt184.1, bt187.1)))))))) = some (r1, r2, r3, r4, r5, r6, r7, r8, r9, r10, r11, r12, r13, r14, r15, r16) := H
 have A11 := Aside0.mk A110
 clear A110
 replace H := Option.bind_eq_some_iff.mp H
 obtain ⟨⟨t172, t173, t174⟩, A120, H⟩ := H
 replace H : ((spec_l1Cur_sized.f k l0 t173 t174).bind fun bt175 => ((spec_l1Cur_sized.f k l0 bt175.2.1 bt175.2.2).bind fun bt178 => ((spec_l1Cur_sized.f k l0 bt178.2.1 bt178.2.2).bind fun bt181 => ((spec_l1Cur_sized.f k l0 bt181.2.1 bt181.2.2).bind fun bt184 => ((spec_l1Cur_sized.f k l0 bt184.2.1 bt184.2.2).bind fun bt187 => (some (t141, t144, t147, t150, t153, t156, t159, t162, t166, t169, t172, bt175.1, bt178.1, bt181.1, bt184.1, bt187.1))))))) = some (r1, r2, r3, r4, r5, r6, r7, r8, r9, r10, r11, r12, r13, r14, r15, r16) := H
 have A12 := Aside0.mk A120
 clear A120
 replace H := Option.bind_eq_some_iff.mp H
 obtain ⟨⟨t175, t176, t177⟩, A130, H⟩ := H
 replace H : ((spec_l1Cur_sized.f k l0 t176 t177).bind fun bt178 => ((spec_l1Cur_sized.f k l0 bt178.2.1 bt178.2.2).bind fun bt181 => ((spec_l1Cur_sized.f k l0 bt181.2.1 bt181.2.2).bind fun bt184 => ((spec_l1Cur_sized.f k l0 bt184.2.1 bt184.2.2).bind fun bt187 => (some (t141, t144, t147, t150, t153, t156, t159, t162, t166, t169, t172, t175, bt178.1, bt181.1, bt184.1, bt187.1)))))) = some (r1, r2, r3, r4, r5, r6, r7, r8, r9, r10, r11, r12, r13, r14, r15, r16) := H
 have A13 := Aside0.mk A130
 clear A130
 replace H := Option.bind_eq_some_iff.mp H
 obtain ⟨⟨t178, t179, t180⟩, A140, H⟩ := H
 replace H : ((spec_l1Cur_sized.f k l0 t179 t180).bind fun bt181 => ((spec_l1Cur_sized.f k l0 bt181.2.1 bt181.2.2).bind fun bt184 => ((spec_l1Cur_sized.f k l0 bt184.2.1 bt184.2.2).bind fun bt187 => (some (t141, t144, t147, t150, t153, t156, t159, t162, t166, t169, t172, t175, t178, bt181.1, bt184.1, bt187.1))))) = some (r1, r2, r3, r4, r5, r6, r7, r8, r9, r10, r11, r12, r13, r14, r15, r16) := H
 have A14 := Aside0.mk A140
 clear A140
 replace H := Option.bind_eq_some_iff.mp H
 obtain ⟨⟨t181, t182, t183⟩, A150, H⟩ := H
 replace H : ((spec_l1Cur_sized.f k l0 t182 t183).bind fun bt184 => ((spec_l1Cur_sized.f k l0 bt184.2.1 bt184.2.2).bind fun bt187 => (some (t141, t144, t147, t150, t153, t156, t159, t162, t166, t169, t172, t175, t178, t181, bt184.1, bt187.1)))) = some (r1, r2, r3, r4, r5, r6, r7, r8, r9, r10, r11, r12, r13, r14, r15, r16) := H
 have A15 := Aside0.mk A150
 clear A150
 replace H := Option.bind_eq_some_iff.mp H
 obtain ⟨⟨t184, t185, t186⟩, A160, H⟩ := H
 replace H : ((spec_l1Cur_sized.f k l0 t185 t186).bind fun bt187 => (some (t141, t144, t147, t150, t153, t156, t159, t162, t166, t169, t172, t175, t178, t181, t184, bt187.1))) = some (r1, r2, r3, r4, r5, r6, r7, r8, r9, r10, r11, r12, r13, r14, r15, r16) := H
 have A16 := Aside0.mk A160
 clear A160
 replace H := Option.bind_eq_some_iff.mp H
 obtain ⟨⟨t187, t188, t189⟩, A170, H⟩ := H
 replace H : (some (t141, t144, t147, t150, t153, t156, t159, t162, t166, t169, t172, t175, t178, t181, t184, t187)) = some (r1, r2, r3, r4, r5, r6, r7, r8, r9, r10, r11, r12, r13, r14, r15, r16) := H
 have A17 := Aside0.mk A170
 clear A170
 simp only [Option.some.injEq, Prod.mk.injEq] at H
 obtain ⟨rfl, rfl, rfl, rfl, rfl, rfl, rfl, rfl, rfl, rfl, rfl, rfl, rfl, rfl, rfl, rfl⟩ := H
 go_enter Try.func9, Try.ntmps9
 try go_wp2_with (first | ((with_reducible refine gate_dst (N := 2) rfl ?_); refine box_event ?hg (N := 2) ?hd (cs := #[.int .i64 0, .int .i64 0, .int .i64 0, .int .i64 0, .int .i64 0, .int .i64 0, .int .i64 0, .int .i64 0]) (t := 24) ?hr ?_; (case hd => rfl); (case hg => rfl); (case hr => first | (go_simp; done) | (go_simp; rfl)); intro gb138 hg w18 hbox hb; have n0_ := Aside0.mk (below_step (by repeat (first | (with_reducible first | exact HB.out | apply zA | apply zB | apply zC) | exact HB.out)) hb); have n1_ := Aside0.mk (hbox); have n2_ := Aside0.mk ((by rw [hg]; exact (zW (by repeat (first | (with_reducible first | exact HB.out | apply zA | apply zB | apply zC) | exact HB.out))) : w.heap.size ≤ gb138)); have n3_ := Aside0.mk ((by rw [hg]; exact (zW (by repeat (first | (with_reducible first | exact HB.out | apply zA | apply zB | apply zC) | exact HB.out))) : w.heap.size ≤ gb138)); clear HB; have HB := n0_; have BK138 := n1_; have GW138 := n2_; have GE138 := n3_; clear n0_ n1_ n2_ n3_; clear hb hbox hg) | ((with_reducible refine gate_dst (N := 3) rfl ?_); refine box_event ?hg (N := 3) ?hd (cs := #[.int .i64 0, .int .i64 0, .int .i64 0, .int .i64 0, .int .i64 0, .int .i64 0, .int .i64 0, .int .i64 0]) (t := 24) ?hr ?_; (case hd => rfl); (case hg => rfl); (case hr => first | (go_simp; done) | (go_simp; rfl)); intro gb139 hg w19 hbox hb; have n0_ := Aside0.mk (blk_below (g := gb138) (o := cs8 24 0 0 0 0 0 0 0 0) (by (with_reducible repeat (first | refine zE ?_ _ | refine zF ?_ | refine zD ?_ _)); exact BK138.out) hb); have n1_ := Aside0.mk (below_step (by repeat (first | (with_reducible first | exact HB.out | apply zA | apply zB | apply zC | refine below_set ?_ GE138.out) | exact HB.out)) hb); have n2_ := Aside0.mk (hbox); have n3_ := Aside0.mk ((by rw [hg]; exact (zW (by repeat (first | (with_reducible first | exact HB.out | apply zA | apply zB | apply zC | refine below_set ?_ GE138.out) | exact HB.out))) : w.heap.size ≤ gb139)); have n4_ := Aside0.mk ((by rw [hg]; exact (zW (by repeat (first | (with_reducible first | exact HB.out | apply zA | apply zB | apply zC | refine below_set ?_ GE138.out) | exact HB.out))) : w.heap.size ≤ gb139)); have n5_ := Aside0.mk ((by rw [hg]; exact Nat.ne_of_lt (blk_lt (g := gb138) (o := cs8 24 0 0 0 0 0 0 0 0) (by (with_reducible repeat (first | refine zE ?_ _ | refine zF ?_ | refine zD ?_ _)); exact BK138.out)) : gb138 ≠ gb139)); have n6_ := Aside0.mk ((by rw [hg]; exact Nat.ne_of_gt (blk_lt (g := gb138) (o := cs8 24 0 0 0 0 0 0 0 0) (by (with_reducible repeat (first | refine zE ?_ _ | refine zF ?_ | refine zD ?_ _)); exact BK138.out)) : gb139 ≠ gb138)); clear BK138; clear HB; have BK138 := n0_; have HB := n1_; have BK139 := n2_; have GW139 := n3_; have GE139 := n4_; have NB138_139 := n5_; have NB139_138 := n6_; clear n0_ n1_ n2_ n3_ n4_ n5_ n6_; clear hb hbox hg) | ((with_reducible refine gate_dst (N := 9) rfl ?_); refine box_event ?hg (N := 9) ?hd (cs := #[.slice A0 l0.length c0, .int .i64 0, .int .u64 0]) (t := 72) ?hr ?_; (case hd => rfl); (case hg => rfl); (case hr => first | (go_simp; done) | (go_simp; rfl)); intro gb140 hg w20 hbox hb; have n0_ := Aside0.mk (blk_below (g := gb138) (o := cs8 24 0 0 0 0 0 0 0 0) (by (with_reducible repeat (first | refine zE ?_ _ | refine zF ?_ | refine zD ?_ _)); exact BK138.out) hb); have n1_ := Aside0.mk (blk_below (g := gb139) (o := cs8 24 0 0 0 0 0 0 0 0) (by (with_reducible repeat (first | refine zE ?_ _ | refine zF ?_ | refine zD ?_ _)); exact BK139.out) hb); have n2_ := Aside0.mk (below_step (by repeat (first | (with_reducible first | exact HB.out | apply zA | apply zB | apply zC | refine below_set ?_ GE138.out | refine below_set ?_ GE139.out) | exact HB.out)) hb); have n3_ := Aside0.mk ((show IsS72 w w20 gb140 l0 0 0 from ⟨_, _, hbox, (by rw [hg]; exact (zW (by repeat (first | (with_reducible first | exact HB.out | apply zA | apply zB | apply zC | refine below_set ?_ GE138.out | refine below_set ?_ GE139.out) | exact HB.out))) : w.heap.size ≤ gb140), HR0.out⟩)); have n4_ := Aside0.mk ((by rw [hg]; exact (zW (by repeat (first | (with_reducible first | exact HB.out | apply zA | apply zB | apply zC | refine below_set ?_ GE138.out | refine below_set ?_ GE139.out) | exact HB.out))) : w.heap.size ≤ gb140)); have n5_ := Aside0.mk ((by rw [hg]; exact (zW (by repeat (first | (with_reducible first | exact HB.out | apply zA | apply zB | apply zC | refine below_set ?_ GE138.out | refine below_set ?_ GE139.out) | exact HB.out))) : w.heap.size ≤ gb140)); have n6_ := Aside0.mk ((by rw [hg]; exact Nat.ne_of_lt (blk_lt (g := gb138) (o := cs8 24 0 0 0 0 0 0 0 0) (by (with_reducible repeat (first | refine zE ?_ _ | refine zF ?_ | refine zD ?_ _)); exact BK138.out)) : gb138 ≠ gb140)); have n7_ := Aside0.mk ((by rw [hg]; exact Nat.ne_of_gt (blk_lt (g := gb138) (o := cs8 24 0 0 0 0 0 0 0 0) (by (with_reducible repeat (first | refine zE ?_ _ | refine zF ?_ | refine zD ?_ _)); exact BK138.out)) : gb140 ≠ gb138)); have n8_ := Aside0.mk ((by rw [hg]; exact Nat.ne_of_lt (blk_lt (g := gb139) (o := cs8 24 0 0 0 0 0 0 0 0) (by (with_reducible repeat (first | refine zE ?_ _ | refine zF ?_ | refine zD ?_ _)); exact BK139.out)) : gb139 ≠ gb140)); have n9_ := Aside0.mk ((by rw [hg]; exact Nat.ne_of_gt (blk_lt (g := gb139) (o := cs8 24 0 0 0 0 0 0 0 0) (by (with_reducible repeat (first | refine zE ?_ _ | refine zF ?_ | refine zD ?_ _)); exact BK139.out)) : gb140 ≠ gb139)); clear BK138; clear BK139; clear HB; have BK138 := n0_; have BK139 := n1_; have HB := n2_; have HI140 := n3_; have GW140 := n4_; have GE140 := n5_; have NB138_140 := n6_; have NB140_138 := n7_; have NB139_140 := n8_; have NB140_139 := n9_; clear n0_ n1_ n2_ n3_ n4_ n5_ n6_ n7_ n8_ n9_; clear hb hbox hg) | ((with_reducible refine gate_callee (f := 37) rfl ?_); refine goesL_ (some 11) rfl rfl Try.func37 (by kernel_rfl) rfl #[.pointer (some ⟨gb140, 0, none⟩), .int .i64 20] rfl (by (try simp only [List.map_toArray, List.map_cons, List.map_nil]); first | done | rfl | (simp only [List.length_drop, List.length_take]; rfl)) ?_; (with_reducible refine (spec_l1Cur_pick.calls k gb140 l0 0 0 20 t141 t142 t143 w _ ?side1 ?side2 A2.out).mono ?_); (case side1 => repeat (first | (with_reducible first | exact HI140.out | apply IsS72.alloc | apply IsS72.drewN | apply IsS72.drew | apply IsS72.set_1 | apply IsS72.set_2 | refine IsS72.far ?_ NB140_138.out _ | refine IsS72.far ?_ NB140_139.out _) | exact HI140.out)); (case side2 => repeat (first | (with_reducible first | exact HB.out | apply zA | apply zB | apply zC | refine below_set ?_ (IsS72.ge HI140.out) | refine below_set ?_ GE138.out | refine below_set ?_ GE139.out) | exact HB.out)); rintro e w21 ⟨rfl, hi, hb, hk⟩; refine ⟨_, rfl, ?_⟩; have n0_ := Aside0.mk (KeepBut.blk hk (g' := gb138) (o := cs8 24 0 0 0 0 0 0 0 0) (by (with_reducible repeat (first | refine zE ?_ _ | refine zF ?_ | refine zD ?_ _)); exact BK138.out) NB138_140.out (by simp)); have n1_ := Aside0.mk (KeepBut.blk hk (g' := gb139) (o := cs8 24 0 0 0 0 0 0 0 0) (by (with_reducible repeat (first | refine zE ?_ _ | refine zF ?_ | refine zD ?_ _)); exact BK139.out) NB139_140.out (by simp)); have n2_ := Aside0.mk (hb); have n3_ := Aside0.mk (hi); clear BK138; clear BK139; clear HB; clear HI140; have BK138 := n0_; have BK139 := n1_; have HB := n2_; have HI140 := n3_; clear n0_ n1_ n2_ n3_; (try clear hb); (try clear hb2); (try clear hk); (try clear hi)) | ((with_reducible refine gate_callee (f := 37) rfl ?_); refine goesL_ (some 13) rfl rfl Try.func37 (by kernel_rfl) rfl #[.pointer (some ⟨gb140, 0, none⟩), .int .i64 9] rfl (by (try simp only [List.map_toArray, List.map_cons, List.map_nil]); first | done | rfl | (simp only [List.length_drop, List.length_take]; rfl)) ?_; (with_reducible refine (spec_l1Cur_pick.calls k gb140 l0 t142 t143 9 t144 t145 t146 w _ ?side1 ?side2 A3.out).mono ?_); (case side1 => repeat (first | (with_reducible first | exact HI140.out | apply IsS72.alloc | apply IsS72.drewN | apply IsS72.drew | apply IsS72.set_1 | apply IsS72.set_2 | refine IsS72.far ?_ NB140_138.out _ | refine IsS72.far ?_ NB140_139.out _) | exact HI140.out)); (case side2 => repeat (first | (with_reducible first | exact HB.out | apply zA | apply zB | apply zC | refine below_set ?_ (IsS72.ge HI140.out) | refine below_set ?_ GE138.out | refine below_set ?_ GE139.out) | exact HB.out)); rintro e w22 ⟨rfl, hi, hb, hk⟩; refine ⟨_, rfl, ?_⟩; have n0_ := Aside0.mk (KeepBut.blk hk (g' := gb138) (o := cs8 24 0 0 0 0 0 0 0 0) (by (with_reducible repeat (first | refine zE ?_ _ | refine zF ?_ | refine zD ?_ _)); exact BK138.out) NB138_140.out (by simp)); have n1_ := Aside0.mk (KeepBut.blk hk (g' := gb139) (o := cs8 24 0 0 0 0 0 0 0 0) (by (with_reducible repeat (first | refine zE ?_ _ | refine zF ?_ | refine zD ?_ _)); exact BK139.out) NB139_140.out (by simp)); have n2_ := Aside0.mk (hb); have n3_ := Aside0.mk (hi); clear BK138; clear BK139; clear HB; clear HI140; have BK138 := n0_; have BK139 := n1_; have HB := n2_; have HI140 := n3_; clear n0_ n1_ n2_ n3_; (try clear hb); (try clear hb2); (try clear hk); (try clear hi)) | ((with_reducible refine gate_callee (f := 38) rfl ?_); refine goesL_ (some 15) rfl rfl Try.func38 (by kernel_rfl) rfl #[.pointer (some ⟨gb140, 0, none⟩)] rfl (by (try simp only [List.map_toArray, List.map_cons, List.map_nil]); first | done | rfl | (simp only [List.length_drop, List.length_take]; rfl)) ?_; (with_reducible refine (spec_l1Cur_sized.calls k gb140 l0 t145 t146 t147 t148 t149 w _ ?side1 ?side2 A4.out).mono ?_); (case side1 => repeat (first | (with_reducible first | exact HI140.out | apply IsS72.alloc | apply IsS72.drewN | apply IsS72.drew | apply IsS72.set_1 | apply IsS72.set_2 | refine IsS72.far ?_ NB140_138.out _ | refine IsS72.far ?_ NB140_139.out _) | exact HI140.out)); (case side2 => repeat (first | (with_reducible first | exact HB.out | apply zA | apply zB | apply zC | refine below_set ?_ (IsS72.ge HI140.out) | refine below_set ?_ GE138.out | refine below_set ?_ GE139.out) | exact HB.out)); rintro e w23 ⟨rfl, hi, hb, hk⟩; refine ⟨_, rfl, ?_⟩; have n0_ := Aside0.mk (KeepBut.blk hk (g' := gb138) (o := cs8 24 0 0 0 0 0 0 0 0) (by (with_reducible repeat (first | refine zE ?_ _ | refine zF ?_ | refine zD ?_ _)); exact BK138.out) NB138_140.out (by simp)); have n1_ := Aside0.mk (KeepBut.blk hk (g' := gb139) (o := cs8 24 0 0 0 0 0 0 0 0) (by (with_reducible repeat (first | refine zE ?_ _ | refine zF ?_ | refine zD ?_ _)); exact BK139.out) NB139_140.out (by simp)); have n2_ := Aside0.mk (hb); have n3_ := Aside0.mk (hi); clear BK138; clear BK139; clear HB; clear HI140; have BK138 := n0_; have BK139 := n1_; have HB := n2_; have HI140 := n3_; clear n0_ n1_ n2_ n3_; (try clear hb); (try clear hb2); (try clear hk); (try clear hi)) | ((with_reducible refine gate_callee (f := 38) rfl ?_); refine goesL_ (some 17) rfl rfl Try.func38 (by kernel_rfl) rfl #[.pointer (some ⟨gb140, 0, none⟩)] rfl (by (try simp only [List.map_toArray, List.map_cons, List.map_nil]); first | done | rfl | (simp only [List.length_drop, List.length_take]; rfl)) ?_; (with_reducible refine (spec_l1Cur_sized.calls k gb140 l0 t148 t149 t150 t151 t152 w _ ?side1 ?side2 A5.out).mono ?_); (case side1 => repeat (first | (with_reducible first | exact HI140.out | apply IsS72.alloc | apply IsS72.drewN | apply IsS72.drew | apply IsS72.set_1 | apply IsS72.set_2 | refine IsS72.far ?_ NB140_138.out _ | refine IsS72.far ?_ NB140_139.out _) | exact HI140.out)); (case side2 => repeat (first | (with_reducible first | exact HB.out | apply zA | apply zB | apply zC | refine below_set ?_ (IsS72.ge HI140.out) | refine below_set ?_ GE138.out | refine below_set ?_ GE139.out) | exact HB.out)); rintro e w24 ⟨rfl, hi, hb, hk⟩; refine ⟨_, rfl, ?_⟩; have n0_ := Aside0.mk (KeepBut.blk hk (g' := gb138) (o := cs8 24 0 0 0 0 0 0 0 0) (by (with_reducible repeat (first | refine zE ?_ _ | refine zF ?_ | refine zD ?_ _)); exact BK138.out) NB138_140.out (by simp)); have n1_ := Aside0.mk (KeepBut.blk hk (g' := gb139) (o := cs8 24 0 0 0 0 0 0 0 0) (by (with_reducible repeat (first | refine zE ?_ _ | refine zF ?_ | refine zD ?_ _)); exact BK139.out) NB139_140.out (by simp)); have n2_ := Aside0.mk (hb); have n3_ := Aside0.mk (hi); clear BK138; clear BK139; clear HB; clear HI140; have BK138 := n0_; have BK139 := n1_; have HB := n2_; have HI140 := n3_; clear n0_ n1_ n2_ n3_; (try clear hb); (try clear hb2); (try clear hk); (try clear hi)) | ((with_reducible refine gate_callee (f := 38) rfl ?_); refine goesL_ (some 19) rfl rfl Try.func38 (by kernel_rfl) rfl #[.pointer (some ⟨gb140, 0, none⟩)] rfl (by (try simp only [List.map_toArray, List.map_cons, List.map_nil]); first | done | rfl | (simp only [List.length_drop, List.length_take]; rfl)) ?_; (with_reducible refine (spec_l1Cur_sized.calls k gb140 l0 t151 t152 t153 t154 t155 w _ ?side1 ?side2 A6.out).mono ?_); (case side1 => repeat (first | (with_reducible first | exact HI140.out | apply IsS72.alloc | apply IsS72.drewN | apply IsS72.drew | apply IsS72.set_1 | apply IsS72.set_2 | refine IsS72.far ?_ NB140_138.out _ | refine IsS72.far ?_ NB140_139.out _) | exact HI140.out)); (case side2 => repeat (first | (with_reducible first | exact HB.out | apply zA | apply zB | apply zC | refine below_set ?_ (IsS72.ge HI140.out) | refine below_set ?_ GE138.out | refine below_set ?_ GE139.out) | exact HB.out)); rintro e w25 ⟨rfl, hi, hb, hk⟩; refine ⟨_, rfl, ?_⟩; have n0_ := Aside0.mk (KeepBut.blk hk (g' := gb138) (o := cs8 24 0 0 0 0 0 0 0 0) (by (with_reducible repeat (first | refine zE ?_ _ | refine zF ?_ | refine zD ?_ _)); exact BK138.out) NB138_140.out (by simp)); have n1_ := Aside0.mk (KeepBut.blk hk (g' := gb139) (o := cs8 24 0 0 0 0 0 0 0 0) (by (with_reducible repeat (first | refine zE ?_ _ | refine zF ?_ | refine zD ?_ _)); exact BK139.out) NB139_140.out (by simp)); have n2_ := Aside0.mk (hb); have n3_ := Aside0.mk (hi); clear BK138; clear BK139; clear HB; clear HI140; have BK138 := n0_; have BK139 := n1_; have HB := n2_; have HI140 := n3_; clear n0_ n1_ n2_ n3_; (try clear hb); (try clear hb2); (try clear hk); (try clear hi)) | ((with_reducible refine gate_callee (f := 38) rfl ?_); refine goesL_ (some 21) rfl rfl Try.func38 (by kernel_rfl) rfl #[.pointer (some ⟨gb140, 0, none⟩)] rfl (by (try simp only [List.map_toArray, List.map_cons, List.map_nil]); first | done | rfl | (simp only [List.length_drop, List.length_take]; rfl)) ?_; (with_reducible refine (spec_l1Cur_sized.calls k gb140 l0 t154 t155 t156 t157 t158 w _ ?side1 ?side2 A7.out).mono ?_); (case side1 => repeat (first | (with_reducible first | exact HI140.out | apply IsS72.alloc | apply IsS72.drewN | apply IsS72.drew | apply IsS72.set_1 | apply IsS72.set_2 | refine IsS72.far ?_ NB140_138.out _ | refine IsS72.far ?_ NB140_139.out _) | exact HI140.out)); (case side2 => repeat (first | (with_reducible first | exact HB.out | apply zA | apply zB | apply zC | refine below_set ?_ (IsS72.ge HI140.out) | refine below_set ?_ GE138.out | refine below_set ?_ GE139.out) | exact HB.out)); rintro e w26 ⟨rfl, hi, hb, hk⟩; refine ⟨_, rfl, ?_⟩; have n0_ := Aside0.mk (KeepBut.blk hk (g' := gb138) (o := cs8 24 0 0 0 0 0 0 0 0) (by (with_reducible repeat (first | refine zE ?_ _ | refine zF ?_ | refine zD ?_ _)); exact BK138.out) NB138_140.out (by simp)); have n1_ := Aside0.mk (KeepBut.blk hk (g' := gb139) (o := cs8 24 0 0 0 0 0 0 0 0) (by (with_reducible repeat (first | refine zE ?_ _ | refine zF ?_ | refine zD ?_ _)); exact BK139.out) NB139_140.out (by simp)); have n2_ := Aside0.mk (hb); have n3_ := Aside0.mk (hi); clear BK138; clear BK139; clear HB; clear HI140; have BK138 := n0_; have BK139 := n1_; have HB := n2_; have HI140 := n3_; clear n0_ n1_ n2_ n3_; (try clear hb); (try clear hb2); (try clear hk); (try clear hi)) | ((with_reducible refine gate_callee (f := 38) rfl ?_); refine goesL_ (some 23) rfl rfl Try.func38 (by kernel_rfl) rfl #[.pointer (some ⟨gb140, 0, none⟩)] rfl (by (try simp only [List.map_toArray, List.map_cons, List.map_nil]); first | done | rfl | (simp only [List.length_drop, List.length_take]; rfl)) ?_; (with_reducible refine (spec_l1Cur_sized.calls k gb140 l0 t157 t158 t159 t160 t161 w _ ?side1 ?side2 A8.out).mono ?_); (case side1 => repeat (first | (with_reducible first | exact HI140.out | apply IsS72.alloc | apply IsS72.drewN | apply IsS72.drew | apply IsS72.set_1 | apply IsS72.set_2 | refine IsS72.far ?_ NB140_138.out _ | refine IsS72.far ?_ NB140_139.out _) | exact HI140.out)); (case side2 => repeat (first | (with_reducible first | exact HB.out | apply zA | apply zB | apply zC | refine below_set ?_ (IsS72.ge HI140.out) | refine below_set ?_ GE138.out | refine below_set ?_ GE139.out) | exact HB.out)); rintro e w27 ⟨rfl, hi, hb, hk⟩; refine ⟨_, rfl, ?_⟩; have n0_ := Aside0.mk (KeepBut.blk hk (g' := gb138) (o := cs8 24 0 0 0 0 0 0 0 0) (by (with_reducible repeat (first | refine zE ?_ _ | refine zF ?_ | refine zD ?_ _)); exact BK138.out) NB138_140.out (by simp)); have n1_ := Aside0.mk (KeepBut.blk hk (g' := gb139) (o := cs8 24 0 0 0 0 0 0 0 0) (by (with_reducible repeat (first | refine zE ?_ _ | refine zF ?_ | refine zD ?_ _)); exact BK139.out) NB139_140.out (by simp)); have n2_ := Aside0.mk (hb); have n3_ := Aside0.mk (hi); clear BK138; clear BK139; clear HB; clear HI140; have BK138 := n0_; have BK139 := n1_; have HB := n2_; have HI140 := n3_; clear n0_ n1_ n2_ n3_; (try clear hb); (try clear hb2); (try clear hk); (try clear hi)) | ((with_reducible refine gate_callee (f := 38) rfl ?_); refine goesL_ (some 25) rfl rfl Try.func38 (by kernel_rfl) rfl #[.pointer (some ⟨gb140, 0, none⟩)] rfl (by (try simp only [List.map_toArray, List.map_cons, List.map_nil]); first | done | rfl | (simp only [List.length_drop, List.length_take]; rfl)) ?_; (with_reducible refine (spec_l1Cur_sized.calls k gb140 l0 t160 t161 t162 t163 t164 w _ ?side1 ?side2 A9.out).mono ?_); (case side1 => repeat (first | (with_reducible first | exact HI140.out | apply IsS72.alloc | apply IsS72.drewN | apply IsS72.drew | apply IsS72.set_1 | apply IsS72.set_2 | refine IsS72.far ?_ NB140_138.out _ | refine IsS72.far ?_ NB140_139.out _) | exact HI140.out)); (case side2 => repeat (first | (with_reducible first | exact HB.out | apply zA | apply zB | apply zC | refine below_set ?_ (IsS72.ge HI140.out) | refine below_set ?_ GE138.out | refine below_set ?_ GE139.out) | exact HB.out)); rintro e w28 ⟨rfl, hi, hb, hk⟩; refine ⟨_, rfl, ?_⟩; have n0_ := Aside0.mk (KeepBut.blk hk (g' := gb138) (o := cs8 24 0 0 0 0 0 0 0 0) (by (with_reducible repeat (first | refine zE ?_ _ | refine zF ?_ | refine zD ?_ _)); exact BK138.out) NB138_140.out (by simp)); have n1_ := Aside0.mk (KeepBut.blk hk (g' := gb139) (o := cs8 24 0 0 0 0 0 0 0 0) (by (with_reducible repeat (first | refine zE ?_ _ | refine zF ?_ | refine zD ?_ _)); exact BK139.out) NB139_140.out (by simp)); have n2_ := Aside0.mk (hb); have n3_ := Aside0.mk (hi); clear BK138; clear BK139; clear HB; clear HI140; have BK138 := n0_; have BK139 := n1_; have HB := n2_; have HI140 := n3_; clear n0_ n1_ n2_ n3_; (try clear hb); (try clear hb2); (try clear hk); (try clear hi)) | ((with_reducible refine gate_dst (N := 5) rfl ?_); refine box_event ?hg (N := 5) ?hd (cs := #[.int .i64 0, .int .i64 0, .int .i64 0, .int .i64 0, .int .i64 0, .int .i64 0, .int .i64 0, .int .i64 0]) (t := 24) ?hr ?_; (case hd => rfl); (case hg => rfl); (case hr => first | (go_simp; done) | (go_simp; rfl)); intro gb165 hg w29 hbox hb; have n0_ := Aside0.mk (blk_below (g := gb138) (o := cs8 24 0 0 0 0 0 0 0 0) (by (with_reducible repeat (first | refine zE ?_ _ | refine zF ?_ | refine zD ?_ _)); exact BK138.out) hb); have n1_ := Aside0.mk (blk_below (g := gb139) (o := cs8 24 0 0 0 0 0 0 0 0) (by (with_reducible repeat (first | refine zE ?_ _ | refine zF ?_ | refine zD ?_ _)); exact BK139.out) hb); have n2_ := Aside0.mk (IsS72.below (by repeat (first | (with_reducible first | exact HI140.out | apply IsS72.alloc | apply IsS72.drewN | apply IsS72.drew | apply IsS72.set_1 | apply IsS72.set_2 | refine IsS72.far ?_ NB140_138.out _ | refine IsS72.far ?_ NB140_139.out _) | exact HI140.out)) hb); have n3_ := Aside0.mk (below_step (by repeat (first | (with_reducible first | exact HB.out | apply zA | apply zB | apply zC | refine below_set ?_ (IsS72.ge HI140.out) | refine below_set ?_ GE138.out | refine below_set ?_ GE139.out) | exact HB.out)) hb); have n4_ := Aside0.mk (hbox); have n5_ := Aside0.mk ((by rw [hg]; exact (zW (by repeat (first | (with_reducible first | exact HB.out | apply zA | apply zB | apply zC | refine below_set ?_ (IsS72.ge HI140.out) | refine below_set ?_ GE138.out | refine below_set ?_ GE139.out) | exact HB.out))) : w.heap.size ≤ gb165)); have n6_ := Aside0.mk ((by rw [hg]; exact (zW (by repeat (first | (with_reducible first | exact HB.out | apply zA | apply zB | apply zC | refine below_set ?_ (IsS72.ge HI140.out) | refine below_set ?_ GE138.out | refine below_set ?_ GE139.out) | exact HB.out))) : w.heap.size ≤ gb165)); have n7_ := Aside0.mk ((by rw [hg]; exact Nat.ne_of_lt (blk_lt (g := gb138) (o := cs8 24 0 0 0 0 0 0 0 0) (by (with_reducible repeat (first | refine zE ?_ _ | refine zF ?_ | refine zD ?_ _)); exact BK138.out)) : gb138 ≠ gb165)); have n8_ := Aside0.mk ((by rw [hg]; exact Nat.ne_of_gt (blk_lt (g := gb138) (o := cs8 24 0 0 0 0 0 0 0 0) (by (with_reducible repeat (first | refine zE ?_ _ | refine zF ?_ | refine zD ?_ _)); exact BK138.out)) : gb165 ≠ gb138)); have n9_ := Aside0.mk ((by rw [hg]; exact Nat.ne_of_lt (blk_lt (g := gb139) (o := cs8 24 0 0 0 0 0 0 0 0) (by (with_reducible repeat (first | refine zE ?_ _ | refine zF ?_ | refine zD ?_ _)); exact BK139.out)) : gb139 ≠ gb165)); have n10_ := Aside0.mk ((by rw [hg]; exact Nat.ne_of_gt (blk_lt (g := gb139) (o := cs8 24 0 0 0 0 0 0 0 0) (by (with_reducible repeat (first | refine zE ?_ _ | refine zF ?_ | refine zD ?_ _)); exact BK139.out)) : gb165 ≠ gb139)); have n11_ := Aside0.mk ((by rw [hg]; exact Nat.ne_of_lt (IsS72.lt (show IsS72 w _ gb140 l0 t163 t164 from by repeat (first | (with_reducible first | exact HI140.out | apply IsS72.alloc | apply IsS72.drewN | apply IsS72.drew | apply IsS72.set_1 | apply IsS72.set_2 | refine IsS72.far ?_ NB140_138.out _ | refine IsS72.far ?_ NB140_139.out _) | exact HI140.out))) : gb140 ≠ gb165)); have n12_ := Aside0.mk ((by rw [hg]; exact Nat.ne_of_gt (IsS72.lt (show IsS72 w _ gb140 l0 t163 t164 from by repeat (first | (with_reducible first | exact HI140.out | apply IsS72.alloc | apply IsS72.drewN | apply IsS72.drew | apply IsS72.set_1 | apply IsS72.set_2 | refine IsS72.far ?_ NB140_138.out _ | refine IsS72.far ?_ NB140_139.out _) | exact HI140.out))) : gb165 ≠ gb140)); clear BK138; clear BK139; clear HI140; clear HB; have BK138 := n0_; have BK139 := n1_; have HI140 := n2_; have HB := n3_; have BK165 := n4_; have GW165 := n5_; have GE165 := n6_; have NB138_165 := n7_; have NB165_138 := n8_; have NB139_165 := n9_; have NB165_139 := n10_; have NB140_165 := n11_; have NB165_140 := n12_; clear n0_ n1_ n2_ n3_ n4_ n5_ n6_ n7_ n8_ n9_ n10_ n11_ n12_; clear hb hbox hg; have hnb30 := NB165_138.out; have hnc30 := NB138_165.out; have hnb31 := NB165_139.out; have hnc31 := NB139_165.out; have hnb32 := NB165_140.out; have hnc32 := NB140_165.out; have hcz33_0 : w29.cell? ⟨gb165, 0, none⟩ = some (.int .i64 0) := (zQ BK165.out 0).trans rfl; have hcz33_1 : w29.cell? ⟨gb165, 1, none⟩ = some (.int .i64 0) := (zQ BK165.out 1).trans rfl; have hcz33_2 : w29.cell? ⟨gb165, 2, none⟩ = some (.int .i64 0) := (zQ BK165.out 2).trans rfl; have hcz33_3 : w29.cell? ⟨gb165, 3, none⟩ = some (.int .i64 0) := (zQ BK165.out 3).trans rfl; have hcz33_4 : w29.cell? ⟨gb165, 4, none⟩ = some (.int .i64 0) := (zQ BK165.out 4).trans rfl; have hcz33_5 : w29.cell? ⟨gb165, 5, none⟩ = some (.int .i64 0) := (zQ BK165.out 5).trans rfl; have hcz33_6 : w29.cell? ⟨gb165, 6, none⟩ = some (.int .i64 0) := (zQ BK165.out 6).trans rfl; have hcz33_7 : w29.cell? ⟨gb165, 7, none⟩ = some (.int .i64 0) := (zQ BK165.out 7).trans rfl; have hfz33_0 := blk_frozen BK165.out 0; have hfz33_1 := blk_frozen BK165.out 1; have hfz33_2 := blk_frozen BK165.out 2; have hfz33_3 := blk_frozen BK165.out 3; have hfz33_4 := blk_frozen BK165.out 4; have hfz33_5 := blk_frozen BK165.out 5; have hfz33_6 := blk_frozen BK165.out 6; have hfz33_7 := blk_frozen BK165.out 7) | ((with_reducible refine gate_callee (f := 37) rfl ?_); refine goesL_ (some 28) rfl rfl Try.func37 (by kernel_rfl) rfl #[.pointer (some ⟨gb140, 0, none⟩), .int .i64 40] rfl (by (try simp only [List.map_toArray, List.map_cons, List.map_nil]); first | done | rfl | (simp only [List.length_drop, List.length_take]; rfl)) ?_; (with_reducible refine (spec_l1Cur_pick.calls k gb140 l0 t163 t164 40 t166 t167 t168 w _ ?side1 ?side2 A10.out).mono ?_); (case side1 => repeat (first | (with_reducible first | exact HI140.out | apply IsS72.alloc | apply IsS72.drewN | apply IsS72.drew | apply IsS72.set_1 | apply IsS72.set_2 | refine IsS72.far ?_ NB140_138.out _ | refine IsS72.far ?_ NB140_139.out _ | refine IsS72.far ?_ NB140_165.out _) | exact HI140.out)); (case side2 => repeat (first | (with_reducible first | exact HB.out | apply zA | apply zB | apply zC | refine below_set ?_ (IsS72.ge HI140.out) | refine below_set ?_ GE138.out | refine below_set ?_ GE139.out | refine below_set ?_ GE165.out) | exact HB.out)); rintro e w34 ⟨rfl, hi, hb, hk⟩; refine ⟨_, rfl, ?_⟩; have n0_ := Aside0.mk (KeepBut.blk hk (g' := gb138) (o := cs8 24 0 0 0 0 0 0 0 0) (by (with_reducible repeat (first | refine zE ?_ _ | refine zF ?_ | refine zD ?_ _)); refine blk_far ?_ NB138_165.out _; (with_reducible repeat (first | refine zE ?_ _ | refine zF ?_ | refine zD ?_ _)); refine blk_far ?_ NB138_165.out _; (with_reducible repeat (first | refine zE ?_ _ | refine zF ?_ | refine zD ?_ _)); refine blk_far ?_ NB138_165.out _; (with_reducible repeat (first | refine zE ?_ _ | refine zF ?_ | refine zD ?_ _)); refine blk_far ?_ NB138_165.out _; (with_reducible repeat (first | refine zE ?_ _ | refine zF ?_ | refine zD ?_ _)); refine blk_far ?_ NB138_165.out _; (with_reducible repeat (first | refine zE ?_ _ | refine zF ?_ | refine zD ?_ _)); refine blk_far ?_ NB138_165.out _; (with_reducible repeat (first | refine zE ?_ _ | refine zF ?_ | refine zD ?_ _)); refine blk_far ?_ NB138_165.out _; (with_reducible repeat (first | refine zE ?_ _ | refine zF ?_ | refine zD ?_ _)); refine blk_far ?_ NB138_165.out _; (with_reducible repeat (first | refine zE ?_ _ | refine zF ?_ | refine zD ?_ _)); exact BK138.out) NB138_140.out (by simp)); have n1_ := Aside0.mk (KeepBut.blk hk (g' := gb139) (o := cs8 24 0 0 0 0 0 0 0 0) (by (with_reducible repeat (first | refine zE ?_ _ | refine zF ?_ | refine zD ?_ _)); refine blk_far ?_ NB139_165.out _; (with_reducible repeat (first | refine zE ?_ _ | refine zF ?_ | refine zD ?_ _)); refine blk_far ?_ NB139_165.out _; (with_reducible repeat (first | refine zE ?_ _ | refine zF ?_ | refine zD ?_ _)); refine blk_far ?_ NB139_165.out _; (with_reducible repeat (first | refine zE ?_ _ | refine zF ?_ | refine zD ?_ _)); refine blk_far ?_ NB139_165.out _; (with_reducible repeat (first | refine zE ?_ _ | refine zF ?_ | refine zD ?_ _)); refine blk_far ?_ NB139_165.out _; (with_reducible repeat (first | refine zE ?_ _ | refine zF ?_ | refine zD ?_ _)); refine blk_far ?_ NB139_165.out _; (with_reducible repeat (first | refine zE ?_ _ | refine zF ?_ | refine zD ?_ _)); refine blk_far ?_ NB139_165.out _; (with_reducible repeat (first | refine zE ?_ _ | refine zF ?_ | refine zD ?_ _)); refine blk_far ?_ NB139_165.out _; (with_reducible repeat (first | refine zE ?_ _ | refine zF ?_ | refine zD ?_ _)); exact BK139.out) NB139_140.out (by simp)); have n2_ := Aside0.mk (KeepBut.blk hk (g' := gb165) (o := cs8 24 t141 t144 t147 t150 t153 t156 t159 t162) (by (with_reducible repeat (first | refine zE ?_ _ | refine zF ?_ | refine zD ?_ _)); refine blk_put (cs := #[.int .i64 t141, .int .i64 t144, .int .i64 t147, .int .i64 t150, .int .i64 t153, .int .i64 t156, .int .i64 t159, .int .i64 0]) ?_ 7 _ rfl; (with_reducible repeat (first | refine zE ?_ _ | refine zF ?_ | refine zD ?_ _)); refine blk_put (cs := #[.int .i64 t141, .int .i64 t144, .int .i64 t147, .int .i64 t150, .int .i64 t153, .int .i64 t156, .int .i64 0, .int .i64 0]) ?_ 6 _ rfl; (with_reducible repeat (first | refine zE ?_ _ | refine zF ?_ | refine zD ?_ _)); refine blk_put (cs := #[.int .i64 t141, .int .i64 t144, .int .i64 t147, .int .i64 t150, .int .i64 t153, .int .i64 0, .int .i64 0, .int .i64 0]) ?_ 5 _ rfl; (with_reducible repeat (first | refine zE ?_ _ | refine zF ?_ | refine zD ?_ _)); refine blk_put (cs := #[.int .i64 t141, .int .i64 t144, .int .i64 t147, .int .i64 t150, .int .i64 0, .int .i64 0, .int .i64 0, .int .i64 0]) ?_ 4 _ rfl; (with_reducible repeat (first | refine zE ?_ _ | refine zF ?_ | refine zD ?_ _)); refine blk_put (cs := #[.int .i64 t141, .int .i64 t144, .int .i64 t147, .int .i64 0, .int .i64 0, .int .i64 0, .int .i64 0, .int .i64 0]) ?_ 3 _ rfl; (with_reducible repeat (first | refine zE ?_ _ | refine zF ?_ | refine zD ?_ _)); refine blk_put (cs := #[.int .i64 t141, .int .i64 t144, .int .i64 0, .int .i64 0, .int .i64 0, .int .i64 0, .int .i64 0, .int .i64 0]) ?_ 2 _ rfl; (with_reducible repeat (first | refine zE ?_ _ | refine zF ?_ | refine zD ?_ _)); refine blk_put (cs := #[.int .i64 t141, .int .i64 0, .int .i64 0, .int .i64 0, .int .i64 0, .int .i64 0, .int .i64 0, .int .i64 0]) ?_ 1 _ rfl; (with_reducible repeat (first | refine zE ?_ _ | refine zF ?_ | refine zD ?_ _)); refine blk_put (cs := #[.int .i64 0, .int .i64 0, .int .i64 0, .int .i64 0, .int .i64 0, .int .i64 0, .int .i64 0, .int .i64 0]) ?_ 0 _ rfl; (with_reducible repeat (first | refine zE ?_ _ | refine zF ?_ | refine zD ?_ _)); exact BK165.out) NB165_140.out (by simp)); have n3_ := Aside0.mk (hb); have n4_ := Aside0.mk (hi); clear BK138; clear BK139; clear BK165; clear HB; clear HI140; have BK138 := n0_; have BK139 := n1_; have BK165 := n2_; have HB := n3_; have HI140 := n4_; clear n0_ n1_ n2_ n3_ n4_; (try clear hb); (try clear hb2); (try clear hk); (try clear hi)) | ((with_reducible refine gate_callee (f := 37) rfl ?_); refine goesL_ (some 30) rfl rfl Try.func37 (by kernel_rfl) rfl #[.pointer (some ⟨gb140, 0, none⟩), .int .i64 9] rfl (by (try simp only [List.map_toArray, List.map_cons, List.map_nil]); first | done | rfl | (simp only [List.length_drop, List.length_take]; rfl)) ?_; (with_reducible refine (spec_l1Cur_pick.calls k gb140 l0 t167 t168 9 t169 t170 t171 w _ ?side1 ?side2 A11.out).mono ?_); (case side1 => repeat (first | (with_reducible first | exact HI140.out | apply IsS72.alloc | apply IsS72.drewN | apply IsS72.drew | apply IsS72.set_1 | apply IsS72.set_2 | refine IsS72.far ?_ NB140_138.out _ | refine IsS72.far ?_ NB140_139.out _ | refine IsS72.far ?_ NB140_165.out _) | exact HI140.out)); (case side2 => repeat (first | (with_reducible first | exact HB.out | apply zA | apply zB | apply zC | refine below_set ?_ (IsS72.ge HI140.out) | refine below_set ?_ GE138.out | refine below_set ?_ GE139.out | refine below_set ?_ GE165.out) | exact HB.out)); rintro e w35 ⟨rfl, hi, hb, hk⟩; refine ⟨_, rfl, ?_⟩; have n0_ := Aside0.mk (KeepBut.blk hk (g' := gb138) (o := cs8 24 0 0 0 0 0 0 0 0) (by (with_reducible repeat (first | refine zE ?_ _ | refine zF ?_ | refine zD ?_ _)); exact BK138.out) NB138_140.out (by simp)); have n1_ := Aside0.mk (KeepBut.blk hk (g' := gb139) (o := cs8 24 0 0 0 0 0 0 0 0) (by (with_reducible repeat (first | refine zE ?_ _ | refine zF ?_ | refine zD ?_ _)); exact BK139.out) NB139_140.out (by simp)); have n2_ := Aside0.mk (KeepBut.blk hk (g' := gb165) (o := cs8 24 t141 t144 t147 t150 t153 t156 t159 t162) (by (with_reducible repeat (first | refine zE ?_ _ | refine zF ?_ | refine zD ?_ _)); exact BK165.out) NB165_140.out (by simp)); have n3_ := Aside0.mk (hb); have n4_ := Aside0.mk (hi); clear BK138; clear BK139; clear BK165; clear HB; clear HI140; have BK138 := n0_; have BK139 := n1_; have BK165 := n2_; have HB := n3_; have HI140 := n4_; clear n0_ n1_ n2_ n3_ n4_; (try clear hb); (try clear hb2); (try clear hk); (try clear hi)) | ((with_reducible refine gate_callee (f := 38) rfl ?_); refine goesL_ (some 32) rfl rfl Try.func38 (by kernel_rfl) rfl #[.pointer (some ⟨gb140, 0, none⟩)] rfl (by (try simp only [List.map_toArray, List.map_cons, List.map_nil]); first | done | rfl | (simp only [List.length_drop, List.length_take]; rfl)) ?_; (with_reducible refine (spec_l1Cur_sized.calls k gb140 l0 t170 t171 t172 t173 t174 w _ ?side1 ?side2 A12.out).mono ?_); (case side1 => repeat (first | (with_reducible first | exact HI140.out | apply IsS72.alloc | apply IsS72.drewN | apply IsS72.drew | apply IsS72.set_1 | apply IsS72.set_2 | refine IsS72.far ?_ NB140_138.out _ | refine IsS72.far ?_ NB140_139.out _ | refine IsS72.far ?_ NB140_165.out _) | exact HI140.out)); (case side2 => repeat (first | (with_reducible first | exact HB.out | apply zA | apply zB | apply zC | refine below_set ?_ (IsS72.ge HI140.out) | refine below_set ?_ GE138.out | refine below_set ?_ GE139.out | refine below_set ?_ GE165.out) | exact HB.out)); rintro e w36 ⟨rfl, hi, hb, hk⟩; refine ⟨_, rfl, ?_⟩; have n0_ := Aside0.mk (KeepBut.blk hk (g' := gb138) (o := cs8 24 0 0 0 0 0 0 0 0) (by (with_reducible repeat (first | refine zE ?_ _ | refine zF ?_ | refine zD ?_ _)); exact BK138.out) NB138_140.out (by simp)); have n1_ := Aside0.mk (KeepBut.blk hk (g' := gb139) (o := cs8 24 0 0 0 0 0 0 0 0) (by (with_reducible repeat (first | refine zE ?_ _ | refine zF ?_ | refine zD ?_ _)); exact BK139.out) NB139_140.out (by simp)); have n2_ := Aside0.mk (KeepBut.blk hk (g' := gb165) (o := cs8 24 t141 t144 t147 t150 t153 t156 t159 t162) (by (with_reducible repeat (first | refine zE ?_ _ | refine zF ?_ | refine zD ?_ _)); exact BK165.out) NB165_140.out (by simp)); have n3_ := Aside0.mk (hb); have n4_ := Aside0.mk (hi); clear BK138; clear BK139; clear BK165; clear HB; clear HI140; have BK138 := n0_; have BK139 := n1_; have BK165 := n2_; have HB := n3_; have HI140 := n4_; clear n0_ n1_ n2_ n3_ n4_; (try clear hb); (try clear hb2); (try clear hk); (try clear hi)) | ((with_reducible refine gate_callee (f := 38) rfl ?_); refine goesL_ (some 34) rfl rfl Try.func38 (by kernel_rfl) rfl #[.pointer (some ⟨gb140, 0, none⟩)] rfl (by (try simp only [List.map_toArray, List.map_cons, List.map_nil]); first | done | rfl | (simp only [List.length_drop, List.length_take]; rfl)) ?_; (with_reducible refine (spec_l1Cur_sized.calls k gb140 l0 t173 t174 t175 t176 t177 w _ ?side1 ?side2 A13.out).mono ?_); (case side1 => repeat (first | (with_reducible first | exact HI140.out | apply IsS72.alloc | apply IsS72.drewN | apply IsS72.drew | apply IsS72.set_1 | apply IsS72.set_2 | refine IsS72.far ?_ NB140_138.out _ | refine IsS72.far ?_ NB140_139.out _ | refine IsS72.far ?_ NB140_165.out _) | exact HI140.out)); (case side2 => repeat (first | (with_reducible first | exact HB.out | apply zA | apply zB | apply zC | refine below_set ?_ (IsS72.ge HI140.out) | refine below_set ?_ GE138.out | refine below_set ?_ GE139.out | refine below_set ?_ GE165.out) | exact HB.out)); rintro e w37 ⟨rfl, hi, hb, hk⟩; refine ⟨_, rfl, ?_⟩; have n0_ := Aside0.mk (KeepBut.blk hk (g' := gb138) (o := cs8 24 0 0 0 0 0 0 0 0) (by (with_reducible repeat (first | refine zE ?_ _ | refine zF ?_ | refine zD ?_ _)); exact BK138.out) NB138_140.out (by simp)); have n1_ := Aside0.mk (KeepBut.blk hk (g' := gb139) (o := cs8 24 0 0 0 0 0 0 0 0) (by (with_reducible repeat (first | refine zE ?_ _ | refine zF ?_ | refine zD ?_ _)); exact BK139.out) NB139_140.out (by simp)); have n2_ := Aside0.mk (KeepBut.blk hk (g' := gb165) (o := cs8 24 t141 t144 t147 t150 t153 t156 t159 t162) (by (with_reducible repeat (first | refine zE ?_ _ | refine zF ?_ | refine zD ?_ _)); exact BK165.out) NB165_140.out (by simp)); have n3_ := Aside0.mk (hb); have n4_ := Aside0.mk (hi); clear BK138; clear BK139; clear BK165; clear HB; clear HI140; have BK138 := n0_; have BK139 := n1_; have BK165 := n2_; have HB := n3_; have HI140 := n4_; clear n0_ n1_ n2_ n3_ n4_; (try clear hb); (try clear hb2); (try clear hk); (try clear hi)) | ((with_reducible refine gate_callee (f := 38) rfl ?_); refine goesL_ (some 36) rfl rfl Try.func38 (by kernel_rfl) rfl #[.pointer (some ⟨gb140, 0, none⟩)] rfl (by (try simp only [List.map_toArray, List.map_cons, List.map_nil]); first | done | rfl | (simp only [List.length_drop, List.length_take]; rfl)) ?_; (with_reducible refine (spec_l1Cur_sized.calls k gb140 l0 t176 t177 t178 t179 t180 w _ ?side1 ?side2 A14.out).mono ?_); (case side1 => repeat (first | (with_reducible first | exact HI140.out | apply IsS72.alloc | apply IsS72.drewN | apply IsS72.drew | apply IsS72.set_1 | apply IsS72.set_2 | refine IsS72.far ?_ NB140_138.out _ | refine IsS72.far ?_ NB140_139.out _ | refine IsS72.far ?_ NB140_165.out _) | exact HI140.out)); (case side2 => repeat (first | (with_reducible first | exact HB.out | apply zA | apply zB | apply zC | refine below_set ?_ (IsS72.ge HI140.out) | refine below_set ?_ GE138.out | refine below_set ?_ GE139.out | refine below_set ?_ GE165.out) | exact HB.out)); rintro e w38 ⟨rfl, hi, hb, hk⟩; refine ⟨_, rfl, ?_⟩; have n0_ := Aside0.mk (KeepBut.blk hk (g' := gb138) (o := cs8 24 0 0 0 0 0 0 0 0) (by (with_reducible repeat (first | refine zE ?_ _ | refine zF ?_ | refine zD ?_ _)); exact BK138.out) NB138_140.out (by simp)); have n1_ := Aside0.mk (KeepBut.blk hk (g' := gb139) (o := cs8 24 0 0 0 0 0 0 0 0) (by (with_reducible repeat (first | refine zE ?_ _ | refine zF ?_ | refine zD ?_ _)); exact BK139.out) NB139_140.out (by simp)); have n2_ := Aside0.mk (KeepBut.blk hk (g' := gb165) (o := cs8 24 t141 t144 t147 t150 t153 t156 t159 t162) (by (with_reducible repeat (first | refine zE ?_ _ | refine zF ?_ | refine zD ?_ _)); exact BK165.out) NB165_140.out (by simp)); have n3_ := Aside0.mk (hb); have n4_ := Aside0.mk (hi); clear BK138; clear BK139; clear BK165; clear HB; clear HI140; have BK138 := n0_; have BK139 := n1_; have BK165 := n2_; have HB := n3_; have HI140 := n4_; clear n0_ n1_ n2_ n3_ n4_; (try clear hb); (try clear hb2); (try clear hk); (try clear hi)) | ((with_reducible refine gate_callee (f := 38) rfl ?_); refine goesL_ (some 38) rfl rfl Try.func38 (by kernel_rfl) rfl #[.pointer (some ⟨gb140, 0, none⟩)] rfl (by (try simp only [List.map_toArray, List.map_cons, List.map_nil]); first | done | rfl | (simp only [List.length_drop, List.length_take]; rfl)) ?_; (with_reducible refine (spec_l1Cur_sized.calls k gb140 l0 t179 t180 t181 t182 t183 w _ ?side1 ?side2 A15.out).mono ?_); (case side1 => repeat (first | (with_reducible first | exact HI140.out | apply IsS72.alloc | apply IsS72.drewN | apply IsS72.drew | apply IsS72.set_1 | apply IsS72.set_2 | refine IsS72.far ?_ NB140_138.out _ | refine IsS72.far ?_ NB140_139.out _ | refine IsS72.far ?_ NB140_165.out _) | exact HI140.out)); (case side2 => repeat (first | (with_reducible first | exact HB.out | apply zA | apply zB | apply zC | refine below_set ?_ (IsS72.ge HI140.out) | refine below_set ?_ GE138.out | refine below_set ?_ GE139.out | refine below_set ?_ GE165.out) | exact HB.out)); rintro e w39 ⟨rfl, hi, hb, hk⟩; refine ⟨_, rfl, ?_⟩; have n0_ := Aside0.mk (KeepBut.blk hk (g' := gb138) (o := cs8 24 0 0 0 0 0 0 0 0) (by (with_reducible repeat (first | refine zE ?_ _ | refine zF ?_ | refine zD ?_ _)); exact BK138.out) NB138_140.out (by simp)); have n1_ := Aside0.mk (KeepBut.blk hk (g' := gb139) (o := cs8 24 0 0 0 0 0 0 0 0) (by (with_reducible repeat (first | refine zE ?_ _ | refine zF ?_ | refine zD ?_ _)); exact BK139.out) NB139_140.out (by simp)); have n2_ := Aside0.mk (KeepBut.blk hk (g' := gb165) (o := cs8 24 t141 t144 t147 t150 t153 t156 t159 t162) (by (with_reducible repeat (first | refine zE ?_ _ | refine zF ?_ | refine zD ?_ _)); exact BK165.out) NB165_140.out (by simp)); have n3_ := Aside0.mk (hb); have n4_ := Aside0.mk (hi); clear BK138; clear BK139; clear BK165; clear HB; clear HI140; have BK138 := n0_; have BK139 := n1_; have BK165 := n2_; have HB := n3_; have HI140 := n4_; clear n0_ n1_ n2_ n3_ n4_; (try clear hb); (try clear hb2); (try clear hk); (try clear hi)) | ((with_reducible refine gate_callee (f := 38) rfl ?_); refine goesL_ (some 40) rfl rfl Try.func38 (by kernel_rfl) rfl #[.pointer (some ⟨gb140, 0, none⟩)] rfl (by (try simp only [List.map_toArray, List.map_cons, List.map_nil]); first | done | rfl | (simp only [List.length_drop, List.length_take]; rfl)) ?_; (with_reducible refine (spec_l1Cur_sized.calls k gb140 l0 t182 t183 t184 t185 t186 w _ ?side1 ?side2 A16.out).mono ?_); (case side1 => repeat (first | (with_reducible first | exact HI140.out | apply IsS72.alloc | apply IsS72.drewN | apply IsS72.drew | apply IsS72.set_1 | apply IsS72.set_2 | refine IsS72.far ?_ NB140_138.out _ | refine IsS72.far ?_ NB140_139.out _ | refine IsS72.far ?_ NB140_165.out _) | exact HI140.out)); (case side2 => repeat (first | (with_reducible first | exact HB.out | apply zA | apply zB | apply zC | refine below_set ?_ (IsS72.ge HI140.out) | refine below_set ?_ GE138.out | refine below_set ?_ GE139.out | refine below_set ?_ GE165.out) | exact HB.out)); rintro e w40 ⟨rfl, hi, hb, hk⟩; refine ⟨_, rfl, ?_⟩; have n0_ := Aside0.mk (KeepBut.blk hk (g' := gb138) (o := cs8 24 0 0 0 0 0 0 0 0) (by (with_reducible repeat (first | refine zE ?_ _ | refine zF ?_ | refine zD ?_ _)); exact BK138.out) NB138_140.out (by simp)); have n1_ := Aside0.mk (KeepBut.blk hk (g' := gb139) (o := cs8 24 0 0 0 0 0 0 0 0) (by (with_reducible repeat (first | refine zE ?_ _ | refine zF ?_ | refine zD ?_ _)); exact BK139.out) NB139_140.out (by simp)); have n2_ := Aside0.mk (KeepBut.blk hk (g' := gb165) (o := cs8 24 t141 t144 t147 t150 t153 t156 t159 t162) (by (with_reducible repeat (first | refine zE ?_ _ | refine zF ?_ | refine zD ?_ _)); exact BK165.out) NB165_140.out (by simp)); have n3_ := Aside0.mk (hb); have n4_ := Aside0.mk (hi); clear BK138; clear BK139; clear BK165; clear HB; clear HI140; have BK138 := n0_; have BK139 := n1_; have BK165 := n2_; have HB := n3_; have HI140 := n4_; clear n0_ n1_ n2_ n3_ n4_; (try clear hb); (try clear hb2); (try clear hk); (try clear hi)) | ((with_reducible refine gate_callee (f := 38) rfl ?_); refine goesL_ (some 42) rfl rfl Try.func38 (by kernel_rfl) rfl #[.pointer (some ⟨gb140, 0, none⟩)] rfl (by (try simp only [List.map_toArray, List.map_cons, List.map_nil]); first | done | rfl | (simp only [List.length_drop, List.length_take]; rfl)) ?_; (with_reducible refine (spec_l1Cur_sized.calls k gb140 l0 t185 t186 t187 t188 t189 w _ ?side1 ?side2 A17.out).mono ?_); (case side1 => repeat (first | (with_reducible first | exact HI140.out | apply IsS72.alloc | apply IsS72.drewN | apply IsS72.drew | apply IsS72.set_1 | apply IsS72.set_2 | refine IsS72.far ?_ NB140_138.out _ | refine IsS72.far ?_ NB140_139.out _ | refine IsS72.far ?_ NB140_165.out _) | exact HI140.out)); (case side2 => repeat (first | (with_reducible first | exact HB.out | apply zA | apply zB | apply zC | refine below_set ?_ (IsS72.ge HI140.out) | refine below_set ?_ GE138.out | refine below_set ?_ GE139.out | refine below_set ?_ GE165.out) | exact HB.out)); rintro e w41 ⟨rfl, hi, hb, hk⟩; refine ⟨_, rfl, ?_⟩; have n0_ := Aside0.mk (KeepBut.blk hk (g' := gb138) (o := cs8 24 0 0 0 0 0 0 0 0) (by (with_reducible repeat (first | refine zE ?_ _ | refine zF ?_ | refine zD ?_ _)); exact BK138.out) NB138_140.out (by simp)); have n1_ := Aside0.mk (KeepBut.blk hk (g' := gb139) (o := cs8 24 0 0 0 0 0 0 0 0) (by (with_reducible repeat (first | refine zE ?_ _ | refine zF ?_ | refine zD ?_ _)); exact BK139.out) NB139_140.out (by simp)); have n2_ := Aside0.mk (KeepBut.blk hk (g' := gb165) (o := cs8 24 t141 t144 t147 t150 t153 t156 t159 t162) (by (with_reducible repeat (first | refine zE ?_ _ | refine zF ?_ | refine zD ?_ _)); exact BK165.out) NB165_140.out (by simp)); have n3_ := Aside0.mk (hb); have n4_ := Aside0.mk (hi); clear BK138; clear BK139; clear BK165; clear HB; clear HI140; have BK138 := n0_; have BK139 := n1_; have BK165 := n2_; have HB := n3_; have HI140 := n4_; clear n0_ n1_ n2_ n3_ n4_; (try clear hb); (try clear hb2); (try clear hk); (try clear hi)) | ((with_reducible refine gate_dst (N := 6) rfl ?_); refine box_event ?hg (N := 6) ?hd (cs := #[.int .i64 0, .int .i64 0, .int .i64 0, .int .i64 0, .int .i64 0, .int .i64 0, .int .i64 0, .int .i64 0]) (t := 24) ?hr ?_; (case hd => rfl); (case hg => rfl); (case hr => first | (go_simp; done) | (go_simp; rfl)); intro gb190 hg w42 hbox hb; have n0_ := Aside0.mk (blk_below (g := gb138) (o := cs8 24 0 0 0 0 0 0 0 0) (by (with_reducible repeat (first | refine zE ?_ _ | refine zF ?_ | refine zD ?_ _)); exact BK138.out) hb); have n1_ := Aside0.mk (blk_below (g := gb139) (o := cs8 24 0 0 0 0 0 0 0 0) (by (with_reducible repeat (first | refine zE ?_ _ | refine zF ?_ | refine zD ?_ _)); exact BK139.out) hb); have n2_ := Aside0.mk (IsS72.below (by repeat (first | (with_reducible first | exact HI140.out | apply IsS72.alloc | apply IsS72.drewN | apply IsS72.drew | apply IsS72.set_1 | apply IsS72.set_2 | refine IsS72.far ?_ NB140_138.out _ | refine IsS72.far ?_ NB140_139.out _ | refine IsS72.far ?_ NB140_165.out _) | exact HI140.out)) hb); have n3_ := Aside0.mk (blk_below (g := gb165) (o := cs8 24 t141 t144 t147 t150 t153 t156 t159 t162) (by (with_reducible repeat (first | refine zE ?_ _ | refine zF ?_ | refine zD ?_ _)); exact BK165.out) hb); have n4_ := Aside0.mk (below_step (by repeat (first | (with_reducible first | exact HB.out | apply zA | apply zB | apply zC | refine below_set ?_ (IsS72.ge HI140.out) | refine below_set ?_ GE138.out | refine below_set ?_ GE139.out | refine below_set ?_ GE165.out) | exact HB.out)) hb); have n5_ := Aside0.mk (hbox); have n6_ := Aside0.mk ((by rw [hg]; exact (zW (by repeat (first | (with_reducible first | exact HB.out | apply zA | apply zB | apply zC | refine below_set ?_ (IsS72.ge HI140.out) | refine below_set ?_ GE138.out | refine below_set ?_ GE139.out | refine below_set ?_ GE165.out) | exact HB.out))) : w.heap.size ≤ gb190)); have n7_ := Aside0.mk ((by rw [hg]; exact (zW (by repeat (first | (with_reducible first | exact HB.out | apply zA | apply zB | apply zC | refine below_set ?_ (IsS72.ge HI140.out) | refine below_set ?_ GE138.out | refine below_set ?_ GE139.out | refine below_set ?_ GE165.out) | exact HB.out))) : w.heap.size ≤ gb190)); have n8_ := Aside0.mk ((by rw [hg]; exact Nat.ne_of_lt (blk_lt (g := gb138) (o := cs8 24 0 0 0 0 0 0 0 0) (by (with_reducible repeat (first | refine zE ?_ _ | refine zF ?_ | refine zD ?_ _)); exact BK138.out)) : gb138 ≠ gb190)); have n9_ := Aside0.mk ((by rw [hg]; exact Nat.ne_of_gt (blk_lt (g := gb138) (o := cs8 24 0 0 0 0 0 0 0 0) (by (with_reducible repeat (first | refine zE ?_ _ | refine zF ?_ | refine zD ?_ _)); exact BK138.out)) : gb190 ≠ gb138)); have n10_ := Aside0.mk ((by rw [hg]; exact Nat.ne_of_lt (blk_lt (g := gb139) (o := cs8 24 0 0 0 0 0 0 0 0) (by (with_reducible repeat (first | refine zE ?_ _ | refine zF ?_ | refine zD ?_ _)); exact BK139.out)) : gb139 ≠ gb190)); have n11_ := Aside0.mk ((by rw [hg]; exact Nat.ne_of_gt (blk_lt (g := gb139) (o := cs8 24 0 0 0 0 0 0 0 0) (by (with_reducible repeat (first | refine zE ?_ _ | refine zF ?_ | refine zD ?_ _)); exact BK139.out)) : gb190 ≠ gb139)); have n12_ := Aside0.mk ((by rw [hg]; exact Nat.ne_of_lt (blk_lt (g := gb165) (o := cs8 24 t141 t144 t147 t150 t153 t156 t159 t162) (by (with_reducible repeat (first | refine zE ?_ _ | refine zF ?_ | refine zD ?_ _)); exact BK165.out)) : gb165 ≠ gb190)); have n13_ := Aside0.mk ((by rw [hg]; exact Nat.ne_of_gt (blk_lt (g := gb165) (o := cs8 24 t141 t144 t147 t150 t153 t156 t159 t162) (by (with_reducible repeat (first | refine zE ?_ _ | refine zF ?_ | refine zD ?_ _)); exact BK165.out)) : gb190 ≠ gb165)); have n14_ := Aside0.mk ((by rw [hg]; exact Nat.ne_of_lt (IsS72.lt (show IsS72 w _ gb140 l0 t188 t189 from by repeat (first | (with_reducible first | exact HI140.out | apply IsS72.alloc | apply IsS72.drewN | apply IsS72.drew | apply IsS72.set_1 | apply IsS72.set_2 | refine IsS72.far ?_ NB140_138.out _ | refine IsS72.far ?_ NB140_139.out _ | refine IsS72.far ?_ NB140_165.out _) | exact HI140.out))) : gb140 ≠ gb190)); have n15_ := Aside0.mk ((by rw [hg]; exact Nat.ne_of_gt (IsS72.lt (show IsS72 w _ gb140 l0 t188 t189 from by repeat (first | (with_reducible first | exact HI140.out | apply IsS72.alloc | apply IsS72.drewN | apply IsS72.drew | apply IsS72.set_1 | apply IsS72.set_2 | refine IsS72.far ?_ NB140_138.out _ | refine IsS72.far ?_ NB140_139.out _ | refine IsS72.far ?_ NB140_165.out _) | exact HI140.out))) : gb190 ≠ gb140)); clear BK138; clear BK139; clear HI140; clear BK165; clear HB; have BK138 := n0_; have BK139 := n1_; have HI140 := n2_; have BK165 := n3_; have HB := n4_; have BK190 := n5_; have GW190 := n6_; have GE190 := n7_; have NB138_190 := n8_; have NB190_138 := n9_; have NB139_190 := n10_; have NB190_139 := n11_; have NB165_190 := n12_; have NB190_165 := n13_; have NB140_190 := n14_; have NB190_140 := n15_; clear n0_ n1_ n2_ n3_ n4_ n5_ n6_ n7_ n8_ n9_ n10_ n11_ n12_ n13_ n14_ n15_; clear hb hbox hg; have hnb43 := NB190_138.out; have hnc43 := NB138_190.out; have hnb44 := NB190_139.out; have hnc44 := NB139_190.out; have hnb45 := NB190_165.out; have hnc45 := NB165_190.out; have hnb46 := NB190_140.out; have hnc46 := NB140_190.out; have hcz47_0 : w42.cell? ⟨gb190, 0, none⟩ = some (.int .i64 0) := (zQ BK190.out 0).trans rfl; have hcz47_1 : w42.cell? ⟨gb190, 1, none⟩ = some (.int .i64 0) := (zQ BK190.out 1).trans rfl; have hcz47_2 : w42.cell? ⟨gb190, 2, none⟩ = some (.int .i64 0) := (zQ BK190.out 2).trans rfl; have hcz47_3 : w42.cell? ⟨gb190, 3, none⟩ = some (.int .i64 0) := (zQ BK190.out 3).trans rfl; have hcz47_4 : w42.cell? ⟨gb190, 4, none⟩ = some (.int .i64 0) := (zQ BK190.out 4).trans rfl; have hcz47_5 : w42.cell? ⟨gb190, 5, none⟩ = some (.int .i64 0) := (zQ BK190.out 5).trans rfl; have hcz47_6 : w42.cell? ⟨gb190, 6, none⟩ = some (.int .i64 0) := (zQ BK190.out 6).trans rfl; have hcz47_7 : w42.cell? ⟨gb190, 7, none⟩ = some (.int .i64 0) := (zQ BK190.out 7).trans rfl; have hfz47_0 := blk_frozen BK190.out 0; have hfz47_1 := blk_frozen BK190.out 1; have hfz47_2 := blk_frozen BK190.out 2; have hfz47_3 := blk_frozen BK190.out 3; have hfz47_4 := blk_frozen BK190.out 4; have hfz47_5 := blk_frozen BK190.out 5; have hfz47_6 := blk_frozen BK190.out 6; have hfz47_7 := blk_frozen BK190.out 7))
 have n0_ : Aside0 (((((((((w42.setCell ⟨gb190, 0, none⟩ (.int .i64 t166)).setCell ⟨gb190, 1, none⟩ (.int .i64 t169)).setCell ⟨gb190, 2, none⟩ (.int .i64 t172)).setCell ⟨gb190, 3, none⟩ (.int .i64 t175)).setCell ⟨gb190, 4, none⟩ (.int .i64 t178)).setCell ⟨gb190, 5, none⟩ (.int .i64 t181)).setCell ⟨gb190, 6, none⟩ (.int .i64 t184)).setCell ⟨gb190, 7, none⟩ (.int .i64 t187)).heap[gb138]? = some (.cells #[.int .i64 0, .int .i64 0, .int .i64 0, .int .i64 0, .int .i64 0, .int .i64 0, .int .i64 0, .int .i64 0] 24 (0, 0))) := ⟨by (with_reducible repeat (first | refine zE ?_ _ | refine zF ?_ | refine zD ?_ _)); refine blk_far ?_ NB138_190.out _; (with_reducible repeat (first | refine zE ?_ _ | refine zF ?_ | refine zD ?_ _)); refine blk_far ?_ NB138_190.out _; (with_reducible repeat (first | refine zE ?_ _ | refine zF ?_ | refine zD ?_ _)); refine blk_far ?_ NB138_190.out _; (with_reducible repeat (first | refine zE ?_ _ | refine zF ?_ | refine zD ?_ _)); refine blk_far ?_ NB138_190.out _; (with_reducible repeat (first | refine zE ?_ _ | refine zF ?_ | refine zD ?_ _)); refine blk_far ?_ NB138_190.out _; (with_reducible repeat (first | refine zE ?_ _ | refine zF ?_ | refine zD ?_ _)); refine blk_far ?_ NB138_190.out _; (with_reducible repeat (first | refine zE ?_ _ | refine zF ?_ | refine zD ?_ _)); refine blk_far ?_ NB138_190.out _; (with_reducible repeat (first | refine zE ?_ _ | refine zF ?_ | refine zD ?_ _)); refine blk_far ?_ NB138_190.out _; (with_reducible repeat (first | refine zE ?_ _ | refine zF ?_ | refine zD ?_ _)); exact BK138.out⟩
 have n1_ : Aside0 (((((((((w42.setCell ⟨gb190, 0, none⟩ (.int .i64 t166)).setCell ⟨gb190, 1, none⟩ (.int .i64 t169)).setCell ⟨gb190, 2, none⟩ (.int .i64 t172)).setCell ⟨gb190, 3, none⟩ (.int .i64 t175)).setCell ⟨gb190, 4, none⟩ (.int .i64 t178)).setCell ⟨gb190, 5, none⟩ (.int .i64 t181)).setCell ⟨gb190, 6, none⟩ (.int .i64 t184)).setCell ⟨gb190, 7, none⟩ (.int .i64 t187)).heap[gb139]? = some (.cells #[.int .i64 0, .int .i64 0, .int .i64 0, .int .i64 0, .int .i64 0, .int .i64 0, .int .i64 0, .int .i64 0] 24 (0, 0))) := ⟨by (with_reducible repeat (first | refine zE ?_ _ | refine zF ?_ | refine zD ?_ _)); refine blk_far ?_ NB139_190.out _; (with_reducible repeat (first | refine zE ?_ _ | refine zF ?_ | refine zD ?_ _)); refine blk_far ?_ NB139_190.out _; (with_reducible repeat (first | refine zE ?_ _ | refine zF ?_ | refine zD ?_ _)); refine blk_far ?_ NB139_190.out _; (with_reducible repeat (first | refine zE ?_ _ | refine zF ?_ | refine zD ?_ _)); refine blk_far ?_ NB139_190.out _; (with_reducible repeat (first | refine zE ?_ _ | refine zF ?_ | refine zD ?_ _)); refine blk_far ?_ NB139_190.out _; (with_reducible repeat (first | refine zE ?_ _ | refine zF ?_ | refine zD ?_ _)); refine blk_far ?_ NB139_190.out _; (with_reducible repeat (first | refine zE ?_ _ | refine zF ?_ | refine zD ?_ _)); refine blk_far ?_ NB139_190.out _; (with_reducible repeat (first | refine zE ?_ _ | refine zF ?_ | refine zD ?_ _)); refine blk_far ?_ NB139_190.out _; (with_reducible repeat (first | refine zE ?_ _ | refine zF ?_ | refine zD ?_ _)); exact BK139.out⟩
 have n2_ : Aside0 (((((((((w42.setCell ⟨gb190, 0, none⟩ (.int .i64 t166)).setCell ⟨gb190, 1, none⟩ (.int .i64 t169)).setCell ⟨gb190, 2, none⟩ (.int .i64 t172)).setCell ⟨gb190, 3, none⟩ (.int .i64 t175)).setCell ⟨gb190, 4, none⟩ (.int .i64 t178)).setCell ⟨gb190, 5, none⟩ (.int .i64 t181)).setCell ⟨gb190, 6, none⟩ (.int .i64 t184)).setCell ⟨gb190, 7, none⟩ (.int .i64 t187)).heap[gb165]? = some (.cells #[.int .i64 t141, .int .i64 t144, .int .i64 t147, .int .i64 t150, .int .i64 t153, .int .i64 t156, .int .i64 t159, .int .i64 t162] 24 (0, 0))) := ⟨by (with_reducible repeat (first | refine zE ?_ _ | refine zF ?_ | refine zD ?_ _)); refine blk_far ?_ NB165_190.out _; (with_reducible repeat (first | refine zE ?_ _ | refine zF ?_ | refine zD ?_ _)); refine blk_far ?_ NB165_190.out _; (with_reducible repeat (first | refine zE ?_ _ | refine zF ?_ | refine zD ?_ _)); refine blk_far ?_ NB165_190.out _; (with_reducible repeat (first | refine zE ?_ _ | refine zF ?_ | refine zD ?_ _)); refine blk_far ?_ NB165_190.out _; (with_reducible repeat (first | refine zE ?_ _ | refine zF ?_ | refine zD ?_ _)); refine blk_far ?_ NB165_190.out _; (with_reducible repeat (first | refine zE ?_ _ | refine zF ?_ | refine zD ?_ _)); refine blk_far ?_ NB165_190.out _; (with_reducible repeat (first | refine zE ?_ _ | refine zF ?_ | refine zD ?_ _)); refine blk_far ?_ NB165_190.out _; (with_reducible repeat (first | refine zE ?_ _ | refine zF ?_ | refine zD ?_ _)); refine blk_far ?_ NB165_190.out _; (with_reducible repeat (first | refine zE ?_ _ | refine zF ?_ | refine zD ?_ _)); exact BK165.out⟩
 have n3_ : Aside0 (((((((((w42.setCell ⟨gb190, 0, none⟩ (.int .i64 t166)).setCell ⟨gb190, 1, none⟩ (.int .i64 t169)).setCell ⟨gb190, 2, none⟩ (.int .i64 t172)).setCell ⟨gb190, 3, none⟩ (.int .i64 t175)).setCell ⟨gb190, 4, none⟩ (.int .i64 t178)).setCell ⟨gb190, 5, none⟩ (.int .i64 t181)).setCell ⟨gb190, 6, none⟩ (.int .i64 t184)).setCell ⟨gb190, 7, none⟩ (.int .i64 t187)).heap[gb190]? = some (.cells #[.int .i64 t166, .int .i64 t169, .int .i64 t172, .int .i64 t175, .int .i64 t178, .int .i64 t181, .int .i64 t184, .int .i64 t187] 24 (0, 0))) := ⟨by (with_reducible repeat (first | refine zE ?_ _ | refine zF ?_ | refine zD ?_ _)); refine blk_put (cs := #[.int .i64 t166, .int .i64 t169, .int .i64 t172, .int .i64 t175, .int .i64 t178, .int .i64 t181, .int .i64 t184, .int .i64 0]) ?_ 7 _ rfl; (with_reducible repeat (first | refine zE ?_ _ | refine zF ?_ | refine zD ?_ _)); refine blk_put (cs := #[.int .i64 t166, .int .i64 t169, .int .i64 t172, .int .i64 t175, .int .i64 t178, .int .i64 t181, .int .i64 0, .int .i64 0]) ?_ 6 _ rfl; (with_reducible repeat (first | refine zE ?_ _ | refine zF ?_ | refine zD ?_ _)); refine blk_put (cs := #[.int .i64 t166, .int .i64 t169, .int .i64 t172, .int .i64 t175, .int .i64 t178, .int .i64 0, .int .i64 0, .int .i64 0]) ?_ 5 _ rfl; (with_reducible repeat (first | refine zE ?_ _ | refine zF ?_ | refine zD ?_ _)); refine blk_put (cs := #[.int .i64 t166, .int .i64 t169, .int .i64 t172, .int .i64 t175, .int .i64 0, .int .i64 0, .int .i64 0, .int .i64 0]) ?_ 4 _ rfl; (with_reducible repeat (first | refine zE ?_ _ | refine zF ?_ | refine zD ?_ _)); refine blk_put (cs := #[.int .i64 t166, .int .i64 t169, .int .i64 t172, .int .i64 0, .int .i64 0, .int .i64 0, .int .i64 0, .int .i64 0]) ?_ 3 _ rfl; (with_reducible repeat (first | refine zE ?_ _ | refine zF ?_ | refine zD ?_ _)); refine blk_put (cs := #[.int .i64 t166, .int .i64 t169, .int .i64 0, .int .i64 0, .int .i64 0, .int .i64 0, .int .i64 0, .int .i64 0]) ?_ 2 _ rfl; (with_reducible repeat (first | refine zE ?_ _ | refine zF ?_ | refine zD ?_ _)); refine blk_put (cs := #[.int .i64 t166, .int .i64 0, .int .i64 0, .int .i64 0, .int .i64 0, .int .i64 0, .int .i64 0, .int .i64 0]) ?_ 1 _ rfl; (with_reducible repeat (first | refine zE ?_ _ | refine zF ?_ | refine zD ?_ _)); refine blk_put (cs := #[.int .i64 0, .int .i64 0, .int .i64 0, .int .i64 0, .int .i64 0, .int .i64 0, .int .i64 0, .int .i64 0]) ?_ 0 _ rfl; (with_reducible repeat (first | refine zE ?_ _ | refine zF ?_ | refine zD ?_ _)); exact BK190.out⟩
 have n4_ : Aside0 (IsS72 w ((((((((w42.setCell ⟨gb190, 0, none⟩ (.int .i64 t166)).setCell ⟨gb190, 1, none⟩ (.int .i64 t169)).setCell ⟨gb190, 2, none⟩ (.int .i64 t172)).setCell ⟨gb190, 3, none⟩ (.int .i64 t175)).setCell ⟨gb190, 4, none⟩ (.int .i64 t178)).setCell ⟨gb190, 5, none⟩ (.int .i64 t181)).setCell ⟨gb190, 6, none⟩ (.int .i64 t184)).setCell ⟨gb190, 7, none⟩ (.int .i64 t187)) gb140 l0 t188 t189) := ⟨by repeat (first | (with_reducible first | exact HI140.out | apply IsS72.alloc | apply IsS72.drewN | apply IsS72.drew | apply IsS72.set_1 | apply IsS72.set_2 | refine IsS72.far ?_ NB140_138.out _ | refine IsS72.far ?_ NB140_139.out _ | refine IsS72.far ?_ NB140_165.out _ | refine IsS72.far ?_ NB140_190.out _) | exact HI140.out)⟩
 have n5_ : Aside0 (Below w.heap.size w ((((((((w42.setCell ⟨gb190, 0, none⟩ (.int .i64 t166)).setCell ⟨gb190, 1, none⟩ (.int .i64 t169)).setCell ⟨gb190, 2, none⟩ (.int .i64 t172)).setCell ⟨gb190, 3, none⟩ (.int .i64 t175)).setCell ⟨gb190, 4, none⟩ (.int .i64 t178)).setCell ⟨gb190, 5, none⟩ (.int .i64 t181)).setCell ⟨gb190, 6, none⟩ (.int .i64 t184)).setCell ⟨gb190, 7, none⟩ (.int .i64 t187))) := ⟨by repeat (first | (with_reducible first | exact HB.out | apply zA | apply zB | apply zC | refine below_set ?_ (IsS72.ge HI140.out) | refine below_set ?_ GE138.out | refine below_set ?_ GE139.out | refine below_set ?_ GE165.out | refine below_set ?_ GE190.out) | exact HB.out)⟩
 (try clear BK138)
 (try clear BK139)
 (try clear BK165)
 (try clear BK190)
 (try clear HI140)
 (try clear HB)
 generalize ((((((((w42.setCell ⟨gb190, 0, none⟩ (.int .i64 t166)).setCell ⟨gb190, 1, none⟩ (.int .i64 t169)).setCell ⟨gb190, 2, none⟩ (.int .i64 t172)).setCell ⟨gb190, 3, none⟩ (.int .i64 t175)).setCell ⟨gb190, 4, none⟩ (.int .i64 t178)).setCell ⟨gb190, 5, none⟩ (.int .i64 t181)).setCell ⟨gb190, 6, none⟩ (.int .i64 t184)).setCell ⟨gb190, 7, none⟩ (.int .i64 t187)) = w48 at n0_ n1_ n2_ n3_ n4_ n5_ ⊢
 have BK138 := n0_
 have BK139 := n1_
 have BK165 := n2_
 have BK190 := n3_
 have HI140 := n4_
 have HB := n5_
 clear n0_ n1_ n2_ n3_ n4_ n5_
 have n0_ := Aside0.mk (zF BK138.out)
 have n1_ := Aside0.mk (zF BK139.out)
 have n2_ := Aside0.mk (zF BK165.out)
 have n3_ := Aside0.mk (zF BK190.out)
 have n4_ := Aside0.mk (IsS72.drew HI140.out)
 have n5_ := Aside0.mk (zC HB.out)
 clear BK138
 clear BK139
 clear BK165
 clear BK190
 clear HI140
 clear HB
 have BK138 := n0_
 have BK139 := n1_
 have BK165 := n2_
 have BK190 := n3_
 have HI140 := n4_
 have HB := n5_
 clear n0_ n1_ n2_ n3_ n4_ n5_
 refine start_ (n := 4) (S := fun w' => w'.cell? ⟨gb165, 0, none⟩ = some (.int .i64 t141) ∧ w'.cell? ⟨gb165, 1, none⟩ = some (.int .i64 t144) ∧ w'.cell? ⟨gb165, 2, none⟩ = some (.int .i64 t147) ∧ w'.cell? ⟨gb165, 3, none⟩ = some (.int .i64 t150) ∧ w'.cell? ⟨gb165, 4, none⟩ = some (.int .i64 t153) ∧ w'.cell? ⟨gb165, 5, none⟩ = some (.int .i64 t156) ∧ w'.cell? ⟨gb165, 6, none⟩ = some (.int .i64 t159) ∧ w'.cell? ⟨gb165, 7, none⟩ = some (.int .i64 t162) ∧ w'.cell? ⟨gb190, 0, none⟩ = some (.int .i64 t166) ∧ w'.cell? ⟨gb190, 1, none⟩ = some (.int .i64 t169) ∧ w'.cell? ⟨gb190, 2, none⟩ = some (.int .i64 t172) ∧ w'.cell? ⟨gb190, 3, none⟩ = some (.int .i64 t175) ∧ w'.cell? ⟨gb190, 4, none⟩ = some (.int .i64 t178) ∧ w'.cell? ⟨gb190, 5, none⟩ = some (.int .i64 t181) ∧ w'.cell? ⟨gb190, 6, none⟩ = some (.int .i64 t184) ∧ w'.cell? ⟨gb190, 7, none⟩ = some (.int .i64 t187)) (ds := []) #[false, false, false, false] (by kernel_rfl) rfl rfl ⟨(zQ BK165.out 0).trans rfl, (zQ BK165.out 1).trans rfl, (zQ BK165.out 2).trans rfl, (zQ BK165.out 3).trans rfl, (zQ BK165.out 4).trans rfl, (zQ BK165.out 5).trans rfl, (zQ BK165.out 6).trans rfl, (zQ BK165.out 7).trans rfl, (zQ BK190.out 0).trans rfl, (zQ BK190.out 1).trans rfl, (zQ BK190.out 2).trans rfl, (zQ BK190.out 3).trans rfl, (zQ BK190.out 4).trans rfl, (zQ BK190.out 5).trans rfl, (zQ BK190.out 6).trans rfl, (zQ BK190.out 7).trans rfl⟩ (fun hHeld => ?_)
 generalize w48.drew = w49 at BK138 BK139 BK165 BK190 HI140 HB hHeld ⊢
 refine take_ (i := 0) (N := some 44) (v := ?_) (a' := ?_) #[true, false, false, false] rfl rfl (by kernel_rfl) (fun _ _ _ h => h) (Or.inl ⟨by rfl, ?_⟩) hHeld ?_ ?_
 rotate_left
 ·rintro w' ⟨s0, s1, s2, s3, s4, s5, s6, s7, s8, s9, s10, s11, s12, s13, s14, s15⟩
  go_simp
  with_reducible rfl
 rotate_left
 ·simp only [Act.put, zT, zU, zV, i64_w, i32_w]
  rfl
 refine take_ (i := 1) (N := some 45) (v := ?_) (a' := ?_) #[true, true, false, false] rfl rfl (by kernel_rfl) (fun _ _ _ h => h) (Or.inl ⟨by rfl, ?_⟩) hHeld ?_ ?_
 rotate_left
 ·rintro w' ⟨s0, s1, s2, s3, s4, s5, s6, s7, s8, s9, s10, s11, s12, s13, s14, s15⟩
  go_simp
  with_reducible rfl
 rotate_left
 ·simp only [Act.put, zT, zU, zV, i64_w, i32_w]
  rfl
 refine one_ (i := 2) (N := none) #[true, true, true, false] rfl rfl (by kernel_rfl) (by decide) (fun K hK => ?_)
 have hs50 : w49.cell? ⟨gb138, 0, none⟩ = some (.int .i64 0) := (zQ BK138.out 0).trans rfl
 have hfs50 := blk_frozen BK138.out 0
 have hns50_1 := NB139_138.out
 have hns50_2 := NB165_138.out
 have hns50_3 := NB190_138.out
 have hms50_1 := NB138_139.out
 have hms50_2 := NB138_165.out
 have hms50_3 := NB138_190.out
 have hs51 : w49.cell? ⟨gb138, 1, none⟩ = some (.int .i64 0) := (zQ BK138.out 1).trans rfl
 have hfs51 := blk_frozen BK138.out 1
 have hns51_1 := NB139_138.out
 have hns51_2 := NB165_138.out
 have hns51_3 := NB190_138.out
 have hms51_1 := NB138_139.out
 have hms51_2 := NB138_165.out
 have hms51_3 := NB138_190.out
 have hs52 : w49.cell? ⟨gb138, 2, none⟩ = some (.int .i64 0) := (zQ BK138.out 2).trans rfl
 have hfs52 := blk_frozen BK138.out 2
 have hns52_1 := NB139_138.out
 have hns52_2 := NB165_138.out
 have hns52_3 := NB190_138.out
 have hms52_1 := NB138_139.out
 have hms52_2 := NB138_165.out
 have hms52_3 := NB138_190.out
 have hs53 : w49.cell? ⟨gb138, 3, none⟩ = some (.int .i64 0) := (zQ BK138.out 3).trans rfl
 have hfs53 := blk_frozen BK138.out 3
 have hns53_1 := NB139_138.out
 have hns53_2 := NB165_138.out
 have hns53_3 := NB190_138.out
 have hms53_1 := NB138_139.out
 have hms53_2 := NB138_165.out
 have hms53_3 := NB138_190.out
 have hs54 : w49.cell? ⟨gb138, 4, none⟩ = some (.int .i64 0) := (zQ BK138.out 4).trans rfl
 have hfs54 := blk_frozen BK138.out 4
 have hns54_1 := NB139_138.out
 have hns54_2 := NB165_138.out
 have hns54_3 := NB190_138.out
 have hms54_1 := NB138_139.out
 have hms54_2 := NB138_165.out
 have hms54_3 := NB138_190.out
 have hs55 : w49.cell? ⟨gb138, 5, none⟩ = some (.int .i64 0) := (zQ BK138.out 5).trans rfl
 have hfs55 := blk_frozen BK138.out 5
 have hns55_1 := NB139_138.out
 have hns55_2 := NB165_138.out
 have hns55_3 := NB190_138.out
 have hms55_1 := NB138_139.out
 have hms55_2 := NB138_165.out
 have hms55_3 := NB138_190.out
 have hs56 : w49.cell? ⟨gb138, 6, none⟩ = some (.int .i64 0) := (zQ BK138.out 6).trans rfl
 have hfs56 := blk_frozen BK138.out 6
 have hns56_1 := NB139_138.out
 have hns56_2 := NB165_138.out
 have hns56_3 := NB190_138.out
 have hms56_1 := NB138_139.out
 have hms56_2 := NB138_165.out
 have hms56_3 := NB138_190.out
 have hs57 : w49.cell? ⟨gb138, 7, none⟩ = some (.int .i64 0) := (zQ BK138.out 7).trans rfl
 have hfs57 := blk_frozen BK138.out 7
 have hns57_1 := NB139_138.out
 have hns57_2 := NB165_138.out
 have hns57_3 := NB190_138.out
 have hms57_1 := NB138_139.out
 have hms57_2 := NB138_165.out
 have hms57_3 := NB138_190.out
 refine skip_ (w1 := ?_) (by rfl) rfl ?_ ?_
 rotate_left
 ·go_simp
  rfl
 refine hK.out _ _ ⟨((far8 (g := gb138) NB165_138.out).trans (hHeld.1)), ((far8 (g := gb138) NB165_138.out).trans (hHeld.2.1)), ((far8 (g := gb138) NB165_138.out).trans (hHeld.2.2.1)), ((far8 (g := gb138) NB165_138.out).trans (hHeld.2.2.2.1)), ((far8 (g := gb138) NB165_138.out).trans (hHeld.2.2.2.2.1)), ((far8 (g := gb138) NB165_138.out).trans (hHeld.2.2.2.2.2.1)), ((far8 (g := gb138) NB165_138.out).trans (hHeld.2.2.2.2.2.2.1)), ((far8 (g := gb138) NB165_138.out).trans (hHeld.2.2.2.2.2.2.2.1)), ((far8 (g := gb138) NB190_138.out).trans (hHeld.2.2.2.2.2.2.2.2.1)), ((far8 (g := gb138) NB190_138.out).trans (hHeld.2.2.2.2.2.2.2.2.2.1)), ((far8 (g := gb138) NB190_138.out).trans (hHeld.2.2.2.2.2.2.2.2.2.2.1)), ((far8 (g := gb138) NB190_138.out).trans (hHeld.2.2.2.2.2.2.2.2.2.2.2.1)), ((far8 (g := gb138) NB190_138.out).trans (hHeld.2.2.2.2.2.2.2.2.2.2.2.2.1)), ((far8 (g := gb138) NB190_138.out).trans (hHeld.2.2.2.2.2.2.2.2.2.2.2.2.2.1)), ((far8 (g := gb138) NB190_138.out).trans (hHeld.2.2.2.2.2.2.2.2.2.2.2.2.2.2.1)), ((far8 (g := gb138) NB190_138.out).trans (hHeld.2.2.2.2.2.2.2.2.2.2.2.2.2.2.2))⟩ (fun hHeld => ?_)
 clear hK K
 have m0_ : Aside0 (((((((((w49.setCell ⟨gb138, 0, none⟩ (.int .i64 t141)).setCell ⟨gb138, 1, none⟩ (.int .i64 t144)).setCell ⟨gb138, 2, none⟩ (.int .i64 t147)).setCell ⟨gb138, 3, none⟩ (.int .i64 t150)).setCell ⟨gb138, 4, none⟩ (.int .i64 t153)).setCell ⟨gb138, 5, none⟩ (.int .i64 t156)).setCell ⟨gb138, 6, none⟩ (.int .i64 t159)).setCell ⟨gb138, 7, none⟩ (.int .i64 t162)).heap[gb138]? = some (.cells #[.int .i64 t141, .int .i64 t144, .int .i64 t147, .int .i64 t150, .int .i64 t153, .int .i64 t156, .int .i64 t159, .int .i64 t162] 24 (0, 0))) := ⟨by refine blk_put (cs := #[.int .i64 t141, .int .i64 t144, .int .i64 t147, .int .i64 t150, .int .i64 t153, .int .i64 t156, .int .i64 t159, .int .i64 0]) ?_ 7 _ rfl; refine blk_put (cs := #[.int .i64 t141, .int .i64 t144, .int .i64 t147, .int .i64 t150, .int .i64 t153, .int .i64 t156, .int .i64 0, .int .i64 0]) ?_ 6 _ rfl; refine blk_put (cs := #[.int .i64 t141, .int .i64 t144, .int .i64 t147, .int .i64 t150, .int .i64 t153, .int .i64 0, .int .i64 0, .int .i64 0]) ?_ 5 _ rfl; refine blk_put (cs := #[.int .i64 t141, .int .i64 t144, .int .i64 t147, .int .i64 t150, .int .i64 0, .int .i64 0, .int .i64 0, .int .i64 0]) ?_ 4 _ rfl; refine blk_put (cs := #[.int .i64 t141, .int .i64 t144, .int .i64 t147, .int .i64 0, .int .i64 0, .int .i64 0, .int .i64 0, .int .i64 0]) ?_ 3 _ rfl; refine blk_put (cs := #[.int .i64 t141, .int .i64 t144, .int .i64 0, .int .i64 0, .int .i64 0, .int .i64 0, .int .i64 0, .int .i64 0]) ?_ 2 _ rfl; refine blk_put (cs := #[.int .i64 t141, .int .i64 0, .int .i64 0, .int .i64 0, .int .i64 0, .int .i64 0, .int .i64 0, .int .i64 0]) ?_ 1 _ rfl; refine blk_put (cs := #[.int .i64 0, .int .i64 0, .int .i64 0, .int .i64 0, .int .i64 0, .int .i64 0, .int .i64 0, .int .i64 0]) ?_ 0 _ rfl; exact BK138.out⟩
 have m1_ : Aside0 (((((((((w49.setCell ⟨gb138, 0, none⟩ (.int .i64 t141)).setCell ⟨gb138, 1, none⟩ (.int .i64 t144)).setCell ⟨gb138, 2, none⟩ (.int .i64 t147)).setCell ⟨gb138, 3, none⟩ (.int .i64 t150)).setCell ⟨gb138, 4, none⟩ (.int .i64 t153)).setCell ⟨gb138, 5, none⟩ (.int .i64 t156)).setCell ⟨gb138, 6, none⟩ (.int .i64 t159)).setCell ⟨gb138, 7, none⟩ (.int .i64 t162)).heap[gb139]? = some (.cells #[.int .i64 0, .int .i64 0, .int .i64 0, .int .i64 0, .int .i64 0, .int .i64 0, .int .i64 0, .int .i64 0] 24 (0, 0))) := ⟨by refine blk_far ?_ NB139_138.out _; refine blk_far ?_ NB139_138.out _; refine blk_far ?_ NB139_138.out _; refine blk_far ?_ NB139_138.out _; refine blk_far ?_ NB139_138.out _; refine blk_far ?_ NB139_138.out _; refine blk_far ?_ NB139_138.out _; refine blk_far ?_ NB139_138.out _; exact BK139.out⟩
 have m2_ : Aside0 (((((((((w49.setCell ⟨gb138, 0, none⟩ (.int .i64 t141)).setCell ⟨gb138, 1, none⟩ (.int .i64 t144)).setCell ⟨gb138, 2, none⟩ (.int .i64 t147)).setCell ⟨gb138, 3, none⟩ (.int .i64 t150)).setCell ⟨gb138, 4, none⟩ (.int .i64 t153)).setCell ⟨gb138, 5, none⟩ (.int .i64 t156)).setCell ⟨gb138, 6, none⟩ (.int .i64 t159)).setCell ⟨gb138, 7, none⟩ (.int .i64 t162)).heap[gb165]? = some (.cells #[.int .i64 t141, .int .i64 t144, .int .i64 t147, .int .i64 t150, .int .i64 t153, .int .i64 t156, .int .i64 t159, .int .i64 t162] 24 (0, 0))) := ⟨by refine blk_far ?_ NB165_138.out _; refine blk_far ?_ NB165_138.out _; refine blk_far ?_ NB165_138.out _; refine blk_far ?_ NB165_138.out _; refine blk_far ?_ NB165_138.out _; refine blk_far ?_ NB165_138.out _; refine blk_far ?_ NB165_138.out _; refine blk_far ?_ NB165_138.out _; exact BK165.out⟩
 have m3_ : Aside0 (((((((((w49.setCell ⟨gb138, 0, none⟩ (.int .i64 t141)).setCell ⟨gb138, 1, none⟩ (.int .i64 t144)).setCell ⟨gb138, 2, none⟩ (.int .i64 t147)).setCell ⟨gb138, 3, none⟩ (.int .i64 t150)).setCell ⟨gb138, 4, none⟩ (.int .i64 t153)).setCell ⟨gb138, 5, none⟩ (.int .i64 t156)).setCell ⟨gb138, 6, none⟩ (.int .i64 t159)).setCell ⟨gb138, 7, none⟩ (.int .i64 t162)).heap[gb190]? = some (.cells #[.int .i64 t166, .int .i64 t169, .int .i64 t172, .int .i64 t175, .int .i64 t178, .int .i64 t181, .int .i64 t184, .int .i64 t187] 24 (0, 0))) := ⟨by refine blk_far ?_ NB190_138.out _; refine blk_far ?_ NB190_138.out _; refine blk_far ?_ NB190_138.out _; refine blk_far ?_ NB190_138.out _; refine blk_far ?_ NB190_138.out _; refine blk_far ?_ NB190_138.out _; refine blk_far ?_ NB190_138.out _; refine blk_far ?_ NB190_138.out _; exact BK190.out⟩
 have m4_ : Aside0 (IsS72 w ((((((((w49.setCell ⟨gb138, 0, none⟩ (.int .i64 t141)).setCell ⟨gb138, 1, none⟩ (.int .i64 t144)).setCell ⟨gb138, 2, none⟩ (.int .i64 t147)).setCell ⟨gb138, 3, none⟩ (.int .i64 t150)).setCell ⟨gb138, 4, none⟩ (.int .i64 t153)).setCell ⟨gb138, 5, none⟩ (.int .i64 t156)).setCell ⟨gb138, 6, none⟩ (.int .i64 t159)).setCell ⟨gb138, 7, none⟩ (.int .i64 t162)) gb140 l0 t188 t189) := ⟨by repeat (first | (with_reducible first | exact HI140.out | apply IsS72.alloc | apply IsS72.drewN | apply IsS72.drew | apply IsS72.set_1 | apply IsS72.set_2 | refine IsS72.far ?_ NB140_138.out _ | refine IsS72.far ?_ NB140_139.out _ | refine IsS72.far ?_ NB140_165.out _ | refine IsS72.far ?_ NB140_190.out _) | exact HI140.out)⟩
 have m5_ : Aside0 (Below w.heap.size w ((((((((w49.setCell ⟨gb138, 0, none⟩ (.int .i64 t141)).setCell ⟨gb138, 1, none⟩ (.int .i64 t144)).setCell ⟨gb138, 2, none⟩ (.int .i64 t147)).setCell ⟨gb138, 3, none⟩ (.int .i64 t150)).setCell ⟨gb138, 4, none⟩ (.int .i64 t153)).setCell ⟨gb138, 5, none⟩ (.int .i64 t156)).setCell ⟨gb138, 6, none⟩ (.int .i64 t159)).setCell ⟨gb138, 7, none⟩ (.int .i64 t162))) := ⟨by repeat (first | (with_reducible first | exact HB.out | apply zA | apply zB | apply zC | refine below_set ?_ (IsS72.ge HI140.out) | refine below_set ?_ GE138.out | refine below_set ?_ GE139.out | refine below_set ?_ GE165.out | refine below_set ?_ GE190.out) | exact HB.out)⟩
 clear BK138 BK139 BK165 BK190 HI140 HB
 clear hfs50 hfs51 hfs52 hfs53 hfs54 hfs55 hfs56 hfs57 hms50_1 hms50_2 hms50_3 hms51_1 hms51_2 hms51_3 hms52_1 hms52_2 hms52_3 hms53_1 hms53_2 hms53_3 hms54_1 hms54_2 hms54_3 hms55_1 hms55_2 hms55_3 hms56_1 hms56_2 hms56_3 hms57_1 hms57_2 hms57_3 hns50_1 hns50_2 hns50_3 hns51_1 hns51_2 hns51_3 hns52_1 hns52_2 hns52_3 hns53_1 hns53_2 hns53_3 hns54_1 hns54_2 hns54_3 hns55_1 hns55_2 hns55_3 hns56_1 hns56_2 hns56_3 hns57_1 hns57_2 hns57_3 hs50 hs51 hs52 hs53 hs54 hs55 hs56 hs57
 generalize ((((((((w49.setCell ⟨gb138, 0, none⟩ (.int .i64 t141)).setCell ⟨gb138, 1, none⟩ (.int .i64 t144)).setCell ⟨gb138, 2, none⟩ (.int .i64 t147)).setCell ⟨gb138, 3, none⟩ (.int .i64 t150)).setCell ⟨gb138, 4, none⟩ (.int .i64 t153)).setCell ⟨gb138, 5, none⟩ (.int .i64 t156)).setCell ⟨gb138, 6, none⟩ (.int .i64 t159)).setCell ⟨gb138, 7, none⟩ (.int .i64 t162)) = wz at m0_ m1_ m2_ m3_ m4_ m5_ hHeld ⊢
 have BK138 := m0_
 have BK139 := m1_
 have BK165 := m2_
 have BK190 := m3_
 have HI140 := m4_
 have HB := m5_
 clear m0_ m1_ m2_ m3_ m4_ m5_
 refine one_ (i := 3) (N := none) #[true, true, true, true] rfl rfl (by kernel_rfl) (by decide) (fun K hK => ?_)
 have hs58 : wz.cell? ⟨gb139, 0, none⟩ = some (.int .i64 0) := (zQ BK139.out 0).trans rfl
 have hfs58 := blk_frozen BK139.out 0
 have hns58_0 := NB138_139.out
 have hns58_2 := NB165_139.out
 have hns58_3 := NB190_139.out
 have hms58_0 := NB139_138.out
 have hms58_2 := NB139_165.out
 have hms58_3 := NB139_190.out
 have hs59 : wz.cell? ⟨gb139, 1, none⟩ = some (.int .i64 0) := (zQ BK139.out 1).trans rfl
 have hfs59 := blk_frozen BK139.out 1
 have hns59_0 := NB138_139.out
 have hns59_2 := NB165_139.out
 have hns59_3 := NB190_139.out
 have hms59_0 := NB139_138.out
 have hms59_2 := NB139_165.out
 have hms59_3 := NB139_190.out
 have hs60 : wz.cell? ⟨gb139, 2, none⟩ = some (.int .i64 0) := (zQ BK139.out 2).trans rfl
 have hfs60 := blk_frozen BK139.out 2
 have hns60_0 := NB138_139.out
 have hns60_2 := NB165_139.out
 have hns60_3 := NB190_139.out
 have hms60_0 := NB139_138.out
 have hms60_2 := NB139_165.out
 have hms60_3 := NB139_190.out
 have hs61 : wz.cell? ⟨gb139, 3, none⟩ = some (.int .i64 0) := (zQ BK139.out 3).trans rfl
 have hfs61 := blk_frozen BK139.out 3
 have hns61_0 := NB138_139.out
 have hns61_2 := NB165_139.out
 have hns61_3 := NB190_139.out
 have hms61_0 := NB139_138.out
 have hms61_2 := NB139_165.out
 have hms61_3 := NB139_190.out
 have hs62 : wz.cell? ⟨gb139, 4, none⟩ = some (.int .i64 0) := (zQ BK139.out 4).trans rfl
 have hfs62 := blk_frozen BK139.out 4
 have hns62_0 := NB138_139.out
 have hns62_2 := NB165_139.out
 have hns62_3 := NB190_139.out
 have hms62_0 := NB139_138.out
 have hms62_2 := NB139_165.out
 have hms62_3 := NB139_190.out
 have hs63 : wz.cell? ⟨gb139, 5, none⟩ = some (.int .i64 0) := (zQ BK139.out 5).trans rfl
 have hfs63 := blk_frozen BK139.out 5
 have hns63_0 := NB138_139.out
 have hns63_2 := NB165_139.out
 have hns63_3 := NB190_139.out
 have hms63_0 := NB139_138.out
 have hms63_2 := NB139_165.out
 have hms63_3 := NB139_190.out
 have hs64 : wz.cell? ⟨gb139, 6, none⟩ = some (.int .i64 0) := (zQ BK139.out 6).trans rfl
 have hfs64 := blk_frozen BK139.out 6
 have hns64_0 := NB138_139.out
 have hns64_2 := NB165_139.out
 have hns64_3 := NB190_139.out
 have hms64_0 := NB139_138.out
 have hms64_2 := NB139_165.out
 have hms64_3 := NB139_190.out
 have hs65 : wz.cell? ⟨gb139, 7, none⟩ = some (.int .i64 0) := (zQ BK139.out 7).trans rfl
 have hfs65 := blk_frozen BK139.out 7
 have hns65_0 := NB138_139.out
 have hns65_2 := NB165_139.out
 have hns65_3 := NB190_139.out
 have hms65_0 := NB139_138.out
 have hms65_2 := NB139_165.out
 have hms65_3 := NB139_190.out
 refine skip_ (w1 := ?_) (by rfl) rfl ?_ ?_
 rotate_left
 ·go_simp
  rfl
 refine hK.out _ _ ⟨((far8 (g := gb139) NB165_139.out).trans (hHeld.1)), ((far8 (g := gb139) NB165_139.out).trans (hHeld.2.1)), ((far8 (g := gb139) NB165_139.out).trans (hHeld.2.2.1)), ((far8 (g := gb139) NB165_139.out).trans (hHeld.2.2.2.1)), ((far8 (g := gb139) NB165_139.out).trans (hHeld.2.2.2.2.1)), ((far8 (g := gb139) NB165_139.out).trans (hHeld.2.2.2.2.2.1)), ((far8 (g := gb139) NB165_139.out).trans (hHeld.2.2.2.2.2.2.1)), ((far8 (g := gb139) NB165_139.out).trans (hHeld.2.2.2.2.2.2.2.1)), ((far8 (g := gb139) NB190_139.out).trans (hHeld.2.2.2.2.2.2.2.2.1)), ((far8 (g := gb139) NB190_139.out).trans (hHeld.2.2.2.2.2.2.2.2.2.1)), ((far8 (g := gb139) NB190_139.out).trans (hHeld.2.2.2.2.2.2.2.2.2.2.1)), ((far8 (g := gb139) NB190_139.out).trans (hHeld.2.2.2.2.2.2.2.2.2.2.2.1)), ((far8 (g := gb139) NB190_139.out).trans (hHeld.2.2.2.2.2.2.2.2.2.2.2.2.1)), ((far8 (g := gb139) NB190_139.out).trans (hHeld.2.2.2.2.2.2.2.2.2.2.2.2.2.1)), ((far8 (g := gb139) NB190_139.out).trans (hHeld.2.2.2.2.2.2.2.2.2.2.2.2.2.2.1)), ((far8 (g := gb139) NB190_139.out).trans (hHeld.2.2.2.2.2.2.2.2.2.2.2.2.2.2.2))⟩ (fun hHeld => ?_)
 clear hK K
 refine done_ (by kernel_rfl) ?_
 try go_wp2
 refine bodyPost_ret (results_cc rfl _ _ gb138 gb139 24 24 #[.int .i64 t141, .int .i64 t144, .int .i64 t147, .int .i64 t150, .int .i64 t153, .int .i64 t156, .int .i64 t159, .int .i64 t162] #[.int .i64 t166, .int .i64 t169, .int .i64 t172, .int .i64 t175, .int .i64 t178, .int .i64 t181, .int .i64 t184, .int .i64 t187] (0, 0) (0, 0) _ _ rfl (by (with_reducible repeat (first | refine zE ?_ _ | refine zF ?_ | refine zD ?_ _)); refine blk_far ?_ NB138_139.out _; refine blk_far ?_ NB138_139.out _; refine blk_far ?_ NB138_139.out _; refine blk_far ?_ NB138_139.out _; refine blk_far ?_ NB138_139.out _; refine blk_far ?_ NB138_139.out _; refine blk_far ?_ NB138_139.out _; refine blk_far ?_ NB138_139.out _; exact BK138.out) Try.underlying24 rfl (by kernel_rfl) rfl (by (with_reducible repeat (first | refine zE ?_ _ | refine zF ?_ | refine zD ?_ _)); refine blk_put (cs := #[.int .i64 t166, .int .i64 t169, .int .i64 t172, .int .i64 t175, .int .i64 t178, .int .i64 t181, .int .i64 t184, .int .i64 0]) ?_ 7 _ rfl; refine blk_put (cs := #[.int .i64 t166, .int .i64 t169, .int .i64 t172, .int .i64 t175, .int .i64 t178, .int .i64 t181, .int .i64 0, .int .i64 0]) ?_ 6 _ rfl; refine blk_put (cs := #[.int .i64 t166, .int .i64 t169, .int .i64 t172, .int .i64 t175, .int .i64 t178, .int .i64 0, .int .i64 0, .int .i64 0]) ?_ 5 _ rfl; refine blk_put (cs := #[.int .i64 t166, .int .i64 t169, .int .i64 t172, .int .i64 t175, .int .i64 0, .int .i64 0, .int .i64 0, .int .i64 0]) ?_ 4 _ rfl; refine blk_put (cs := #[.int .i64 t166, .int .i64 t169, .int .i64 t172, .int .i64 0, .int .i64 0, .int .i64 0, .int .i64 0, .int .i64 0]) ?_ 3 _ rfl; refine blk_put (cs := #[.int .i64 t166, .int .i64 t169, .int .i64 0, .int .i64 0, .int .i64 0, .int .i64 0, .int .i64 0, .int .i64 0]) ?_ 2 _ rfl; refine blk_put (cs := #[.int .i64 t166, .int .i64 0, .int .i64 0, .int .i64 0, .int .i64 0, .int .i64 0, .int .i64 0, .int .i64 0]) ?_ 1 _ rfl; refine blk_put (cs := #[.int .i64 0, .int .i64 0, .int .i64 0, .int .i64 0, .int .i64 0, .int .i64 0, .int .i64 0, .int .i64 0]) ?_ 0 _ rfl; exact BK139.out) Try.underlying24 rfl (by kernel_rfl)) rfl ?_
 exact ⟨by first | rfl | (simp [errW_none, errW_some] <;> rfl) | (simp [*, errW_none, errW_some] <;> rfl), by repeat (first | (with_reducible first | exact HB.out | apply zA | apply zB | apply zC | refine below_set ?_ (IsS72.ge HI140.out) | refine below_set ?_ GE138.out | refine below_set ?_ GE139.out | refine below_set ?_ GE165.out | refine below_set ?_ GE190.out) | exact HB.out)⟩

/-! ### impl_riseOver: function 39 -/
def impl_riseOver.f (a0 : Int) (a1 : Int) : Option (Int) := if a1 ≥ a0 then (some (wrap64 (a1 - a0))) else (some a1)
set_option maxHeartbeats 8000000 in
set_option maxRecDepth 100000 in
theorem impl_riseOver.calls (a0 : Int) (a1 : Int) (r : Int) (w : World) (h : impl_riseOver.f a0 a1 = some r) :
  Calls Try.prog 39 #[.int .i64 a0, .int .i64 a1] w fun e w' => e = .returned (.int .i64 r) ∧ Drawn0 w w' := by
 have H : (if a1 ≥ a0 then (some (wrap64 (a1 - a0))) else (some a1)) = some r := h
 clear h
 by_cases c3 : a1 ≥ a0
 ·rw [if_pos c3] at H
  have c3b0 : decide (a0 ≤ a1) = true := decide_eq_true c3
  clear c3
  obtain rfl := Option.some.inj H
  go_enter Try.func39, Try.ntmps39
  go_wp2
  go_ret
  exact ⟨by first | rfl | (simp; done) | (simp [*]; done), by repeat (first | exact Drawn0.refl _ | apply Drawn0.step)⟩
 ·rw [if_neg c3] at H
  have c3b0 : decide (a0 ≤ a1) = false := decide_eq_false c3
  clear c3
  obtain rfl := Option.some.inj H
  go_enter Try.func39, Try.ntmps39
  go_wp2
  go_ret
  exact ⟨by first | rfl | (simp; done) | (simp [*]; done), by repeat (first | exact Drawn0.refl _ | apply Drawn0.step)⟩

/-! ### impl_MergeAgg: function 10 -/
def impl_MergeAgg.f (a0_0 : Int) (a0_1 : Int) (a0_2 : Int) (a0_3 : Int) (a0_4 : Int) (a0_5 : Int) (a0_6 : Int) (a0_7 : Int) (a1_0 : Int) (a1_1 : Int) (a1_2 : Int) (a1_3 : Int) (a1_4 : Int) (a1_5 : Int) (a1_6 : Int) (a1_7 : Int) : Option (Int × Int × Int × Int × Int × Int × Int × Int) := (impl_riseOver.f a0_6 a1_5).bind fun t194 => (some (a1_0, wrap64 (a0_1 + a1_1), wrap64 (a0_2 + a1_2), mn a0_3 a1_3, mx a0_4 a1_4, a0_5, a1_6, wrap64 ((wrap64 (a0_7 + a1_7)) + t194)))
def impl_MergeAgg.T1 : Bool × List (List Nat × List Nat) := (true, [([], []), ([0], [0]), ([], []), ([2], [2]), ([], []), ([4], [4]), ([3, 5], [3, 5]), ([], []), ([7], [7]), ([], []), ([9], [9]), ([8, 10], [8, 10]), ([], []), ([12], [12]), ([], []), ([14], [14]), ([13, 15], [13, 15]), ([], []), ([17], [17]), ([], []), ([19], [19]), ([18, 20], [18, 20]), ([], []), ([22], [22]), ([], []), ([24], [24]), ([], []), ([26], [26]), ([], []), ([28], [28]), ([27, 29], [27, 29]), ([], []), ([31], [31]), ([], []), ([33], [33]), ([32, 34], [32, 34]), ([30, 35], [30, 35]), ([1, 6, 11, 16, 21, 23, 25, 36], [1, 6, 11, 16, 21, 23, 25, 36]), ([37, 35, 0, 1, 2, 3, 4, 5, 6, 7, 8, 9, 10, 11, 12, 13, 14, 15, 16, 17, 18, 19, 20, 21, 22, 23, 24, 25, 26, 27, 28, 29, 30, 31, 32, 33, 34, 35, 36, 37], [37])])
def impl_MergeAgg.B1 : List Nat := [0, 1, 0, 4, 0, 16, 60, 0, 128, 0, 512, 1920, 0, 4096, 0, 16384, 61440, 0, 131072, 0, 524288, 1966080, 0, 4194304, 0, 16777216, 0, 67108864, 0, 268435456, 1006632960, 0, 2147483648, 0, 8589934592, 32212254720, 68652367872, 137438953471, 274877906943]
theorem impl_MergeAgg.tab1 : rtab .any (opsOf Try.f10 1) = impl_MergeAgg.T1 := by kernel_rfl
theorem impl_MergeAgg.bits1 : waitsOk impl_MergeAgg.T1.2 impl_MergeAgg.B1 = true := by kernel_rfl
set_option maxHeartbeats 8000000 in
set_option maxRecDepth 100000 in
theorem impl_MergeAgg.calls (a0_0 : Int) (a0_1 : Int) (a0_2 : Int) (a0_3 : Int) (a0_4 : Int) (a0_5 : Int) (a0_6 : Int) (a0_7 : Int) (a1_0 : Int) (a1_1 : Int) (a1_2 : Int) (a1_3 : Int) (a1_4 : Int) (a1_5 : Int) (a1_6 : Int) (a1_7 : Int) (r1 : Int) (r2 : Int) (r3 : Int) (r4 : Int) (r5 : Int) (r6 : Int) (r7 : Int) (r8 : Int) (w : World) (h : impl_MergeAgg.f a0_0 a0_1 a0_2 a0_3 a0_4 a0_5 a0_6 a0_7 a1_0 a1_1 a1_2 a1_3 a1_4 a1_5 a1_6 a1_7 = some (r1, r2, r3, r4, r5, r6, r7, r8)) :
  Calls Try.prog 10 #[.agg #[.int .i64 a0_0, .int .i64 a0_1, .int .i64 a0_2, .int .i64 a0_3, .int .i64 a0_4, .int .i64 a0_5, .int .i64 a0_6, .int .i64 a0_7], .agg #[.int .i64 a1_0, .int .i64 a1_1, .int .i64 a1_2, .int .i64 a1_3, .int .i64 a1_4, .int .i64 a1_5, .int .i64 a1_6, .int .i64 a1_7]] w fun e w' => e = .returned (.agg #[.int .i64 r1, .int .i64 r2, .int .i64 r3, .int .i64 r4, .int .i64 r5, .int .i64 r6, .int .i64 r7, .int .i64 r8]) ∧ Below w.heap.size w w' := by
 have hu24 := Try.underlying24
 have HB := Aside0.mk (Below.refl w.heap.size w)
 have H : ((impl_riseOver.f a0_6 a1_5).bind fun t194 => (some (a1_0, wrap64 (a0_1 + a1_1), wrap64 (a0_2 + a1_2), mn a0_3 a1_3, mx a0_4 a1_4, a0_5, a1_6, wrap64 ((wrap64 (a0_7 + a1_7)) + t194)))) = some (r1, r2, r3, r4, r5, r6, r7, r8) := h
 clear h
 obtain ⟨ji3, hji3⟩ : ∃ j_ : Int, (mn a0_3 a1_3) = j_ := ⟨_, rfl⟩
 replace H : ((impl_riseOver.f a0_6 a1_5).bind fun t194 => (some (a1_0, wrap64 (a0_1 + a1_1), wrap64 (a0_2 + a1_2), ji3, mx a0_4 a1_4, a0_5, a1_6, wrap64 ((wrap64 (a0_7 + a1_7)) + t194)))) = some (r1, r2, r3, r4, r5, r6, r7, r8) := by first | (rw [hji3] at H; exact H) | (simp only [hji3] at H ⊢; exact H)
 have hji3_ : (if a1_3 < a0_3 then a1_3 else a0_3) = ji3 := hji3
 obtain ⟨ji4, hji4⟩ : ∃ j_ : Int, (mx a0_4 a1_4) = j_ := ⟨_, rfl⟩
 replace H : ((impl_riseOver.f a0_6 a1_5).bind fun t194 => (some (a1_0, wrap64 (a0_1 + a1_1), wrap64 (a0_2 + a1_2), ji3, ji4, a0_5, a1_6, wrap64 ((wrap64 (a0_7 + a1_7)) + t194)))) = some (r1, r2, r3, r4, r5, r6, r7, r8) := by first | (rw [hji4] at H; exact H) | (simp only [hji4] at H ⊢; exact H)
 have hji4_ : (if a0_4 < a1_4 then a1_4 else a0_4) = ji4 := hji4
 replace H := Option.bind_eq_some_iff.mp H
 obtain ⟨t194, A50, H⟩ := H
 replace H : (some (a1_0, wrap64 (a0_1 + a1_1), wrap64 (a0_2 + a1_2), ji3, ji4, a0_5, a1_6, wrap64 ((wrap64 (a0_7 + a1_7)) + t194))) = some (r1, r2, r3, r4, r5, r6, r7, r8) := H
 have A5 := Aside0.mk A50
 clear A50
 simp only [Option.some.injEq, Prod.mk.injEq] at H
 obtain ⟨rfl, rfl, rfl, rfl, rfl, rfl, rfl, rfl⟩ := H
 go_enter Try.func10, Try.ntmps10
 try go_wp2_with (first | ((with_reducible refine gate_dst (N := 2) rfl ?_); refine box_event ?hg (N := 2) ?hd (cs := #[.int .i64 a0_0, .int .i64 a0_1, .int .i64 a0_2, .int .i64 a0_3, .int .i64 a0_4, .int .i64 a0_5, .int .i64 a0_6, .int .i64 a0_7]) (t := 24) ?hr ?_; (case hd => rfl); (case hg => rfl); (case hr => first | (go_simp; done) | (go_simp; rfl)); intro gb191 hg w6 hbox hb; have n0_ := Aside0.mk (below_step (by repeat (first | (with_reducible first | exact HB.out | apply zA | apply zB | apply zC) | exact HB.out)) hb); have n1_ := Aside0.mk (hbox); have n2_ := Aside0.mk ((by rw [hg]; exact (zW (by repeat (first | (with_reducible first | exact HB.out | apply zA | apply zB | apply zC) | exact HB.out))) : w.heap.size ≤ gb191)); have n3_ := Aside0.mk ((by rw [hg]; exact (zW (by repeat (first | (with_reducible first | exact HB.out | apply zA | apply zB | apply zC) | exact HB.out))) : w.heap.size ≤ gb191)); clear HB; have HB := n0_; have BK191 := n1_; have GW191 := n2_; have GE191 := n3_; clear n0_ n1_ n2_ n3_; clear hb hbox hg) | ((with_reducible refine gate_dst (N := 3) rfl ?_); refine box_event ?hg (N := 3) ?hd (cs := #[.int .i64 a1_0, .int .i64 a1_1, .int .i64 a1_2, .int .i64 a1_3, .int .i64 a1_4, .int .i64 a1_5, .int .i64 a1_6, .int .i64 a1_7]) (t := 24) ?hr ?_; (case hd => rfl); (case hg => rfl); (case hr => first | (go_simp; done) | (go_simp; rfl)); intro gb192 hg w7 hbox hb; have n0_ := Aside0.mk (blk_below (g := gb191) (o := cs8 24 a0_0 a0_1 a0_2 a0_3 a0_4 a0_5 a0_6 a0_7) (by (with_reducible repeat (first | refine zE ?_ _ | refine zF ?_ | refine zD ?_ _)); exact BK191.out) hb); have n1_ := Aside0.mk (below_step (by repeat (first | (with_reducible first | exact HB.out | apply zA | apply zB | apply zC | refine below_set ?_ GE191.out) | exact HB.out)) hb); have n2_ := Aside0.mk (hbox); have n3_ := Aside0.mk ((by rw [hg]; exact (zW (by repeat (first | (with_reducible first | exact HB.out | apply zA | apply zB | apply zC | refine below_set ?_ GE191.out) | exact HB.out))) : w.heap.size ≤ gb192)); have n4_ := Aside0.mk ((by rw [hg]; exact (zW (by repeat (first | (with_reducible first | exact HB.out | apply zA | apply zB | apply zC | refine below_set ?_ GE191.out) | exact HB.out))) : w.heap.size ≤ gb192)); have n5_ := Aside0.mk ((by rw [hg]; exact Nat.ne_of_lt (blk_lt (g := gb191) (o := cs8 24 a0_0 a0_1 a0_2 a0_3 a0_4 a0_5 a0_6 a0_7) (by (with_reducible repeat (first | refine zE ?_ _ | refine zF ?_ | refine zD ?_ _)); exact BK191.out)) : gb191 ≠ gb192)); have n6_ := Aside0.mk ((by rw [hg]; exact Nat.ne_of_gt (blk_lt (g := gb191) (o := cs8 24 a0_0 a0_1 a0_2 a0_3 a0_4 a0_5 a0_6 a0_7) (by (with_reducible repeat (first | refine zE ?_ _ | refine zF ?_ | refine zD ?_ _)); exact BK191.out)) : gb192 ≠ gb191)); clear BK191; clear HB; have BK191 := n0_; have HB := n1_; have BK192 := n2_; have GW192 := n3_; have GE192 := n4_; have NB191_192 := n5_; have NB192_191 := n6_; clear n0_ n1_ n2_ n3_ n4_ n5_ n6_; clear hb hbox hg) | ((with_reducible refine gate_dst (N := 4) rfl ?_); refine box_event ?hg (N := 4) ?hd (cs := #[.int .i64 0, .int .i64 0, .int .i64 0, .int .i64 0, .int .i64 0, .int .i64 0, .int .i64 0, .int .i64 0]) (t := 24) ?hr ?_; (case hd => rfl); (case hg => rfl); (case hr => first | (go_simp; done) | (go_simp; rfl)); intro gb193 hg w8 hbox hb; have n0_ := Aside0.mk (blk_below (g := gb191) (o := cs8 24 a0_0 a0_1 a0_2 a0_3 a0_4 a0_5 a0_6 a0_7) (by (with_reducible repeat (first | refine zE ?_ _ | refine zF ?_ | refine zD ?_ _)); exact BK191.out) hb); have n1_ := Aside0.mk (blk_below (g := gb192) (o := cs8 24 a1_0 a1_1 a1_2 a1_3 a1_4 a1_5 a1_6 a1_7) (by (with_reducible repeat (first | refine zE ?_ _ | refine zF ?_ | refine zD ?_ _)); exact BK192.out) hb); have n2_ := Aside0.mk (below_step (by repeat (first | (with_reducible first | exact HB.out | apply zA | apply zB | apply zC | refine below_set ?_ GE191.out | refine below_set ?_ GE192.out) | exact HB.out)) hb); have n3_ := Aside0.mk (hbox); have n4_ := Aside0.mk ((by rw [hg]; exact (zW (by repeat (first | (with_reducible first | exact HB.out | apply zA | apply zB | apply zC | refine below_set ?_ GE191.out | refine below_set ?_ GE192.out) | exact HB.out))) : w.heap.size ≤ gb193)); have n5_ := Aside0.mk ((by rw [hg]; exact (zW (by repeat (first | (with_reducible first | exact HB.out | apply zA | apply zB | apply zC | refine below_set ?_ GE191.out | refine below_set ?_ GE192.out) | exact HB.out))) : w.heap.size ≤ gb193)); have n6_ := Aside0.mk ((by rw [hg]; exact Nat.ne_of_lt (blk_lt (g := gb191) (o := cs8 24 a0_0 a0_1 a0_2 a0_3 a0_4 a0_5 a0_6 a0_7) (by (with_reducible repeat (first | refine zE ?_ _ | refine zF ?_ | refine zD ?_ _)); exact BK191.out)) : gb191 ≠ gb193)); have n7_ := Aside0.mk ((by rw [hg]; exact Nat.ne_of_gt (blk_lt (g := gb191) (o := cs8 24 a0_0 a0_1 a0_2 a0_3 a0_4 a0_5 a0_6 a0_7) (by (with_reducible repeat (first | refine zE ?_ _ | refine zF ?_ | refine zD ?_ _)); exact BK191.out)) : gb193 ≠ gb191)); have n8_ := Aside0.mk ((by rw [hg]; exact Nat.ne_of_lt (blk_lt (g := gb192) (o := cs8 24 a1_0 a1_1 a1_2 a1_3 a1_4 a1_5 a1_6 a1_7) (by (with_reducible repeat (first | refine zE ?_ _ | refine zF ?_ | refine zD ?_ _)); exact BK192.out)) : gb192 ≠ gb193)); have n9_ := Aside0.mk ((by rw [hg]; exact Nat.ne_of_gt (blk_lt (g := gb192) (o := cs8 24 a1_0 a1_1 a1_2 a1_3 a1_4 a1_5 a1_6 a1_7) (by (with_reducible repeat (first | refine zE ?_ _ | refine zF ?_ | refine zD ?_ _)); exact BK192.out)) : gb193 ≠ gb192)); clear BK191; clear BK192; clear HB; have BK191 := n0_; have BK192 := n1_; have HB := n2_; have BK193 := n3_; have GW193 := n4_; have GE193 := n5_; have NB191_193 := n6_; have NB193_191 := n7_; have NB192_193 := n8_; have NB193_192 := n9_; clear n0_ n1_ n2_ n3_ n4_ n5_ n6_ n7_ n8_ n9_; clear hb hbox hg))
 have n0_ := Aside0.mk (zF BK191.out)
 have n1_ := Aside0.mk (zF BK192.out)
 have n2_ := Aside0.mk (zF BK193.out)
 have n3_ := Aside0.mk (zC HB.out)
 clear BK191
 clear BK192
 clear BK193
 clear HB
 have BK191 := n0_
 have BK192 := n1_
 have BK193 := n2_
 have HB := n3_
 clear n0_ n1_ n2_ n3_
 refine start_ (n := 39) (S := fun w' => w'.cell? ⟨gb192, 0, none⟩ = some (.int .i64 a1_0) ∧ w'.cell? ⟨gb192, 1, none⟩ = some (.int .i64 a1_1) ∧ w'.cell? ⟨gb192, 2, none⟩ = some (.int .i64 a1_2) ∧ w'.cell? ⟨gb192, 3, none⟩ = some (.int .i64 a1_3) ∧ w'.cell? ⟨gb192, 4, none⟩ = some (.int .i64 a1_4) ∧ w'.cell? ⟨gb192, 5, none⟩ = some (.int .i64 a1_5) ∧ w'.cell? ⟨gb192, 6, none⟩ = some (.int .i64 a1_6) ∧ w'.cell? ⟨gb192, 7, none⟩ = some (.int .i64 a1_7) ∧ w'.cell? ⟨gb191, 0, none⟩ = some (.int .i64 a0_0) ∧ w'.cell? ⟨gb191, 1, none⟩ = some (.int .i64 a0_1) ∧ w'.cell? ⟨gb191, 2, none⟩ = some (.int .i64 a0_2) ∧ w'.cell? ⟨gb191, 3, none⟩ = some (.int .i64 a0_3) ∧ w'.cell? ⟨gb191, 4, none⟩ = some (.int .i64 a0_4) ∧ w'.cell? ⟨gb191, 5, none⟩ = some (.int .i64 a0_5) ∧ w'.cell? ⟨gb191, 6, none⟩ = some (.int .i64 a0_6) ∧ w'.cell? ⟨gb191, 7, none⟩ = some (.int .i64 a0_7)) (ds := []) #[false, false, false, false, false, false, false, false, false, false, false, false, false, false, false, false, false, false, false, false, false, false, false, false, false, false, false, false, false, false, false, false, false, false, false, false, false, false, false] (by kernel_rfl) rfl rfl ⟨(zQ BK192.out 0).trans rfl, (zQ BK192.out 1).trans rfl, (zQ BK192.out 2).trans rfl, (zQ BK192.out 3).trans rfl, (zQ BK192.out 4).trans rfl, (zQ BK192.out 5).trans rfl, (zQ BK192.out 6).trans rfl, (zQ BK192.out 7).trans rfl, (zQ BK191.out 0).trans rfl, (zQ BK191.out 1).trans rfl, (zQ BK191.out 2).trans rfl, (zQ BK191.out 3).trans rfl, (zQ BK191.out 4).trans rfl, (zQ BK191.out 5).trans rfl, (zQ BK191.out 6).trans rfl, (zQ BK191.out 7).trans rfl⟩ (fun hHeld => ?_); refine with_tabW impl_MergeAgg.tab1 impl_MergeAgg.bits1 (fun HT_ HW_ => ?_)
 generalize w8.drew = w9 at BK191 BK192 BK193 HB hHeld ⊢
 refine pure_ (i := 0) (N := some 5) (v := ?_) (a' := ?_) #[true, false, false, false, false, false, false, false, false, false, false, false, false, false, false, false, false, false, false, false, false, false, false, false, false, false, false, false, false, false, false, false, false, false, false, false, false, false, false] rfl rfl (any_of HT_.out (by kernel_rfl)) (fun _ _ _ h => h) (Or.inl ⟨by rfl, ?_⟩) ?_ ?_
 rotate_left
 ·intro w'
  go_simp
  with_reducible rfl
 rotate_left
 ·simp only [Act.put, zT, zU, zV, i64_w, i32_w]
  rfl
 refine pure_ (i := 2) (N := some 7) (v := ?_) (a' := ?_) #[true, false, true, false, false, false, false, false, false, false, false, false, false, false, false, false, false, false, false, false, false, false, false, false, false, false, false, false, false, false, false, false, false, false, false, false, false, false, false] rfl rfl (any_of HT_.out (by kernel_rfl)) (fun _ _ _ h => h) (Or.inl ⟨by rfl, ?_⟩) ?_ ?_
 rotate_left
 ·intro w'
  go_simp
  with_reducible rfl
 rotate_left
 ·simp only [Act.put, zT, zU, zV, i64_w, i32_w]
  rfl
 refine pure_ (i := 4) (N := some 9) (v := ?_) (a' := ?_) #[true, false, true, false, true, false, false, false, false, false, false, false, false, false, false, false, false, false, false, false, false, false, false, false, false, false, false, false, false, false, false, false, false, false, false, false, false, false, false] rfl rfl (any_of HT_.out (by kernel_rfl)) (fun _ _ _ h => h) (Or.inl ⟨by rfl, ?_⟩) ?_ ?_
 rotate_left
 ·intro w'
  go_simp
  with_reducible rfl
 rotate_left
 ·simp only [Act.put, zT, zU, zV, i64_w, i32_w]
  rfl
 refine pure_ (i := 7) (N := some 12) (v := ?_) (a' := ?_) #[true, false, true, false, true, false, false, true, false, false, false, false, false, false, false, false, false, false, false, false, false, false, false, false, false, false, false, false, false, false, false, false, false, false, false, false, false, false, false] rfl rfl (any_of HT_.out (by kernel_rfl)) (fun _ _ _ h => h) (Or.inl ⟨by rfl, ?_⟩) ?_ ?_
 rotate_left
 ·intro w'
  go_simp
  with_reducible rfl
 rotate_left
 ·simp only [Act.put, zT, zU, zV, i64_w, i32_w]
  rfl
 refine pure_ (i := 9) (N := some 14) (v := ?_) (a' := ?_) #[true, false, true, false, true, false, false, true, false, true, false, false, false, false, false, false, false, false, false, false, false, false, false, false, false, false, false, false, false, false, false, false, false, false, false, false, false, false, false] rfl rfl (any_of HT_.out (by kernel_rfl)) (fun _ _ _ h => h) (Or.inl ⟨by rfl, ?_⟩) ?_ ?_
 rotate_left
 ·intro w'
  go_simp
  with_reducible rfl
 rotate_left
 ·simp only [Act.put, zT, zU, zV, i64_w, i32_w]
  rfl
 refine pure_ (i := 12) (N := some 17) (v := ?_) (a' := ?_) #[true, false, true, false, true, false, false, true, false, true, false, false, true, false, false, false, false, false, false, false, false, false, false, false, false, false, false, false, false, false, false, false, false, false, false, false, false, false, false] rfl rfl (any_of HT_.out (by kernel_rfl)) (fun _ _ _ h => h) (Or.inl ⟨by rfl, ?_⟩) ?_ ?_
 rotate_left
 ·intro w'
  go_simp
  with_reducible rfl
 rotate_left
 ·simp only [Act.put, zT, zU, zV, i64_w, i32_w]
  rfl
 refine pure_ (i := 14) (N := some 19) (v := ?_) (a' := ?_) #[true, false, true, false, true, false, false, true, false, true, false, false, true, false, true, false, false, false, false, false, false, false, false, false, false, false, false, false, false, false, false, false, false, false, false, false, false, false, false] rfl rfl (any_of HT_.out (by kernel_rfl)) (fun _ _ _ h => h) (Or.inl ⟨by rfl, ?_⟩) ?_ ?_
 rotate_left
 ·intro w'
  go_simp
  with_reducible rfl
 rotate_left
 ·simp only [Act.put, zT, zU, zV, i64_w, i32_w]
  rfl
 refine pure_ (i := 17) (N := some 22) (v := ?_) (a' := ?_) #[true, false, true, false, true, false, false, true, false, true, false, false, true, false, true, false, false, true, false, false, false, false, false, false, false, false, false, false, false, false, false, false, false, false, false, false, false, false, false] rfl rfl (any_of HT_.out (by kernel_rfl)) (fun _ _ _ h => h) (Or.inl ⟨by rfl, ?_⟩) ?_ ?_
 rotate_left
 ·intro w'
  go_simp
  with_reducible rfl
 rotate_left
 ·simp only [Act.put, zT, zU, zV, i64_w, i32_w]
  rfl
 refine pure_ (i := 19) (N := some 24) (v := ?_) (a' := ?_) #[true, false, true, false, true, false, false, true, false, true, false, false, true, false, true, false, false, true, false, true, false, false, false, false, false, false, false, false, false, false, false, false, false, false, false, false, false, false, false] rfl rfl (any_of HT_.out (by kernel_rfl)) (fun _ _ _ h => h) (Or.inl ⟨by rfl, ?_⟩) ?_ ?_
 rotate_left
 ·intro w'
  go_simp
  with_reducible rfl
 rotate_left
 ·simp only [Act.put, zT, zU, zV, i64_w, i32_w]
  rfl
 refine pure_ (i := 22) (N := some 27) (v := ?_) (a' := ?_) #[true, false, true, false, true, false, false, true, false, true, false, false, true, false, true, false, false, true, false, true, false, false, true, false, false, false, false, false, false, false, false, false, false, false, false, false, false, false, false] rfl rfl (any_of HT_.out (by kernel_rfl)) (fun _ _ _ h => h) (Or.inl ⟨by rfl, ?_⟩) ?_ ?_
 rotate_left
 ·intro w'
  go_simp
  with_reducible rfl
 rotate_left
 ·simp only [Act.put, zT, zU, zV, i64_w, i32_w]
  rfl
 refine pure_ (i := 24) (N := some 29) (v := ?_) (a' := ?_) #[true, false, true, false, true, false, false, true, false, true, false, false, true, false, true, false, false, true, false, true, false, false, true, false, true, false, false, false, false, false, false, false, false, false, false, false, false, false, false] rfl rfl (any_of HT_.out (by kernel_rfl)) (fun _ _ _ h => h) (Or.inl ⟨by rfl, ?_⟩) ?_ ?_
 rotate_left
 ·intro w'
  go_simp
  with_reducible rfl
 rotate_left
 ·simp only [Act.put, zT, zU, zV, i64_w, i32_w]
  rfl
 refine pure_ (i := 26) (N := some 31) (v := ?_) (a' := ?_) #[true, false, true, false, true, false, false, true, false, true, false, false, true, false, true, false, false, true, false, true, false, false, true, false, true, false, true, false, false, false, false, false, false, false, false, false, false, false, false] rfl rfl (any_of HT_.out (by kernel_rfl)) (fun _ _ _ h => h) (Or.inl ⟨by rfl, ?_⟩) ?_ ?_
 rotate_left
 ·intro w'
  go_simp
  with_reducible rfl
 rotate_left
 ·simp only [Act.put, zT, zU, zV, i64_w, i32_w]
  rfl
 refine pure_ (i := 28) (N := some 33) (v := ?_) (a' := ?_) #[true, false, true, false, true, false, false, true, false, true, false, false, true, false, true, false, false, true, false, true, false, false, true, false, true, false, true, false, true, false, false, false, false, false, false, false, false, false, false] rfl rfl (any_of HT_.out (by kernel_rfl)) (fun _ _ _ h => h) (Or.inl ⟨by rfl, ?_⟩) ?_ ?_
 rotate_left
 ·intro w'
  go_simp
  with_reducible rfl
 rotate_left
 ·simp only [Act.put, zT, zU, zV, i64_w, i32_w]
  rfl
 refine pure_ (i := 31) (N := some 36) (v := ?_) (a' := ?_) #[true, false, true, false, true, false, false, true, false, true, false, false, true, false, true, false, false, true, false, true, false, false, true, false, true, false, true, false, true, false, false, true, false, false, false, false, false, false, false] rfl rfl (any_of HT_.out (by kernel_rfl)) (fun _ _ _ h => h) (Or.inl ⟨by rfl, ?_⟩) ?_ ?_
 rotate_left
 ·intro w'
  go_simp
  with_reducible rfl
 rotate_left
 ·simp only [Act.put, zT, zU, zV, i64_w, i32_w]
  rfl
 refine pure_ (i := 33) (N := some 38) (v := ?_) (a' := ?_) #[true, false, true, false, true, false, false, true, false, true, false, false, true, false, true, false, false, true, false, true, false, false, true, false, true, false, true, false, true, false, false, true, false, true, false, false, false, false, false] rfl rfl (any_of HT_.out (by kernel_rfl)) (fun _ _ _ h => h) (Or.inl ⟨by rfl, ?_⟩) ?_ ?_
 rotate_left
 ·intro w'
  go_simp
  with_reducible rfl
 rotate_left
 ·simp only [Act.put, zT, zU, zV, i64_w, i32_w]
  rfl
 refine take_ (i := 1) (N := some 6) (v := ?_) (a' := ?_) #[true, true, true, false, true, false, false, true, false, true, false, false, true, false, true, false, false, true, false, true, false, false, true, false, true, false, true, false, true, false, false, true, false, true, false, false, false, false, false] rfl rfl (take_ofW HT_.out HW_.out (by kernel_rfl)) (fun _ _ _ h => h) (Or.inl ⟨by rfl, ?_⟩) hHeld ?_ ?_
 rotate_left
 ·rintro w' ⟨s0, s1, s2, s3, s4, s5, s6, s7, s8, s9, s10, s11, s12, s13, s14, s15⟩
  go_simp
  with_reducible rfl
 rotate_left
 ·simp only [Act.put, zT, zU, zV, i64_w, i32_w]
  rfl
 refine take_ (i := 3) (N := some 8) (v := ?_) (a' := ?_) #[true, true, true, true, true, false, false, true, false, true, false, false, true, false, true, false, false, true, false, true, false, false, true, false, true, false, true, false, true, false, false, true, false, true, false, false, false, false, false] rfl rfl (take_ofW HT_.out HW_.out (by kernel_rfl)) (fun _ _ _ h => h) (Or.inl ⟨by rfl, ?_⟩) hHeld ?_ ?_
 rotate_left
 ·rintro w' ⟨s0, s1, s2, s3, s4, s5, s6, s7, s8, s9, s10, s11, s12, s13, s14, s15⟩
  go_simp
  with_reducible rfl
 rotate_left
 ·simp only [Act.put, zT, zU, zV, i64_w, i32_w]
  rfl
 refine take_ (i := 5) (N := some 10) (v := ?_) (a' := ?_) #[true, true, true, true, true, true, false, true, false, true, false, false, true, false, true, false, false, true, false, true, false, false, true, false, true, false, true, false, true, false, false, true, false, true, false, false, false, false, false] rfl rfl (take_ofW HT_.out HW_.out (by kernel_rfl)) (fun _ _ _ h => h) (Or.inl ⟨by rfl, ?_⟩) hHeld ?_ ?_
 rotate_left
 ·rintro w' ⟨s0, s1, s2, s3, s4, s5, s6, s7, s8, s9, s10, s11, s12, s13, s14, s15⟩
  go_simp
  with_reducible rfl
 rotate_left
 ·simp only [Act.put, zT, zU, zV, i64_w, i32_w]
  rfl
 refine pure_ (i := 6) (N := some 11) (v := ?_) (a' := ?_) #[true, true, true, true, true, true, true, true, false, true, false, false, true, false, true, false, false, true, false, true, false, false, true, false, true, false, true, false, true, false, false, true, false, true, false, false, false, false, false] rfl rfl (any_of HT_.out (by kernel_rfl)) (fun _ _ _ h => h) (Or.inl ⟨by rfl, ?_⟩) ?_ ?_
 rotate_left
 ·intro w'
  go_simp
  with_reducible rfl
 rotate_left
 ·simp only [Act.put, zT, zU, zV, i64_w, i32_w]
  rfl
 refine take_ (i := 8) (N := some 13) (v := ?_) (a' := ?_) #[true, true, true, true, true, true, true, true, true, true, false, false, true, false, true, false, false, true, false, true, false, false, true, false, true, false, true, false, true, false, false, true, false, true, false, false, false, false, false] rfl rfl (take_ofW HT_.out HW_.out (by kernel_rfl)) (fun _ _ _ h => h) (Or.inl ⟨by rfl, ?_⟩) hHeld ?_ ?_
 rotate_left
 ·rintro w' ⟨s0, s1, s2, s3, s4, s5, s6, s7, s8, s9, s10, s11, s12, s13, s14, s15⟩
  go_simp
  with_reducible rfl
 rotate_left
 ·simp only [Act.put, zT, zU, zV, i64_w, i32_w]
  rfl
 refine take_ (i := 10) (N := some 15) (v := ?_) (a' := ?_) #[true, true, true, true, true, true, true, true, true, true, true, false, true, false, true, false, false, true, false, true, false, false, true, false, true, false, true, false, true, false, false, true, false, true, false, false, false, false, false] rfl rfl (take_ofW HT_.out HW_.out (by kernel_rfl)) (fun _ _ _ h => h) (Or.inl ⟨by rfl, ?_⟩) hHeld ?_ ?_
 rotate_left
 ·rintro w' ⟨s0, s1, s2, s3, s4, s5, s6, s7, s8, s9, s10, s11, s12, s13, s14, s15⟩
  go_simp
  with_reducible rfl
 rotate_left
 ·simp only [Act.put, zT, zU, zV, i64_w, i32_w]
  rfl
 refine pure_ (i := 11) (N := some 16) (v := ?_) (a' := ?_) #[true, true, true, true, true, true, true, true, true, true, true, true, true, false, true, false, false, true, false, true, false, false, true, false, true, false, true, false, true, false, false, true, false, true, false, false, false, false, false] rfl rfl (any_of HT_.out (by kernel_rfl)) (fun _ _ _ h => h) (Or.inl ⟨by rfl, ?_⟩) ?_ ?_
 rotate_left
 ·intro w'
  go_simp
  with_reducible rfl
 rotate_left
 ·simp only [Act.put, zT, zU, zV, i64_w, i32_w]
  rfl
 refine take_ (i := 13) (N := some 18) (v := ?_) (a' := ?_) #[true, true, true, true, true, true, true, true, true, true, true, true, true, true, true, false, false, true, false, true, false, false, true, false, true, false, true, false, true, false, false, true, false, true, false, false, false, false, false] rfl rfl (take_ofW HT_.out HW_.out (by kernel_rfl)) (fun _ _ _ h => h) (Or.inl ⟨by rfl, ?_⟩) hHeld ?_ ?_
 rotate_left
 ·rintro w' ⟨s0, s1, s2, s3, s4, s5, s6, s7, s8, s9, s10, s11, s12, s13, s14, s15⟩
  go_simp
  with_reducible rfl
 rotate_left
 ·simp only [Act.put, zT, zU, zV, i64_w, i32_w]
  rfl
 refine take_ (i := 15) (N := some 20) (v := ?_) (a' := ?_) #[true, true, true, true, true, true, true, true, true, true, true, true, true, true, true, true, false, true, false, true, false, false, true, false, true, false, true, false, true, false, false, true, false, true, false, false, false, false, false] rfl rfl (take_ofW HT_.out HW_.out (by kernel_rfl)) (fun _ _ _ h => h) (Or.inl ⟨by rfl, ?_⟩) hHeld ?_ ?_
 rotate_left
 ·rintro w' ⟨s0, s1, s2, s3, s4, s5, s6, s7, s8, s9, s10, s11, s12, s13, s14, s15⟩
  go_simp
  with_reducible rfl
 rotate_left
 ·simp only [Act.put, zT, zU, zV, i64_w, i32_w]
  rfl
 refine pure_ (i := 16) (N := some 21) (v := ?_) (a' := ?_) #[true, true, true, true, true, true, true, true, true, true, true, true, true, true, true, true, true, true, false, true, false, false, true, false, true, false, true, false, true, false, false, true, false, true, false, false, false, false, false] rfl rfl (any_of HT_.out (by kernel_rfl)) (fun _ _ _ h => h) (Or.inl ⟨by rfl, ?_⟩) ?_ ?_
 rotate_left
 ·intro w'
  go_simp
  with_reducible rfl
 rotate_left
 ·simp only [Act.put, zT, zU, zV, i64_w, i32_w]
  rfl
 refine take_ (i := 18) (N := some 23) (v := ?_) (a' := ?_) #[true, true, true, true, true, true, true, true, true, true, true, true, true, true, true, true, true, true, true, true, false, false, true, false, true, false, true, false, true, false, false, true, false, true, false, false, false, false, false] rfl rfl (take_ofW HT_.out HW_.out (by kernel_rfl)) (fun _ _ _ h => h) (Or.inl ⟨by rfl, ?_⟩) hHeld ?_ ?_
 rotate_left
 ·rintro w' ⟨s0, s1, s2, s3, s4, s5, s6, s7, s8, s9, s10, s11, s12, s13, s14, s15⟩
  go_simp
  with_reducible rfl
 rotate_left
 ·simp only [Act.put, zT, zU, zV, i64_w, i32_w]
  rfl
 refine take_ (i := 20) (N := some 25) (v := ?_) (a' := ?_) #[true, true, true, true, true, true, true, true, true, true, true, true, true, true, true, true, true, true, true, true, true, false, true, false, true, false, true, false, true, false, false, true, false, true, false, false, false, false, false] rfl rfl (take_ofW HT_.out HW_.out (by kernel_rfl)) (fun _ _ _ h => h) (Or.inl ⟨by rfl, ?_⟩) hHeld ?_ ?_
 rotate_left
 ·rintro w' ⟨s0, s1, s2, s3, s4, s5, s6, s7, s8, s9, s10, s11, s12, s13, s14, s15⟩
  go_simp
  with_reducible rfl
 rotate_left
 ·simp only [Act.put, zT, zU, zV, i64_w, i32_w]
  rfl
 refine pure_ (i := 21) (N := some 26) (v := ?_) (a' := ?_) #[true, true, true, true, true, true, true, true, true, true, true, true, true, true, true, true, true, true, true, true, true, true, true, false, true, false, true, false, true, false, false, true, false, true, false, false, false, false, false] rfl rfl (any_of HT_.out (by kernel_rfl)) (fun _ _ _ h => h) (Or.inl ⟨by rfl, ?_⟩) ?_ ?_
 rotate_left
 ·intro w'
  go_simp
  with_reducible rfl
 rotate_left
 ·simp only [Act.put, zT, zU, zV, i64_w, i32_w]
  rfl
 refine take_ (i := 23) (N := some 28) (v := ?_) (a' := ?_) #[true, true, true, true, true, true, true, true, true, true, true, true, true, true, true, true, true, true, true, true, true, true, true, true, true, false, true, false, true, false, false, true, false, true, false, false, false, false, false] rfl rfl (take_ofW HT_.out HW_.out (by kernel_rfl)) (fun _ _ _ h => h) (Or.inl ⟨by rfl, ?_⟩) hHeld ?_ ?_
 rotate_left
 ·rintro w' ⟨s0, s1, s2, s3, s4, s5, s6, s7, s8, s9, s10, s11, s12, s13, s14, s15⟩
  go_simp
  with_reducible rfl
 rotate_left
 ·simp only [Act.put, zT, zU, zV, i64_w, i32_w]
  rfl
 refine take_ (i := 25) (N := some 30) (v := ?_) (a' := ?_) #[true, true, true, true, true, true, true, true, true, true, true, true, true, true, true, true, true, true, true, true, true, true, true, true, true, true, true, false, true, false, false, true, false, true, false, false, false, false, false] rfl rfl (take_ofW HT_.out HW_.out (by kernel_rfl)) (fun _ _ _ h => h) (Or.inl ⟨by rfl, ?_⟩) hHeld ?_ ?_
 rotate_left
 ·rintro w' ⟨s0, s1, s2, s3, s4, s5, s6, s7, s8, s9, s10, s11, s12, s13, s14, s15⟩
  go_simp
  with_reducible rfl
 rotate_left
 ·simp only [Act.put, zT, zU, zV, i64_w, i32_w]
  rfl
 refine take_ (i := 27) (N := some 32) (v := ?_) (a' := ?_) #[true, true, true, true, true, true, true, true, true, true, true, true, true, true, true, true, true, true, true, true, true, true, true, true, true, true, true, true, true, false, false, true, false, true, false, false, false, false, false] rfl rfl (take_ofW HT_.out HW_.out (by kernel_rfl)) (fun _ _ _ h => h) (Or.inl ⟨by rfl, ?_⟩) hHeld ?_ ?_
 rotate_left
 ·rintro w' ⟨s0, s1, s2, s3, s4, s5, s6, s7, s8, s9, s10, s11, s12, s13, s14, s15⟩
  go_simp
  with_reducible rfl
 rotate_left
 ·simp only [Act.put, zT, zU, zV, i64_w, i32_w]
  rfl
 refine take_ (i := 29) (N := some 34) (v := ?_) (a' := ?_) #[true, true, true, true, true, true, true, true, true, true, true, true, true, true, true, true, true, true, true, true, true, true, true, true, true, true, true, true, true, true, false, true, false, true, false, false, false, false, false] rfl rfl (take_ofW HT_.out HW_.out (by kernel_rfl)) (fun _ _ _ h => h) (Or.inl ⟨by rfl, ?_⟩) hHeld ?_ ?_
 rotate_left
 ·rintro w' ⟨s0, s1, s2, s3, s4, s5, s6, s7, s8, s9, s10, s11, s12, s13, s14, s15⟩
  go_simp
  with_reducible rfl
 rotate_left
 ·simp only [Act.put, zT, zU, zV, i64_w, i32_w]
  rfl
 refine pure_ (i := 30) (N := some 35) (v := ?_) (a' := ?_) #[true, true, true, true, true, true, true, true, true, true, true, true, true, true, true, true, true, true, true, true, true, true, true, true, true, true, true, true, true, true, true, true, false, true, false, false, false, false, false] rfl rfl (any_of HT_.out (by kernel_rfl)) (fun _ _ _ h => h) (Or.inl ⟨by rfl, ?_⟩) ?_ ?_
 rotate_left
 ·intro w'
  go_simp
  with_reducible rfl
 rotate_left
 ·simp only [Act.put, zT, zU, zV, i64_w, i32_w]
  rfl
 refine take_ (i := 32) (N := some 37) (v := ?_) (a' := ?_) #[true, true, true, true, true, true, true, true, true, true, true, true, true, true, true, true, true, true, true, true, true, true, true, true, true, true, true, true, true, true, true, true, true, true, false, false, false, false, false] rfl rfl (take_ofW HT_.out HW_.out (by kernel_rfl)) (fun _ _ _ h => h) (Or.inl ⟨by rfl, ?_⟩) hHeld ?_ ?_
 rotate_left
 ·rintro w' ⟨s0, s1, s2, s3, s4, s5, s6, s7, s8, s9, s10, s11, s12, s13, s14, s15⟩
  go_simp
  with_reducible rfl
 rotate_left
 ·simp only [Act.put, zT, zU, zV, i64_w, i32_w]
  rfl
 refine take_ (i := 34) (N := some 39) (v := ?_) (a' := ?_) #[true, true, true, true, true, true, true, true, true, true, true, true, true, true, true, true, true, true, true, true, true, true, true, true, true, true, true, true, true, true, true, true, true, true, true, false, false, false, false] rfl rfl (take_ofW HT_.out HW_.out (by kernel_rfl)) (fun _ _ _ h => h) (Or.inl ⟨by rfl, ?_⟩) hHeld ?_ ?_
 rotate_left
 ·rintro w' ⟨s0, s1, s2, s3, s4, s5, s6, s7, s8, s9, s10, s11, s12, s13, s14, s15⟩
  go_simp
  with_reducible rfl
 rotate_left
 ·simp only [Act.put, zT, zU, zV, i64_w, i32_w]
  rfl
 refine one_ (i := 35) (N := some 40) #[true, true, true, true, true, true, true, true, true, true, true, true, true, true, true, true, true, true, true, true, true, true, true, true, true, true, true, true, true, true, true, true, true, true, true, true, false, false, false] rfl rfl (one_of HT_.out (by kernel_rfl)) (by decide) (fun K hK => ?_)
 refine goes_ Try.func39 (by kernel_rfl) rfl #[.int .i64 a0_6, .int .i64 a1_5] (by rfl) rfl rfl (by (try simp only [List.map_toArray, List.map_cons, List.map_nil]); first | done | rfl | (simp only [List.length_drop, List.length_take]; rfl)) ?_
 with_reducible refine (impl_riseOver.calls a0_6 a1_5 t194 _ A5.out).mono ?_
 rintro e w' ⟨rfl, ⟨nd, rfl⟩⟩
 refine ⟨_, rfl, ?_⟩
 refine hK.out _ _ ⟨(zQ BK192.out 0).trans rfl, (zQ BK192.out 1).trans rfl, (zQ BK192.out 2).trans rfl, (zQ BK192.out 3).trans rfl, (zQ BK192.out 4).trans rfl, (zQ BK192.out 5).trans rfl, (zQ BK192.out 6).trans rfl, (zQ BK192.out 7).trans rfl, (zQ BK191.out 0).trans rfl, (zQ BK191.out 1).trans rfl, (zQ BK191.out 2).trans rfl, (zQ BK191.out 3).trans rfl, (zQ BK191.out 4).trans rfl, (zQ BK191.out 5).trans rfl, (zQ BK191.out 6).trans rfl, (zQ BK191.out 7).trans rfl⟩ (fun hHeld => ?_)
 clear hK K
 refine norm_ (a' := ?_) ?_ ?_
 rotate_left
 ·show Act.put _ (some 40) _ = _
  simp only [Act.put, zT, zU, zV, i64_w, i32_w]
  rfl
 refine pure_ (i := 36) (N := some 41) (v := ?_) (a' := ?_) #[true, true, true, true, true, true, true, true, true, true, true, true, true, true, true, true, true, true, true, true, true, true, true, true, true, true, true, true, true, true, true, true, true, true, true, true, true, false, false] rfl rfl (any_of HT_.out (by kernel_rfl)) (fun _ _ _ h => h) (Or.inl ⟨by rfl, ?_⟩) ?_ ?_
 rotate_left
 ·intro w'
  go_simp
  with_reducible rfl
 rotate_left
 ·simp only [Act.put, zT, zU, zV, i64_w, i32_w]
  rfl
 refine pure_ (i := 37) (N := some 42) (v := ?_) (a' := ?_) #[true, true, true, true, true, true, true, true, true, true, true, true, true, true, true, true, true, true, true, true, true, true, true, true, true, true, true, true, true, true, true, true, true, true, true, true, true, true, false] rfl rfl (any_of HT_.out (by kernel_rfl)) (fun _ _ _ h => h) (Or.inl ⟨by rfl, ?_⟩) ?_ ?_
 rotate_left
 ·intro w'
  go_simp
  with_reducible rfl
 rotate_left
 ·simp only [Act.put, zT, zU, zV, i64_w, i32_w]
  rfl
 refine one_ (i := 38) (N := none) #[true, true, true, true, true, true, true, true, true, true, true, true, true, true, true, true, true, true, true, true, true, true, true, true, true, true, true, true, true, true, true, true, true, true, true, true, true, true, true] rfl rfl (one_of HT_.out (by kernel_rfl)) (by decide) (fun K hK => ?_)
 have hs10 : w9.cell? ⟨gb193, 0, none⟩ = some (.int .i64 0) := (zQ BK193.out 0).trans rfl
 have hfs10 := blk_frozen BK193.out 0
 have hns10_0 := NB191_193.out
 have hns10_1 := NB192_193.out
 have hms10_0 := NB193_191.out
 have hms10_1 := NB193_192.out
 have hs11 : w9.cell? ⟨gb193, 1, none⟩ = some (.int .i64 0) := (zQ BK193.out 1).trans rfl
 have hfs11 := blk_frozen BK193.out 1
 have hns11_0 := NB191_193.out
 have hns11_1 := NB192_193.out
 have hms11_0 := NB193_191.out
 have hms11_1 := NB193_192.out
 have hs12 : w9.cell? ⟨gb193, 2, none⟩ = some (.int .i64 0) := (zQ BK193.out 2).trans rfl
 have hfs12 := blk_frozen BK193.out 2
 have hns12_0 := NB191_193.out
 have hns12_1 := NB192_193.out
 have hms12_0 := NB193_191.out
 have hms12_1 := NB193_192.out
 have hs13 : w9.cell? ⟨gb193, 3, none⟩ = some (.int .i64 0) := (zQ BK193.out 3).trans rfl
 have hfs13 := blk_frozen BK193.out 3
 have hns13_0 := NB191_193.out
 have hns13_1 := NB192_193.out
 have hms13_0 := NB193_191.out
 have hms13_1 := NB193_192.out
 have hs14 : w9.cell? ⟨gb193, 4, none⟩ = some (.int .i64 0) := (zQ BK193.out 4).trans rfl
 have hfs14 := blk_frozen BK193.out 4
 have hns14_0 := NB191_193.out
 have hns14_1 := NB192_193.out
 have hms14_0 := NB193_191.out
 have hms14_1 := NB193_192.out
 have hs15 : w9.cell? ⟨gb193, 5, none⟩ = some (.int .i64 0) := (zQ BK193.out 5).trans rfl
 have hfs15 := blk_frozen BK193.out 5
 have hns15_0 := NB191_193.out
 have hns15_1 := NB192_193.out
 have hms15_0 := NB193_191.out
 have hms15_1 := NB193_192.out
 have hs16 : w9.cell? ⟨gb193, 6, none⟩ = some (.int .i64 0) := (zQ BK193.out 6).trans rfl
 have hfs16 := blk_frozen BK193.out 6
 have hns16_0 := NB191_193.out
 have hns16_1 := NB192_193.out
 have hms16_0 := NB193_191.out
 have hms16_1 := NB193_192.out
 have hs17 : w9.cell? ⟨gb193, 7, none⟩ = some (.int .i64 0) := (zQ BK193.out 7).trans rfl
 have hfs17 := blk_frozen BK193.out 7
 have hns17_0 := NB191_193.out
 have hns17_1 := NB192_193.out
 have hms17_0 := NB193_191.out
 have hms17_1 := NB193_192.out
 refine skip_ (w1 := ?_) (by rfl) rfl ?_ ?_
 rotate_left
 ·go_simp
  rfl
 refine hK.out _ _ ⟨((far8 (g := gb193) NB192_193.out).trans (hHeld.1)), ((far8 (g := gb193) NB192_193.out).trans (hHeld.2.1)), ((far8 (g := gb193) NB192_193.out).trans (hHeld.2.2.1)), ((far8 (g := gb193) NB192_193.out).trans (hHeld.2.2.2.1)), ((far8 (g := gb193) NB192_193.out).trans (hHeld.2.2.2.2.1)), ((far8 (g := gb193) NB192_193.out).trans (hHeld.2.2.2.2.2.1)), ((far8 (g := gb193) NB192_193.out).trans (hHeld.2.2.2.2.2.2.1)), ((far8 (g := gb193) NB192_193.out).trans (hHeld.2.2.2.2.2.2.2.1)), ((far8 (g := gb193) NB191_193.out).trans (hHeld.2.2.2.2.2.2.2.2.1)), ((far8 (g := gb193) NB191_193.out).trans (hHeld.2.2.2.2.2.2.2.2.2.1)), ((far8 (g := gb193) NB191_193.out).trans (hHeld.2.2.2.2.2.2.2.2.2.2.1)), ((far8 (g := gb193) NB191_193.out).trans (hHeld.2.2.2.2.2.2.2.2.2.2.2.1)), ((far8 (g := gb193) NB191_193.out).trans (hHeld.2.2.2.2.2.2.2.2.2.2.2.2.1)), ((far8 (g := gb193) NB191_193.out).trans (hHeld.2.2.2.2.2.2.2.2.2.2.2.2.2.1)), ((far8 (g := gb193) NB191_193.out).trans (hHeld.2.2.2.2.2.2.2.2.2.2.2.2.2.2.1)), ((far8 (g := gb193) NB191_193.out).trans (hHeld.2.2.2.2.2.2.2.2.2.2.2.2.2.2.2))⟩ (fun hHeld => ?_)
 clear hK K
 refine done_ (done_of HT_.out (by kernel_rfl)) ?_
 try go_wp2
 refine bodyPost_ret (results_cell_row rfl _ _ gb193 24 #[.int .i64 a1_0, .int .i64 (wrap64 (a0_1 + a1_1)), .int .i64 (wrap64 (a0_2 + a1_2)), .int .i64 ji3, .int .i64 ji4, .int .i64 a0_5, .int .i64 a1_6, .int .i64 (wrap64 ((wrap64 (a0_7 + a1_7)) + t194))] (0, 0) _ rfl (by (with_reducible repeat (first | refine zE ?_ _ | refine zF ?_ | refine zD ?_ _)); refine blk_put (cs := #[.int .i64 a1_0, .int .i64 (wrap64 (a0_1 + a1_1)), .int .i64 (wrap64 (a0_2 + a1_2)), .int .i64 ji3, .int .i64 ji4, .int .i64 a0_5, .int .i64 a1_6, .int .i64 0]) ?_ 7 _ rfl; (with_reducible repeat (first | refine zE ?_ _ | refine zF ?_ | refine zD ?_ _)); refine blk_put (cs := #[.int .i64 a1_0, .int .i64 (wrap64 (a0_1 + a1_1)), .int .i64 (wrap64 (a0_2 + a1_2)), .int .i64 ji3, .int .i64 ji4, .int .i64 a0_5, .int .i64 0, .int .i64 0]) ?_ 6 _ rfl; (with_reducible repeat (first | refine zE ?_ _ | refine zF ?_ | refine zD ?_ _)); refine blk_put (cs := #[.int .i64 a1_0, .int .i64 (wrap64 (a0_1 + a1_1)), .int .i64 (wrap64 (a0_2 + a1_2)), .int .i64 ji3, .int .i64 ji4, .int .i64 0, .int .i64 0, .int .i64 0]) ?_ 5 _ rfl; (with_reducible repeat (first | refine zE ?_ _ | refine zF ?_ | refine zD ?_ _)); refine blk_put (cs := #[.int .i64 a1_0, .int .i64 (wrap64 (a0_1 + a1_1)), .int .i64 (wrap64 (a0_2 + a1_2)), .int .i64 ji3, .int .i64 0, .int .i64 0, .int .i64 0, .int .i64 0]) ?_ 4 _ rfl; (with_reducible repeat (first | refine zE ?_ _ | refine zF ?_ | refine zD ?_ _)); refine blk_put (cs := #[.int .i64 a1_0, .int .i64 (wrap64 (a0_1 + a1_1)), .int .i64 (wrap64 (a0_2 + a1_2)), .int .i64 0, .int .i64 0, .int .i64 0, .int .i64 0, .int .i64 0]) ?_ 3 _ rfl; (with_reducible repeat (first | refine zE ?_ _ | refine zF ?_ | refine zD ?_ _)); refine blk_put (cs := #[.int .i64 a1_0, .int .i64 (wrap64 (a0_1 + a1_1)), .int .i64 0, .int .i64 0, .int .i64 0, .int .i64 0, .int .i64 0, .int .i64 0]) ?_ 2 _ rfl; (with_reducible repeat (first | refine zE ?_ _ | refine zF ?_ | refine zD ?_ _)); refine blk_put (cs := #[.int .i64 a1_0, .int .i64 0, .int .i64 0, .int .i64 0, .int .i64 0, .int .i64 0, .int .i64 0, .int .i64 0]) ?_ 1 _ rfl; (with_reducible repeat (first | refine zE ?_ _ | refine zF ?_ | refine zD ?_ _)); refine blk_put (cs := #[.int .i64 0, .int .i64 0, .int .i64 0, .int .i64 0, .int .i64 0, .int .i64 0, .int .i64 0, .int .i64 0]) ?_ 0 _ rfl; (with_reducible repeat (first | refine zE ?_ _ | refine zF ?_ | refine zD ?_ _)); exact BK193.out) Try.underlying24 rfl (by kernel_rfl)) rfl ?_
 exact ⟨by first | rfl | (simp [errW_none, errW_some] <;> rfl) | (simp only [← hji3, ← hji4]; first | rfl | (simp [errW_none, errW_some] <;> rfl)) | (simp [*, errW_none, errW_some] <;> rfl), by repeat (first | (with_reducible first | exact HB.out | apply zA | apply zB | apply zC | refine below_set ?_ GE191.out | refine below_set ?_ GE192.out | refine below_set ?_ GE193.out) | exact HB.out)⟩

/-! ### spec_l11Rise: function 40 -/
def spec_l11Rise.f (a0 : Int) (a1 : Int) : Option (Int) := if a1 ≥ a0 then (some (wrap64 (a1 - a0))) else (some a1)
set_option maxHeartbeats 8000000 in
set_option maxRecDepth 100000 in
theorem spec_l11Rise.calls (a0 : Int) (a1 : Int) (r : Int) (w : World) (h : spec_l11Rise.f a0 a1 = some r) :
  Calls Try.prog 40 #[.int .i64 a0, .int .i64 a1] w fun e w' => e = .returned (.int .i64 r) ∧ Drawn0 w w' := by
 have H : (if a1 ≥ a0 then (some (wrap64 (a1 - a0))) else (some a1)) = some r := h
 clear h
 by_cases c3 : a1 ≥ a0
 ·rw [if_pos c3] at H
  have c3b0 : decide (a0 ≤ a1) = true := decide_eq_true c3
  clear c3
  obtain rfl := Option.some.inj H
  go_enter Try.func40, Try.ntmps40
  go_wp2
  go_ret
  exact ⟨by first | rfl | (simp; done) | (simp [*]; done), by repeat (first | exact Drawn0.refl _ | apply Drawn0.step)⟩
 ·rw [if_neg c3] at H
  have c3b0 : decide (a0 ≤ a1) = false := decide_eq_false c3
  clear c3
  obtain rfl := Option.some.inj H
  go_enter Try.func40, Try.ntmps40
  go_wp2
  go_ret
  exact ⟨by first | rfl | (simp; done) | (simp [*]; done), by repeat (first | exact Drawn0.refl _ | apply Drawn0.step)⟩

end Go.Proofs.Ytppifefhpjhmaaa.PFnAggs
