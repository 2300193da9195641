/- The law FnExactMergeAgg holds of every input: the row, out of the pure statement and the walk. No condition. -/
import Derived.Test.YtpeobcginpcfeaaRows
import Derived.Test.YtpeobcginpcfeaaPFnExactMergeAggx3
import Derived.Test.YtpeobcginpcfeaaPreFnExactMergeAgg
import Derived.Test.YtpeobcginpcfeaaPureFnExactMergeAgg
import Derived.WalkKit
import Derived.ProofKit
import Derived.OpenShut
import Derived.ShutString
import Derived.ChangeOld
import Derived.Below
import Derived.SizedLaws
import Derived.WideShapes
namespace Go.Proofs.Ytpeobcginpcfeaa.fnExactMergeAgg
open Go.ChangeShapes Go.WideShapes Go.ChangeAt Go.RowKit Go.Proofs.Ytpeobcginpcfeaa.PFnExactMergeAgg Go.Proofs.YtpeobcginpcfeaaW.PrintWords Go.Proofs.YtpeobcginpcfeaaW.PrintLast Go.Proofs.Ytpeobcginpcfeaa.Open Go.Proofs.Ytpeobcginpcfeaa.PreFnExactMergeAgg
open Go.ChangeMaps (open_string shut_string)
set_option linter.unusedVariables false
theorem own : ownKnob Try.prog.godebug = none := by kernel_rfl
theorem laidOut : laidOutB Try.prog = true := by kernel_rfl
set_option maxRecDepth 100000 in
set_option maxHeartbeats 1000000 in
theorem lifted (os : Os) (started : os.Started) (H : Type) (enc : TypeId × Value → H) :
    ReturnsInHanded {} Try.checked os 8 .any (Rows.fnExactMergeAggSpec.pre6 enc Try.prog Try.f8 Rows.fnExactMergeAggRow.domain false) (Rows.fnExactMergeAggSpec.post enc Try.prog Try.f8 false true false false) := by
  refine returnsInHanded_of_change_sized (C := Try.checked) own started (by kernel_rfl) Try.func8
    (ChangeSpec.witness6 (enc := enc) (C := Try.checked) false ⟨#[], #[.agg #[.int .i64 0, .int .i64 0, .int .i64 0, .int .i64 0, .int .i64 0, .int .i64 0, .int .i64 0, .int .i64 0], .agg #[.int .i64 0, .int .i64 0, .int .i64 0, .int .i64 0, .int .i64 0, .int .i64 0, .int .i64 0, .int .i64 0]], []⟩ 8 (by kernel_rfl) (by kernel_rfl) (by kernel_rfl) (by kernel_rfl)) ?_
  intro W base args ds gs before hval0 hW hcnd hsz0 _
  have hval : ∀ (j : Nat) t v, Try.f8.params[j]? = some t → args[j]? = some v → Value.okWide Try.prog W .any base t v := hval0
  have hW' := hW
  obtain ⟨p, q, hA0, hV, rfl, hfz, hnd⟩ := hW
  have hA : DataW.TrodAll enc Try.prog W 0 (fun _ => true) true Try.f8.params.toList args.toList ds p := hA0
  rw [Try.params8] at hA hval
  obtain ⟨v0, vs0, d0, ds0, p0, q0, hargs, rfl, rfl, h0, r0⟩ := trodAll_cons hA
  obtain ⟨v1, vs1, d1, ds1, p1, q1, rfl, rfl, rfl, h1, r1⟩ := trodAll_cons r0
  obtain ⟨rfl, rfl, rfl⟩ := trodAll_nil r1
  obtain rfl : args = #[v0, v1] := by cases args; simp_all
  obtain ⟨rfl, rfl⟩ := trodVars_none hV
  have k0_ := h0
  have lt0 : ∀ x ∈ p0, x.block < W.heap.size := by obtain ⟨m, hm⟩ := k0_; exact DataW.trod_lt m _ _ _ hm
  obtain ⟨a0, K0, w0⟩ := op_arg op_k42 h0
  have e0 := k42_open K0
  have e0_ := agg_of Try.underlying42 (hval 0 42 v0 rfl rfl) e0
  subst e0_
  have k1_ := h1
  have lt1 : ∀ x ∈ p1, x.block < W.heap.size := by obtain ⟨m, hm⟩ := k1_; exact DataW.trod_lt m _ _ _ hm
  obtain ⟨a1, K1, w1⟩ := op_arg op_k42 h1
  have e1 := k42_open K1
  have e1_ := agg_of Try.underlying42 (hval 1 42 v1 rfl rfl) e1
  subst e1_
  obtain ⟨k, h⟩ := Pure.FnExactMergeAgg a0 a1 w0 w1
  refine (laws_FnExactMergeAgg.calls k (a0.f0) (a0.f1) (a0.f2) (a0.f3) (a0.f4) (a0.f5) (a0.f6) (a0.f7) (a1.f0) (a1.f1) (a1.f2) (a1.f3) (a1.f4) (a1.f5) (a1.f6) (a1.f7) true W  h).mono ?_
  rintro e W' ⟨he, hd⟩
  have bel : Below W.heap.size W W' := hd
  subst he
  exact ⟨_, rfl, _, _, _, [], _, [], hW', trodAll_mk1 (shut_bool Try.underlying4 _), (trodAll_cons_mk (Below.trod laidOut (by kernel_rfl) (of_decide_eq_true (by kernel_rfl)) k0_ bel lt0) (trodAll_cons_mk (Below.trod laidOut (by kernel_rfl) (of_decide_eq_true (by kernel_rfl)) k1_ bel lt1) trodAll_mk0)), rfl, bel.frame _, fun h => by cases h⟩
theorem over : Rows.fnExactMergeAggRow.holds Try.pinned (OpenSpec.ofChange Rows.fnExactMergeAggSpec) :=
  OpenClaim.holds_of_wide 8 Try.f8 rfl rfl rfl rfl rfl rfl rfl ⟨rfl, rfl, rfl, rfl, rfl⟩ rfl rfl rfl rfl rfl (by kernel_rfl) Try.func8 (by kernel_rfl)
    (of_decide_eq_true (by kernel_rfl)) (by unfold Func.isWrapper; first | (rw [if_pos (by decide +kernel)]; kernel_rfl) | (rw [if_neg (by decide +kernel)]; exact ⟨rfl, rfl⟩))
    (fun os started H enc _ => lifted os started H enc)
theorem proved : Rows.FnExactMergeAggSaid := over
#print axioms proved
end Go.Proofs.Ytpeobcginpcfeaa.fnExactMergeAgg
namespace Go.Proofs.Ytpeobcginpcfeaa
/-- The row, under a short name, for the claim. -/
theorem fnExactMergeAgg_holds : Rows.FnExactMergeAggSaid := fnExactMergeAgg.proved
end Go.Proofs.Ytpeobcginpcfeaa
