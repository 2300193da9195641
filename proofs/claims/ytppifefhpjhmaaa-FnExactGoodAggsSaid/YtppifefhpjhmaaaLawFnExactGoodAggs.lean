/- The law FnExactGoodAggs holds of every input: the row, out of the pure statement and the walk. No condition. -/
import Derived.Test.YtppifefhpjhmaaaRows
import Derived.Test.YtppifefhpjhmaaaPFnExactGoodAggsx5
import Derived.Test.YtppifefhpjhmaaaPreFnExactGoodAggs
import Derived.Test.YtppifefhpjhmaaaPureFnExactGoodAggs
import Derived.WalkKit
import Derived.ProofKit
import Derived.OpenShut
import Derived.ShutString
import Derived.ChangeOld
import Derived.Below
import Derived.SizedLaws
import Derived.WideShapes
namespace Go.Proofs.Ytppifefhpjhmaaa.fnExactGoodAggs
open Go.ChangeShapes Go.WideShapes Go.ChangeAt Go.RowKit Go.Proofs.Ytppifefhpjhmaaa.PFnExactGoodAggs Go.Proofs.YtppifefhpjhmaaaW.PrintWords Go.Proofs.YtppifefhpjhmaaaW.PrintLast Go.Proofs.Ytppifefhpjhmaaa.Open Go.Proofs.Ytppifefhpjhmaaa.PreFnExactGoodAggs
open Go.ChangeMaps (open_string shut_string)
set_option linter.unusedVariables false
theorem own : ownKnob Try.prog.godebug = none := by kernel_rfl
theorem laidOut : laidOutB Try.prog = true := by kernel_rfl
set_option maxRecDepth 100000 in
set_option maxHeartbeats 1000000 in
theorem lifted (os : Os) (started : os.Started) (H : Type) (enc : TypeId × Value → H) :
    ReturnsInHanded {} Try.checked os 4 .any (Rows.fnExactGoodAggsSpec.pre6 enc Try.prog Try.f4 Rows.fnExactGoodAggsRow.domain false) (Rows.fnExactGoodAggsSpec.post enc Try.prog Try.f4 false true false false) := by
  refine returnsInHanded_of_change_sized (C := Try.checked) own started (by kernel_rfl) Try.func4
    (ChangeSpec.witness6 (enc := enc) (C := Try.checked) false ⟨#[], #[.slice none 0 0, .int .i64 0], []⟩ 8 (by kernel_rfl) (by kernel_rfl) (by kernel_rfl) (by kernel_rfl)) ?_
  intro W base args ds gs before hval0 hW hcnd hsz0 _
  have hval : ∀ (j : Nat) t v, Try.f4.params[j]? = some t → args[j]? = some v → Value.okWide Try.prog W .any base t v := hval0
  have hW' := hW
  obtain ⟨p, q, hA0, hV, rfl, hfz, hnd⟩ := hW
  have hA : DataW.TrodAll enc Try.prog W 0 (fun _ => true) true Try.f4.params.toList args.toList ds p := hA0
  rw [Try.params4] at hA hval
  obtain ⟨v0, vs0, d0, ds0, p0, q0, hargs, rfl, rfl, h0, r0⟩ := trodAll_cons hA
  obtain ⟨v1, vs1, d1, ds1, p1, q1, rfl, rfl, rfl, h1, r1⟩ := trodAll_cons r0
  obtain ⟨rfl, rfl, rfl⟩ := trodAll_nil r1
  obtain rfl : args = #[v0, v1] := by cases args; simp_all
  obtain ⟨rfl, rfl⟩ := trodVars_none hV
  have k0_ := h0
  have lt0 : ∀ x ∈ p0, x.block < W.heap.size := by obtain ⟨m, hm⟩ := k0_; exact DataW.trod_lt m _ _ _ hm
  obtain ⟨a0, K0, w0⟩ := op_arg (op_slice Try.underlying29 (by kernel_rfl) op_k78) h0
  obtain ⟨A0, c0, e0, hc0, hr0⟩ := K0
  have e0_ := slice_of Try.underlying29 (hval 0 29 v0 rfl rfl) e0
  subst e0_
  obtain ⟨a1, rfl, rfl, rfl, w1⟩ := open_int Try.underlying3 (hval 1 3 v1 rfl rfl) h1
  obtain ⟨k, h⟩ := Pure.FnExactGoodAggs a0 a1 w0 w1
  refine (laws_FnExactGoodAggs.calls k _ _ (a0) (a1) true W hr0 hc0 h).mono ?_
  rintro e W' ⟨he, hd⟩
  have bel : Below W.heap.size W W' := hd
  subst he
  exact ⟨_, rfl, _, _, _, [], _, [], hW', trodAll_mk1 (shut_bool Try.underlying4 _), (trodAll_cons_mk (Below.trod laidOut (by kernel_rfl) (of_decide_eq_true (by kernel_rfl)) k0_ bel lt0) (trodAll_cons_mk (shut_int Try.underlying3 w1) trodAll_mk0)), rfl, bel.frame _, fun h => by cases h⟩
theorem over : Rows.fnExactGoodAggsRow.holds Try.pinned (OpenSpec.ofChange Rows.fnExactGoodAggsSpec) :=
  OpenClaim.holds_of_wide 4 Try.f4 rfl rfl rfl rfl rfl rfl rfl ⟨rfl, rfl, rfl, rfl, rfl⟩ rfl rfl rfl rfl rfl (by kernel_rfl) Try.func4 (by kernel_rfl)
    (of_decide_eq_true (by kernel_rfl)) (by unfold Func.isWrapper; first | (rw [if_pos (by decide +kernel)]; kernel_rfl) | (rw [if_neg (by decide +kernel)]; exact ⟨rfl, rfl⟩))
    (fun os started H enc _ => lifted os started H enc)
theorem proved : Rows.FnExactGoodAggsSaid := over
#print axioms proved
end Go.Proofs.Ytppifefhpjhmaaa.fnExactGoodAggs
namespace Go.Proofs.Ytppifefhpjhmaaa
/-- The row, under a short name, for the claim. -/
theorem fnExactGoodAggs_holds : Rows.FnExactGoodAggsSaid := fnExactGoodAggs.proved
end Go.Proofs.Ytppifefhpjhmaaa
