/- The law FnExactGoodRemote holds of every input: the row, out of the pure statement and the walk. No condition. -/
import Derived.Test.YtpeobcginpcfeaaRows
import Derived.Test.YtpeobcginpcfeaaPFnExactGoodRemotex1
import Derived.Test.YtpeobcginpcfeaaPreFnExactGoodRemote
import Derived.Test.YtpeobcginpcfeaaPureFnExactGoodRemote
import Derived.WalkKit
import Derived.ProofKit
import Derived.OpenShut
import Derived.ShutString
import Derived.ChangeOld
import Derived.Below
import Derived.SizedLaws
import Derived.WideShapes
namespace Go.Proofs.Ytpeobcginpcfeaa.fnExactGoodRemote
open Go.ChangeShapes Go.WideShapes Go.ChangeAt Go.RowKit Go.Proofs.Ytpeobcginpcfeaa.PFnExactGoodRemote Go.Proofs.YtpeobcginpcfeaaW.PrintWords Go.Proofs.YtpeobcginpcfeaaW.PrintLast Go.Proofs.Ytpeobcginpcfeaa.Open Go.Proofs.Ytpeobcginpcfeaa.PreFnExactGoodRemote
open Go.ChangeMaps (open_string shut_string)
set_option linter.unusedVariables false
theorem own : ownKnob Try.prog.godebug = none := by kernel_rfl
theorem laidOut : laidOutB Try.prog = true := by kernel_rfl
set_option maxRecDepth 100000 in
set_option maxHeartbeats 1000000 in
theorem lifted (os : Os) (started : os.Started) (H : Type) (enc : TypeId × Value → H) :
    ReturnsInHanded {} Try.checked os 3 .any (Rows.fnExactGoodRemoteSpec.pre6 enc Try.prog Try.f3 Rows.fnExactGoodRemoteRow.domain false) (Rows.fnExactGoodRemoteSpec.post enc Try.prog Try.f3 false true false false) := by
  refine returnsInHanded_of_change_sized (C := Try.checked) own started (by kernel_rfl) Try.func3
    (ChangeSpec.witness6 (enc := enc) (C := Try.checked) false ⟨#[], #[.agg #[.int .i64 0, .int .i64 0, .int .i64 0, .int .i64 0, .int .i64 0]], []⟩ 8 (by kernel_rfl) (by kernel_rfl) (by kernel_rfl) (by kernel_rfl)) ?_
  intro W base args ds gs before hval0 hW hcnd hsz0 _
  have hval : ∀ (j : Nat) t v, Try.f3.params[j]? = some t → args[j]? = some v → Value.okWide Try.prog W .any base t v := hval0
  have hW' := hW
  obtain ⟨p, q, hA0, hV, rfl, hfz, hnd⟩ := hW
  have hA : DataW.TrodAll enc Try.prog W 0 (fun _ => true) true Try.f3.params.toList args.toList ds p := hA0
  rw [Try.params3] at hA hval
  obtain ⟨v0, vs0, d0, ds0, p0, q0, hargs, rfl, rfl, h0, r0⟩ := trodAll_cons hA
  obtain ⟨rfl, rfl, rfl⟩ := trodAll_nil r0
  obtain rfl : args = #[v0] := by cases args; simp_all
  obtain ⟨rfl, rfl⟩ := trodVars_none hV
  have k0_ := h0
  have lt0 : ∀ x ∈ p0, x.block < W.heap.size := by obtain ⟨m, hm⟩ := k0_; exact DataW.trod_lt m _ _ _ hm
  obtain ⟨a0, K0, w0⟩ := op_arg op_k23 h0
  have e0 := k23_open K0
  have e0_ := agg_of Try.underlying23 (hval 0 23 v0 rfl rfl) e0
  subst e0_
  have h := Pure.FnExactGoodRemote a0 w0
  refine (laws_FnExactGoodRemote.calls (a0.f0) (a0.f1) (a0.f2) (a0.f3) (a0.f4) true W  h).mono ?_
  rintro e W' ⟨he, hd⟩
  have bel : Below W.heap.size W W' := hd
  subst he
  exact ⟨_, rfl, _, _, _, [], _, [], hW', trodAll_mk1 (shut_bool Try.underlying4 _), (trodAll_cons_mk (Below.trod laidOut (by kernel_rfl) (of_decide_eq_true (by kernel_rfl)) k0_ bel lt0) trodAll_mk0), rfl, bel.frame _, fun h => by cases h⟩
theorem over : Rows.fnExactGoodRemoteRow.holds Try.pinned (OpenSpec.ofChange Rows.fnExactGoodRemoteSpec) :=
  OpenClaim.holds_of_wide 3 Try.f3 rfl rfl rfl rfl rfl rfl rfl ⟨rfl, rfl, rfl, rfl, rfl⟩ rfl rfl rfl rfl rfl (by kernel_rfl) Try.func3 (by kernel_rfl)
    (of_decide_eq_true (by kernel_rfl)) (by unfold Func.isWrapper; first | (rw [if_pos (by decide +kernel)]; kernel_rfl) | (rw [if_neg (by decide +kernel)]; exact ⟨rfl, rfl⟩))
    (fun os started H enc _ => lifted os started H enc)
theorem proved : Rows.FnExactGoodRemoteSaid := over
#print axioms proved
end Go.Proofs.Ytpeobcginpcfeaa.fnExactGoodRemote
namespace Go.Proofs.Ytpeobcginpcfeaa
/-- The row, under a short name, for the claim. -/
theorem fnExactGoodRemote_holds : Rows.FnExactGoodRemoteSaid := fnExactGoodRemote.proved
end Go.Proofs.Ytpeobcginpcfeaa
