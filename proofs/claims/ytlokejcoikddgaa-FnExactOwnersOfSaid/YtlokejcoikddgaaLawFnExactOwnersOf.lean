/- The law FnExactOwnersOf holds of every input: the row, out of the contract of its function. No condition. -/
import Derived.Test.YtlokejcoikddgaaRows
import Derived.Test.YtlokejcoikddgaaT5
import Derived.WalkKit
import Derived.ProofKit
import Derived.OpenShut
import Derived.ShutString
import Derived.ChangeOld
import Derived.Below
import Derived.SizedLaws
import Derived.WideShapes
namespace Go.Proofs.Ytlokejcoikddgaa.fnExactOwnersOf
open Go.ChangeShapes Go.WideShapes Go.ChangeAt Go.RowKit Go.Abs Go.Eager Go.Ring
open Go.ChangeMaps (open_string shut_string)
set_option linter.unusedVariables false
theorem own : ownKnob Try.prog.godebug = none := by kernel_rfl
theorem laidOut : laidOutB Try.prog = true := by kernel_rfl
set_option maxRecDepth 100000 in
set_option maxHeartbeats 1000000 in
theorem lifted (os : Os) (started : os.Started) (H : Type) (enc : TypeId × Value → H) :
    ReturnsInHanded {} Try.checked os 5 .any (Rows.fnExactOwnersOfSpec.pre6 enc Try.prog Try.f5 Rows.fnExactOwnersOfRow.domain false) (Rows.fnExactOwnersOfSpec.post enc Try.prog Try.f5 false true false false) := by
  refine returnsInHanded_of_change_sized (C := Try.checked) own started (by kernel_rfl) Try.func5
    (ChangeSpec.witness6 (enc := enc) (C := Try.checked) false ⟨#[], #[.agg #[.int .i64 0, .slice none 0 0], .int .i64 0], []⟩ 8 (by kernel_rfl) (by kernel_rfl) (by kernel_rfl) (by kernel_rfl)) ?_
  intro W base args ds gs before hval0 hW hcnd hsz0 _
  have hval : ∀ (j : Nat) t v, Try.f5.params[j]? = some t → args[j]? = some v → Value.okWide Try.prog W .any base t v := hval0
  have hW' := hW
  obtain ⟨p, q, hA0, hV, rfl, hfz, hnd⟩ := hW
  have hA : DataW.TrodAll enc Try.prog W 0 (fun _ => true) true Try.f5.params.toList args.toList ds p := hA0
  rw [Try.params5] at hA hval
  obtain ⟨v0, vs0, d0, ds0, p0, q0, hargs, rfl, rfl, h0, r0⟩ := trodAll_cons hA
  obtain ⟨v1, vs1, d1, ds1, p1, q1, rfl, rfl, rfl, h1, r1⟩ := trodAll_cons r0
  obtain ⟨rfl, rfl, rfl⟩ := trodAll_nil r1
  obtain rfl : args = #[v0, v1] := by cases args; simp_all
  obtain ⟨rfl, rfl⟩ := trodVars_none hV
  have k0_ := h0
  have lt0 : ∀ x ∈ p0, x.block < W.heap.size := by obtain ⟨m, hm⟩ := k0_; exact DataW.trod_lt m _ _ _ hm
  obtain ⟨a0, K0, w0⟩ := op_arg op_Ring h0
  have K0_ := arg_agg Try.underlying41 (hval 0 41 v0 rfl rfl) K0
  obtain ⟨a1, rfl, rfl, rfl, w1⟩ := open_int Try.underlying3 (hval 1 3 v1 rfl rfl) h1
  refine (pfn_call (f5_ok a0 w0 a1 w1) W [v0, _] rfl (reps_cons K0_ (reps_cons (Rep.raw _) reps_nil))).mono ?_
  rintro e W' ⟨v, he, hd, hv⟩
  have bel : Below W.heap.size W W' := hd
  obtain rfl := rep_raw hv
  subst he
  exact ⟨_, rfl, _, _, _, [], _, [], hW', trodAll_mk1 (shut_bool Try.underlying4 _), (trodAll_cons_mk (Below.trod laidOut (by kernel_rfl) (of_decide_eq_true (by kernel_rfl)) k0_ bel lt0) (trodAll_cons_mk (shut_int Try.underlying3 w1) trodAll_mk0)), rfl, bel.frame _, fun h => by cases h⟩
theorem named : Try.pinned.checked.prog.funcNamed Rows.fnExactOwnersOfRow.func = some 5 := by kernel_rfl
theorem c1 : (Rows.fnExactOwnersOfRow.inPlace == Try.pinned.checked.prog.inPlace 5) = true := by kernel_rfl
theorem c2 : (Rows.fnExactOwnersOfRow.unfollowed == Try.pinned.checked.prog.unfollowed 5) = true := by kernel_rfl
theorem c3 : (Rows.fnExactOwnersOfRow.recurses == Try.pinned.checked.prog.recurses 5) = true := by kernel_rfl
theorem c4 : (Rows.fnExactOwnersOfRow.named == Try.pinned.checked.prog.varsNamed 5) = true := by kernel_rfl
theorem closed : joinedFacts Try.pinned.checked.prog 5 Try.f5 Rows.fnExactOwnersOfSpec Rows.fnExactOwnersOfRow = true := by unfold joinedFacts; rw [c1, c2, c3, c4]; kernel_rfl
theorem over : Rows.fnExactOwnersOfRow.holds Try.pinned (OpenSpec.ofChange Rows.fnExactOwnersOfSpec) :=
  OpenClaim.holds_of_wide 5 Try.f5 rfl rfl rfl rfl rfl rfl rfl ⟨rfl, rfl, rfl, rfl, rfl⟩ rfl rfl rfl rfl rfl named Try.func5 closed
    (of_decide_eq_true (by kernel_rfl)) (by unfold Func.isWrapper; first | (rw [if_pos (by decide +kernel)]; kernel_rfl) | (rw [if_neg (by decide +kernel)]; exact ⟨rfl, rfl⟩))
    (fun os started H enc _ => lifted os started H enc)
theorem proved : Rows.FnExactOwnersOfSaid := over
#print axioms proved
end Go.Proofs.Ytlokejcoikddgaa.fnExactOwnersOf
namespace Go.Proofs.Ytlokejcoikddgaa
/-- The row, under a short name, for the claim. -/
theorem fnExactOwnersOf_holds : Rows.FnExactOwnersOfSaid := fnExactOwnersOf.proved
end Go.Proofs.Ytlokejcoikddgaa
