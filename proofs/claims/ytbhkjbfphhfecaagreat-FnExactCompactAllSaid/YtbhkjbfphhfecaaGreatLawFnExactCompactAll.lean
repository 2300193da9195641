/- The law FnExactCompactAll holds of every input: the row, out of the contract of its function. No condition. -/
import Derived.Test.YtbhkjbfphhfecaaGreatRows
import Derived.Test.YtbhkjbfphhfecaaGreatL9
import Derived.WalkKit
import Derived.ProofKit
import Derived.OpenShut
import Derived.ShutString
import Derived.ChangeOld
import Derived.Below
import Derived.SizedLaws
import Derived.WideShapes
namespace Go.Proofs.YtbhkjbfphhfecaaGreat.fnExactCompactAll
open Go.ChangeShapes Go.WideShapes Go.ChangeAt Go.RowKit Go.Abs Go.Eager Go.Ring
open Go.ChangeMaps (open_string shut_string)
set_option linter.unusedVariables false
theorem own : ownKnob Tryz.prog.godebug = none := by kernel_rfl
theorem laidOut : laidOutB Tryz.prog = true := by kernel_rfl
set_option maxRecDepth 100000 in
set_option maxHeartbeats 1000000 in
theorem lifted (os : Os) (started : os.Started) (H : Type) (enc : TypeId × Value → H) :
    ReturnsInHanded {} Tryz.checked os 9 .any (Rows.fnExactCompactAllSpec.pre6 enc Tryz.prog Tryz.f9 Rows.fnExactCompactAllRow.domain false) (Rows.fnExactCompactAllSpec.post enc Tryz.prog Tryz.f9 false true false false) := by
  refine returnsInHanded_of_change_sized (C := Tryz.checked) own started (by kernel_rfl) Tryz.func9
    (ChangeSpec.witness6 (enc := enc) (C := Tryz.checked) false ⟨#[], #[.int .i64 0, .slice none 0 0], []⟩ 8 (by kernel_rfl) (by kernel_rfl) (by kernel_rfl) (by kernel_rfl)) ?_
  intro W base args ds gs before hval0 hW hcnd hsz0 _
  have hval : ∀ (j : Nat) t v, Tryz.f9.params[j]? = some t → args[j]? = some v → Value.okWide Tryz.prog W .any base t v := hval0
  have hW' := hW
  obtain ⟨p, q, hA0, hV, rfl, hfz, hnd⟩ := hW
  have hA : DataW.TrodAll enc Tryz.prog W 0 (fun _ => true) true Tryz.f9.params.toList args.toList ds p := hA0
  rw [Tryz.params9] at hA hval
  obtain ⟨v0, vs0, d0, ds0, p0, q0, hargs, rfl, rfl, h0, r0⟩ := trodAll_cons hA
  obtain ⟨v1, vs1, d1, ds1, p1, q1, rfl, rfl, rfl, h1, r1⟩ := trodAll_cons r0
  obtain ⟨rfl, rfl, rfl⟩ := trodAll_nil r1
  obtain rfl : args = #[v0, v1] := by cases args; simp_all
  obtain ⟨rfl, rfl⟩ := trodVars_none hV
  obtain ⟨a0, rfl, rfl, rfl, w0⟩ := open_int Tryz.underlying3 (hval 0 3 v0 rfl rfl) h0
  have k1_ := h1
  have lt1 : ∀ x ∈ p1, x.block < W.heap.size := by obtain ⟨m, hm⟩ := k1_; exact DataW.trod_lt m _ _ _ hm
  obtain ⟨a1, K1, w1⟩ := op_arg op_BlockS h1
  have K1_ := arg_sl Tryz.underlying50 (hval 1 50 v1 rfl rfl) K1
  refine (pfn_call (f9_ok a0 w0 a1 w1) W [_, v1] rfl (reps_cons (Rep.raw _) (reps_cons K1_ reps_nil))).mono ?_
  rintro e W' ⟨v, he, hd, hv⟩
  have bel : Below W.heap.size W W' := hd
  obtain rfl := rep_raw hv
  subst he
  exact ⟨_, rfl, _, _, _, [], _, [], hW', trodAll_mk1 (shut_bool Tryz.underlying4 _), (trodAll_cons_mk (shut_int Tryz.underlying3 w0) (trodAll_cons_mk (Below.trod laidOut (by kernel_rfl) (of_decide_eq_true (by kernel_rfl)) k1_ bel lt1) trodAll_mk0)), rfl, bel.frame _, fun h => by cases h⟩
theorem named : Tryz.pinned.checked.prog.funcNamed Rows.fnExactCompactAllRow.func = some 9 := by kernel_rfl
theorem c1 : (Rows.fnExactCompactAllRow.inPlace == Tryz.pinned.checked.prog.inPlace 9) = true := by kernel_rfl
theorem c2 : (Rows.fnExactCompactAllRow.unfollowed == Tryz.pinned.checked.prog.unfollowed 9) = true := by kernel_rfl
theorem c3 : (Rows.fnExactCompactAllRow.recurses == Tryz.pinned.checked.prog.recurses 9) = true := by kernel_rfl
theorem c4 : (Rows.fnExactCompactAllRow.named == Tryz.pinned.checked.prog.varsNamed 9) = true := by kernel_rfl
theorem closed : joinedFacts Tryz.pinned.checked.prog 9 Tryz.f9 Rows.fnExactCompactAllSpec Rows.fnExactCompactAllRow = true := by unfold joinedFacts; rw [c1, c2, c3, c4]; kernel_rfl
theorem over : Rows.fnExactCompactAllRow.holds Tryz.pinned (OpenSpec.ofChange Rows.fnExactCompactAllSpec) :=
  OpenClaim.holds_of_wide 9 Tryz.f9 rfl rfl rfl rfl rfl rfl rfl ⟨rfl, rfl, rfl, rfl, rfl⟩ rfl rfl rfl rfl rfl named Tryz.func9 closed
    (of_decide_eq_true (by kernel_rfl)) (by unfold Func.isWrapper; first | (rw [if_pos (by decide +kernel)]; kernel_rfl) | (rw [if_neg (by decide +kernel)]; exact ⟨rfl, rfl⟩))
    (fun os started H enc _ => lifted os started H enc)
theorem proved : Rows.FnExactCompactAllSaid := over
#print axioms proved
end Go.Proofs.YtbhkjbfphhfecaaGreat.fnExactCompactAll
namespace Go.Proofs.YtbhkjbfphhfecaaGreat
/-- The row, under a short name, for the claim. -/
theorem fnExactCompactAll_holds : Rows.FnExactCompactAllSaid := fnExactCompactAll.proved
end Go.Proofs.YtbhkjbfphhfecaaGreat
