/- A part of the proof. No condition. -/
import Derived.Test.YtbhkjbfphhfecaaGreatG2
namespace Go.Ring
open Go Go.RowKit Go.Eager Go.Abs Go.Proofs
set_option maxRecDepth 100000
set_option linter.unusedVariables false
set_option linter.unusedSimpArgs false
theorem f200_ok (xs : List Int) (x : Int) (hx : xs.length ≤ 1048576) : PFn Tryz.prog 200 [ints xs, int x] (bool (decide (x ∈ xs))) := by
  refine fn_ok' (n := 17) Tryz.func200 rfl rfl rfl (Nat.le_of_ble_eq_true rfl) rfl fun w0 O => ?_
  refine ok_seq fun K0 h0 => ok_region rfl (q_as _ rfl (run_nil (h0 _ ?_))); clear h0 K0
  refine ok_seq fun K1 h1 => ?_
  refine ok_seq fun K2 h2 => ok_region rfl (q_mv _ rfl (q_len eS29 rfl (q_mv _ rfl (run_nil (h2 _ ?_))))); clear h2 K2
  rw [List.length_map]
  refine ok_block ?_
  refine ok_loop (fun (k : Nat) => ⟨[(0, .sv (ints xs)), (1, .sv (int x)), (7, .sv (ints xs)), (8, .sv (int xs.length)), (9, .sv (int k))], []⟩) (fun k => x ∉ xs.take k) (fun k => xs.length - k) 0 (by simp) (le_same ⟨rfl, rfl, rfl, rfl, rfl, trivial⟩) (fun k J => ?_)
  refine ok_seq fun K3 h3 => ok_region rfl (q_bin _ _ _ rfl rfl rfl (run_nil (h3 _ ?_))); clear h3 K3
  refine ok_seq fun K4 h4 => ok_cond rfl (fun c1 => ok_skip (h4 _ ?_)) (fun c1 => ok_exit (h1 _ ?_)) <;> clear h4 K4
  · have hk : k < xs.length := by simpa using c1
    refine ok_seq fun K5 h5 => ok_block ?_
    refine ok_seq fun K6 h6 => ok_region rfl (q_ia (s := int (xs.getD k 0)) el29 rfl rfl (by omega) (iget (iget' hk)) (q_ld _ ag3 rfl rfl (q_as _ rfl (run_nil (h6 _ ?_))))); clear h6 K6
    refine ok_seq fun K6 h6 => ok_region rfl (q_mv _ rfl (q_mv _ rfl (q_bin _ _ _ rfl rfl rfl (run_nil (h6 _ ?_))))); clear h6 K6
    refine ok_cond rfl (fun c2 => ?_) (fun c2 => ok_skip (h5 _ ?_))
    · refine ok_seq fun K6 h6 => ok_region rfl (q_as _ rfl (run_nil (h6 _ ?_))); clear h6 K6
      refine ok_ret ⟨_, rfl, ?_⟩
      have : x ∈ xs := by rw [← of_decide_eq_true c2]; exact List.mem_of_getElem? (iget' hk)
      simp [tupSV, this]
    · clear h5 K5
      refine ok_region rfl (q_add rfl rfl (by omega) (q_mv _ rfl (run_nil ?_)))
      have hne := of_decide_eq_false c2
      refine ⟨k + 1, by omega, ?_, le_same ⟨rfl, rfl, rfl, rfl, rfl, trivial⟩⟩
      rw [List.take_add_one, iget' hk, List.mem_append, not_or]
      exact ⟨J, by simpa using Ne.symm hne⟩
  · refine ok_seq fun K6 h6 => ok_region rfl (q_as _ rfl (run_nil (h6 _ ?_))); clear h6 K6
    refine ok_ret ⟨_, rfl, ?_⟩
    have hk : xs.length ≤ k := by simpa using c1
    rw [List.take_of_length_le hk] at J
    simp [tupSV, J]
end Go.Ring
