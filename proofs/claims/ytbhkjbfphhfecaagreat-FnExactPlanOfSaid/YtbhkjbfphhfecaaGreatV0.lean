/- Rows of numbers are alike. No condition. -/
import Derived.Test.YtbhkjbfphhfecaaGreatFam
set_option maxRecDepth 100000
set_option linter.unusedVariables false
set_option linter.unusedSimpArgs false
namespace Go.Ring
open Go Go.RowKit Go.Eager Go.Abs Go.Proofs
theorem f17_ok (x : List Int) (hx : x.length ≤ 1048576) : PFn Tryz.prog 17 [ints x, ints x] (bool true) := by
  have hle : x.length ≤ 1048576 := hx
  refine fn_ok' (n := 26) Tryz.func17 rfl rfl rfl (Nat.le_of_ble_eq_true rfl) rfl fun w0 O => ?_
  refine ok_seq fun K1 h1 => ok_region rfl (q_as _ rfl (run_nil (h1 _ ?_))); clear h1 K1
  refine ok_seq fun K2 h2 => ?_
  refine ok_seq fun K3 h3 => ok_region rfl (q_mv _ rfl (q_len eS29 rfl (q_mv _ rfl (q_len eS29 rfl (q_bin _ _ _ rfl rfl rfl (run_nil (h3 _ ?_))))))); clear h3 K3
  refine ok_cond rfl (fun c4 => ?_) (fun c4 => ?_)
  · simp at c4
  · refine ok_skip (h2 _ ?_)
    refine ok_seq fun K6 h6 => ?_
    refine ok_seq fun K7 h7 => ok_region rfl (q_as _ rfl (run_nil (h7 _ ?_))); clear h7 K7
    refine ok_block ?_
    refine ok_loop (fun (k : Nat) => ⟨[(0, .sv (ints x)), (1, .sv (ints x)), (5, .sv (int k))], []⟩) (fun k => True) (fun k => x.length - k) 0 trivial (le_same ⟨rfl, rfl, rfl, trivial⟩) (fun k J => ?_)
    refine ok_seq fun K8 h8 => ?_
    refine ok_seq fun K9 h9 => ok_region rfl (q_mv _ rfl (q_mv _ rfl (q_len eS29 rfl (q_bin _ _ _ rfl rfl rfl (run_nil (h9 _ ?_)))))); clear h9 K9
    rw [List.length_map]
    refine ok_cond rfl (fun c10 => ?_) (fun c10 => ?_)
    · refine ok_skip (h8 _ ?_)
      have hk : k < x.length := by simpa using c10
      obtain ⟨u, hu⟩ := sget hk
      refine ok_seq fun K11 h11 => ?_
      refine ok_block ?_
      refine ok_seq fun K12 h12 => ?_
      refine ok_region_i (by kernel_rfl) (by kernel_rfl) rfl (
        q_mv _ rfl (q_mv _ rfl (q_ia (s := int u) el29 rfl rfl (by omega) (mget (f := int) hu) (q_ld _ ag3 rfl rfl (q_mv _ rfl (q_mv _ rfl (q_ia (s := int u) el29 rfl rfl (by omega) (mget (f := int) hu) (q_ld _ ag3 rfl rfl (q_bin _ _ _ rfl rfl rfl (run_nil (h12 _ ?_)))))))))))
      clear h12 K12
      refine ok_cond rfl (fun c13 => ?_) (fun c13 => ?_)
      · simp at c13
      · refine ok_skip (h11 _ ?_)
        refine ok_region rfl (q_mv _ rfl (q_add rfl rfl (by omega) (q_as _ rfl (run_nil (⟨k + 1, by omega, trivial, le_same ⟨rfl, rfl, rfl, trivial⟩⟩)))))
    · refine ok_exit (h6 _ ?_)
      refine ok_seq fun K15 h15 => ok_region rfl (q_as _ rfl (run_nil (h15 _ ?_))); clear h15 K15
      exact ok_ret ⟨_, rfl, rfl⟩
end Go.Ring
