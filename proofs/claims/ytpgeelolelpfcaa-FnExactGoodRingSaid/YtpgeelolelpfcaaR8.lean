import Derived.Test.YtpgeelolelpfcaaR7
namespace Go.Ring
open Go Go.RowKit Go.Eager Go.Abs Go.Proofs
set_option maxRecDepth 100000
set_option linter.unusedVariables false
set_option linter.unusedSimpArgs false
theorem f46_ok (xs : List Int) (hx : xs.length ≤ 1048576) : PFn Try.prog 46 [ints xs, ints xs] (bool true) := by
  have hl : (xs.map int).length = xs.length := by simp
  refine fn_ok' (n := 26) Try.func46 rfl rfl rfl (Nat.le_of_ble_eq_true rfl) rfl fun w0 O => ?_
  refine ok_seq fun K1 h1 => ok_region rfl (q_as _ rfl (run_nil (h1 _ ?_))); clear h1 K1
  refine ok_seq fun K2 h2 => ?_
  refine ok_seq fun K3 h3 => ok_region rfl (q_mv _ rfl (q_len eS67 rfl (q_mv _ rfl (q_len eS67 rfl (q_bin _ _ _ rfl rfl rfl (run_nil (h3 _ ?_))))))); clear h3 K3
  refine ok_cond rfl (fun c4 => ?_) (fun c4 => ?_)
  · simp at c4
  · refine ok_skip (h2 _ ?_)
    refine ok_seq fun K6 h6 => ?_
    refine ok_seq fun K7 h7 => ok_region rfl (q_as _ rfl (run_nil (h7 _ ?_))); clear h7 K7
    refine ok_block ?_
    refine ok_loop (fun (k : Nat) => ⟨[(0, .sv (ints xs)), (1, .sv (ints xs)), (5, .sv (int k))], []⟩) (fun k => True) (fun k => xs.length - k) 0 trivial (le_same ⟨rfl, rfl, rfl, trivial⟩) (fun k J => ?_)
    refine ok_seq fun K8 h8 => ?_
    refine ok_seq fun K9 h9 => ok_region rfl (q_mv _ rfl (q_mv _ rfl (q_len eS67 rfl (q_bin _ _ _ rfl rfl rfl (run_nil (h9 _ ?_)))))); clear h9 K9
    rw [hl]
    refine ok_cond rfl (fun c10 => ?_) (fun c10 => ?_)
    · refine ok_skip (h8 _ ?_)
      have hk : k < xs.length := by simpa using c10
      refine ok_seq fun K11 h11 => ?_
      refine ok_block ?_
      refine ok_seq fun K12 h12 => ?_
      refine ok_region_i (by kernel_rfl) (by kernel_rfl) rfl (
        q_mv _ rfl (q_mv _ rfl (q_ia (s := int (xs.getD k 0)) el67 rfl rfl (by omega) (iget (iget' hk)) (q_ld _ ag3 rfl rfl (q_mv _ rfl (q_mv _ rfl (q_ia (s := int (xs.getD k 0)) el67 rfl rfl (by omega) (iget (iget' hk)) (q_ld _ ag3 rfl rfl (q_bin _ _ _ rfl rfl rfl (run_nil (h12 _ ?_)))))))))))
      clear h12 K12
      refine ok_cond rfl (fun c13 => ?_) (fun c13 => ?_)
      · simp at c13
      · refine ok_skip (h11 _ ?_)
        refine ok_region rfl (q_mv _ rfl (q_add rfl rfl (by omega) (q_as _ rfl (run_nil (⟨k + 1, by omega, trivial, le_same ⟨rfl, rfl, rfl, trivial⟩⟩)))))
    · refine ok_exit (h6 _ ?_)
      refine ok_seq fun K15 h15 => ok_region rfl (q_as _ rfl (run_nil (h15 _ ?_))); clear h15 K15
      exact ok_ret ⟨_, rfl, rfl⟩
theorem f192_ok (n : RNode) (hn : Small n) : PFn Try.prog 192 [node n, node n] (bool true) := by
  refine fn_ok' (n := 21) Try.func192 rfl rfl rfl (Nat.le_of_ble_eq_true rfl) rfl fun w0 O => ?_
  refine ok_seq fun K1 h1 => ok_region rfl (q_boxs _ rfl (Nat.zero_lt_succ _) (q_boxs _ rfl (Nat.zero_lt_succ _) (q_as _ rfl (run_nil (h1 _ ?_))))); clear h1 K1
  refine ok_seq fun K2 h2 => ?_
  refine ok_seq fun K3 h3 => ok_region rfl (q_fa _ fd134_0 rfl rfl (by decide) (q_ld _ ag9 rfl rfl (q_fa _ fd134_0 rfl rfl (by decide) (q_ld _ ag9 rfl rfl (q_bin _ _ _ rfl rfl rfl (run_nil (h3 _ ?_))))))); clear h3 K3
  refine ok_cond rfl (fun c4 => ?_) (fun c4 => ?_)
  · simp at c4
  · refine ok_skip (h2 _ ?_)
    refine ok_seq fun K6 h6 => ?_
    refine ok_seq fun K7 h7 => ok_region rfl (q_fa _ fd134_1 rfl rfl (by decide) (q_ld _ ag3 rfl rfl (q_fa _ fd134_1 rfl rfl (by decide) (q_ld _ ag3 rfl rfl (q_bin _ _ _ rfl rfl rfl (run_nil (h7 _ ?_))))))); clear h7 K7
    refine ok_cond rfl (fun c8 => ?_) (fun c8 => ?_)
    · simp at c8
    · refine ok_skip (h6 _ ?_)
      refine ok_seq fun K10 h10 => ?_
      refine ok_seq fun K11 h11 => ok_region rfl (q_fa _ fd134_2 rfl rfl (by decide) (q_ld _ ag67 rfl rfl (q_fa _ fd134_2 rfl rfl (by decide) (q_ld _ ag67 rfl rfl (q_call (f46_ok n.toks hn.2) cl46 rfl rfl (q_un _ _ rfl rfl (run_nil (h11 _ ?_)))))))); clear h11 K11
      refine ok_cond rfl (fun c12 => ?_) (fun c12 => ?_)
      · simp at c12
      · refine ok_skip (h10 _ ?_)
        refine ok_seq fun K14 h14 => ok_region rfl (q_as _ rfl (run_nil (h14 _ ?_))); clear h14 K14
        exact ok_ret ⟨_, rfl, rfl⟩
theorem f91_ok (l : List RNode) (hn : l.length ≤ 1048576) (hx : ∀ x ∈ l, Small x) : PFn Try.prog 91 [.sl 3 (l.map node), .sl 3 (l.map node)] (bool true) := by
  have hl : (l.map node).length = l.length := by simp
  refine fn_ok' (n := 27) Try.func91 rfl rfl rfl (Nat.le_of_ble_eq_true rfl) rfl fun w0 O => ?_
  refine ok_seq fun K1 h1 => ok_region rfl (q_as _ rfl (run_nil (h1 _ ?_))); clear h1 K1
  refine ok_seq fun K2 h2 => ?_
  refine ok_seq fun K3 h3 => ok_region rfl (q_mv _ rfl (q_len eS27 rfl (q_mv _ rfl (q_len eS27 rfl (q_bin _ _ _ rfl rfl rfl (run_nil (h3 _ ?_))))))); clear h3 K3
  refine ok_cond rfl (fun c4 => ?_) (fun c4 => ?_)
  · simp at c4
  · refine ok_skip (h2 _ ?_)
    refine ok_seq fun K6 h6 => ?_
    refine ok_seq fun K7 h7 => ok_region rfl (q_as _ rfl (run_nil (h7 _ ?_))); clear h7 K7
    refine ok_block ?_
    refine ok_loop (fun (k : Nat) => ⟨[(0, .sv (.sl 3 (l.map node))), (1, .sv (.sl 3 (l.map node))), (5, .sv (int k))], []⟩) (fun k => True) (fun k => l.length - k) 0 trivial (le_same ⟨rfl, rfl, rfl, trivial⟩) (fun k J => ?_)
    refine ok_seq fun K8 h8 => ?_
    refine ok_seq fun K9 h9 => ok_region rfl (q_mv _ rfl (q_mv _ rfl (q_len eS27 rfl (q_bin _ _ _ rfl rfl rfl (run_nil (h9 _ ?_)))))); clear h9 K9
    rw [hl]
    refine ok_cond rfl (fun c10 => ?_) (fun c10 => ?_)
    · refine ok_skip (h8 _ ?_)
      have hk : k < l.length := by simpa using c10
      obtain ⟨x, hxk⟩ : ∃ x, l[k]? = some x := ⟨_, List.getElem?_eq_getElem hk⟩
      refine ok_seq fun K11 h11 => ?_
      refine ok_block ?_
      refine ok_seq fun K12 h12 => ?_
      refine ok_region_i (by kernel_rfl) (by kernel_rfl) rfl (
        q_mv _ rfl (q_mv _ rfl (q_ia el27 rfl rfl (by omega) (nget hxk) (q_lds _ ag134 rfl sz134 (q_mv _ rfl (q_mv _ rfl (q_ia el27 rfl rfl (by omega) (nget hxk) (q_lds _ ag134 rfl sz134 (
        q_call (f192_ok x (hx x (List.mem_of_getElem? hxk))) cl192 rfl rfl (q_un _ _ rfl rfl (run_nil (h12 _ ?_))))))))))))
      clear h12 K12
      refine ok_cond rfl (fun c13 => ?_) (fun c13 => ?_)
      · simp at c13
      · refine ok_skip (h11 _ ?_)
        refine ok_region rfl (q_mv _ rfl (q_add rfl rfl (by omega) (q_as _ rfl (run_nil (⟨k + 1, by omega, trivial, le_same ⟨rfl, rfl, rfl, trivial⟩⟩)))))
    · refine ok_exit (h6 _ ?_)
      refine ok_seq fun K15 h15 => ok_region rfl (q_as _ rfl (run_nil (h15 _ ?_))); clear h15 K15
      exact ok_ret ⟨_, rfl, rfl⟩
theorem f18_ok (r : Rg) (hr : SmallR r) : PFn Try.prog 18 [ring r, ring r] (bool true) := by
  refine fn_ok' (n := 16) Try.func18 rfl rfl rfl (Nat.le_of_ble_eq_true rfl) rfl fun w0 O => ?_
  refine ok_seq fun K1 h1 => ok_region rfl (q_boxs _ rfl (Nat.zero_lt_succ _) (q_boxs _ rfl (Nat.zero_lt_succ _) (q_as _ rfl (run_nil (h1 _ ?_))))); clear h1 K1
  refine ok_seq fun K2 h2 => ?_
  refine ok_seq fun K3 h3 => ok_region rfl (q_fa _ fd29_0 rfl rfl (by decide) (q_ld _ ag3 rfl rfl (q_fa _ fd29_0 rfl rfl (by decide) (q_ld _ ag3 rfl rfl (q_bin _ _ _ rfl rfl rfl (run_nil (h3 _ ?_))))))); clear h3 K3
  refine ok_cond rfl (fun c4 => ?_) (fun c4 => ?_)
  · simp at c4
  · refine ok_skip (h2 _ ?_)
    refine ok_seq fun K6 h6 => ?_
    refine ok_seq fun K7 h7 => ok_region rfl (q_fa _ fd29_1 rfl rfl (by decide) (q_ld _ ag27 rfl rfl (q_fa _ fd29_1 rfl rfl (by decide) (q_ld _ ag27 rfl rfl (q_call (f91_ok r.nodes hr.1 hr.2) cl91 rfl rfl (q_un _ _ rfl rfl (run_nil (h7 _ ?_)))))))); clear h7 K7
    refine ok_cond rfl (fun c8 => ?_) (fun c8 => ?_)
    · simp at c8
    · refine ok_skip (h6 _ ?_)
      refine ok_seq fun K10 h10 => ok_region rfl (q_as _ rfl (run_nil (h10 _ ?_))); clear h10 K10
      exact ok_ret ⟨_, rfl, rfl⟩
theorem f3_ok (r : Rg) (hr : LRing r) : PFn Try.prog 3 [ring r] (bool true) := by
  refine fn_ok' (n := 27) Try.func3 rfl rfl rfl (Nat.le_of_ble_eq_true rfl) rfl fun w0 O => ?_
  refine ok_seq fun K1 h1 => ok_region rfl (q_boxs _ rfl (Nat.zero_lt_succ _) (q_as _ rfl (run_nil (h1 _ ?_)))); clear h1 K1
  refine ok_seq fun K2 h2 => ok_region rfl (q_as _ rfl (run_nil (h2 _ ?_))); clear h2 K2
  refine ok_seq fun K3 h3 => ok_region rfl (q_lds _ ag24 rfl sz24 (q_mv _ rfl (q_call (f14_ok r hr 1048576 (by decide) (by decide)) cl14 rfl rfl (q_as _ rfl (run_nil (h3 _ ?_)))))); clear h3 K3
  refine ok_seq fun K4 h4 => ?_
  refine ok_seq fun K5 h5 => ok_region rfl (q_mv _ rfl (q_bin _ _ _ rfl rfl rfl (run_nil (h5 _ ?_)))); clear h5 K5
  refine ok_cond rfl (fun c6 => ?_) (fun c6 => ?_)
  · refine ok_seq fun K7 h7 => ?_
    refine ok_region rfl (q_as _ rfl (run_nil (h7 _ ?_)))
    clear h7 K7
    exact ok_ret ⟨_, rfl, rfl⟩
  · refine ok_skip (h4 _ ?_)
    have hs : SmallR r := szRing_small r 1048576 (by decide) (by have := of_decide_eq_false c6; omega)
    refine ok_seq fun K8 h8 => ok_region rfl (q_lds _ ag24 rfl sz24 (q_call (f16_ok r hs) cl16 rfl rfl (q_call (f15_ok r hs) cl15 rfl rfl (q_as _ rfl (run_nil (h8 _ ?_)))))); clear h8 K8
    refine ok_seq fun K9 h9 => ok_region rfl (q_lds _ ag24 rfl sz24 (q_call (f16_ok r hs) cl16 rfl rfl (q_alloc _ ze29 rfl rfl rfl rfl (q_sts _ rfl rfl rfl sz29 (Nat.le_of_ble_eq_true rfl) rfl (run_nil (h9 _ ?_)))))); clear h9 K9
    refine ok_seq fun K10 h10 => ok_region rfl (q_ldbs ag29 rfl rfl sz29 rfl rfl (q_call (f17_ok r hs) cl17 rfl rfl (q_as _ rfl (run_nil (h10 _ ?_))))); clear h10 K10
    refine ok_seq fun K11 h11 => ?_
    refine ok_seq fun K12 h12 => ok_region rfl (q_mv _ rfl (q_mv _ rfl (q_neb Try.underlying4 rfl rfl (run_nil (h12 _ ?_))))); clear h12 K12
    refine ok_cond rfl (fun c13 => ?_) (fun c13 => ?_)
    · simp at c13
    · refine ok_skip (h11 _ ?_)
      refine ok_seq fun K15 h15 => ?_
      refine ok_seq fun K16 h16 => ?_
      refine ok_region_i (by kernel_rfl) (by kernel_rfl) rfl (
        q_ldbs ag29 rfl rfl sz29 rfl rfl (q_lds _ ag24 rfl sz24 (q_call (f16_ok r hs) cl16 rfl rfl (q_call (f18_ok r hs) cl18 rfl rfl (q_un _ _ rfl rfl (run_nil (h16 _ ?_)))))))
      clear h16 K16
      refine ok_cond rfl (fun c17 => ?_) (fun c17 => ?_)
      · simp at c17
      · refine ok_skip (h15 _ ?_)
        refine ok_seq fun K19 h19 => ok_region rfl (q_as _ rfl (run_nil (h19 _ ?_))); clear h19 K19
        exact ok_ret ⟨_, rfl, rfl⟩
end Go.Ring
