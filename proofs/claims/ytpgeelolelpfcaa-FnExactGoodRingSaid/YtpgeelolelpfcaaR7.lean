import Derived.Test.YtpgeelolelpfcaaR6
import Derived.Test.YtpgeelolelpfcaaAbsRes
namespace Go.Ring
open Go Go.RowKit Go.Eager Go.Abs Go.Proofs
set_option maxRecDepth 100000
set_option linter.unusedVariables false
set_option linter.unusedSimpArgs false
/-- A row, filled up to k. -/
def fill {α : Type} (f : α → SV) (z : SV) (xs : List α) (k : Nat) : List SV := (xs.take k).map f ++ List.replicate (xs.length - k) z
theorem fill_zero {α : Type} (f : α → SV) (z : SV) (xs : List α) : fill f z xs 0 = List.replicate xs.length z := by simp [fill]
theorem fill_all {α : Type} (f : α → SV) (z : SV) (xs : List α) {k : Nat} (h : xs.length ≤ k) : fill f z xs k = xs.map f := by simp [fill, List.take_of_length_le h, Nat.sub_eq_zero_of_le h]
theorem fill_len {α : Type} (f : α → SV) (z : SV) (xs : List α) {k : Nat} (h : k ≤ xs.length) : (fill f z xs k).length = xs.length := by simp [fill]; omega
theorem fill_get {α : Type} (f : α → SV) (z : SV) (xs : List α) {k : Nat} (h : k < xs.length) : (fill f z xs k)[k]? = some z := by
  unfold fill
  rw [List.getElem?_append_right (by simp; omega), List.getElem?_replicate, if_pos (by simp; omega)]
theorem fill_set {α : Type} (f : α → SV) (z : SV) {xs : List α} {k : Nat} {x : α} (h : xs[k]? = some x) : (fill f z xs k).set k (f x) = fill f z xs (k + 1) := by
  have hlt := (List.getElem?_eq_some_iff.1 h).1
  unfold fill
  rw [List.set_append_right _ _ (by simp; omega), List.take_add_one, h, List.map_append, List.append_assoc]
  congr 1
  rw [show k - ((xs.take k).map f).length = 0 by simp; omega, show xs.length - k = (xs.length - (k + 1)) + 1 by omega, List.replicate_succ]
  rfl
theorem f44_ok (xs : List Int) (hx : xs.length ≤ 1048576) : PFn Try.prog 44 [ints xs] (ints xs) := by
  have hl : (xs.map int).length = xs.length := by simp
  refine fnr_ok (n := 22) Try.func44 rfl rfl rfl (Nat.le_of_ble_eq_true rfl) rfl fun w0 O => ?_
  refine ok_seq fun K1 h1 => ok_region rfl (q_as _ rfl (run_nil (h1 _ ?_))); clear h1 K1
  refine ok_seq fun K2 h2 => ok_region rfl (q_mv _ rfl (q_len eS67 rfl (q_make _ _ el67 (by decide) ze3 rfl by3 rfl rfl rfl rfl (.inr ⟨rfl, rfl⟩) (by rw [hl]; exact Nat.le_trans hx (by decide)) (by rw [hl]; omega) (q_ao _ rfl (run_nil (h2 _ ?_)))))); clear h2 K2
  rw [hl]
  refine ok_seq fun K3 h3 => ?_
  refine ok_seq fun K4 h4 => ok_region rfl (q_as _ rfl (run_nil (h4 _ ?_))); clear h4 K4
  refine ok_block ?_
  refine ok_loop (fun (k : Nat) => ⟨[(0, .sv (ints xs)), (3, .own 7), (4, .sv (int k))], [(7, .row 1 3 (fill int (int 0) xs k))]⟩) (fun k => k ≤ xs.length) (fun k => xs.length - k) 0 (Nat.zero_le _) (by rw [fill_zero]; exact le_sub ⟨rfl, rfl, rfl, trivial⟩ ⟨rfl, trivial⟩) (fun k J => ?_)
  refine ok_seq fun K5 h5 => ?_
  refine ok_seq fun K6 h6 => ok_region rfl (q_mv _ rfl (q_mv _ rfl (q_len eS67 rfl (q_bin _ _ _ rfl rfl rfl (run_nil (h6 _ ?_)))))); clear h6 K6
  rw [hl]
  refine ok_cond rfl (fun c7 => ?_) (fun c7 => ?_)
  · refine ok_skip (h5 _ ?_)
    have hk : k < xs.length := by simpa using c7
    refine ok_seq fun K8 h8 => ?_
    refine ok_block ?_
    refine ok_last fun K9 h9 => ok_region rfl (q_mo _ rfl (q_mv _ rfl (q_mv _ rfl (q_mv _ rfl (q_ia (s := int (xs.getD k 0)) el67 rfl rfl (by omega) (iget (iget' hk)) (q_ld _ ag3 rfl rfl (q_iao el67 rfl rfl rfl (by omega) (by rw [fill_len _ _ _ J]; exact hk) (q_ste sz3 rfl rfl (fill_get _ _ _ hk) rfl (.inr rfl) rfl (run_nil (h9 _ (h8 _ ?_)))))))))))
    refine ok_region rfl (q_mv _ rfl (q_add rfl rfl (by omega) (q_as _ rfl (run_nil (⟨k + 1, by omega, hk, ?_⟩)))))
    rw [← fill_set int (int 0) (iget' hk)]
    exact le_sub ⟨rfl, rfl, rfl, trivial⟩ ⟨rfl, trivial⟩
  · refine ok_exit (h3 _ ?_)
    have hk : xs.length ≤ k := by simpa using c7
    refine ok_seq fun K9 h9 => ok_region rfl (q_mo _ rfl (q_ao _ rfl (run_nil (h9 _ ?_)))); clear h9 K9
    refine ok_ret ⟨_, ⟨_, _, rfl, rfl, rfl⟩, ?_⟩
    simp [tupSV, fill_all _ _ _ hk]
theorem f189_ok (n : RNode) (hn : Small n) : PFn Try.prog 189 [node n] (node n) := by
  refine fnr_ok (n := 15) Try.func189 rfl rfl rfl (Nat.le_of_ble_eq_true rfl) rfl fun w0 O => ?_
  refine ok_seq fun K1 h1 => ok_region rfl (q_boxs _ rfl (Nat.zero_lt_succ _) (q_alloc _ ze134 rfl rfl rfl rfl (run_nil (h1 _ ?_)))); clear h1 K1
  refine ok_seq fun K2 h2 => ok_region rfl (q_alloc _ ze134 rfl rfl rfl rfl (run_nil (h2 _ ?_))); clear h2 K2
  refine ok_seq fun K3 h3 => ok_region rfl (q_fa _ fd237_0 rfl rfl (by decide) (q_ld _ ag9 rfl rfl (q_fap fd134_0 rfl (by decide) (q_st _ sz9 rfl rfl (Nat.le_of_ble_eq_true rfl) rfl ⟨_, rfl, rfl⟩ rfl (run_nil (h3 _ ?_)))))); clear h3 K3
  refine ok_seq fun K4 h4 => ok_region rfl (q_fa _ fd237_1 rfl rfl (by decide) (q_ld _ ag3 rfl rfl (q_fap fd134_1 rfl (by decide) (q_st _ sz3 rfl rfl (Nat.le_of_ble_eq_true rfl) rfl ⟨_, rfl, rfl⟩ rfl (run_nil (h4 _ ?_)))))); clear h4 K4
  refine ok_seq fun K5 h5 => ok_region rfl (q_fa _ fd237_2 rfl rfl (by decide) (q_ld _ ag67 rfl rfl (q_call (f44_ok n.toks hn.2) cl44 rfl rfl (q_fap fd134_2 rfl (by decide) (q_st _ sz67 rfl rfl (Nat.le_of_ble_eq_true rfl) rfl ⟨_, rfl, rfl⟩ rfl (run_nil (h5 _ ?_))))))); clear h5 K5
  refine ok_seq fun K6 h6 => ok_region rfl (q_ldbs ag134 rfl rfl sz134 rfl rfl (q_sts _ rfl rfl rfl sz134 (Nat.le_of_ble_eq_true rfl) rfl (run_nil (h6 _ ?_)))); clear h6 K6
  exact ok_ret (ret_cell (l := [str n.id, int n.st, ints n.toks]) rfl rfl ag134 sz134 rfl rfl)
theorem f88_ok (l : List RNode) (hn : l.length ≤ 1048576) (hx : ∀ x ∈ l, Small x) : PFn Try.prog 88 [.sl 3 (l.map node)] (.sl 3 (l.map node)) := by
  have hl : (l.map node).length = l.length := by simp
  refine fnr_ok (n := 23) Try.func88 rfl rfl rfl (Nat.le_of_ble_eq_true rfl) rfl fun w0 O => ?_
  refine ok_seq fun K1 h1 => ok_region rfl (q_as _ rfl (run_nil (h1 _ ?_))); clear h1 K1
  refine ok_seq fun K2 h2 => ok_region rfl (q_mv _ rfl (q_len eS22 rfl (q_make _ _ el27 (by decide) ze134 rfl by134 rfl rfl rfl rfl (.inl ⟨rfl, rfl, rfl⟩) (by rw [hl]; exact Nat.le_trans hn (by decide)) (by rw [hl]; omega) (q_ao _ rfl (run_nil (h2 _ ?_)))))); clear h2 K2
  rw [hl]
  refine ok_seq fun K3 h3 => ?_
  refine ok_seq fun K4 h4 => ok_region rfl (q_as _ rfl (run_nil (h4 _ ?_))); clear h4 K4
  refine ok_block ?_
  refine ok_loop (fun (k : Nat) => ⟨[(0, .sv (.sl 3 (l.map node))), (3, .own 7), (4, .sv (int k))], [(7, .row 3 134 (fill node (.agg [.raw (.string ⟨#[]⟩), int 0, .raw (.slice none 0 0)]) l k))]⟩) (fun k => k ≤ l.length) (fun k => l.length - k) 0 (Nat.zero_le _) (by rw [fill_zero]; exact le_sub ⟨rfl, rfl, rfl, trivial⟩ ⟨rfl, trivial⟩) (fun k J => ?_)
  refine ok_seq fun K5 h5 => ?_
  refine ok_seq fun K6 h6 => ok_region rfl (q_mv _ rfl (q_mv _ rfl (q_len eS22 rfl (q_bin _ _ _ rfl rfl rfl (run_nil (h6 _ ?_)))))); clear h6 K6
  rw [hl]
  refine ok_cond rfl (fun c7 => ?_) (fun c7 => ?_)
  · refine ok_skip (h5 _ ?_)
    have hk : k < l.length := by simpa using c7
    obtain ⟨x, hxk⟩ : ∃ x, l[k]? = some x := ⟨_, List.getElem?_eq_getElem hk⟩
    refine ok_seq fun K8 h8 => ?_
    refine ok_block ?_
    refine ok_last fun K9 h9 => ok_region rfl (q_mo _ rfl (q_mv _ rfl (q_mv _ rfl (q_mv _ rfl (q_ia el22 rfl rfl (by omega) (nget hxk) (q_lds _ ag237 rfl sz237 (q_call (f189_ok x (hx x (List.mem_of_getElem? hxk))) cl189 rfl rfl (q_iao el27 rfl rfl rfl (by omega) (by rw [fill_len _ _ _ J]; exact hk) (
      q_ste sz134 rfl rfl (fill_get _ _ _ hk) rfl (.inl ⟨_, rfl⟩) rfl (run_nil (h9 _ (h8 _ ?_))))))))))))
    refine ok_region rfl (q_mv _ rfl (q_add rfl rfl (by omega) (q_as _ rfl (run_nil (⟨k + 1, by omega, hk, ?_⟩)))))
    rw [← fill_set node _ hxk]
    exact le_sub ⟨rfl, rfl, rfl, trivial⟩ ⟨rfl, trivial⟩
  · refine ok_exit (h3 _ ?_)
    have hk : l.length ≤ k := by simpa using c7
    refine ok_seq fun K9 h9 => ok_region rfl (q_mo _ rfl (q_ao _ rfl (run_nil (h9 _ ?_)))); clear h9 K9
    refine ok_ret ⟨_, ⟨_, _, rfl, rfl, rfl⟩, ?_⟩
    simp [tupSV, fill_all _ _ _ hk]
theorem f16_ok (r : Rg) (hr : SmallR r) : PFn Try.prog 16 [ring r] (ring r) := by
  refine fnr_ok (n := 12) Try.func16 rfl rfl rfl (Nat.le_of_ble_eq_true rfl) rfl fun w0 O => ?_
  refine ok_seq fun K1 h1 => ok_region rfl (q_boxs _ rfl (Nat.zero_lt_succ _) (q_alloc _ ze29 rfl rfl rfl rfl (run_nil (h1 _ ?_)))); clear h1 K1
  refine ok_seq fun K2 h2 => ok_region rfl (q_alloc _ ze29 rfl rfl rfl rfl (run_nil (h2 _ ?_))); clear h2 K2
  refine ok_seq fun K3 h3 => ok_region rfl (q_fa _ fd24_0 rfl rfl (by decide) (q_ld _ ag3 rfl rfl (q_fap fd29_0 rfl (by decide) (q_st _ sz3 rfl rfl (Nat.le_of_ble_eq_true rfl) rfl ⟨_, rfl, rfl⟩ rfl (run_nil (h3 _ ?_)))))); clear h3 K3
  refine ok_seq fun K4 h4 => ok_region rfl (q_fa _ fd24_1 rfl rfl (by decide) (q_ld _ ag22 rfl rfl (q_call (f88_ok r.nodes hr.1 hr.2) cl88 rfl rfl (q_fap fd29_1 rfl (by decide) (q_st _ sz27 rfl rfl (Nat.le_of_ble_eq_true rfl) rfl ⟨_, rfl, rfl⟩ rfl (run_nil (h4 _ ?_))))))); clear h4 K4
  refine ok_seq fun K5 h5 => ok_region rfl (q_ldbs ag29 rfl rfl sz29 rfl rfl (q_sts _ rfl rfl rfl sz29 (Nat.le_of_ble_eq_true rfl) rfl (run_nil (h5 _ ?_)))); clear h5 K5
  exact ok_ret (ret_cell (l := [int r.copies, .sl 3 (r.nodes.map node)]) rfl rfl ag29 sz29 rfl rfl)
end Go.Ring
