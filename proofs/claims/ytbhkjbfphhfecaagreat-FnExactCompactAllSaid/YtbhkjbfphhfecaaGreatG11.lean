/- A shelf that is as it should be: the law FnExactGoodShelf, of its plain values. No condition. -/
import Derived.Test.YtbhkjbfphhfecaaGreatG10
namespace Go.Ring
open Go Go.RowKit Go.Eager Go.Abs Go.Proofs
set_option maxRecDepth 100000
set_option linter.unusedVariables false
set_option linter.unusedSimpArgs false
def ShelfAt (base : Int) (l : List Block) (i : Nat) (x : Block) : Prop := widI base x.level ≠ 0 ∧ BlockOk x ∧ x.from_ % widI base x.level = 0 ∧ x.to = x.from_ + widI base x.level ∧ ∀ p, 0 < i → l[i - 1]? = some p → p.to ≤ x.from_
def ShelfOk (base : Int) (l : List Block) : Prop := 1 ≤ base ∧ base ≤ 1000000 ∧ l.length ≤ 100 ∧ ∀ (i : Nat) (x : Block), l[i]? = some x → ShelfAt base l i x
theorem widI_pos {b l : Int} (h : widI b l ≠ 0) : 0 < widI b l ∧ widI b l ≤ 27000000 := by
  unfold widI at *
  split at h
  · rename_i w; rw [if_pos w]; unfold WideI at w; (repeat split) <;> omega
  · exact (h rfl).elim
theorem shelf_a {base : Int} {u : Block} (h : (decide (widI base u.level = 0) || !pB (BlockOk u)) = false) : 0 ≤ u.from_ ∧ 0 < widI base u.level ∧ u.from_ ≤ 1000000000000 ∧ widI base u.level ≤ 27000000 := by
  simp only [Bool.or_eq_false_iff, decide_eq_false_iff_not, Bool.not_eq_false'] at h
  have h1 := widI_pos h.1
  have h2 := (of_pB h.2).1
  unfold TimeOk at h2
  exact ⟨h2.1, h1.1, h2.2, h1.2⟩
theorem f85_ok (base : Int) (l : List Block) (hl : l.length ≤ 1048576 ∧ ∀ y ∈ l, SBlock y) : PFn Tryz.prog 85 [int base, eBlockS l] (bool (pB (ShelfOk base l))) := by
  obtain ⟨hl1, hl2⟩ := hl
  refine fn_ok' (n := 69) Tryz.func85 rfl rfl rfl (Nat.le_of_ble_eq_true rfl) rfl fun w0 O => ?_
  refine ok_seq fun K1 h1 => ok_region rfl (q_as _ rfl (run_nil (h1 _ ?_))); clear h1 K1
  refine ok_seq fun K2 h2 => ?_
  refine ok_seq fun K3 h3 => ?_
  refine ok_region rfl (q_mv _ rfl (q_bin _ _ _ rfl rfl rfl (q_mv _ rfl (q_or 2 2 rfl rfl rfl rfl rfl (fun hb13 =>
      q_mv _ rfl (q_bin _ _ _ rfl rfl rfl (run_nil ⟨rfl, rfl, rfl, rfl⟩))) (
    q_mv _ rfl (q_or 3 3 rfl rfl rfl rfl rfl (fun hb18 =>
      q_mv _ rfl (q_len eS53 rfl (q_bin _ _ _ rfl rfl rfl (run_nil ⟨rfl, rfl, rfl, rfl⟩)))) (
    run_nil (h3 _ ?_))))))))
  clear h3 K3
  refine ok_cond rfl (fun c4 => ?_) (fun c4 => ?_)
  · refine ok_seq fun K5 h5 => ?_
    refine ok_region rfl (q_as _ rfl (run_nil (h5 _ ?_)))
    clear h5 K5
    refine ok_ret ⟨_, rfl, ?_⟩
    rw [pB_false]; · rfl
    rintro ⟨d1, d2, d3, _⟩
    simp only [Bool.or_eq_true, decide_eq_true_eq, List.length_map] at c4
    omega
  · refine ok_skip (h2 _ ?_)
    simp only [Bool.or_eq_false_iff, decide_eq_false_iff_not, List.length_map] at c4
    obtain ⟨⟨d1, d2⟩, d3⟩ := c4
    refine ok_seq fun K6 h6 => ?_
    refine ok_seq fun K7 h7 => ok_region rfl (q_mv _ rfl (q_len eS53 rfl (q_mv _ rfl (run_nil (h7 _ ?_))))); clear h7 K7
    simp only [List.length_map]
    refine ok_block ?_
    refine ok_loop (fun (k : Nat) => ⟨[(0, .sv (int base)), (1, .sv (eBlockS l)), (19, .sv (eBlockS l)), (20, .sv (int l.length)), (21, .sv (int k))], []⟩) (fun k => ∀ i y, i < k → l[i]? = some y → ShelfAt base l i y) (fun k => l.length - k) 0 (fun i y h => by omega) (le_same ⟨rfl, rfl, rfl, rfl, rfl, trivial⟩) (fun k J => ?_)
    refine ok_seq fun K8 h8 => ok_region rfl (q_bin _ _ _ rfl rfl rfl (run_nil (h8 _ ?_))); clear h8 K8
    refine ok_seq fun K9 h9 => ?_
    refine ok_cond rfl (fun c10 => ?_) (fun c10 => ?_)
    · refine ok_skip (h9 _ ?_)
      have hk : k < l.length := by simpa using c10
      obtain ⟨u, hu⟩ := sget hk
      obtain ⟨p, hp⟩ := prev hk
      refine ok_seq fun K11 h11 => ?_
      refine ok_block ?_
      refine ok_seq fun K12 h12 => ok_region rfl (q_mv _ rfl (q_ia el53 rfl rfl (by omega) (mget hu) (q_lds _ ag34 rfl sz34 (q_alloc _ ze34 rfl rfl rfl rfl (q_as _ rfl (q_sts _ rfl rfl rfl sz34 (Nat.le_of_ble_eq_true rfl) rfl (run_nil (h12 _ ?_)))))))); clear h12 K12
      refine ok_seq fun K13 h13 => ok_region rfl (q_mv _ rfl (q_fap fd34_2 rfl (by decide) (q_ldb _ ag3 rfl rfl rfl (q_call (f146_ok base u.level) cl146 rfl rfl (q_as _ rfl (run_nil (h13 _ ?_))))))); clear h13 K13
      refine ok_seq fun K14 h14 => ?_
      refine ok_region_i (by kernel_rfl) (by kernel_rfl) rfl (
        q_mv _ rfl (q_bin _ _ _ rfl rfl rfl (q_mv _ rfl (q_or 3 3 rfl rfl rfl rfl rfl (fun hb36 =>
          q_ldbs ag34 rfl rfl sz34 rfl rfl (q_call (f55_ok u (hl2 u (smem hu))) cl55 rfl rfl (q_un _ _ rfl rfl (run_nil ⟨rfl, rfl, rfl, rfl⟩)))) (
        q_mv _ rfl (q_or 5 5 rfl rfl rfl rfl rfl (fun hb43 =>
          q_fap fd34_0 rfl (by decide) (q_ldb _ ag3 rfl rfl rfl (q_mv _ rfl (q_mod rfl rfl ⟨(shelf_a hb43).1, (shelf_a hb43).2.1⟩ (q_bin _ _ _ rfl rfl rfl (run_nil ⟨rfl, rfl, rfl, rfl⟩)))))) (
        q_mv _ rfl (q_or 7 7 rfl rfl rfl rfl rfl (fun hb52 =>
          q_fap fd34_1 rfl (by decide) (q_ldb _ ag3 rfl rfl rfl (q_fap fd34_0 rfl (by decide) (q_ldb _ ag3 rfl rfl rfl (q_mv _ rfl (q_add rfl rfl (by have := shelf_a (Bool.or_eq_false_iff.1 hb52).1; omega) (q_bin _ _ _ rfl rfl rfl (run_nil ⟨rfl, rfl, rfl, rfl⟩)))))))) (
        q_mv _ rfl (q_or 13 4 rfl rfl rfl rfl rfl (fun hb67 =>
          q_mv _ rfl (q_bin _ _ _ rfl rfl rfl (q_mv _ rfl (q_and 9 9 rfl rfl rfl rfl rfl (fun hb66 =>
            q_fap fd34_0 rfl (by decide) (q_ldb _ ag3 rfl rfl rfl (q_mv _ rfl (q_mv _ rfl (q_sub rfl rfl (by omega) (q_ia el53 rfl rfl (by have := of_decide_eq_true hb66; omega) (pget hp (by have := of_decide_eq_true hb66; omega)) (q_fa _ fd34_1 rfl rfl (by decide) (
            q_ld _ ag3 rfl rfl (q_bin _ _ _ rfl rfl rfl (run_nil ⟨rfl, rfl, rfl, rfl⟩)))))))))) (
          run_nil ⟨rfl, rfl, rfl, rfl⟩))))) (
        run_nil (h14 _ ?_))))))))))))
      clear h14 K14
      refine ok_cond rfl (fun c15 => ?_) (fun c15 => ?_)
      · refine ok_seq fun K16 h16 => ?_
        refine ok_region rfl (q_as _ rfl (run_nil (h16 _ ?_)))
        clear h16 K16
        refine ok_ret ⟨_, rfl, ?_⟩
        rw [pB_false]; · rfl
        rintro h
        obtain ⟨e1, e2, e3, e4, e5⟩ := h.2.2.2 k u hu
        rw [pB_true e2] at c15
        simp only [Bool.not_true, Bool.or_false, Bool.or_eq_true, Bool.and_eq_true, decide_eq_true_eq] at c15
        rcases c15 with ((c | c) | c) | ⟨c, d⟩
        · exact e1 c
        · exact c e3
        · exact c e4
        · have := e5 p (by omega) (hp (by omega))
          omega
      · refine ok_skip (h11 _ ?_)
        refine ok_region rfl (q_add rfl rfl (by omega) (q_mv _ rfl (run_nil (⟨k + 1, by omega, ?_, le_sub ⟨rfl, rfl, rfl, rfl, rfl, trivial⟩ trivial⟩))))
        refine at_step J hu ?_
        simp only [Bool.or_eq_false_iff, Bool.not_eq_false', Bool.and_eq_false_iff, decide_eq_false_iff_not, Decidable.not_not] at c15
        obtain ⟨⟨⟨⟨e1, e2⟩, e3⟩, e4⟩, e5⟩ := c15
        refine ⟨e1, of_pB e2, e3, e4, fun q h0 hq => ?_⟩
        rw [hp h0] at hq; cases hq
        omega
    · refine ok_exit (h6 _ ?_)
      refine ok_seq fun K17 h17 => ok_region rfl (q_as _ rfl (run_nil (h17 _ ?_))); clear h17 K17
      refine ok_ret ⟨_, rfl, ?_⟩
      rw [pB_true ⟨by omega, by omega, by omega, at_all J (by simpa using c10)⟩]; rfl
theorem f88_ok (base : Int) (l : List Block) (hl : l.length ≤ 1048576 ∧ ∀ y ∈ l, SBlock y) : PFn Tryz.prog 88 [int base, eBlockS l] (bool (pB (ShelfOk base l))) := by
  obtain ⟨hl1, hl2⟩ := hl
  refine fn_ok' (n := 69) Tryz.func88 rfl rfl rfl (Nat.le_of_ble_eq_true rfl) rfl fun w0 O => ?_
  refine ok_seq fun K1 h1 => ok_region rfl (q_as _ rfl (run_nil (h1 _ ?_))); clear h1 K1
  refine ok_seq fun K2 h2 => ?_
  refine ok_seq fun K3 h3 => ?_
  refine ok_region rfl (q_mv _ rfl (q_bin _ _ _ rfl rfl rfl (q_mv _ rfl (q_or 2 2 rfl rfl rfl rfl rfl (fun hb13 =>
      q_mv _ rfl (q_bin _ _ _ rfl rfl rfl (run_nil ⟨rfl, rfl, rfl, rfl⟩))) (
    q_mv _ rfl (q_or 3 3 rfl rfl rfl rfl rfl (fun hb18 =>
      q_mv _ rfl (q_len eS53 rfl (q_bin _ _ _ rfl rfl rfl (run_nil ⟨rfl, rfl, rfl, rfl⟩)))) (
    run_nil (h3 _ ?_))))))))
  clear h3 K3
  refine ok_cond rfl (fun c4 => ?_) (fun c4 => ?_)
  · refine ok_seq fun K5 h5 => ?_
    refine ok_region rfl (q_as _ rfl (run_nil (h5 _ ?_)))
    clear h5 K5
    refine ok_ret ⟨_, rfl, ?_⟩
    rw [pB_false]; · rfl
    rintro ⟨d1, d2, d3, _⟩
    simp only [Bool.or_eq_true, decide_eq_true_eq, List.length_map] at c4
    omega
  · refine ok_skip (h2 _ ?_)
    simp only [Bool.or_eq_false_iff, decide_eq_false_iff_not, List.length_map] at c4
    obtain ⟨⟨d1, d2⟩, d3⟩ := c4
    refine ok_seq fun K6 h6 => ?_
    refine ok_seq fun K7 h7 => ok_region rfl (q_mv _ rfl (q_len eS53 rfl (q_mv _ rfl (run_nil (h7 _ ?_))))); clear h7 K7
    simp only [List.length_map]
    refine ok_block ?_
    refine ok_loop (fun (k : Nat) => ⟨[(0, .sv (int base)), (1, .sv (eBlockS l)), (19, .sv (eBlockS l)), (20, .sv (int l.length)), (21, .sv (int k))], []⟩) (fun k => ∀ i y, i < k → l[i]? = some y → ShelfAt base l i y) (fun k => l.length - k) 0 (fun i y h => by omega) (le_same ⟨rfl, rfl, rfl, rfl, rfl, trivial⟩) (fun k J => ?_)
    refine ok_seq fun K8 h8 => ok_region rfl (q_bin _ _ _ rfl rfl rfl (run_nil (h8 _ ?_))); clear h8 K8
    refine ok_seq fun K9 h9 => ?_
    refine ok_cond rfl (fun c10 => ?_) (fun c10 => ?_)
    · refine ok_skip (h9 _ ?_)
      have hk : k < l.length := by simpa using c10
      obtain ⟨u, hu⟩ := sget hk
      obtain ⟨p, hp⟩ := prev hk
      refine ok_seq fun K11 h11 => ?_
      refine ok_block ?_
      refine ok_seq fun K12 h12 => ok_region rfl (q_mv _ rfl (q_ia el53 rfl rfl (by omega) (mget hu) (q_lds _ ag34 rfl sz34 (q_alloc _ ze34 rfl rfl rfl rfl (q_as _ rfl (q_sts _ rfl rfl rfl sz34 (Nat.le_of_ble_eq_true rfl) rfl (run_nil (h12 _ ?_)))))))); clear h12 K12
      refine ok_seq fun K13 h13 => ok_region rfl (q_mv _ rfl (q_fap fd34_2 rfl (by decide) (q_ldb _ ag3 rfl rfl rfl (q_call (f93_ok base u.level) cl93 rfl rfl (q_as _ rfl (run_nil (h13 _ ?_))))))); clear h13 K13
      refine ok_seq fun K14 h14 => ?_
      refine ok_region_i (by kernel_rfl) (by kernel_rfl) rfl (
        q_mv _ rfl (q_bin _ _ _ rfl rfl rfl (q_mv _ rfl (q_or 3 3 rfl rfl rfl rfl rfl (fun hb36 =>
          q_ldbs ag34 rfl rfl sz34 rfl rfl (q_call (f61_ok u (hl2 u (smem hu))) cl61 rfl rfl (q_un _ _ rfl rfl (run_nil ⟨rfl, rfl, rfl, rfl⟩)))) (
        q_mv _ rfl (q_or 5 5 rfl rfl rfl rfl rfl (fun hb43 =>
          q_fap fd34_0 rfl (by decide) (q_ldb _ ag3 rfl rfl rfl (q_mv _ rfl (q_mod rfl rfl ⟨(shelf_a hb43).1, (shelf_a hb43).2.1⟩ (q_bin _ _ _ rfl rfl rfl (run_nil ⟨rfl, rfl, rfl, rfl⟩)))))) (
        q_mv _ rfl (q_or 7 7 rfl rfl rfl rfl rfl (fun hb52 =>
          q_fap fd34_1 rfl (by decide) (q_ldb _ ag3 rfl rfl rfl (q_fap fd34_0 rfl (by decide) (q_ldb _ ag3 rfl rfl rfl (q_mv _ rfl (q_add rfl rfl (by have := shelf_a (Bool.or_eq_false_iff.1 hb52).1; omega) (q_bin _ _ _ rfl rfl rfl (run_nil ⟨rfl, rfl, rfl, rfl⟩)))))))) (
        q_mv _ rfl (q_or 13 4 rfl rfl rfl rfl rfl (fun hb67 =>
          q_mv _ rfl (q_bin _ _ _ rfl rfl rfl (q_mv _ rfl (q_and 9 9 rfl rfl rfl rfl rfl (fun hb66 =>
            q_fap fd34_0 rfl (by decide) (q_ldb _ ag3 rfl rfl rfl (q_mv _ rfl (q_mv _ rfl (q_sub rfl rfl (by omega) (q_ia el53 rfl rfl (by have := of_decide_eq_true hb66; omega) (pget hp (by have := of_decide_eq_true hb66; omega)) (q_fa _ fd34_1 rfl rfl (by decide) (
            q_ld _ ag3 rfl rfl (q_bin _ _ _ rfl rfl rfl (run_nil ⟨rfl, rfl, rfl, rfl⟩)))))))))) (
          run_nil ⟨rfl, rfl, rfl, rfl⟩))))) (
        run_nil (h14 _ ?_))))))))))))
      clear h14 K14
      refine ok_cond rfl (fun c15 => ?_) (fun c15 => ?_)
      · refine ok_seq fun K16 h16 => ?_
        refine ok_region rfl (q_as _ rfl (run_nil (h16 _ ?_)))
        clear h16 K16
        refine ok_ret ⟨_, rfl, ?_⟩
        rw [pB_false]; · rfl
        rintro h
        obtain ⟨e1, e2, e3, e4, e5⟩ := h.2.2.2 k u hu
        rw [pB_true e2] at c15
        simp only [Bool.not_true, Bool.or_false, Bool.or_eq_true, Bool.and_eq_true, decide_eq_true_eq] at c15
        rcases c15 with ((c | c) | c) | ⟨c, d⟩
        · exact e1 c
        · exact c e3
        · exact c e4
        · have := e5 p (by omega) (hp (by omega))
          omega
      · refine ok_skip (h11 _ ?_)
        refine ok_region rfl (q_add rfl rfl (by omega) (q_mv _ rfl (run_nil (⟨k + 1, by omega, ?_, le_sub ⟨rfl, rfl, rfl, rfl, rfl, trivial⟩ trivial⟩))))
        refine at_step J hu ?_
        simp only [Bool.or_eq_false_iff, Bool.not_eq_false', Bool.and_eq_false_iff, decide_eq_false_iff_not, Decidable.not_not] at c15
        obtain ⟨⟨⟨⟨e1, e2⟩, e3⟩, e4⟩, e5⟩ := c15
        refine ⟨e1, of_pB e2, e3, e4, fun q h0 hq => ?_⟩
        rw [hp h0] at hq; cases hq
        omega
    · refine ok_exit (h6 _ ?_)
      refine ok_seq fun K17 h17 => ok_region rfl (q_as _ rfl (run_nil (h17 _ ?_))); clear h17 K17
      refine ok_ret ⟨_, rfl, ?_⟩
      rw [pB_true ⟨by omega, by omega, by omega, at_all J (by simpa using c10)⟩]; rfl
end Go.Ring
