/- A part of the proof. No condition. -/
import Derived.Test.YtanilephcohjkaaGreatG1
namespace Go.Ring
open Go Go.RowKit Go.Eager Go.Abs Go.Proofs
set_option maxRecDepth 100000
set_option linter.unusedVariables false
set_option linter.unusedSimpArgs false
theorem iget {xs : List Int} {i : Nat} {x : Int} (h : xs[i]? = some x) : (xs.map int)[i]? = some (int x) := by rw [List.getElem?_map, h]; rfl
theorem iget' {xs : List Int} {i : Nat} (h : i < xs.length) : xs[i]? = some (xs.getD i 0) := by rw [List.getD_eq_getElem?_getD, List.getElem?_eq_getElem h]; rfl
theorem f195_ok (s : ByteArray) (hs : s.size ≤ 1048576) : PFn Tryz.prog 195 [str s] (bool (nameB s)) := by
  have ls := size_list s
  refine fn_ok' (n := 27) Tryz.func195 rfl rfl rfl (Nat.le_of_ble_eq_true rfl) rfl fun w0 O => ?_
  refine ok_seq fun K1 h1 => ok_region rfl (q_as _ rfl (run_nil (h1 _ ?_))); clear h1 K1
  refine ok_seq fun K2 h2 => ?_
  have hd : ∀ h : 0 < s.size, s.data.toList[(0 : Int).toNat]? = some (s.data.toList.headD 0) := fun h => by
    have := bget' h
    cases hl : s.data.toList with
    | nil => rw [hl] at ls; simp at ls; omega
    | cons a l => simp
  have he : decide (s.data.toList = (ByteArray.mk #[]).data.toList) = decide (s.size = 0) := by rw [decide_eq_decide, ← ls, List.length_eq_zero_iff]
  refine ok_seq fun K3 h3 => ?_
  refine ok_region rfl (q_mv _ rfl (q_bin _ _ _ rfl rfl rfl (q_mv _ rfl (q_or 3 3 rfl rfl rfl rfl rfl (fun hb10 =>
      q_mv _ rfl (q_lens st9 rfl (q_bin _ _ _ rfl rfl rfl (run_nil ⟨rfl, rfl, rfl, rfl⟩)))) (
    q_mv _ rfl (q_or 3 3 rfl rfl rfl rfl rfl (fun hb15 =>
      q_mv _ rfl (q_ix st9 rfl rfl (by omega) (bget (hd (by rw [he] at hb15; simp only [Bool.or_eq_false_iff, decide_eq_false_iff_not] at hb15; omega))) (q_call (f239_ok _) cl239 rfl rfl (run_nil ⟨rfl, rfl, rfl, rfl⟩)))) (
    run_nil (h3 _ ?_))))))))
  clear h3 K3
  refine ok_cond rfl (fun c4 => ?_) (fun c4 => ?_)
  · refine ok_seq fun K5 h5 => ok_region rfl (q_as _ rfl (run_nil (h5 _ ?_)))
    refine ok_ret ⟨_, rfl, ?_⟩
    have : nameB s = false := by
      unfold nameB
      rw [he] at c4
      simp only [Bool.or_eq_true, decide_eq_true_eq] at c4
      rcases c4 with (c4 | c4) | c4
      · rw [decide_eq_false (show ¬ 1 ≤ s.size by omega)]; rfl
      · rw [decide_eq_false (show ¬ s.size ≤ 40 by omega)]; simp
      · rw [c4]; simp
    rw [this]; rfl
  · refine ok_skip (h2 _ ?_)
    rw [he] at c4
    simp only [Bool.or_eq_false_iff, decide_eq_false_iff_not] at c4
    refine ok_seq fun K6 h6 => ?_
    refine ok_seq fun K7 h7 => ok_region rfl (q_mv _ rfl (q_lens st9 rfl (q_mv _ rfl (run_nil (h7 _ ?_))))); clear h7 K7
    refine ok_block ?_
    refine ok_loop (fun (k : Nat) => ⟨[(0, .sv (str s)), (17, .sv (int s.size)), (18, .sv (int k))], []⟩) (fun k => (s.data.toList.take k).all wordB = true) (fun k => s.size - k) 0 rfl (le_same ⟨rfl, rfl, rfl, trivial⟩) (fun k J => ?_)
    refine ok_seq fun K8 h8 => ok_region rfl (q_bin _ _ _ rfl rfl rfl (run_nil (h8 _ ?_))); clear h8 K8
    refine ok_seq fun K9 h9 => ?_
    refine ok_cond rfl (fun c10 => ?_) (fun c10 => ?_)
    · refine ok_skip (h9 _ ?_)
      have hk : k < s.size := by simpa using c10
      have hg := bget' hk
      generalize s.data.toList[k]'(by omega) = c at hg
      refine ok_seq fun K11 h11 => ?_
      refine ok_block ?_
      refine ok_seq fun K12 h12 => ok_region rfl (q_mv _ rfl (q_as _ rfl (run_nil (h12 _ ?_)))); clear h12 K12
      refine ok_seq fun K13 h13 => ok_region rfl (q_mv _ rfl (q_mv _ rfl (q_ix st9 rfl rfl (by omega) (bget hg) (q_call (f240_ok _) cl240 rfl rfl (q_un _ _ rfl rfl (run_nil (h13 _ ?_))))))); clear h13 K13
      refine ok_cond rfl (fun c14 => ?_) (fun c14 => ?_)
      · refine ok_seq fun K15 h15 => ok_region rfl (q_as _ rfl (run_nil (h15 _ ?_)))
        refine ok_ret ⟨_, rfl, ?_⟩
        have := all_not hg (p := wordB) (by simpa using c14)
        simp [tupSV, nameB, this]
      · refine ok_skip (h11 _ ?_)
        exact ok_region rfl (q_add rfl rfl (by omega) (q_mv _ rfl (run_nil (⟨k + 1, by omega, all_step hg J (by simpa using c14), le_same ⟨rfl, rfl, rfl, trivial⟩⟩))))
    · refine ok_exit (h6 _ ?_)
      refine ok_seq fun K16 h16 => ok_region rfl (q_as _ rfl (run_nil (h16 _ ?_))); clear h16 K16
      refine ok_ret ⟨_, rfl, ?_⟩
      have hk : s.size ≤ k := by simpa using c10
      rw [List.take_of_length_le (by omega)] at J
      have e1 : 1 ≤ s.size := by omega
      have e2 : s.size ≤ 40 := by omega
      rw [show nameB s = true by unfold nameB; rw [decide_eq_true e1, decide_eq_true e2, c4.2, J]; rfl]; rfl
/-- The numbers rise. -/
def Ris (xs : List Int) : Prop := ∀ i, 0 < i → i < xs.length → xs.getD (i - 1) 0 < xs.getD i 0
open Classical in
noncomputable def risB (xs : List Int) : Bool := decide (Ris xs)
theorem risB_true {xs : List Int} (h : Ris xs) : risB xs = true := by simp [risB, h]
theorem risB_false {xs : List Int} (h : ¬ Ris xs) : risB xs = false := by simp [risB, h]
theorem f199_ok (xs : List Int) (hx : xs.length ≤ 1048576) : PFn Tryz.prog 199 [ints xs] (bool (risB xs && decide (xs.length ≤ 1000))) := by
  refine fn_ok' (n := 27) Tryz.func199 rfl rfl rfl (Nat.le_of_ble_eq_true rfl) rfl fun w0 O => ?_
  refine ok_seq fun K1 h1 => ok_region rfl (q_as _ rfl (run_nil (h1 _ ?_))); clear h1 K1
  refine ok_seq fun K2 h2 => ?_
  have hl : (xs.map int).length = xs.length := by simp
  refine ok_seq fun K3 h3 => ok_region rfl (q_mv _ rfl (q_len eS40 rfl (q_mv _ rfl (run_nil (h3 _ ?_))))); clear h3 K3
  rw [hl]
  refine ok_block ?_
  refine ok_loop (fun (k : Nat) => ⟨[(0, .sv (ints xs)), (5, .sv (int xs.length)), (6, .sv (int k))], []⟩) (fun k => ∀ i, 0 < i → i < k → xs.getD (i - 1) 0 < xs.getD i 0) (fun k => xs.length - k) 0 (fun i h1 h2 => by omega) (le_same ⟨rfl, rfl, rfl, trivial⟩) (fun k J => ?_)
  refine ok_seq fun K4 h4 => ok_region rfl (q_bin _ _ _ rfl rfl rfl (run_nil (h4 _ ?_))); clear h4 K4
  refine ok_seq fun K5 h5 => ?_
  refine ok_cond rfl (fun c6 => ?_) (fun c6 => ?_)
  · refine ok_skip (h5 _ ?_)
    have hk : k < xs.length := by simpa using c6
    refine ok_seq fun K7 h7 => ?_
    refine ok_block ?_
    refine ok_seq fun K8 h8 => ok_region rfl (q_mv _ rfl (q_as _ rfl (run_nil (h8 _ ?_)))); clear h8 K8
    refine ok_seq fun K9 h9 => ?_
    refine ok_region_d [0, 0, 0, 0, 0, 0, 0, 1, 0, 0, 0, 1, 0, 0] #[[], [0], [0, 1], [0, 1, 2], [0, 1, 2], [0, 1, 2, 4], [0, 1, 2, 3, 4, 5], [0, 1, 2, 3, 4, 5, 6], [0, 1, 2], [0, 1, 2], [0, 1, 2, 8, 9], [0, 1, 2, 8, 9, 10], [0, 1, 2, 3, 4, 5, 6, 7, 8, 9, 10, 11], [0, 1, 2, 3, 4, 5, 6, 7, 8, 9, 10, 11, 12]] [0, 1, 2, 3, 4, 5, 6, 7, 8, 9, 10, 11, 12, 13] (by kernel_rfl) (by kernel_rfl) rfl rfl (
      q_mv _ rfl (q_bin _ _ _ rfl rfl rfl (q_mv _ rfl (q_and 10 10 rfl rfl rfl rfl rfl (fun hb22 =>
        q_mv _ rfl (q_mv _ rfl (q_sub rfl rfl (by omega) (q_ia (s := int (xs.getD (k - 1) 0)) el40 rfl rfl (by have := of_decide_eq_true hb22; omega) (by rw [show ((k : Int) - 1).toNat = k - 1 by omega]; exact iget (iget' (by omega))) (q_ld _ ag3 rfl rfl (q_mv _ rfl (q_mv _ rfl (q_ia (s := int (xs.getD k 0)) el40 rfl rfl (by omega) (iget (iget' hk)) (
        q_ld _ ag3 rfl rfl (q_bin _ _ _ rfl rfl rfl (run_nil ⟨rfl, rfl, rfl, rfl⟩))))))))))) (
      run_nil (h9 _ ?_))))))
    clear h9 K9
    refine ok_cond rfl (fun c10 => ?_) (fun c10 => ?_)
    · refine ok_seq fun K11 h11 => ok_region rfl (q_as _ rfl (run_nil (h11 _ ?_)))
      refine ok_ret ⟨_, rfl, ?_⟩
      simp only [Bool.and_eq_true, decide_eq_true_eq] at c10
      rw [risB_false fun h => by have := h k (by omega) hk; omega]; rfl
    · refine ok_skip (h7 _ ?_)
      refine ok_region rfl (q_add rfl rfl (by omega) (q_mv _ rfl (run_nil (⟨k + 1, by omega, fun i h1 h2 => ?_, le_same ⟨rfl, rfl, rfl, trivial⟩⟩))))
      rcases Nat.lt_or_ge i k with h | h
      · exact J i h1 h
      · obtain rfl : i = k := by omega
        simp only [Bool.and_eq_false_iff, decide_eq_false_iff_not] at c10
        omega
  · refine ok_exit (h2 _ ?_)
    have hk : xs.length ≤ k := by simpa using c6
    refine ok_seq fun K12 h12 => ok_region rfl (q_mv _ rfl (q_len eS40 rfl (q_bin _ _ _ rfl rfl rfl (q_as _ rfl (run_nil (h12 _ ?_)))))); clear h12 K12
    refine ok_ret ⟨_, rfl, ?_⟩
    rw [risB_true fun i h1 h2 => J i h1 (by omega)]
    simp [tupSV]
    omega
theorem f196_ok (xs : List Int) (hx : xs.length ≤ 1048576) : PFn Tryz.prog 196 [ints xs] (bool (risB xs)) := by
  refine fn_ok' (n := 20) Tryz.func196 rfl rfl rfl (Nat.le_of_ble_eq_true rfl) rfl fun w0 O => ?_
  refine ok_seq fun K1 h1 => ok_region rfl (q_as _ rfl (run_nil (h1 _ ?_))); clear h1 K1
  refine ok_seq fun K2 h2 => ?_
  have hl : (xs.map int).length = xs.length := by simp
  refine ok_seq fun K3 h3 => ok_region rfl (q_as _ rfl (run_nil (h3 _ ?_))); clear h3 K3
  refine ok_block ?_
  refine ok_loop (fun (k : Nat) => ⟨[(0, .sv (ints xs)), (3, .sv (int k))], []⟩) (fun k => 1 ≤ k ∧ ∀ i, 0 < i → i < k → xs.getD (i - 1) 0 < xs.getD i 0) (fun k => xs.length - k) 1 ⟨Nat.le_refl _, fun i h1 h2 => by omega⟩ (le_same ⟨rfl, rfl, trivial⟩) (fun k J => ?_)
  obtain ⟨hk1, J⟩ := J
  refine ok_seq fun K4 h4 => ?_
  refine ok_seq fun K5 h5 => ok_region rfl (q_mv _ rfl (q_mv _ rfl (q_len eS40 rfl (q_bin _ _ _ rfl rfl rfl (run_nil (h5 _ ?_)))))); clear h5 K5
  refine ok_cond rfl (fun c6 => ?_) (fun c6 => ?_)
  · refine ok_skip (h4 _ ?_)
    have hk : k < xs.length := by simpa [hl] using c6
    refine ok_seq fun K7 h7 => ?_
    refine ok_block ?_
    refine ok_seq fun K8 h8 => ?_
    refine ok_region_d [0, 0, 0, 0, 1, 0, 0, 0, 1, 0] #[[], [], [1], [0, 1, 2], [0, 1, 2, 3], [], [], [5, 6], [5, 6, 7], [0, 1, 2, 3, 4, 5, 6, 7, 8]] [0, 1, 2, 3, 4, 5, 6, 7, 8, 9] (by kernel_rfl) (by kernel_rfl) rfl rfl (
      q_mv _ rfl (q_mv _ rfl (q_sub rfl rfl (by omega) (q_ia (s := int (xs.getD (k - 1) 0)) el40 rfl rfl (by omega) (by rw [show ((k : Int) - 1).toNat = k - 1 by omega]; exact iget (iget' (by omega))) (q_ld _ ag3 rfl rfl (q_mv _ rfl (q_mv _ rfl (q_ia (s := int (xs.getD k 0)) el40 rfl rfl (by omega) (iget (iget' hk)) (
      q_ld _ ag3 rfl rfl (q_bin _ _ _ rfl rfl rfl (run_nil (h8 _ ?_))))))))))))
    clear h8 K8
    refine ok_cond rfl (fun c9 => ?_) (fun c9 => ?_)
    · refine ok_seq fun K10 h10 => ok_region rfl (q_as _ rfl (run_nil (h10 _ ?_)))
      refine ok_ret ⟨_, rfl, ?_⟩
      have c := of_decide_eq_true c9
      rw [risB_false fun h => by have := h k (by omega) hk; omega]; rfl
    · refine ok_skip (h7 _ ?_)
      refine ok_region rfl (q_mv _ rfl (q_add rfl rfl (by omega) (q_as _ rfl (run_nil (⟨k + 1, by omega, ⟨by omega, fun i h1 h2 => ?_⟩, le_same ⟨rfl, rfl, trivial⟩⟩)))))
      rcases Nat.lt_or_ge i k with h | h
      · exact J i h1 h
      · obtain rfl : i = k := by omega
        have c := of_decide_eq_false c9
        omega
  · refine ok_exit (h2 _ ?_)
    have hk : xs.length ≤ k := by simpa [hl] using c6
    refine ok_seq fun K11 h11 => ok_region rfl (q_as _ rfl (run_nil (h11 _ ?_))); clear h11 K11
    refine ok_ret ⟨_, rfl, ?_⟩
    rw [risB_true fun i h1 h2 => J i h1 (by omega)]; rfl
end Go.Ring
