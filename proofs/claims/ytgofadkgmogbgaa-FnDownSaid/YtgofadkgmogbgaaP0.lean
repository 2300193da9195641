/- What a printed text is: the reference and the program. No condition beyond the lengths. -/
import Derived.Test.YtgofadkgmogbgaaG4
set_option maxRecDepth 100000
set_option linter.unusedVariables false
set_option linter.unusedSimpArgs false
namespace Go.Ring
open Go Go.RowKit Go.Eager Go.Abs Go.Proofs
def prB (c : UInt8) : Bool := !(decide ((c.toNat : Int) < 32) || decide (126 < (c.toNat : Int)))
def printedB (s : ByteArray) : Bool := s.data.toList.all prB
theorem at_step {α : Type} {l : List α} {P : Nat → α → Prop} {k : Nat} {x : α} (J : ∀ i y, i < k → l[i]? = some y → P i y) (hx : l[k]? = some x) (h : P k x) : ∀ i y, i < k + 1 → l[i]? = some y → P i y := by
  intro i y hi hy
  rcases Nat.lt_or_ge i k with h1 | h1
  · exact J i y h1 hy
  · obtain rfl : i = k := by omega
    rw [hx] at hy; cases hy; exact h
theorem at_all {α : Type} {l : List α} {P : Nat → α → Prop} {k : Nat} (J : ∀ i y, i < k → l[i]? = some y → P i y) (hk : l.length ≤ k) : ∀ i y, l[i]? = some y → P i y := fun i y hy => J i y (by have := slt hy; omega) hy
/-- The element ahead of k, if there is one. -/
theorem prev {α : Type} {l : List α} {k : Nat} (hk : k < l.length) : ∃ p, 0 < k → l[k - 1]? = some p := by
  rcases Nat.eq_zero_or_pos k with h | h
  · exact ⟨l[k], fun h' => by omega⟩
  · exact ⟨l[k - 1]'(by omega), fun _ => List.getElem?_eq_getElem (by omega)⟩
theorem pget {α : Type} {f : α → SV} {l : List α} {k : Nat} {p : α} (hp : 0 < k → l[k - 1]? = some p) (h : 0 < k) : (l.map f)[((k : Int) - 1).toNat]? = some (f p) := by
  rw [show ((k : Int) - 1).toNat = k - 1 by omega]; exact mget (hp h)
theorem f153_ok (s : ByteArray) (hs : s.size ≤ 1048576) : PFn Try.prog 153 [str s] (bool (printedB s)) := by
  refine fn_ok' (n := 20) Try.func153 rfl rfl rfl (Nat.le_of_ble_eq_true rfl) rfl fun w0 O => ?_
  refine ok_seq fun K1 h1 => ok_region rfl (q_as _ rfl (run_nil (h1 _ ?_))); clear h1 K1
  refine ok_seq fun K2 h2 => ?_
  refine ok_seq fun K3 h3 => ok_region rfl (q_as _ rfl (run_nil (h3 _ ?_))); clear h3 K3
  refine ok_block ?_
  refine ok_loop (fun (k : Nat) => ⟨[(0, .sv (str s)), (3, .sv (int k))], []⟩) (fun k => (s.data.toList.take k).all prB = true) (fun k => s.size - k) 0 rfl (le_same ⟨rfl, rfl, trivial⟩) (fun k J => ?_)
  refine ok_seq fun K4 h4 => ?_
  refine ok_seq fun K5 h5 => ok_region rfl (q_mv _ rfl (q_mv _ rfl (q_lens st9 rfl (q_bin _ _ _ rfl rfl rfl (run_nil (h5 _ ?_)))))); clear h5 K5
  refine ok_cond rfl (fun c6 => ?_) (fun c6 => ?_)
  · refine ok_skip (h4 _ ?_)
    have hk : k < s.size := by simpa using c6
    obtain ⟨c, hc⟩ : ∃ c, s.data.toList[k]? = some c := ⟨_, bget' hk⟩
    refine ok_seq fun K7 h7 => ?_
    refine ok_block ?_
    refine ok_seq fun K8 h8 => ?_
    refine ok_region rfl (q_mv _ rfl (q_mv _ rfl (q_ix st9 rfl rfl (by omega) (bget hc) (q_bin _ _ _ rfl rfl rfl (q_mv _ rfl (q_or 4 4 rfl rfl rfl rfl rfl (fun hb19 =>
        q_mv _ rfl (q_mv _ rfl (q_ix st9 rfl rfl (by omega) (bget hc) (q_bin _ _ _ rfl rfl rfl (run_nil ⟨rfl, rfl, rfl, rfl⟩))))) (
      run_nil (h8 _ ?_))))))))
    clear h8 K8
    refine ok_cond rfl (fun c9 => ?_) (fun c9 => ?_)
    · refine ok_seq fun K10 h10 => ?_
      refine ok_region rfl (q_as _ rfl (run_nil (h10 _ ?_)))
      clear h10 K10
      refine ok_ret ⟨_, rfl, ?_⟩
      have : printedB s = false := all_not hc (by simp only [prB]; rw [show (decide ((c.toNat : Int) < 32) || decide (126 < (c.toNat : Int))) = true from c9]; rfl)
      rw [this]; rfl
    · refine ok_skip (h7 _ ?_)
      refine ok_region rfl (q_mv _ rfl (q_add rfl rfl (by omega) (q_as _ rfl (run_nil (⟨k + 1, by omega, all_step hc J (by simp only [prB]; rw [show (decide ((c.toNat : Int) < 32) || decide (126 < (c.toNat : Int))) = false from c9]; rfl), le_same ⟨rfl, rfl, trivial⟩⟩)))))
  · refine ok_exit (h2 _ ?_)
    refine ok_seq fun K11 h11 => ok_region rfl (q_as _ rfl (run_nil (h11 _ ?_))); clear h11 K11
    refine ok_ret ⟨_, rfl, ?_⟩
    have hk : s.size ≤ k := by simpa using c6
    rw [List.take_of_length_le (by rw [size_list]; exact hk)] at J
    rw [show printedB s = true from J]; rfl
theorem f154_ok (s : ByteArray) (hs : s.size ≤ 1048576) (m : Int) : PFn Try.prog 154 [str s, int m] (bool (decide ((s.size : Int) ≤ m) && printedB s)) := by
  refine fn_ok' (n := 26) Try.func154 rfl rfl rfl (Nat.le_of_ble_eq_true rfl) rfl fun w0 O => ?_
  refine ok_seq fun K1 h1 => ok_region rfl (q_as _ rfl (run_nil (h1 _ ?_))); clear h1 K1
  refine ok_seq fun K2 h2 => ?_
  refine ok_seq fun K3 h3 => ok_region rfl (q_mv _ rfl (q_lens st9 rfl (q_mv _ rfl (q_bin _ _ _ rfl rfl rfl (run_nil (h3 _ ?_)))))); clear h3 K3
  refine ok_cond rfl (fun c4 => ?_) (fun c4 => ?_)
  · refine ok_seq fun K5 h5 => ?_
    refine ok_region rfl (q_as _ rfl (run_nil (h5 _ ?_)))
    clear h5 K5
    refine ok_ret ⟨_, rfl, ?_⟩
    have c := of_decide_eq_true c4
    rw [decide_eq_false (by omega)]; rfl
  · refine ok_skip (h2 _ ?_)
    refine ok_seq fun K6 h6 => ?_
    refine ok_seq fun K7 h7 => ok_region rfl (q_mv _ rfl (q_lens st9 rfl (q_mv _ rfl (run_nil (h7 _ ?_))))); clear h7 K7
    refine ok_block ?_
    refine ok_loop (fun (k : Nat) => ⟨[(0, .sv (str s)), (11, .sv (int s.size)), (12, .sv (int k))], []⟩) (fun k => (s.data.toList.take k).all prB = true) (fun k => s.size - k) 0 rfl (le_same ⟨rfl, rfl, rfl, trivial⟩) (fun k J => ?_)
    refine ok_seq fun K8 h8 => ok_region rfl (q_bin _ _ _ rfl rfl rfl (run_nil (h8 _ ?_))); clear h8 K8
    refine ok_seq fun K9 h9 => ?_
    refine ok_cond rfl (fun c10 => ?_) (fun c10 => ?_)
    · refine ok_skip (h9 _ ?_)
      have hk : k < s.size := by simpa using c10
      obtain ⟨c, hc⟩ : ∃ c, s.data.toList[k]? = some c := ⟨_, bget' hk⟩
      refine ok_seq fun K11 h11 => ?_
      refine ok_block ?_
      refine ok_seq fun K12 h12 => ok_region rfl (q_mv _ rfl (q_as _ rfl (run_nil (h12 _ ?_)))); clear h12 K12
      refine ok_seq fun K13 h13 => ?_
      refine ok_region rfl (q_mv _ rfl (q_mv _ rfl (q_ix st9 rfl rfl (by omega) (bget hc) (q_bin _ _ _ rfl rfl rfl (q_mv _ rfl (q_or 4 4 rfl rfl rfl rfl rfl (fun hb24 =>
          q_mv _ rfl (q_mv _ rfl (q_ix st9 rfl rfl (by omega) (bget hc) (q_bin _ _ _ rfl rfl rfl (run_nil ⟨rfl, rfl, rfl, rfl⟩))))) (
        run_nil (h13 _ ?_))))))))
      clear h13 K13
      refine ok_cond rfl (fun c14 => ?_) (fun c14 => ?_)
      · refine ok_seq fun K15 h15 => ?_
        refine ok_region rfl (q_as _ rfl (run_nil (h15 _ ?_)))
        clear h15 K15
        refine ok_ret ⟨_, rfl, ?_⟩
        have : printedB s = false := all_not hc (by simp only [prB]; rw [show (decide ((c.toNat : Int) < 32) || decide (126 < (c.toNat : Int))) = true from c14]; rfl)
        rw [this, Bool.and_false]; rfl
      · refine ok_skip (h11 _ ?_)
        refine ok_region rfl (q_add rfl rfl (by omega) (q_mv _ rfl (run_nil (⟨k + 1, by omega, all_step hc J (by simp only [prB]; rw [show (decide ((c.toNat : Int) < 32) || decide (126 < (c.toNat : Int))) = false from c14]; rfl), le_same ⟨rfl, rfl, rfl, trivial⟩⟩))))
    · refine ok_exit (h6 _ ?_)
      refine ok_seq fun K16 h16 => ok_region rfl (q_as _ rfl (run_nil (h16 _ ?_))); clear h16 K16
      refine ok_ret ⟨_, rfl, ?_⟩
      have hk : s.size ≤ k := by simpa using c10
      rw [List.take_of_length_le (by rw [size_list]; exact hk)] at J
      have c := of_decide_eq_false c4
      rw [show printedB s = true from J, decide_eq_true (by omega)]; rfl
end Go.Ring
