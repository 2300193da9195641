/- Times, values, labels, samples: what both programs ask of them. No condition. -/
import Derived.Test.YtanilephcohjkaaGreatG4
namespace Go.Ring
open Go Go.RowKit Go.Eager Go.Abs Go.Proofs
set_option maxRecDepth 100000
set_option linter.unusedVariables false
set_option linter.unusedSimpArgs false
def TimeOk (t : Int) : Prop := 0 ≤ t ∧ t ≤ 1000000000000
def prB (c : UInt8) : Bool := !(decide ((c.toNat : Int) < 32) || decide (126 < (c.toNat : Int)))
def printedB (s : ByteArray) : Bool := s.data.toList.all prB
def valueB (s : ByteArray) : Bool := decide (1 ≤ s.size) && decide (s.size ≤ 100) && printedB s
def cmpB (a b : ByteArray) : Int := cmpT a.data.toList b.data.toList
def LabelAt (l : List Label) (i : Nat) (x : Label) : Prop := nameB x.name = true ∧ valueB x.value = true ∧ ∀ p, 0 < i → l[i - 1]? = some p → cmpB p.name x.name < 0
def LabelsOk (l : List Label) : Prop := l.length ≤ 20 ∧ ∀ i x, l[i]? = some x → LabelAt l i x
def SampleAt (l : List Sample) (i : Nat) (x : Sample) : Prop := TimeOk x.time ∧ ∀ p, 0 < i → l[i - 1]? = some p → p.time < x.time
def SamplesOk (l : List Sample) : Prop := l.length ≤ 2000 ∧ ∀ i x, l[i]? = some x → SampleAt l i x
theorem ne_empty (s : ByteArray) : (!decide (s.data.toList = (⟨#[]⟩ : ByteArray).data.toList)) = decide (1 ≤ s.size) := by
  have h := size_list s
  rw [← h]
  cases s.data.toList with
  | nil => rfl
  | cons a l => simp
theorem cmpB_less (a b : ByteArray) : Op.bytesLess a.data.toList b.data.toList = decide (cmpB a b < 0) := cmpT_less _ _
theorem at_step {α : Type} {l : List α} {P : Nat → α → Prop} {k : Nat} {x : α} (J : ∀ i y, i < k → l[i]? = some y → P i y) (hx : l[k]? = some x) (h : P k x) : ∀ i y, i < k + 1 → l[i]? = some y → P i y := by
  intro i y hi hy
  rcases Nat.lt_or_ge i k with h1 | h1
  · exact J i y h1 hy
  · obtain rfl : i = k := by omega
    rw [hx] at hy; cases hy; exact h
theorem at_all {α : Type} {l : List α} {P : Nat → α → Prop} {k : Nat} (J : ∀ i y, i < k → l[i]? = some y → P i y) (hk : l.length ≤ k) : ∀ i y, l[i]? = some y → P i y := fun i y hy => J i y (by have := slt hy; omega) hy
/-- The element ahead of k, if there is one. -/
theorem prev {α : Type} {l : List α} {k : Nat} (hk : k < l.length) : ∃ p, 0 < k → l[k - 1]? = some p := by
  rcases Nat.eq_zero_or_pos k with h | h
  · exact ⟨l[k], fun h' => by omega⟩
  · exact ⟨l[k - 1]'(by omega), fun _ => List.getElem?_eq_getElem (by omega)⟩
theorem pget {α : Type} {f : α → SV} {l : List α} {k : Nat} {p : α} (hp : 0 < k → l[k - 1]? = some p) (h : 0 < k) : (l.map f)[((k : Int) - 1).toNat]? = some (f p) := by
  rw [show ((k : Int) - 1).toNat = k - 1 by omega]; exact mget (hp h)
theorem f78_ok (t : Int) : PFn Tryz.prog 78 [int t] (bool (pB (TimeOk t))) := by
  refine fn_ok' (n := 9) Tryz.func78 rfl rfl rfl (Nat.le_of_ble_eq_true rfl) rfl fun w0 O => ?_
  refine ok_seq fun K1 h1 => ok_region rfl (q_as _ rfl (run_nil (h1 _ ?_))); clear h1 K1
  refine ok_seq fun K2 h2 => ?_
  refine ok_region rfl (q_mv _ rfl (q_bin _ _ _ rfl rfl rfl (q_mv _ rfl (q_and 2 2 rfl rfl rfl rfl rfl (fun hb8 =>
      q_mv _ rfl (q_bin _ _ _ rfl rfl rfl (run_nil ⟨rfl, rfl, rfl, rfl⟩))) (
    q_as _ rfl (run_nil (h2 _ ?_)))))))
  clear h2 K2
  refine ok_ret ⟨_, rfl, ?_⟩
  unfold TimeOk
  by_cases h1 : 0 ≤ t <;> by_cases h2 : t ≤ 1000000000000 <;> simp [tupSV, pB, h1, h2]
theorem f85_ok (t : Int) : PFn Tryz.prog 85 [int t] (bool (pB (TimeOk t))) := by
  refine fn_ok' (n := 9) Tryz.func85 rfl rfl rfl (Nat.le_of_ble_eq_true rfl) rfl fun w0 O => ?_
  refine ok_seq fun K1 h1 => ok_region rfl (q_as _ rfl (run_nil (h1 _ ?_))); clear h1 K1
  refine ok_seq fun K2 h2 => ?_
  refine ok_region rfl (q_mv _ rfl (q_bin _ _ _ rfl rfl rfl (q_mv _ rfl (q_and 2 2 rfl rfl rfl rfl rfl (fun hb8 =>
      q_mv _ rfl (q_bin _ _ _ rfl rfl rfl (run_nil ⟨rfl, rfl, rfl, rfl⟩))) (
    q_as _ rfl (run_nil (h2 _ ?_)))))))
  clear h2 K2
  refine ok_ret ⟨_, rfl, ?_⟩
  unfold TimeOk
  by_cases h1 : 0 ≤ t <;> by_cases h2 : t ≤ 1000000000000 <;> simp [tupSV, pB, h1, h2]
theorem f172_ok (s : ByteArray) (hs : s.size ≤ 1048576) : PFn Tryz.prog 172 [str s] (bool (printedB s)) := by
  refine fn_ok' (n := 20) Tryz.func172 rfl rfl rfl (Nat.le_of_ble_eq_true rfl) rfl fun w0 O => ?_
  refine ok_seq fun K1 h1 => ok_region rfl (q_as _ rfl (run_nil (h1 _ ?_))); clear h1 K1
  refine ok_seq fun K2 h2 => ?_
  refine ok_seq fun K3 h3 => ok_region rfl (q_as _ rfl (run_nil (h3 _ ?_))); clear h3 K3
  refine ok_block ?_
  refine ok_loop (fun (k : Nat) => ⟨[(0, .sv (str s)), (3, .sv (int k))], []⟩) (fun k => (s.data.toList.take k).all prB = true) (fun k => s.size - k) 0 rfl (le_same ⟨rfl, rfl, trivial⟩) (fun k J => ?_)
  refine ok_seq fun K4 h4 => ?_
  refine ok_seq fun K5 h5 => ok_region rfl (q_mv _ rfl (q_mv _ rfl (q_lens st9 rfl (q_bin _ _ _ rfl rfl rfl (run_nil (h5 _ ?_)))))); clear h5 K5
  refine ok_cond rfl (fun c6 => ?_) (fun c6 => ?_)
  · refine ok_skip (h4 _ ?_)
    have hk : k < s.size := by simpa using c6
    obtain ⟨c, hc⟩ : ∃ c, s.data.toList[k]? = some c := ⟨_, bget' hk⟩
    refine ok_seq fun K7 h7 => ?_
    refine ok_block ?_
    refine ok_seq fun K8 h8 => ?_
    refine ok_region rfl (q_mv _ rfl (q_mv _ rfl (q_ix st9 rfl rfl (by omega) (bget hc) (q_bin _ _ _ rfl rfl rfl (q_mv _ rfl (q_or 4 4 rfl rfl rfl rfl rfl (fun hb19 =>
        q_mv _ rfl (q_mv _ rfl (q_ix st9 rfl rfl (by omega) (bget hc) (q_bin _ _ _ rfl rfl rfl (run_nil ⟨rfl, rfl, rfl, rfl⟩))))) (
      run_nil (h8 _ ?_))))))))
    clear h8 K8
    refine ok_cond rfl (fun c9 => ?_) (fun c9 => ?_)
    · refine ok_seq fun K10 h10 => ?_
      refine ok_region rfl (q_as _ rfl (run_nil (h10 _ ?_)))
      clear h10 K10
      refine ok_ret ⟨_, rfl, ?_⟩
      have : printedB s = false := all_not hc (by simp only [prB]; rw [show (decide ((c.toNat : Int) < 32) || decide (126 < (c.toNat : Int))) = true from c9]; rfl)
      rw [this]; rfl
    · refine ok_skip (h7 _ ?_)
      refine ok_region rfl (q_mv _ rfl (q_add rfl rfl (by omega) (q_as _ rfl (run_nil (⟨k + 1, by omega, all_step hc J (by simp only [prB]; rw [show (decide ((c.toNat : Int) < 32) || decide (126 < (c.toNat : Int))) = false from c9]; rfl), le_same ⟨rfl, rfl, trivial⟩⟩)))))
  · refine ok_exit (h2 _ ?_)
    refine ok_seq fun K11 h11 => ok_region rfl (q_as _ rfl (run_nil (h11 _ ?_))); clear h11 K11
    refine ok_ret ⟨_, rfl, ?_⟩
    have hk : s.size ≤ k := by simpa using c6
    rw [List.take_of_length_le (by rw [size_list]; exact hk)] at J
    rw [show printedB s = true from J]; rfl
theorem f227_ok (s : ByteArray) (hs : s.size ≤ 1048576) (m : Int) : PFn Tryz.prog 227 [str s, int m] (bool (decide ((s.size : Int) ≤ m) && printedB s)) := by
  refine fn_ok' (n := 26) Tryz.func227 rfl rfl rfl (Nat.le_of_ble_eq_true rfl) rfl fun w0 O => ?_
  refine ok_seq fun K1 h1 => ok_region rfl (q_as _ rfl (run_nil (h1 _ ?_))); clear h1 K1
  refine ok_seq fun K2 h2 => ?_
  refine ok_seq fun K3 h3 => ok_region rfl (q_mv _ rfl (q_lens st9 rfl (q_mv _ rfl (q_bin _ _ _ rfl rfl rfl (run_nil (h3 _ ?_)))))); clear h3 K3
  refine ok_cond rfl (fun c4 => ?_) (fun c4 => ?_)
  · refine ok_seq fun K5 h5 => ?_
    refine ok_region rfl (q_as _ rfl (run_nil (h5 _ ?_)))
    clear h5 K5
    refine ok_ret ⟨_, rfl, ?_⟩
    have c := of_decide_eq_true c4
    rw [decide_eq_false (by omega)]; rfl
  · refine ok_skip (h2 _ ?_)
    refine ok_seq fun K6 h6 => ?_
    refine ok_seq fun K7 h7 => ok_region rfl (q_mv _ rfl (q_lens st9 rfl (q_mv _ rfl (run_nil (h7 _ ?_))))); clear h7 K7
    refine ok_block ?_
    refine ok_loop (fun (k : Nat) => ⟨[(0, .sv (str s)), (11, .sv (int s.size)), (12, .sv (int k))], []⟩) (fun k => (s.data.toList.take k).all prB = true) (fun k => s.size - k) 0 rfl (le_same ⟨rfl, rfl, rfl, trivial⟩) (fun k J => ?_)
    refine ok_seq fun K8 h8 => ok_region rfl (q_bin _ _ _ rfl rfl rfl (run_nil (h8 _ ?_))); clear h8 K8
    refine ok_seq fun K9 h9 => ?_
    refine ok_cond rfl (fun c10 => ?_) (fun c10 => ?_)
    · refine ok_skip (h9 _ ?_)
      have hk : k < s.size := by simpa using c10
      obtain ⟨c, hc⟩ : ∃ c, s.data.toList[k]? = some c := ⟨_, bget' hk⟩
      refine ok_seq fun K11 h11 => ?_
      refine ok_block ?_
      refine ok_seq fun K12 h12 => ok_region rfl (q_mv _ rfl (q_as _ rfl (run_nil (h12 _ ?_)))); clear h12 K12
      refine ok_seq fun K13 h13 => ?_
      refine ok_region rfl (q_mv _ rfl (q_mv _ rfl (q_ix st9 rfl rfl (by omega) (bget hc) (q_bin _ _ _ rfl rfl rfl (q_mv _ rfl (q_or 4 4 rfl rfl rfl rfl rfl (fun hb24 =>
          q_mv _ rfl (q_mv _ rfl (q_ix st9 rfl rfl (by omega) (bget hc) (q_bin _ _ _ rfl rfl rfl (run_nil ⟨rfl, rfl, rfl, rfl⟩))))) (
        run_nil (h13 _ ?_))))))))
      clear h13 K13
      refine ok_cond rfl (fun c14 => ?_) (fun c14 => ?_)
      · refine ok_seq fun K15 h15 => ?_
        refine ok_region rfl (q_as _ rfl (run_nil (h15 _ ?_)))
        clear h15 K15
        refine ok_ret ⟨_, rfl, ?_⟩
        have : printedB s = false := all_not hc (by simp only [prB]; rw [show (decide ((c.toNat : Int) < 32) || decide (126 < (c.toNat : Int))) = true from c14]; rfl)
        rw [this, Bool.and_false]; rfl
      · refine ok_skip (h11 _ ?_)
        refine ok_region rfl (q_add rfl rfl (by omega) (q_mv _ rfl (run_nil (⟨k + 1, by omega, all_step hc J (by simp only [prB]; rw [show (decide ((c.toNat : Int) < 32) || decide (126 < (c.toNat : Int))) = false from c14]; rfl), le_same ⟨rfl, rfl, rfl, trivial⟩⟩))))
    · refine ok_exit (h6 _ ?_)
      refine ok_seq fun K16 h16 => ok_region rfl (q_as _ rfl (run_nil (h16 _ ?_))); clear h16 K16
      refine ok_ret ⟨_, rfl, ?_⟩
      have hk : s.size ≤ k := by simpa using c10
      rw [List.take_of_length_le (by rw [size_list]; exact hk)] at J
      have c := of_decide_eq_false c4
      rw [show printedB s = true from J, decide_eq_true (by omega)]; rfl
theorem f203_ok (s : ByteArray) (hs : s.size ≤ 1048576) : PFn Tryz.prog 203 [str s] (bool (valueB s)) := by
  refine fn_ok' (n := 15) Tryz.func203 rfl rfl rfl (Nat.le_of_ble_eq_true rfl) rfl fun w0 O => ?_
  refine ok_seq fun K1 h1 => ok_region rfl (q_as _ rfl (run_nil (h1 _ ?_))); clear h1 K1
  refine ok_seq fun K2 h2 => ?_
  refine ok_region rfl (q_mv _ rfl (q_lens st9 rfl (q_bin _ _ _ rfl rfl rfl (q_mv _ rfl (q_and 3 3 rfl rfl rfl rfl rfl (fun hb10 =>
      q_mv _ rfl (q_lens st9 rfl (q_bin _ _ _ rfl rfl rfl (run_nil ⟨rfl, rfl, rfl, rfl⟩)))) (
    q_mv _ rfl (q_and 2 2 rfl rfl rfl rfl rfl (fun hb14 =>
      q_mv _ rfl (q_call (f172_ok s hs) cl172 rfl rfl (run_nil ⟨rfl, rfl, rfl, rfl⟩))) (
    q_as _ rfl (run_nil (h2 _ ?_))))))))))
  clear h2 K2
  refine ok_ret ⟨_, rfl, ?_⟩
  simp only [tupSV, valueB]
  rw [show decide ((s.size : Int) ≥ 1) = decide (1 ≤ s.size) by rw [decide_eq_decide]; omega, show decide ((s.size : Int) ≤ 100) = decide (s.size ≤ 100) by rw [decide_eq_decide]; omega]
theorem f211_ok (s : ByteArray) (hs : s.size ≤ 1048576) : PFn Tryz.prog 211 [str s] (bool (valueB s)) := by
  refine fn_ok' (n := 9) Tryz.func211 rfl rfl rfl (Nat.le_of_ble_eq_true rfl) rfl fun w0 O => ?_
  refine ok_seq fun K1 h1 => ok_region rfl (q_as _ rfl (run_nil (h1 _ ?_))); clear h1 K1
  refine ok_seq fun K2 h2 => ?_
  refine ok_region rfl (q_mv _ rfl (q_bin _ _ _ rfl rfl rfl (q_mv _ rfl (q_and 2 2 rfl rfl rfl rfl rfl (fun hb8 =>
      q_mv _ rfl (q_call (f227_ok s hs 100) cl227 rfl rfl (run_nil ⟨rfl, rfl, rfl, rfl⟩))) (
    q_as _ rfl (run_nil (h2 _ ?_)))))))
  clear h2 K2
  refine ok_ret ⟨_, rfl, ?_⟩
  simp only [tupSV, valueB]
  rw [show decide ((s.size : Int) ≤ 100) = decide (s.size ≤ 100) by rw [decide_eq_decide]; omega, Bool.and_assoc]
  exact congrArg (fun b => SV.raw (.bool (b && (decide (s.size ≤ 100) && printedB s)))) (ne_empty s)
theorem f148_ok (l : List Label) (hl : l.length ≤ 1048576 ∧ ∀ y ∈ l, SLabel y) : PFn Tryz.prog 148 [eLabelS l] (bool (pB (LabelsOk l))) := by
  obtain ⟨hl1, hl2⟩ := hl
  refine fn_ok' (n := 42) Tryz.func148 rfl rfl rfl (Nat.le_of_ble_eq_true rfl) rfl fun w0 O => ?_
  refine ok_seq fun K1 h1 => ok_region rfl (q_as _ rfl (run_nil (h1 _ ?_))); clear h1 K1
  refine ok_seq fun K2 h2 => ?_
  refine ok_seq fun K3 h3 => ok_region rfl (q_mv _ rfl (q_len eS78 rfl (q_bin _ _ _ rfl rfl rfl (run_nil (h3 _ ?_))))); clear h3 K3
  refine ok_cond rfl (fun c4 => ?_) (fun c4 => ?_)
  · refine ok_seq fun K5 h5 => ?_
    refine ok_region rfl (q_as _ rfl (run_nil (h5 _ ?_)))
    clear h5 K5
    refine ok_ret ⟨_, rfl, ?_⟩
    have c := of_decide_eq_true c4
    rw [List.length_map] at c
    rw [pB_false (fun h => by have := h.1; omega)]; rfl
  · refine ok_skip (h2 _ ?_)
    have hl3 := of_decide_eq_false c4
    refine ok_seq fun K6 h6 => ?_
    refine ok_seq fun K7 h7 => ok_region rfl (q_mv _ rfl (q_len eS78 rfl (q_mv _ rfl (run_nil (h7 _ ?_))))); clear h7 K7
    rw [List.length_map] at *
    refine ok_block ?_
    refine ok_loop (fun (k : Nat) => ⟨[(0, .sv (eLabelS l)), (8, .sv (eLabelS l)), (9, .sv (int l.length)), (10, .sv (int k))], []⟩) (fun k => ∀ i y, i < k → l[i]? = some y → LabelAt l i y) (fun k => l.length - k) 0 (fun i y h => by omega) (le_same ⟨rfl, rfl, rfl, rfl, trivial⟩) (fun k J => ?_)
    refine ok_seq fun K8 h8 => ok_region rfl (q_bin _ _ _ rfl rfl rfl (run_nil (h8 _ ?_))); clear h8 K8
    refine ok_seq fun K9 h9 => ?_
    refine ok_cond rfl (fun c10 => ?_) (fun c10 => ?_)
    · refine ok_skip (h9 _ ?_)
      have hk : k < l.length := by simpa using c10
      obtain ⟨u, hu⟩ := sget hk
      obtain ⟨p, hp⟩ := prev hk
      refine ok_seq fun K11 h11 => ?_
      refine ok_block ?_
      refine ok_seq fun K12 h12 => ok_region rfl (q_mv _ rfl (q_ia el78 rfl rfl (by omega) (mget hu) (q_lds _ ag190 rfl sz190 (q_alloc _ ze190 rfl rfl rfl rfl (q_as _ rfl (q_sts _ rfl rfl rfl sz190 (Nat.le_of_ble_eq_true rfl) rfl (run_nil (h12 _ ?_)))))))); clear h12 K12
      refine ok_seq fun K13 h13 => ?_
      refine ok_region_i (by kernel_rfl) (by kernel_rfl) rfl (
        q_fap fd190_0 rfl (by decide) (q_ldb _ ag9 rfl rfl rfl (q_call (f171_ok u.name (hl2 u (smem hu)).1) cl171 rfl rfl (q_un _ _ rfl rfl (q_mv _ rfl (q_or 4 4 rfl rfl rfl rfl rfl (fun hb24 =>
          q_fap fd190_1 rfl (by decide) (q_ldb _ ag9 rfl rfl rfl (q_call (f203_ok u.value (hl2 u (smem hu)).2) cl203 rfl rfl (q_un _ _ rfl rfl (run_nil ⟨rfl, rfl, rfl, rfl⟩))))) (
        q_mv _ rfl (q_or 14 4 rfl rfl rfl rfl rfl (fun hb40 =>
          q_mv _ rfl (q_bin _ _ _ rfl rfl rfl (q_mv _ rfl (q_and 10 10 rfl rfl rfl rfl rfl (fun hb39 =>
            q_mv _ rfl (q_mv _ rfl (q_sub rfl rfl (by omega) (q_ia el78 rfl rfl (by have := of_decide_eq_true hb39; omega) (pget hp (by have := of_decide_eq_true hb39; omega)) (q_fa _ fd190_0 rfl rfl (by decide) (q_ld _ ag9 rfl rfl (q_fap fd190_0 rfl (by decide) (
            q_ldb _ ag9 rfl rfl rfl (q_call (f66_ok p.name u.name (hl2 p (smem (hp (by have := of_decide_eq_true hb39; omega)))).1 (hl2 u (smem hu)).1) cl66 rfl rfl (q_bin _ _ _ rfl rfl rfl (run_nil ⟨rfl, rfl, rfl, rfl⟩))))))))))) (
          run_nil ⟨rfl, rfl, rfl, rfl⟩))))) (
        run_nil (h13 _ ?_))))))))))
      clear h13 K13
      refine ok_cond rfl (fun c14 => ?_) (fun c14 => ?_)
      · refine ok_seq fun K15 h15 => ?_
        refine ok_region rfl (q_as _ rfl (run_nil (h15 _ ?_)))
        clear h15 K15
        refine ok_ret ⟨_, rfl, ?_⟩
        rw [pB_false]; · rfl
        rintro ⟨_, h⟩
        obtain ⟨d1, d2, d3⟩ := h k u hu
        rw [d1, d2] at c14
        simp only [Bool.not_true, Bool.false_or, Bool.and_eq_true, decide_eq_true_eq] at c14
        have := d3 p (by omega) (hp (by omega))
        unfold cmpB at this; omega
      · refine ok_skip (h11 _ ?_)
        refine ok_region rfl (q_add rfl rfl (by omega) (q_mv _ rfl (run_nil (⟨k + 1, by omega, ?_, le_sub ⟨rfl, rfl, rfl, rfl, trivial⟩ trivial⟩))))
        refine at_step J hu ?_
        simp only [Bool.or_eq_false_iff, Bool.not_eq_false', Bool.and_eq_false_iff, decide_eq_false_iff_not, decide_eq_true_eq] at c14
        obtain ⟨⟨d1, d2⟩, d3⟩ := c14
        refine ⟨d1, d2, fun q h0 hq => ?_⟩
        rw [hp h0] at hq; cases hq
        unfold cmpB; omega
    · refine ok_exit (h6 _ ?_)
      refine ok_seq fun K16 h16 => ok_region rfl (q_as _ rfl (run_nil (h16 _ ?_))); clear h16 K16
      refine ok_ret ⟨_, rfl, ?_⟩
      have hk : l.length ≤ k := by simpa using c10
      rw [pB_true ⟨by omega, at_all J hk⟩]; rfl
theorem f158_ok (l : List Label) (hl : l.length ≤ 1048576 ∧ ∀ y ∈ l, SLabel y) : PFn Tryz.prog 158 [eLabelS l] (bool (pB (LabelsOk l))) := by
  obtain ⟨hl1, hl2⟩ := hl
  refine fn_ok' (n := 41) Tryz.func158 rfl rfl rfl (Nat.le_of_ble_eq_true rfl) rfl fun w0 O => ?_
  refine ok_seq fun K1 h1 => ok_region rfl (q_as _ rfl (run_nil (h1 _ ?_))); clear h1 K1
  refine ok_seq fun K2 h2 => ?_
  refine ok_seq fun K3 h3 => ok_region rfl (q_mv _ rfl (q_len eS78 rfl (q_bin _ _ _ rfl rfl rfl (run_nil (h3 _ ?_))))); clear h3 K3
  refine ok_cond rfl (fun c4 => ?_) (fun c4 => ?_)
  · refine ok_seq fun K5 h5 => ?_
    refine ok_region rfl (q_as _ rfl (run_nil (h5 _ ?_)))
    clear h5 K5
    refine ok_ret ⟨_, rfl, ?_⟩
    have c := of_decide_eq_true c4
    rw [List.length_map] at c
    rw [pB_false (fun h => by have := h.1; omega)]; rfl
  · refine ok_skip (h2 _ ?_)
    have hl3 := of_decide_eq_false c4
    refine ok_seq fun K6 h6 => ?_
    refine ok_seq fun K7 h7 => ok_region rfl (q_mv _ rfl (q_len eS78 rfl (q_mv _ rfl (run_nil (h7 _ ?_))))); clear h7 K7
    rw [List.length_map] at *
    refine ok_block ?_
    refine ok_loop (fun (k : Nat) => ⟨[(0, .sv (eLabelS l)), (8, .sv (eLabelS l)), (9, .sv (int l.length)), (10, .sv (int k))], []⟩) (fun k => ∀ i y, i < k → l[i]? = some y → LabelAt l i y) (fun k => l.length - k) 0 (fun i y h => by omega) (le_same ⟨rfl, rfl, rfl, rfl, trivial⟩) (fun k J => ?_)
    refine ok_seq fun K8 h8 => ok_region rfl (q_bin _ _ _ rfl rfl rfl (run_nil (h8 _ ?_))); clear h8 K8
    refine ok_seq fun K9 h9 => ?_
    refine ok_cond rfl (fun c10 => ?_) (fun c10 => ?_)
    · refine ok_skip (h9 _ ?_)
      have hk : k < l.length := by simpa using c10
      obtain ⟨u, hu⟩ := sget hk
      obtain ⟨p, hp⟩ := prev hk
      refine ok_seq fun K11 h11 => ?_
      refine ok_block ?_
      refine ok_seq fun K12 h12 => ok_region rfl (q_mv _ rfl (q_ia el78 rfl rfl (by omega) (mget hu) (q_lds _ ag190 rfl sz190 (q_alloc _ ze190 rfl rfl rfl rfl (q_as _ rfl (q_sts _ rfl rfl rfl sz190 (Nat.le_of_ble_eq_true rfl) rfl (run_nil (h12 _ ?_)))))))); clear h12 K12
      refine ok_seq fun K13 h13 => ?_
      refine ok_region_i (by kernel_rfl) (by kernel_rfl) rfl (
        q_fap fd190_0 rfl (by decide) (q_ldb _ ag9 rfl rfl rfl (q_call (f195_ok u.name (hl2 u (smem hu)).1) cl195 rfl rfl (q_un _ _ rfl rfl (q_mv _ rfl (q_or 4 4 rfl rfl rfl rfl rfl (fun hb24 =>
          q_fap fd190_1 rfl (by decide) (q_ldb _ ag9 rfl rfl rfl (q_call (f211_ok u.value (hl2 u (smem hu)).2) cl211 rfl rfl (q_un _ _ rfl rfl (run_nil ⟨rfl, rfl, rfl, rfl⟩))))) (
        q_mv _ rfl (q_or 13 4 rfl rfl rfl rfl rfl (fun hb39 =>
          q_mv _ rfl (q_bin _ _ _ rfl rfl rfl (q_mv _ rfl (q_and 9 9 rfl rfl rfl rfl rfl (fun hb38 =>
            q_mv _ rfl (q_mv _ rfl (q_sub rfl rfl (by omega) (q_ia el78 rfl rfl (by have := of_decide_eq_true hb38; omega) (pget hp (by have := of_decide_eq_true hb38; omega)) (q_fa _ fd190_0 rfl rfl (by decide) (q_ld _ ag9 rfl rfl (q_fap fd190_0 rfl (by decide) (
            q_ldb _ ag9 rfl rfl rfl (q_bin _ _ _ rfl rfl rfl (run_nil ⟨rfl, rfl, rfl, rfl⟩)))))))))) (
          run_nil ⟨rfl, rfl, rfl, rfl⟩))))) (
        run_nil (h13 _ ?_))))))))))
      clear h13 K13
      refine ok_cond rfl (fun c14 => ?_) (fun c14 => ?_)
      · refine ok_seq fun K15 h15 => ?_
        refine ok_region rfl (q_as _ rfl (run_nil (h15 _ ?_)))
        clear h15 K15
        refine ok_ret ⟨_, rfl, ?_⟩
        rw [pB_false]; · rfl
        rintro ⟨_, h⟩
        obtain ⟨d1, d2, d3⟩ := h k u hu
        rw [d1, d2] at c14
        simp only [Bool.not_true, Bool.false_or, Bool.and_eq_true, decide_eq_true_eq, cmpB_less, Bool.not_eq_true', decide_eq_false_iff_not] at c14
        have := d3 p (by omega) (hp (by omega))
        omega
      · refine ok_skip (h11 _ ?_)
        refine ok_region rfl (q_add rfl rfl (by omega) (q_mv _ rfl (run_nil (⟨k + 1, by omega, ?_, le_sub ⟨rfl, rfl, rfl, rfl, trivial⟩ trivial⟩))))
        refine at_step J hu ?_
        simp only [Bool.or_eq_false_iff, Bool.not_eq_false', Bool.and_eq_false_iff, decide_eq_false_iff_not, decide_eq_true_eq, cmpB_less] at c14
        obtain ⟨⟨d1, d2⟩, d3⟩ := c14
        refine ⟨d1, d2, fun q h0 hq => ?_⟩
        rw [hp h0] at hq; cases hq
        rcases d3 with d3 | d3
        · omega
        · exact d3
    · refine ok_exit (h6 _ ?_)
      refine ok_seq fun K16 h16 => ok_region rfl (q_as _ rfl (run_nil (h16 _ ?_))); clear h16 K16
      refine ok_ret ⟨_, rfl, ?_⟩
      have hk : l.length ≤ k := by simpa using c10
      rw [pB_true ⟨by omega, at_all J hk⟩]; rfl
theorem f175_ok (l : List Sample) (hl : l.length ≤ 1048576) : PFn Tryz.prog 175 [eSampleS l] (bool (pB (SamplesOk l))) := by
  refine fn_ok' (n := 35) Tryz.func175 rfl rfl rfl (Nat.le_of_ble_eq_true rfl) rfl fun w0 O => ?_
  refine ok_seq fun K1 h1 => ok_region rfl (q_as _ rfl (run_nil (h1 _ ?_))); clear h1 K1
  refine ok_seq fun K2 h2 => ?_
  refine ok_seq fun K3 h3 => ok_region rfl (q_mv _ rfl (q_len eS123 rfl (q_mv _ rfl (run_nil (h3 _ ?_))))); clear h3 K3
  rw [List.length_map] at *
  refine ok_block ?_
  refine ok_loop (fun (k : Nat) => ⟨[(0, .sv (eSampleS l)), (5, .sv (eSampleS l)), (6, .sv (int l.length)), (7, .sv (int k))], []⟩) (fun k => ∀ i y, i < k → l[i]? = some y → SampleAt l i y) (fun k => l.length - k) 0 (fun i y h => by omega) (le_same ⟨rfl, rfl, rfl, rfl, trivial⟩) (fun k J => ?_)
  refine ok_seq fun K4 h4 => ok_region rfl (q_bin _ _ _ rfl rfl rfl (run_nil (h4 _ ?_))); clear h4 K4
  refine ok_seq fun K5 h5 => ?_
  refine ok_cond rfl (fun c6 => ?_) (fun c6 => ?_)
  · refine ok_skip (h5 _ ?_)
    have hk : k < l.length := by simpa using c6
    obtain ⟨u, hu⟩ := sget hk
    obtain ⟨p, hp⟩ := prev hk
    refine ok_seq fun K7 h7 => ?_
    refine ok_block ?_
    refine ok_seq fun K8 h8 => ok_region rfl (q_mv _ rfl (q_ia el123 rfl rfl (by omega) (mget hu) (q_lds _ ag122 rfl sz122 (q_alloc _ ze122 rfl rfl rfl rfl (q_as _ rfl (q_sts _ rfl rfl rfl sz122 (Nat.le_of_ble_eq_true rfl) rfl (run_nil (h8 _ ?_)))))))); clear h8 K8
    refine ok_seq fun K9 h9 => ?_
    refine ok_region_i (by kernel_rfl) (by kernel_rfl) rfl (
      q_fap fd122_0 rfl (by decide) (q_ldb _ ag3 rfl rfl rfl (q_call (f78_ok u.time) cl78 rfl rfl (q_un _ _ rfl rfl (q_mv _ rfl (q_or 13 4 rfl rfl rfl rfl rfl (fun hb30 =>
        q_mv _ rfl (q_bin _ _ _ rfl rfl rfl (q_mv _ rfl (q_and 9 9 rfl rfl rfl rfl rfl (fun hb29 =>
          q_mv _ rfl (q_mv _ rfl (q_sub rfl rfl (by omega) (q_ia el123 rfl rfl (by have := of_decide_eq_true hb29; omega) (pget hp (by have := of_decide_eq_true hb29; omega)) (q_fa _ fd122_0 rfl rfl (by decide) (q_ld _ ag3 rfl rfl (q_fap fd122_0 rfl (by decide) (
          q_ldb _ ag3 rfl rfl rfl (q_bin _ _ _ rfl rfl rfl (run_nil ⟨rfl, rfl, rfl, rfl⟩)))))))))) (
        run_nil ⟨rfl, rfl, rfl, rfl⟩))))) (
      run_nil (h9 _ ?_))))))))
    clear h9 K9
    refine ok_cond rfl (fun c10 => ?_) (fun c10 => ?_)
    · refine ok_seq fun K11 h11 => ?_
      refine ok_region rfl (q_as _ rfl (run_nil (h11 _ ?_)))
      clear h11 K11
      refine ok_ret ⟨_, rfl, ?_⟩
      rw [pB_false]; · rfl
      rintro ⟨_, h⟩
      obtain ⟨d1, d3⟩ := h k u hu
      rw [pB_true d1] at c10
      simp only [Bool.not_true, Bool.false_or, Bool.and_eq_true, decide_eq_true_eq] at c10
      have := d3 p (by omega) (hp (by omega))
      omega
    · refine ok_skip (h7 _ ?_)
      refine ok_region rfl (q_add rfl rfl (by omega) (q_mv _ rfl (run_nil (⟨k + 1, by omega, ?_, le_sub ⟨rfl, rfl, rfl, rfl, trivial⟩ trivial⟩))))
      refine at_step J hu ?_
      simp only [Bool.or_eq_false_iff, Bool.not_eq_false', Bool.and_eq_false_iff, decide_eq_false_iff_not] at c10
      obtain ⟨d1, d3⟩ := c10
      refine ⟨of_pB d1, fun q h0 hq => ?_⟩
      rw [hp h0] at hq; cases hq
      omega
  · refine ok_exit (h2 _ ?_)
    refine ok_seq fun K12 h12 => ok_region rfl (q_mv _ rfl (q_len eS123 rfl (q_bin _ _ _ rfl rfl rfl (q_as _ rfl (run_nil (h12 _ ?_)))))); clear h12 K12
    refine ok_ret ⟨_, rfl, ?_⟩
    have hk : l.length ≤ k := by simpa using c6
    rw [List.length_map]
    by_cases h : l.length ≤ 2000
    · rw [pB_true ⟨h, at_all J hk⟩, decide_eq_true (by omega)]; rfl
    · rw [pB_false (fun h' => h h'.1), decide_eq_false (by omega)]; rfl
theorem f168_ok (l : List Sample) (hl : l.length ≤ 1048576) : PFn Tryz.prog 168 [eSampleS l] (bool (pB (SamplesOk l))) := by
  refine fn_ok' (n := 35) Tryz.func168 rfl rfl rfl (Nat.le_of_ble_eq_true rfl) rfl fun w0 O => ?_
  refine ok_seq fun K1 h1 => ok_region rfl (q_as _ rfl (run_nil (h1 _ ?_))); clear h1 K1
  refine ok_seq fun K2 h2 => ?_
  refine ok_seq fun K3 h3 => ok_region rfl (q_mv _ rfl (q_len eS123 rfl (q_bin _ _ _ rfl rfl rfl (run_nil (h3 _ ?_))))); clear h3 K3
  refine ok_cond rfl (fun c4 => ?_) (fun c4 => ?_)
  · refine ok_seq fun K5 h5 => ?_
    refine ok_region rfl (q_as _ rfl (run_nil (h5 _ ?_)))
    clear h5 K5
    refine ok_ret ⟨_, rfl, ?_⟩
    have c := of_decide_eq_true c4
    rw [List.length_map] at c
    rw [pB_false (fun h => by have := h.1; omega)]; rfl
  · refine ok_skip (h2 _ ?_)
    have hl3 := of_decide_eq_false c4
    refine ok_seq fun K6 h6 => ?_
    refine ok_seq fun K7 h7 => ok_region rfl (q_mv _ rfl (q_len eS123 rfl (q_mv _ rfl (run_nil (h7 _ ?_))))); clear h7 K7
    rw [List.length_map] at *
    refine ok_block ?_
    refine ok_loop (fun (k : Nat) => ⟨[(0, .sv (eSampleS l)), (8, .sv (eSampleS l)), (9, .sv (int l.length)), (10, .sv (int k))], []⟩) (fun k => ∀ i y, i < k → l[i]? = some y → SampleAt l i y) (fun k => l.length - k) 0 (fun i y h => by omega) (le_same ⟨rfl, rfl, rfl, rfl, trivial⟩) (fun k J => ?_)
    refine ok_seq fun K8 h8 => ok_region rfl (q_bin _ _ _ rfl rfl rfl (run_nil (h8 _ ?_))); clear h8 K8
    refine ok_seq fun K9 h9 => ?_
    refine ok_cond rfl (fun c10 => ?_) (fun c10 => ?_)
    · refine ok_skip (h9 _ ?_)
      have hk : k < l.length := by simpa using c10
      obtain ⟨u, hu⟩ := sget hk
      obtain ⟨p, hp⟩ := prev hk
      refine ok_seq fun K11 h11 => ?_
      refine ok_block ?_
      refine ok_seq fun K12 h12 => ok_region rfl (q_mv _ rfl (q_ia el123 rfl rfl (by omega) (mget hu) (q_lds _ ag122 rfl sz122 (q_alloc _ ze122 rfl rfl rfl rfl (q_as _ rfl (q_sts _ rfl rfl rfl sz122 (Nat.le_of_ble_eq_true rfl) rfl (run_nil (h12 _ ?_)))))))); clear h12 K12
      refine ok_seq fun K13 h13 => ?_
      refine ok_region_i (by kernel_rfl) (by kernel_rfl) rfl (
        q_fap fd122_0 rfl (by decide) (q_ldb _ ag3 rfl rfl rfl (q_call (f85_ok u.time) cl85 rfl rfl (q_un _ _ rfl rfl (q_mv _ rfl (q_or 13 4 rfl rfl rfl rfl rfl (fun hb33 =>
          q_mv _ rfl (q_bin _ _ _ rfl rfl rfl (q_mv _ rfl (q_and 9 9 rfl rfl rfl rfl rfl (fun hb32 =>
            q_mv _ rfl (q_mv _ rfl (q_sub rfl rfl (by omega) (q_ia el123 rfl rfl (by have := of_decide_eq_true hb32; omega) (pget hp (by have := of_decide_eq_true hb32; omega)) (q_fa _ fd122_0 rfl rfl (by decide) (q_ld _ ag3 rfl rfl (q_fap fd122_0 rfl (by decide) (
            q_ldb _ ag3 rfl rfl rfl (q_bin _ _ _ rfl rfl rfl (run_nil ⟨rfl, rfl, rfl, rfl⟩)))))))))) (
          run_nil ⟨rfl, rfl, rfl, rfl⟩))))) (
        run_nil (h13 _ ?_))))))))
      clear h13 K13
      refine ok_cond rfl (fun c14 => ?_) (fun c14 => ?_)
      · refine ok_seq fun K15 h15 => ?_
        refine ok_region rfl (q_as _ rfl (run_nil (h15 _ ?_)))
        clear h15 K15
        refine ok_ret ⟨_, rfl, ?_⟩
        rw [pB_false]; · rfl
        rintro ⟨_, h⟩
        obtain ⟨d1, d3⟩ := h k u hu
        rw [pB_true d1] at c14
        simp only [Bool.not_true, Bool.false_or, Bool.and_eq_true, decide_eq_true_eq] at c14
        have := d3 p (by omega) (hp (by omega))
        omega
      · refine ok_skip (h11 _ ?_)
        refine ok_region rfl (q_add rfl rfl (by omega) (q_mv _ rfl (run_nil (⟨k + 1, by omega, ?_, le_sub ⟨rfl, rfl, rfl, rfl, trivial⟩ trivial⟩))))
        refine at_step J hu ?_
        simp only [Bool.or_eq_false_iff, Bool.not_eq_false', Bool.and_eq_false_iff, decide_eq_false_iff_not] at c14
        obtain ⟨d1, d3⟩ := c14
        refine ⟨of_pB d1, fun q h0 hq => ?_⟩
        rw [hp h0] at hq; cases hq
        omega
    · refine ok_exit (h6 _ ?_)
      refine ok_seq fun K16 h16 => ok_region rfl (q_as _ rfl (run_nil (h16 _ ?_))); clear h16 K16
      refine ok_ret ⟨_, rfl, ?_⟩
      have hk : l.length ≤ k := by simpa using c10
      rw [pB_true ⟨by omega, at_all J hk⟩]; rfl
end Go.Ring
