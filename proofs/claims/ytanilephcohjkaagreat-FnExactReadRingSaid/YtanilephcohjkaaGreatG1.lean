/- A part of the proof. No condition. -/
import Derived.Test.YtanilephcohjkaaGreatFam
namespace Go.Ring
open Go Go.RowKit Go.Eager Go.Abs Go.Proofs
set_option maxRecDepth 100000
set_option linter.unusedVariables false
set_option linter.unusedSimpArgs false


theorem bget {s : ByteArray} {i : Nat} {b : UInt8} (h : s.data.toList[i]? = some b) : s[i]? = some b := by
  have hlt := (List.getElem?_eq_some_iff.1 h).1
  have hs : i < s.size := by simpa using hlt
  rw [getElem?_pos s i hs]
  have h2 := (List.getElem?_eq_some_iff.1 h).2
  simp at h2
  rw [← h2]; rfl
theorem bget' {s : ByteArray} {i : Nat} (h : i < s.size) : s.data.toList[i]? = some (s.data.toList[i]'(by simpa using h)) := List.getElem?_eq_getElem _
theorem wu8 (b : UInt8) : IntKind.i64.wrap (b.toNat : Int) = (b.toNat : Int) := IntWalk.i64_in _ (by have := b.toNat_lt; omega)
theorem size_list (s : ByteArray) : s.data.toList.length = s.size := by simp
def letB (c : UInt8) : Bool := (decide (97 ≤ (c.toNat : Int)) && decide ((c.toNat : Int) ≤ 122)) || (decide (65 ≤ (c.toNat : Int)) && decide ((c.toNat : Int) ≤ 90))
def digB (c : UInt8) : Bool := decide (48 ≤ (c.toNat : Int)) && decide ((c.toNat : Int) ≤ 57)
def wordB (c : UInt8) : Bool := letB c || digB c || decide ((c.toNat : Int) = 95)
theorem f239_ok (c : UInt8) : PFn Tryz.prog 239 [byt c] (bool (digB c)) := by
  refine fn_ok' (n := 9) Tryz.func239 rfl rfl rfl (Nat.le_of_ble_eq_true rfl) rfl fun w0 O => ?_
  refine ok_seq fun K1 h1 => ok_region rfl (q_as _ rfl (run_nil (h1 _ ?_))); clear h1 K1
  refine ok_seq fun K2 h2 => ?_
  refine ok_region rfl (q_mv _ rfl (q_bin _ _ _ rfl rfl rfl (q_mv _ rfl (q_and 2 2 rfl rfl rfl rfl rfl (fun hb8 =>
      q_mv _ rfl (q_bin _ _ _ rfl rfl rfl (run_nil ⟨rfl, rfl, rfl, rfl⟩))) (
    q_as _ rfl (run_nil (h2 _ ?_)))))))
  exact ok_ret ⟨_, rfl, rfl⟩
theorem f263_ok (c : UInt8) : PFn Tryz.prog 263 [byt c] (bool (letB c)) := by
  refine fn_ok' (n := 17) Tryz.func263 rfl rfl rfl (Nat.le_of_ble_eq_true rfl) rfl fun w0 O => ?_
  refine ok_seq fun K1 h1 => ok_region rfl (q_as _ rfl (run_nil (h1 _ ?_))); clear h1 K1
  refine ok_seq fun K2 h2 => ?_
  refine ok_region rfl (q_mv _ rfl (q_bin _ _ _ rfl rfl rfl (q_mv _ rfl (q_and 2 2 rfl rfl rfl rfl rfl (fun hb8 =>
      q_mv _ rfl (q_bin _ _ _ rfl rfl rfl (run_nil ⟨rfl, rfl, rfl, rfl⟩))) (
    q_mv _ rfl (q_or 6 4 rfl rfl rfl rfl rfl (fun hb16 =>
      q_mv _ rfl (q_bin _ _ _ rfl rfl rfl (q_mv _ rfl (q_and 2 2 rfl rfl rfl rfl rfl (fun hb15 =>
        q_mv _ rfl (q_bin _ _ _ rfl rfl rfl (run_nil ⟨rfl, rfl, rfl, rfl⟩))) (
      run_nil ⟨rfl, rfl, rfl, rfl⟩))))) (
    q_as _ rfl (run_nil (h2 _ ?_)))))))))
  exact ok_ret ⟨_, rfl, rfl⟩

theorem f240_ok (c : UInt8) : PFn Tryz.prog 240 [byt c] (bool (wordB c)) := by
  refine fn_ok' (n := 13) Tryz.func240 rfl rfl rfl (Nat.le_of_ble_eq_true rfl) rfl fun w0 O => ?_
  refine ok_seq fun K1 h1 => ok_region rfl (q_as _ rfl (run_nil (h1 _ ?_))); clear h1 K1
  refine ok_seq fun K2 h2 => ?_
  refine ok_region rfl (q_mv _ rfl (q_call (f263_ok c) cl263 rfl rfl (q_mv _ rfl (q_or 2 2 rfl rfl rfl rfl rfl (fun hb8 =>
      q_mv _ rfl (q_call (f239_ok c) cl239 rfl rfl (run_nil ⟨rfl, rfl, rfl, rfl⟩))) (
    q_mv _ rfl (q_or 2 2 rfl rfl rfl rfl rfl (fun hb12 =>
      q_mv _ rfl (q_bin _ _ _ rfl rfl rfl (run_nil ⟨rfl, rfl, rfl, rfl⟩))) (
    q_as _ rfl (run_nil (h2 _ ?_)))))))))
  exact ok_ret ⟨_, rfl, rfl⟩
theorem f222_ok (c : UInt8) : PFn Tryz.prog 222 [byt c] (bool (digB c)) := by
  refine fn_ok' (n := 9) Tryz.func222 rfl rfl rfl (Nat.le_of_ble_eq_true rfl) rfl fun w0 O => ?_
  refine ok_seq fun K1 h1 => ok_region rfl (q_as _ rfl (run_nil (h1 _ ?_))); clear h1 K1
  refine ok_seq fun K2 h2 => ?_
  refine ok_region rfl (q_mv _ rfl (q_bin _ _ _ rfl rfl rfl (q_mv _ rfl (q_and 2 2 rfl rfl rfl rfl rfl (fun hb8 =>
      q_mv _ rfl (q_bin _ _ _ rfl rfl rfl (run_nil ⟨rfl, rfl, rfl, rfl⟩))) (
    q_as _ rfl (run_nil (h2 _ ?_)))))))
  exact ok_ret ⟨_, rfl, rfl⟩
theorem f223_ok (c : UInt8) : PFn Tryz.prog 223 [byt c] (bool (letB c)) := by
  refine fn_ok' (n := 17) Tryz.func223 rfl rfl rfl (Nat.le_of_ble_eq_true rfl) rfl fun w0 O => ?_
  refine ok_seq fun K1 h1 => ok_region rfl (q_as _ rfl (run_nil (h1 _ ?_))); clear h1 K1
  refine ok_seq fun K2 h2 => ?_
  refine ok_region rfl (q_mv _ rfl (q_bin _ _ _ rfl rfl rfl (q_mv _ rfl (q_and 2 2 rfl rfl rfl rfl rfl (fun hb8 =>
      q_mv _ rfl (q_bin _ _ _ rfl rfl rfl (run_nil ⟨rfl, rfl, rfl, rfl⟩))) (
    q_mv _ rfl (q_or 6 4 rfl rfl rfl rfl rfl (fun hb16 =>
      q_mv _ rfl (q_bin _ _ _ rfl rfl rfl (q_mv _ rfl (q_and 2 2 rfl rfl rfl rfl rfl (fun hb15 =>
        q_mv _ rfl (q_bin _ _ _ rfl rfl rfl (run_nil ⟨rfl, rfl, rfl, rfl⟩))) (
      run_nil ⟨rfl, rfl, rfl, rfl⟩))))) (
    q_as _ rfl (run_nil (h2 _ ?_)))))))))
  exact ok_ret ⟨_, rfl, rfl⟩
def cmpN (a b : Int) : Int := if a < b then -1 else if b < a then 1 else 0
theorem f140_ok (a b : Int) : PFn Tryz.prog 140 [int a, int b] (int (cmpN a b)) := by
  refine fn_ok' (n := 11) Tryz.func140 rfl rfl rfl (Nat.le_of_ble_eq_true rfl) rfl fun w0 O => ?_
  refine ok_seq fun K1 h1 => ok_region rfl (q_as _ rfl (run_nil (h1 _ ?_))); clear h1 K1
  refine ok_seq fun K2 h2 => ?_
  refine ok_seq fun K3 h3 => ok_region rfl (q_mv _ rfl (q_mv _ rfl (q_bin _ _ _ rfl rfl rfl (run_nil (h3 _ ?_))))); clear h3 K3
  refine ok_cond rfl (fun c4 => ?_) (fun c4 => ?_)
  · refine ok_seq fun K5 h5 => ok_region rfl (q_as _ rfl (run_nil (h5 _ ?_)))
    have c := of_decide_eq_true c4
    exact ok_ret ⟨_, rfl, by simp [tupSV, cmpN, c]⟩
  · have c := of_decide_eq_false c4
    refine ok_skip (h2 _ ?_)
    refine ok_seq fun K6 h6 => ?_
    refine ok_seq fun K7 h7 => ok_region rfl (q_mv _ rfl (q_mv _ rfl (q_bin _ _ _ rfl rfl rfl (run_nil (h7 _ ?_))))); clear h7 K7
    refine ok_cond rfl (fun c8 => ?_) (fun c8 => ?_)
    · refine ok_seq fun K9 h9 => ok_region rfl (q_as _ rfl (run_nil (h9 _ ?_)))
      have c' := of_decide_eq_true c8
      exact ok_ret ⟨_, rfl, by simp [tupSV, cmpN, c, c']⟩
    · have c' := of_decide_eq_false c8
      refine ok_skip (h6 _ ?_)
      refine ok_seq fun K10 h10 => ok_region rfl (q_as _ rfl (run_nil (h10 _ ?_)))
      exact ok_ret ⟨_, rfl, by simp [tupSV, cmpN, c, c']⟩
def cmpT : List UInt8 → List UInt8 → Int
  | [], [] => 0
  | [], _ :: _ => -1
  | _ :: _, [] => 1
  | x :: a, y :: b => if x = y then cmpT a b else cmpN x.toNat y.toNat
theorem cmpT_len : ∀ (a b : List UInt8), a = [] ∨ b = [] → cmpT a b = cmpN a.length b.length
  | [], [], _ => rfl
  | [], _ :: _, _ => by simp [cmpT, cmpN]
  | _ :: _, [], _ => by simp [cmpT, cmpN]; omega
  | _ :: _, _ :: _, h => by simp at h
theorem cmpT_less : ∀ (a b : List UInt8), Op.bytesLess a b = decide (cmpT a b < 0)
  | [], [] => rfl
  | [], _ :: _ => rfl
  | _ :: _, [] => rfl
  | x :: a, y :: b => by
    simp only [Op.bytesLess, cmpT, cmpT_less a b]
    by_cases h : x = y
    · subst h; simp
    · simp only [h, if_false]
      have hne : x.toNat ≠ y.toNat := fun e => h (UInt8.toNat_inj.1 e)
      have hb : (x == y) = false := by simpa using h
      simp only [hb, Bool.false_and, Bool.or_false, cmpN]
      by_cases h2 : x < y
      · have h3 : x.toNat < y.toNat := UInt8.lt_iff_toNat_lt.1 h2
        simp [h2, h3]
      · have h3 : ¬ x.toNat < y.toNat := fun e => h2 (UInt8.lt_iff_toNat_lt.2 e)
        have h4 : y.toNat < x.toNat := by omega
        simp [h2, h3, h4]
theorem f66_ok (a b : ByteArray) (ha : a.size ≤ 1048576) (hb : b.size ≤ 1048576) : PFn Tryz.prog 66 [str a, str b] (int (cmpT a.data.toList b.data.toList)) := by
  refine fn_ok' (n := 39) Tryz.func66 rfl rfl rfl (Nat.le_of_ble_eq_true rfl) rfl fun w0 O => ?_
  refine ok_seq fun K1 h1 => ok_region rfl (q_as _ rfl (run_nil (h1 _ ?_))); clear h1 K1
  refine ok_seq fun K2 h2 => ?_
  refine ok_seq fun K3 h3 => ok_region rfl (q_as _ rfl (run_nil (h3 _ ?_))); clear h3 K3
  refine ok_block ?_
  refine ok_loop (fun (k : Nat) => ⟨[(0, .sv (str a)), (1, .sv (str b)), (5, .sv (int k))], []⟩) (fun k => k ≤ a.size ∧ k ≤ b.size ∧ cmpT a.data.toList b.data.toList = cmpT (a.data.toList.drop k) (b.data.toList.drop k)) (fun k => a.size - k) 0 ⟨Nat.zero_le _, Nat.zero_le _, rfl⟩ (le_same ⟨rfl, rfl, rfl, trivial⟩) (fun k J => ?_)
  obtain ⟨ja, jb, jc⟩ := J
  have la := size_list a
  have lb := size_list b
  refine ok_seq fun K4 h4 => ?_
  refine ok_seq fun K5 h5 => ?_
  refine ok_region rfl (q_mv _ rfl (q_mv _ rfl (q_lens st9 rfl (q_bin _ _ _ rfl rfl rfl (q_mv _ rfl (q_and 4 4 rfl rfl rfl rfl rfl (fun hb15 =>
      q_mv _ rfl (q_mv _ rfl (q_lens st9 rfl (q_bin _ _ _ rfl rfl rfl (run_nil ⟨rfl, rfl, rfl, rfl⟩))))) (
    run_nil (h5 _ ?_))))))))
  clear h5 K5
  refine ok_cond rfl (fun c6 => ?_) (fun c6 => ?_)
  · refine ok_skip (h4 _ ?_)
    clear h4 K4
    simp only [Bool.and_eq_true, decide_eq_true_eq] at c6
    have ka : k < a.size := by omega
    have kb : k < b.size := by omega
    have ga := bget' ka
    have gb := bget' kb
    have ea : a.data.toList.drop k = a.data.toList[k]'(by omega) :: a.data.toList.drop (k + 1) := List.drop_eq_getElem_cons _
    have eb : b.data.toList.drop k = b.data.toList[k]'(by omega) :: b.data.toList.drop (k + 1) := List.drop_eq_getElem_cons _
    generalize a.data.toList[k]'(by omega) = x at ga ea
    generalize b.data.toList[k]'(by omega) = y at gb eb
    refine ok_seq fun K7 h7 => ?_
    refine ok_block ?_
    refine ok_seq fun K8 h8 => ?_
    refine ok_region_d [0, 0, 0, 0, 0, 0, 0] #[[], [], [0, 1], [], [], [3, 4], [0, 1, 2, 3, 4, 5]] [0, 1, 2, 3, 4, 5, 6] (by kernel_rfl) (by kernel_rfl) rfl rfl (
      q_mv _ rfl (q_mv _ rfl (q_ix st9 rfl rfl (by omega) (bget ga) (q_mv _ rfl (q_mv _ rfl (q_ix st9 rfl rfl (by omega) (bget gb) (q_bin _ _ _ rfl rfl rfl (run_nil (h8 _ ?_)))))))))
    clear h8 K8
    refine ok_cond rfl (fun c9 => ?_) (fun c9 => ?_)
    · refine ok_seq fun K10 h10 => ?_
      refine ok_region_d [0, 0, 0, 0, 0, 0, 0, 0, 3, 0] #[[], [], [0, 1], [0, 1, 2], [], [], [4, 5], [4, 5, 6], [0, 1, 2, 3, 4, 5, 6, 7], [0, 1, 2, 3, 4, 5, 6, 7, 8]] [0, 1, 2, 3, 4, 5, 6, 7, 8, 9] (by kernel_rfl) (by kernel_rfl) rfl rfl (
        q_mv _ rfl (q_mv _ rfl (q_ix st9 rfl rfl (by omega) (bget ga) (q_cv aS5 ik3 rfl (wu8 _) (q_mv _ rfl (q_mv _ rfl (q_ix st9 rfl rfl (by omega) (bget gb) (q_cv aS5 ik3 rfl (wu8 _) (
        q_call (f140_ok _ _) cl140 rfl rfl (q_as _ rfl (run_nil (h10 _ ?_))))))))))))
      refine ok_ret ⟨_, rfl, ?_⟩
      have hne : x ≠ y := fun e => by subst e; simp at c9
      rw [jc, ea, eb]; simp [tupSV, cmpT, hne]
    · refine ok_skip (h7 _ ?_)
      clear h7 K7
      have hxy : x = y := by simp at c9; exact UInt8.toNat_inj.1 (by omega)
      refine ok_region rfl (q_mv _ rfl (q_add rfl rfl (by omega) (q_as _ rfl (run_nil (⟨k + 1, by omega, ⟨by omega, by omega, ?_⟩, le_same ⟨rfl, rfl, rfl, trivial⟩⟩)))))
      rw [jc, ea, eb]; simp [cmpT, hxy]
  · refine ok_exit (h2 _ ?_)
    refine ok_seq fun K11 h11 => ok_region rfl (q_mv _ rfl (q_lens st9 rfl (q_mv _ rfl (q_lens st9 rfl (q_call (f140_ok _ _) cl140 rfl rfl (q_as _ rfl (run_nil (h11 _ ?_)))))))); clear h11 K11
    refine ok_ret ⟨_, rfl, ?_⟩
    simp only [Bool.and_eq_false_iff, decide_eq_false_iff_not] at c6
    rw [jc, cmpT_len _ _ (c6.imp (fun c => List.drop_eq_nil_of_le (by omega)) fun c => List.drop_eq_nil_of_le (by omega))]
    have e : cmpN (a.size : Int) (b.size : Int) = cmpN ((a.size - k : Nat) : Int) ((b.size - k : Nat) : Int) := by unfold cmpN; (repeat split) <;> omega
    simp only [tupSV, List.length_drop, la, lb, e]

def nameB (s : ByteArray) : Bool := decide (1 ≤ s.size) && decide (s.size ≤ 40) && !digB (s.data.toList.headD 0) && s.data.toList.all wordB
theorem all_step {s : ByteArray} {p : UInt8 → Bool} {k : Nat} {c : UInt8} (hc : s.data.toList[k]? = some c) (h1 : (s.data.toList.take k).all p = true) (h2 : p c = true) : (s.data.toList.take (k + 1)).all p = true := by
  rw [List.take_add_one, hc, List.all_append]; simp [h1, h2]
theorem all_not {s : ByteArray} {p : UInt8 → Bool} {k : Nat} {c : UInt8} (hc : s.data.toList[k]? = some c) (h2 : p c = false) : s.data.toList.all p = false := by
  rw [Bool.eq_false_iff]; intro h; rw [List.all_eq_true] at h; rw [h c (List.mem_of_getElem? hc)] at h2; cases h2
theorem f171_ok (s : ByteArray) (hs : s.size ≤ 1048576) : PFn Tryz.prog 171 [str s] (bool (nameB s)) := by
  have ls := size_list s
  refine fn_ok' (n := 41) Tryz.func171 rfl rfl rfl (Nat.le_of_ble_eq_true rfl) rfl fun w0 O => ?_
  refine ok_seq fun K1 h1 => ok_region rfl (q_as _ rfl (run_nil (h1 _ ?_))); clear h1 K1
  refine ok_seq fun K2 h2 => ?_
  have hd : ∀ h : 0 < s.size, s.data.toList[(0 : Int).toNat]? = some (s.data.toList.headD 0) := fun h => by
    have := bget' h
    cases hl : s.data.toList with
    | nil => rw [hl] at ls; simp at ls; omega
    | cons a l => simp
  refine ok_seq fun K3 h3 => ?_
  refine ok_region rfl (q_mv _ rfl (q_lens st9 rfl (q_bin _ _ _ rfl rfl rfl (q_mv _ rfl (q_or 3 3 rfl rfl rfl rfl rfl (fun hb11 =>
      q_mv _ rfl (q_lens st9 rfl (q_bin _ _ _ rfl rfl rfl (run_nil ⟨rfl, rfl, rfl, rfl⟩)))) (
    q_mv _ rfl (q_or 3 3 rfl rfl rfl rfl rfl (fun hb16 =>
      q_mv _ rfl (q_ix st9 rfl rfl (by omega) (bget (hd (by simp at hb16; omega))) (q_call (f222_ok _) cl222 rfl rfl (run_nil ⟨rfl, rfl, rfl, rfl⟩)))) (
    run_nil (h3 _ ?_)))))))))
  clear h3 K3
  refine ok_cond rfl (fun c4 => ?_) (fun c4 => ?_)
  · refine ok_seq fun K5 h5 => ok_region rfl (q_as _ rfl (run_nil (h5 _ ?_)))
    refine ok_ret ⟨_, rfl, ?_⟩
    have : nameB s = false := by
      unfold nameB
      simp at c4 ⊢
      rcases c4 with c4 | c4
      · intro h1 h2; omega
      · intro h1 h2 h3; rw [h3] at c4; cases c4
    rw [this]; rfl
  · refine ok_skip (h2 _ ?_)
    clear h2 K2
    simp at c4
    refine ok_seq fun K6 h6 => ?_
    refine ok_seq fun K7 h7 => ok_region rfl (q_as _ rfl (run_nil (h7 _ ?_))); clear h7 K7
    refine ok_block ?_
    refine ok_loop (fun (k : Nat) => ⟨[(0, .sv (str s)), (3, .sv (int k))], []⟩) (fun k => (s.data.toList.take k).all wordB = true) (fun k => s.size - k) 0 rfl (le_same ⟨rfl, rfl, trivial⟩) (fun k J => ?_)
    refine ok_seq fun K8 h8 => ?_
    refine ok_seq fun K9 h9 => ok_region rfl (q_mv _ rfl (q_mv _ rfl (q_lens st9 rfl (q_bin _ _ _ rfl rfl rfl (run_nil (h9 _ ?_)))))); clear h9 K9
    refine ok_cond rfl (fun c10 => ?_) (fun c10 => ?_)
    · refine ok_skip (h8 _ ?_)
      clear h8 K8
      have hk : k < s.size := by simpa using c10
      have hg := bget' hk
      generalize s.data.toList[k]'(by omega) = c at hg
      refine ok_seq fun K11 h11 => ?_
      refine ok_block ?_
      refine ok_seq fun K12 h12 => ?_
      refine ok_region rfl (q_mv _ rfl (q_mv _ rfl (q_ix st9 rfl rfl (by omega) (bget hg) (q_call (f223_ok _) cl223 rfl rfl (q_un _ _ rfl rfl (q_mv _ rfl (q_and 5 5 rfl rfl rfl rfl rfl (fun hb34 =>
          q_mv _ rfl (q_mv _ rfl (q_ix st9 rfl rfl (by omega) (bget hg) (q_call (f222_ok _) cl222 rfl rfl (q_un _ _ rfl rfl (run_nil ⟨rfl, rfl, rfl, rfl⟩)))))) (
        q_mv _ rfl (q_and 4 4 rfl rfl rfl rfl rfl (fun hb40 =>
          q_mv _ rfl (q_mv _ rfl (q_ix st9 rfl rfl (by omega) (bget hg) (q_bin _ _ _ rfl rfl rfl (run_nil ⟨rfl, rfl, rfl, rfl⟩))))) (
        run_nil (h12 _ ?_)))))))))))
      clear h12 K12
      have hw : wordB c = !((!letB c && !digB c) && decide ((c.toNat : Int) ≠ 95)) := by unfold wordB; cases letB c <;> cases digB c <;> by_cases h : (c.toNat : Int) = 95 <;> simp [h]
      refine ok_cond rfl (fun c13 => ?_) (fun c13 => ?_)
      · refine ok_seq fun K14 h14 => ok_region rfl (q_as _ rfl (run_nil (h14 _ ?_)))
        refine ok_ret ⟨_, rfl, ?_⟩
        rw [c13] at hw
        have := all_not hg hw
        simp [tupSV, nameB, this]
      · refine ok_skip (h11 _ ?_)
        clear h11 K11
        rw [c13] at hw
        exact ok_region rfl (q_mv _ rfl (q_add rfl rfl (by omega) (q_as _ rfl (run_nil (⟨k + 1, by omega, all_step hg J hw, le_same ⟨rfl, rfl, trivial⟩⟩)))))
    · refine ok_exit (h6 _ ?_)
      refine ok_seq fun K15 h15 => ok_region rfl (q_as _ rfl (run_nil (h15 _ ?_))); clear h15 K15
      refine ok_ret ⟨_, rfl, ?_⟩
      have hk : s.size ≤ k := by simpa using c10
      rw [List.take_of_length_le (by omega)] at J
      have e1 : 1 ≤ s.size := by omega
      have e2 : s.size ≤ 40 := by omega
      simp [tupSV, nameB, J, c4, e1, e2]
end Go.Ring
