/- Parts of the proof, laid together: G1 G2 G3 G4 G5 So. No condition. -/
import Derived.Test.YtanilephcohjkaaGreatFam
import Derived.Shelf.SlGeneric
import Derived.Shelf.Small.Wraps
import Derived.Shelf.SlSortCmp.WholeK
import Derived.Test.YtanilephcohjkaaGreatProg
import Derived.Test.YtanilephcohjkaaGreatEg2
import Derived.WalkKit
import Derived.Tactics
namespace Go.Ring
open Go Go.RowKit Go.Eager Go.Abs Go.Proofs
set_option maxRecDepth 100000
set_option linter.unusedVariables false
set_option linter.unusedSimpArgs false


theorem bget {s : ByteArray} {i : Nat} {b : UInt8} (h : s.data.toList[i]? = some b) : s[i]? = some b := by
  have hlt := (List.getElem?_eq_some_iff.1 h).1
  have hs : i < s.size := by simpa using hlt
  rw [getElem?_pos s i hs]
  have h2 := (List.getElem?_eq_some_iff.1 h).2
  simp at h2
  rw [← h2]; rfl
theorem bget' {s : ByteArray} {i : Nat} (h : i < s.size) : s.data.toList[i]? = some (s.data.toList[i]'(by simpa using h)) := List.getElem?_eq_getElem _
theorem wu8 (b : UInt8) : IntKind.i64.wrap (b.toNat : Int) = (b.toNat : Int) := IntWalk.i64_in _ (by have := b.toNat_lt; omega)
theorem size_list (s : ByteArray) : s.data.toList.length = s.size := by simp
def letB (c : UInt8) : Bool := (decide (97 ≤ (c.toNat : Int)) && decide ((c.toNat : Int) ≤ 122)) || (decide (65 ≤ (c.toNat : Int)) && decide ((c.toNat : Int) ≤ 90))
def digB (c : UInt8) : Bool := decide (48 ≤ (c.toNat : Int)) && decide ((c.toNat : Int) ≤ 57)
def wordB (c : UInt8) : Bool := letB c || digB c || decide ((c.toNat : Int) = 95)
theorem f239_ok (c : UInt8) : PFn Tryz.prog 239 [byt c] (bool (digB c)) := by
  refine fn_ok' (n := 9) Tryz.func239 rfl rfl rfl (Nat.le_of_ble_eq_true rfl) rfl fun w0 O => ?_
  refine ok_seq fun K1 h1 => ok_region rfl (q_as _ rfl (run_nil (h1 _ ?_)))
  refine ok_seq fun K2 h2 => ?_
  refine ok_region rfl (q_mv _ rfl (q_bin _ _ _ rfl rfl rfl (q_mv _ rfl (q_and 2 2 rfl rfl rfl rfl rfl (fun hb8 =>
      q_mv _ rfl (q_bin _ _ _ rfl rfl rfl (run_nil ⟨rfl, rfl, rfl, rfl⟩))) (
    q_as _ rfl (run_nil (h2 _ ?_)))))))
  exact ok_ret ⟨_, rfl, rfl⟩
theorem f263_ok (c : UInt8) : PFn Tryz.prog 263 [byt c] (bool (letB c)) := by
  refine fn_ok' (n := 17) Tryz.func263 rfl rfl rfl (Nat.le_of_ble_eq_true rfl) rfl fun w0 O => ?_
  refine ok_seq fun K1 h1 => ok_region rfl (q_as _ rfl (run_nil (h1 _ ?_)))
  refine ok_seq fun K2 h2 => ?_
  refine ok_region rfl (q_mv _ rfl (q_bin _ _ _ rfl rfl rfl (q_mv _ rfl (q_and 2 2 rfl rfl rfl rfl rfl (fun hb8 =>
      q_mv _ rfl (q_bin _ _ _ rfl rfl rfl (run_nil ⟨rfl, rfl, rfl, rfl⟩))) (
    q_mv _ rfl (q_or 6 4 rfl rfl rfl rfl rfl (fun hb16 =>
      q_mv _ rfl (q_bin _ _ _ rfl rfl rfl (q_mv _ rfl (q_and 2 2 rfl rfl rfl rfl rfl (fun hb15 =>
        q_mv _ rfl (q_bin _ _ _ rfl rfl rfl (run_nil ⟨rfl, rfl, rfl, rfl⟩))) (
      run_nil ⟨rfl, rfl, rfl, rfl⟩))))) (
    q_as _ rfl (run_nil (h2 _ ?_)))))))))
  exact ok_ret ⟨_, rfl, rfl⟩

theorem f240_ok (c : UInt8) : PFn Tryz.prog 240 [byt c] (bool (wordB c)) := by
  refine fn_ok' (n := 13) Tryz.func240 rfl rfl rfl (Nat.le_of_ble_eq_true rfl) rfl fun w0 O => ?_
  refine ok_seq fun K1 h1 => ok_region rfl (q_as _ rfl (run_nil (h1 _ ?_)))
  refine ok_seq fun K2 h2 => ?_
  refine ok_region rfl (q_mv _ rfl (q_call (f263_ok c) cl263 rfl rfl (q_mv _ rfl (q_or 2 2 rfl rfl rfl rfl rfl (fun hb8 =>
      q_mv _ rfl (q_call (f239_ok c) cl239 rfl rfl (run_nil ⟨rfl, rfl, rfl, rfl⟩))) (
    q_mv _ rfl (q_or 2 2 rfl rfl rfl rfl rfl (fun hb12 =>
      q_mv _ rfl (q_bin _ _ _ rfl rfl rfl (run_nil ⟨rfl, rfl, rfl, rfl⟩))) (
    q_as _ rfl (run_nil (h2 _ ?_)))))))))
  exact ok_ret ⟨_, rfl, rfl⟩
theorem f222_ok (c : UInt8) : PFn Tryz.prog 222 [byt c] (bool (digB c)) := by
  refine fn_ok' (n := 9) Tryz.func222 rfl rfl rfl (Nat.le_of_ble_eq_true rfl) rfl fun w0 O => ?_
  refine ok_seq fun K1 h1 => ok_region rfl (q_as _ rfl (run_nil (h1 _ ?_)))
  refine ok_seq fun K2 h2 => ?_
  refine ok_region rfl (q_mv _ rfl (q_bin _ _ _ rfl rfl rfl (q_mv _ rfl (q_and 2 2 rfl rfl rfl rfl rfl (fun hb8 =>
      q_mv _ rfl (q_bin _ _ _ rfl rfl rfl (run_nil ⟨rfl, rfl, rfl, rfl⟩))) (
    q_as _ rfl (run_nil (h2 _ ?_)))))))
  exact ok_ret ⟨_, rfl, rfl⟩
theorem f223_ok (c : UInt8) : PFn Tryz.prog 223 [byt c] (bool (letB c)) := by
  refine fn_ok' (n := 17) Tryz.func223 rfl rfl rfl (Nat.le_of_ble_eq_true rfl) rfl fun w0 O => ?_
  refine ok_seq fun K1 h1 => ok_region rfl (q_as _ rfl (run_nil (h1 _ ?_)))
  refine ok_seq fun K2 h2 => ?_
  refine ok_region rfl (q_mv _ rfl (q_bin _ _ _ rfl rfl rfl (q_mv _ rfl (q_and 2 2 rfl rfl rfl rfl rfl (fun hb8 =>
      q_mv _ rfl (q_bin _ _ _ rfl rfl rfl (run_nil ⟨rfl, rfl, rfl, rfl⟩))) (
    q_mv _ rfl (q_or 6 4 rfl rfl rfl rfl rfl (fun hb16 =>
      q_mv _ rfl (q_bin _ _ _ rfl rfl rfl (q_mv _ rfl (q_and 2 2 rfl rfl rfl rfl rfl (fun hb15 =>
        q_mv _ rfl (q_bin _ _ _ rfl rfl rfl (run_nil ⟨rfl, rfl, rfl, rfl⟩))) (
      run_nil ⟨rfl, rfl, rfl, rfl⟩))))) (
    q_as _ rfl (run_nil (h2 _ ?_)))))))))
  exact ok_ret ⟨_, rfl, rfl⟩
def cmpN (a b : Int) : Int := if a < b then -1 else if b < a then 1 else 0
theorem f140_ok (a b : Int) : PFn Tryz.prog 140 [int a, int b] (int (cmpN a b)) := by
  refine fn_ok' (n := 11) Tryz.func140 rfl rfl rfl (Nat.le_of_ble_eq_true rfl) rfl fun w0 O => ?_
  refine ok_seq fun K1 h1 => ok_region rfl (q_as _ rfl (run_nil (h1 _ ?_)))
  refine ok_seq fun K2 h2 => ?_
  refine ok_seq fun K3 h3 => ok_region rfl (q_mv _ rfl (q_mv _ rfl (q_bin _ _ _ rfl rfl rfl (run_nil (h3 _ ?_)))))
  refine ok_cond rfl (fun c4 => ?_) (fun c4 => ?_)
  · refine ok_seq fun K5 h5 => ok_region rfl (q_as _ rfl (run_nil (h5 _ ?_)))
    have c := of_decide_eq_true c4
    exact ok_ret ⟨_, rfl, by simp [tupSV, cmpN, c]⟩
  · have c := of_decide_eq_false c4
    refine ok_skip (h2 _ ?_)
    refine ok_seq fun K6 h6 => ?_
    refine ok_seq fun K7 h7 => ok_region rfl (q_mv _ rfl (q_mv _ rfl (q_bin _ _ _ rfl rfl rfl (run_nil (h7 _ ?_)))))
    refine ok_cond rfl (fun c8 => ?_) (fun c8 => ?_)
    · refine ok_seq fun K9 h9 => ok_region rfl (q_as _ rfl (run_nil (h9 _ ?_)))
      have c' := of_decide_eq_true c8
      exact ok_ret ⟨_, rfl, by simp [tupSV, cmpN, c, c']⟩
    · have c' := of_decide_eq_false c8
      refine ok_skip (h6 _ ?_)
      refine ok_seq fun K10 h10 => ok_region rfl (q_as _ rfl (run_nil (h10 _ ?_)))
      exact ok_ret ⟨_, rfl, by simp [tupSV, cmpN, c, c']⟩
def cmpT : List UInt8 → List UInt8 → Int
  | [], [] => 0
  | [], _ :: _ => -1
  | _ :: _, [] => 1
  | x :: a, y :: b => if x = y then cmpT a b else cmpN x.toNat y.toNat
theorem cmpT_len : ∀ (a b : List UInt8), a = [] ∨ b = [] → cmpT a b = cmpN a.length b.length
  | [], [], _ => rfl
  | [], _ :: _, _ => by simp [cmpT, cmpN]
  | _ :: _, [], _ => by simp [cmpT, cmpN]; omega
  | _ :: _, _ :: _, h => by simp at h
theorem cmpT_less : ∀ (a b : List UInt8), Op.bytesLess a b = decide (cmpT a b < 0)
  | [], [] => rfl
  | [], _ :: _ => rfl
  | _ :: _, [] => rfl
  | x :: a, y :: b => by
    simp only [Op.bytesLess, cmpT, cmpT_less a b]
    by_cases h : x = y
    · subst h; simp
    · simp only [h, if_false]
      have hne : x.toNat ≠ y.toNat := fun e => h (UInt8.toNat_inj.1 e)
      have hb : (x == y) = false := by simpa using h
      simp only [hb, Bool.false_and, Bool.or_false, cmpN]
      by_cases h2 : x < y
      · have h3 : x.toNat < y.toNat := UInt8.lt_iff_toNat_lt.1 h2
        simp [h2, h3]
      · have h3 : ¬ x.toNat < y.toNat := fun e => h2 (UInt8.lt_iff_toNat_lt.2 e)
        have h4 : y.toNat < x.toNat := by omega
        simp [h2, h3, h4]
theorem f66_ok (a b : ByteArray) (ha : a.size ≤ 1048576) (hb : b.size ≤ 1048576) : PFn Tryz.prog 66 [str a, str b] (int (cmpT a.data.toList b.data.toList)) := by
  refine fn_ok' (n := 39) Tryz.func66 rfl rfl rfl (Nat.le_of_ble_eq_true rfl) rfl fun w0 O => ?_
  refine ok_seq fun K1 h1 => ok_region rfl (q_as _ rfl (run_nil (h1 _ ?_)))
  refine ok_seq fun K2 h2 => ?_
  refine ok_seq fun K3 h3 => ok_region rfl (q_as _ rfl (run_nil (h3 _ ?_)))
  refine ok_block ?_
  refine ok_loop (fun (k : Nat) => ⟨[(0, .sv (str a)), (1, .sv (str b)), (5, .sv (int k))], []⟩) (fun k => k ≤ a.size ∧ k ≤ b.size ∧ cmpT a.data.toList b.data.toList = cmpT (a.data.toList.drop k) (b.data.toList.drop k)) (fun k => a.size - k) 0 ⟨Nat.zero_le _, Nat.zero_le _, rfl⟩ (le_same ⟨rfl, rfl, rfl, trivial⟩) (fun k J => ?_)
  obtain ⟨ja, jb, jc⟩ := J
  have la := size_list a
  have lb := size_list b
  refine ok_seq fun K4 h4 => ?_
  refine ok_seq fun K5 h5 => ?_
  refine ok_region rfl (q_mv _ rfl (q_mv _ rfl (q_lens st9 rfl (q_bin _ _ _ rfl rfl rfl (q_mv _ rfl (q_and 4 4 rfl rfl rfl rfl rfl (fun hb15 =>
      q_mv _ rfl (q_mv _ rfl (q_lens st9 rfl (q_bin _ _ _ rfl rfl rfl (run_nil ⟨rfl, rfl, rfl, rfl⟩))))) (
    run_nil (h5 _ ?_))))))))
  refine ok_cond rfl (fun c6 => ?_) (fun c6 => ?_)
  · refine ok_skip (h4 _ ?_)
    simp only [Bool.and_eq_true, decide_eq_true_eq] at c6
    have ka : k < a.size := by omega
    have kb : k < b.size := by omega
    have ga := bget' ka
    have gb := bget' kb
    have ea : a.data.toList.drop k = a.data.toList[k]'(by omega) :: a.data.toList.drop (k + 1) := List.drop_eq_getElem_cons _
    have eb : b.data.toList.drop k = b.data.toList[k]'(by omega) :: b.data.toList.drop (k + 1) := List.drop_eq_getElem_cons _
    generalize a.data.toList[k]'(by omega) = x at ga ea
    generalize b.data.toList[k]'(by omega) = y at gb eb
    refine ok_seq fun K7 h7 => ?_
    refine ok_block ?_
    refine ok_seq fun K8 h8 => ?_
    refine ok_region_d [0, 0, 0, 0, 0, 0, 0] #[[], [], [0, 1], [], [], [3, 4], [0, 1, 2, 3, 4, 5]] [0, 1, 2, 3, 4, 5, 6] (by kernel_rfl) (by kernel_rfl) rfl rfl (
      q_mv _ rfl (q_mv _ rfl (q_ix st9 rfl rfl (by omega) (bget ga) (q_mv _ rfl (q_mv _ rfl (q_ix st9 rfl rfl (by omega) (bget gb) (q_bin _ _ _ rfl rfl rfl (run_nil (h8 _ ?_)))))))))
    refine ok_cond rfl (fun c9 => ?_) (fun c9 => ?_)
    · refine ok_seq fun K10 h10 => ?_
      refine ok_region_d [0, 0, 0, 0, 0, 0, 0, 0, 3, 0] #[[], [], [0, 1], [0, 1, 2], [], [], [4, 5], [4, 5, 6], [0, 1, 2, 3, 4, 5, 6, 7], [0, 1, 2, 3, 4, 5, 6, 7, 8]] [0, 1, 2, 3, 4, 5, 6, 7, 8, 9] (by kernel_rfl) (by kernel_rfl) rfl rfl (
        q_mv _ rfl (q_mv _ rfl (q_ix st9 rfl rfl (by omega) (bget ga) (q_cv aS5 ik3 rfl (wu8 _) (q_mv _ rfl (q_mv _ rfl (q_ix st9 rfl rfl (by omega) (bget gb) (q_cv aS5 ik3 rfl (wu8 _) (
        q_call (f140_ok _ _) cl140 rfl rfl (q_as _ rfl (run_nil (h10 _ ?_))))))))))))
      refine ok_ret ⟨_, rfl, ?_⟩
      have hne : x ≠ y := fun e => by subst e; simp at c9
      rw [jc, ea, eb]; simp [tupSV, cmpT, hne]
    · refine ok_skip (h7 _ ?_)
      have hxy : x = y := by simp at c9; exact UInt8.toNat_inj.1 (by omega)
      refine ok_region rfl (q_mv _ rfl (q_add rfl rfl (by omega) (q_as _ rfl (run_nil (⟨k + 1, by omega, ⟨by omega, by omega, ?_⟩, le_same ⟨rfl, rfl, rfl, trivial⟩⟩)))))
      rw [jc, ea, eb]; simp [cmpT, hxy]
  · refine ok_exit (h2 _ ?_)
    refine ok_seq fun K11 h11 => ok_region rfl (q_mv _ rfl (q_lens st9 rfl (q_mv _ rfl (q_lens st9 rfl (q_call (f140_ok _ _) cl140 rfl rfl (q_as _ rfl (run_nil (h11 _ ?_))))))))
    refine ok_ret ⟨_, rfl, ?_⟩
    simp only [Bool.and_eq_false_iff, decide_eq_false_iff_not] at c6
    rw [jc, cmpT_len _ _ (c6.imp (fun c => List.drop_eq_nil_of_le (by omega)) fun c => List.drop_eq_nil_of_le (by omega))]
    have e : cmpN (a.size : Int) (b.size : Int) = cmpN ((a.size - k : Nat) : Int) ((b.size - k : Nat) : Int) := by unfold cmpN; (repeat split) <;> omega
    simp only [tupSV, List.length_drop, la, lb, e]

def nameB (s : ByteArray) : Bool := decide (1 ≤ s.size) && decide (s.size ≤ 40) && !digB (s.data.toList.headD 0) && s.data.toList.all wordB
theorem all_step {s : ByteArray} {p : UInt8 → Bool} {k : Nat} {c : UInt8} (hc : s.data.toList[k]? = some c) (h1 : (s.data.toList.take k).all p = true) (h2 : p c = true) : (s.data.toList.take (k + 1)).all p = true := by
  rw [List.take_add_one, hc, List.all_append]; simp [h1, h2]
theorem all_not {s : ByteArray} {p : UInt8 → Bool} {k : Nat} {c : UInt8} (hc : s.data.toList[k]? = some c) (h2 : p c = false) : s.data.toList.all p = false := by
  rw [Bool.eq_false_iff]; intro h; rw [List.all_eq_true] at h; rw [h c (List.mem_of_getElem? hc)] at h2; cases h2
theorem f171_ok (s : ByteArray) (hs : s.size ≤ 1048576) : PFn Tryz.prog 171 [str s] (bool (nameB s)) := by
  have ls := size_list s
  refine fn_ok' (n := 41) Tryz.func171 rfl rfl rfl (Nat.le_of_ble_eq_true rfl) rfl fun w0 O => ?_
  refine ok_seq fun K1 h1 => ok_region rfl (q_as _ rfl (run_nil (h1 _ ?_)))
  refine ok_seq fun K2 h2 => ?_
  have hd : ∀ h : 0 < s.size, s.data.toList[(0 : Int).toNat]? = some (s.data.toList.headD 0) := fun h => by
    have := bget' h
    cases hl : s.data.toList with
    | nil => rw [hl] at ls; simp at ls; omega
    | cons a l => simp
  refine ok_seq fun K3 h3 => ?_
  refine ok_region rfl (q_mv _ rfl (q_lens st9 rfl (q_bin _ _ _ rfl rfl rfl (q_mv _ rfl (q_or 3 3 rfl rfl rfl rfl rfl (fun hb11 =>
      q_mv _ rfl (q_lens st9 rfl (q_bin _ _ _ rfl rfl rfl (run_nil ⟨rfl, rfl, rfl, rfl⟩)))) (
    q_mv _ rfl (q_or 3 3 rfl rfl rfl rfl rfl (fun hb16 =>
      q_mv _ rfl (q_ix st9 rfl rfl (by omega) (bget (hd (by simp at hb16; omega))) (q_call (f222_ok _) cl222 rfl rfl (run_nil ⟨rfl, rfl, rfl, rfl⟩)))) (
    run_nil (h3 _ ?_)))))))))
  refine ok_cond rfl (fun c4 => ?_) (fun c4 => ?_)
  · refine ok_seq fun K5 h5 => ok_region rfl (q_as _ rfl (run_nil (h5 _ ?_)))
    refine ok_ret ⟨_, rfl, ?_⟩
    have : nameB s = false := by
      unfold nameB
      simp at c4 ⊢
      rcases c4 with c4 | c4
      · intro h1 h2; omega
      · intro h1 h2 h3; rw [h3] at c4; cases c4
    rw [this]; rfl
  · refine ok_skip (h2 _ ?_)
    simp at c4
    refine ok_seq fun K6 h6 => ?_
    refine ok_seq fun K7 h7 => ok_region rfl (q_as _ rfl (run_nil (h7 _ ?_)))
    refine ok_block ?_
    refine ok_loop (fun (k : Nat) => ⟨[(0, .sv (str s)), (3, .sv (int k))], []⟩) (fun k => (s.data.toList.take k).all wordB = true) (fun k => s.size - k) 0 rfl (le_same ⟨rfl, rfl, trivial⟩) (fun k J => ?_)
    refine ok_seq fun K8 h8 => ?_
    refine ok_seq fun K9 h9 => ok_region rfl (q_mv _ rfl (q_mv _ rfl (q_lens st9 rfl (q_bin _ _ _ rfl rfl rfl (run_nil (h9 _ ?_))))))
    refine ok_cond rfl (fun c10 => ?_) (fun c10 => ?_)
    · refine ok_skip (h8 _ ?_)
      have hk : k < s.size := by simpa using c10
      have hg := bget' hk
      generalize s.data.toList[k]'(by omega) = c at hg
      refine ok_seq fun K11 h11 => ?_
      refine ok_block ?_
      refine ok_seq fun K12 h12 => ?_
      refine ok_region rfl (q_mv _ rfl (q_mv _ rfl (q_ix st9 rfl rfl (by omega) (bget hg) (q_call (f223_ok _) cl223 rfl rfl (q_un _ _ rfl rfl (q_mv _ rfl (q_and 5 5 rfl rfl rfl rfl rfl (fun hb34 =>
          q_mv _ rfl (q_mv _ rfl (q_ix st9 rfl rfl (by omega) (bget hg) (q_call (f222_ok _) cl222 rfl rfl (q_un _ _ rfl rfl (run_nil ⟨rfl, rfl, rfl, rfl⟩)))))) (
        q_mv _ rfl (q_and 4 4 rfl rfl rfl rfl rfl (fun hb40 =>
          q_mv _ rfl (q_mv _ rfl (q_ix st9 rfl rfl (by omega) (bget hg) (q_bin _ _ _ rfl rfl rfl (run_nil ⟨rfl, rfl, rfl, rfl⟩))))) (
        run_nil (h12 _ ?_)))))))))))
      have hw : wordB c = !((!letB c && !digB c) && decide ((c.toNat : Int) ≠ 95)) := by unfold wordB; cases letB c <;> cases digB c <;> by_cases h : (c.toNat : Int) = 95 <;> simp [h]
      refine ok_cond rfl (fun c13 => ?_) (fun c13 => ?_)
      · refine ok_seq fun K14 h14 => ok_region rfl (q_as _ rfl (run_nil (h14 _ ?_)))
        refine ok_ret ⟨_, rfl, ?_⟩
        rw [c13] at hw
        have := all_not hg hw
        simp [tupSV, nameB, this]
      · refine ok_skip (h11 _ ?_)
        rw [c13] at hw
        exact ok_region rfl (q_mv _ rfl (q_add rfl rfl (by omega) (q_as _ rfl (run_nil (⟨k + 1, by omega, all_step hg J hw, le_same ⟨rfl, rfl, trivial⟩⟩)))))
    · refine ok_exit (h6 _ ?_)
      refine ok_seq fun K15 h15 => ok_region rfl (q_as _ rfl (run_nil (h15 _ ?_)))
      refine ok_ret ⟨_, rfl, ?_⟩
      have hk : s.size ≤ k := by simpa using c10
      rw [List.take_of_length_le (by omega)] at J
      have e1 : 1 ≤ s.size := by omega
      have e2 : s.size ≤ 40 := by omega
      simp [tupSV, nameB, J, c4, e1, e2]
end Go.Ring

namespace Go.Ring
open Go Go.RowKit Go.Eager Go.Abs Go.Proofs
set_option maxRecDepth 100000
set_option linter.unusedVariables false
set_option linter.unusedSimpArgs false
theorem iget {xs : List Int} {i : Nat} {x : Int} (h : xs[i]? = some x) : (xs.map int)[i]? = some (int x) := by rw [List.getElem?_map, h]; rfl
theorem iget' {xs : List Int} {i : Nat} (h : i < xs.length) : xs[i]? = some (xs.getD i 0) := by rw [List.getD_eq_getElem?_getD, List.getElem?_eq_getElem h]; rfl
theorem f195_ok (s : ByteArray) (hs : s.size ≤ 1048576) : PFn Tryz.prog 195 [str s] (bool (nameB s)) := by
  have ls := size_list s
  refine fn_ok' (n := 27) Tryz.func195 rfl rfl rfl (Nat.le_of_ble_eq_true rfl) rfl fun w0 O => ?_
  refine ok_seq fun K1 h1 => ok_region rfl (q_as _ rfl (run_nil (h1 _ ?_)))
  refine ok_seq fun K2 h2 => ?_
  have hd : ∀ h : 0 < s.size, s.data.toList[(0 : Int).toNat]? = some (s.data.toList.headD 0) := fun h => by
    have := bget' h
    cases hl : s.data.toList with
    | nil => rw [hl] at ls; simp at ls; omega
    | cons a l => simp
  have he : decide (s.data.toList = (ByteArray.mk #[]).data.toList) = decide (s.size = 0) := by rw [decide_eq_decide, ← ls, List.length_eq_zero_iff]
  refine ok_seq fun K3 h3 => ?_
  refine ok_region rfl (q_mv _ rfl (q_bin _ _ _ rfl rfl rfl (q_mv _ rfl (q_or 3 3 rfl rfl rfl rfl rfl (fun hb10 =>
      q_mv _ rfl (q_lens st9 rfl (q_bin _ _ _ rfl rfl rfl (run_nil ⟨rfl, rfl, rfl, rfl⟩)))) (
    q_mv _ rfl (q_or 3 3 rfl rfl rfl rfl rfl (fun hb15 =>
      q_mv _ rfl (q_ix st9 rfl rfl (by omega) (bget (hd (by rw [he] at hb15; simp only [Bool.or_eq_false_iff, decide_eq_false_iff_not] at hb15; omega))) (q_call (f239_ok _) cl239 rfl rfl (run_nil ⟨rfl, rfl, rfl, rfl⟩)))) (
    run_nil (h3 _ ?_))))))))
  refine ok_cond rfl (fun c4 => ?_) (fun c4 => ?_)
  · refine ok_seq fun K5 h5 => ok_region rfl (q_as _ rfl (run_nil (h5 _ ?_)))
    refine ok_ret ⟨_, rfl, ?_⟩
    have : nameB s = false := by
      unfold nameB
      rw [he] at c4
      simp only [Bool.or_eq_true, decide_eq_true_eq] at c4
      rcases c4 with (c4 | c4) | c4
      · rw [decide_eq_false (show ¬ 1 ≤ s.size by omega)]; rfl
      · rw [decide_eq_false (show ¬ s.size ≤ 40 by omega)]; simp
      · rw [c4]; simp
    rw [this]; rfl
  · refine ok_skip (h2 _ ?_)
    rw [he] at c4
    simp only [Bool.or_eq_false_iff, decide_eq_false_iff_not] at c4
    refine ok_seq fun K6 h6 => ?_
    refine ok_seq fun K7 h7 => ok_region rfl (q_mv _ rfl (q_lens st9 rfl (q_mv _ rfl (run_nil (h7 _ ?_)))))
    refine ok_block ?_
    refine ok_loop (fun (k : Nat) => ⟨[(0, .sv (str s)), (17, .sv (int s.size)), (18, .sv (int k))], []⟩) (fun k => (s.data.toList.take k).all wordB = true) (fun k => s.size - k) 0 rfl (le_same ⟨rfl, rfl, rfl, trivial⟩) (fun k J => ?_)
    refine ok_seq fun K8 h8 => ok_region rfl (q_bin _ _ _ rfl rfl rfl (run_nil (h8 _ ?_)))
    refine ok_seq fun K9 h9 => ?_
    refine ok_cond rfl (fun c10 => ?_) (fun c10 => ?_)
    · refine ok_skip (h9 _ ?_)
      have hk : k < s.size := by simpa using c10
      have hg := bget' hk
      generalize s.data.toList[k]'(by omega) = c at hg
      refine ok_seq fun K11 h11 => ?_
      refine ok_block ?_
      refine ok_seq fun K12 h12 => ok_region rfl (q_mv _ rfl (q_as _ rfl (run_nil (h12 _ ?_))))
      refine ok_seq fun K13 h13 => ok_region rfl (q_mv _ rfl (q_mv _ rfl (q_ix st9 rfl rfl (by omega) (bget hg) (q_call (f240_ok _) cl240 rfl rfl (q_un _ _ rfl rfl (run_nil (h13 _ ?_)))))))
      refine ok_cond rfl (fun c14 => ?_) (fun c14 => ?_)
      · refine ok_seq fun K15 h15 => ok_region rfl (q_as _ rfl (run_nil (h15 _ ?_)))
        refine ok_ret ⟨_, rfl, ?_⟩
        have := all_not hg (p := wordB) (by simpa using c14)
        simp [tupSV, nameB, this]
      · refine ok_skip (h11 _ ?_)
        exact ok_region rfl (q_add rfl rfl (by omega) (q_mv _ rfl (run_nil (⟨k + 1, by omega, all_step hg J (by simpa using c14), le_same ⟨rfl, rfl, rfl, trivial⟩⟩))))
    · refine ok_exit (h6 _ ?_)
      refine ok_seq fun K16 h16 => ok_region rfl (q_as _ rfl (run_nil (h16 _ ?_)))
      refine ok_ret ⟨_, rfl, ?_⟩
      have hk : s.size ≤ k := by simpa using c10
      rw [List.take_of_length_le (by omega)] at J
      have e1 : 1 ≤ s.size := by omega
      have e2 : s.size ≤ 40 := by omega
      rw [show nameB s = true by unfold nameB; rw [decide_eq_true e1, decide_eq_true e2, c4.2, J]; rfl]; rfl
def Ris (xs : List Int) : Prop := ∀ i, 0 < i → i < xs.length → xs.getD (i - 1) 0 < xs.getD i 0
open Classical in
noncomputable def risB (xs : List Int) : Bool := decide (Ris xs)
theorem risB_true {xs : List Int} (h : Ris xs) : risB xs = true := by simp [risB, h]
theorem risB_false {xs : List Int} (h : ¬ Ris xs) : risB xs = false := by simp [risB, h]
theorem f199_ok (xs : List Int) (hx : xs.length ≤ 1048576) : PFn Tryz.prog 199 [ints xs] (bool (risB xs && decide (xs.length ≤ 1000))) := by
  refine fn_ok' (n := 27) Tryz.func199 rfl rfl rfl (Nat.le_of_ble_eq_true rfl) rfl fun w0 O => ?_
  refine ok_seq fun K1 h1 => ok_region rfl (q_as _ rfl (run_nil (h1 _ ?_)))
  refine ok_seq fun K2 h2 => ?_
  have hl : (xs.map int).length = xs.length := by simp
  refine ok_seq fun K3 h3 => ok_region rfl (q_mv _ rfl (q_len eS40 rfl (q_mv _ rfl (run_nil (h3 _ ?_)))))
  rw [hl]
  refine ok_block ?_
  refine ok_loop (fun (k : Nat) => ⟨[(0, .sv (ints xs)), (5, .sv (int xs.length)), (6, .sv (int k))], []⟩) (fun k => ∀ i, 0 < i → i < k → xs.getD (i - 1) 0 < xs.getD i 0) (fun k => xs.length - k) 0 (fun i h1 h2 => by omega) (le_same ⟨rfl, rfl, rfl, trivial⟩) (fun k J => ?_)
  refine ok_seq fun K4 h4 => ok_region rfl (q_bin _ _ _ rfl rfl rfl (run_nil (h4 _ ?_)))
  refine ok_seq fun K5 h5 => ?_
  refine ok_cond rfl (fun c6 => ?_) (fun c6 => ?_)
  · refine ok_skip (h5 _ ?_)
    have hk : k < xs.length := by simpa using c6
    refine ok_seq fun K7 h7 => ?_
    refine ok_block ?_
    refine ok_seq fun K8 h8 => ok_region rfl (q_mv _ rfl (q_as _ rfl (run_nil (h8 _ ?_))))
    refine ok_seq fun K9 h9 => ?_
    refine ok_region_d [0, 0, 0, 0, 0, 0, 0, 1, 0, 0, 0, 1, 0, 0] #[[], [0], [0, 1], [0, 1, 2], [0, 1, 2], [0, 1, 2, 4], [0, 1, 2, 3, 4, 5], [0, 1, 2, 3, 4, 5, 6], [0, 1, 2], [0, 1, 2], [0, 1, 2, 8, 9], [0, 1, 2, 8, 9, 10], [0, 1, 2, 3, 4, 5, 6, 7, 8, 9, 10, 11], [0, 1, 2, 3, 4, 5, 6, 7, 8, 9, 10, 11, 12]] [0, 1, 2, 3, 4, 5, 6, 7, 8, 9, 10, 11, 12, 13] (by kernel_rfl) (by kernel_rfl) rfl rfl (
      q_mv _ rfl (q_bin _ _ _ rfl rfl rfl (q_mv _ rfl (q_and 10 10 rfl rfl rfl rfl rfl (fun hb22 =>
        q_mv _ rfl (q_mv _ rfl (q_sub rfl rfl (by omega) (q_ia (s := int (xs.getD (k - 1) 0)) el40 rfl rfl (by have := of_decide_eq_true hb22; omega) (by rw [show ((k : Int) - 1).toNat = k - 1 by omega]; exact iget (iget' (by omega))) (q_ld _ ag3 rfl rfl (q_mv _ rfl (q_mv _ rfl (q_ia (s := int (xs.getD k 0)) el40 rfl rfl (by omega) (iget (iget' hk)) (
        q_ld _ ag3 rfl rfl (q_bin _ _ _ rfl rfl rfl (run_nil ⟨rfl, rfl, rfl, rfl⟩))))))))))) (
      run_nil (h9 _ ?_))))))
    refine ok_cond rfl (fun c10 => ?_) (fun c10 => ?_)
    · refine ok_seq fun K11 h11 => ok_region rfl (q_as _ rfl (run_nil (h11 _ ?_)))
      refine ok_ret ⟨_, rfl, ?_⟩
      simp only [Bool.and_eq_true, decide_eq_true_eq] at c10
      rw [risB_false fun h => by have := h k (by omega) hk; omega]; rfl
    · refine ok_skip (h7 _ ?_)
      refine ok_region rfl (q_add rfl rfl (by omega) (q_mv _ rfl (run_nil (⟨k + 1, by omega, fun i h1 h2 => ?_, le_same ⟨rfl, rfl, rfl, trivial⟩⟩))))
      rcases Nat.lt_or_ge i k with h | h
      · exact J i h1 h
      · obtain rfl : i = k := by omega
        simp only [Bool.and_eq_false_iff, decide_eq_false_iff_not] at c10
        omega
  · refine ok_exit (h2 _ ?_)
    have hk : xs.length ≤ k := by simpa using c6
    refine ok_seq fun K12 h12 => ok_region rfl (q_mv _ rfl (q_len eS40 rfl (q_bin _ _ _ rfl rfl rfl (q_as _ rfl (run_nil (h12 _ ?_))))))
    refine ok_ret ⟨_, rfl, ?_⟩
    rw [risB_true fun i h1 h2 => J i h1 (by omega)]
    simp [tupSV]
    omega
theorem f196_ok (xs : List Int) (hx : xs.length ≤ 1048576) : PFn Tryz.prog 196 [ints xs] (bool (risB xs)) := by
  refine fn_ok' (n := 20) Tryz.func196 rfl rfl rfl (Nat.le_of_ble_eq_true rfl) rfl fun w0 O => ?_
  refine ok_seq fun K1 h1 => ok_region rfl (q_as _ rfl (run_nil (h1 _ ?_)))
  refine ok_seq fun K2 h2 => ?_
  have hl : (xs.map int).length = xs.length := by simp
  refine ok_seq fun K3 h3 => ok_region rfl (q_as _ rfl (run_nil (h3 _ ?_)))
  refine ok_block ?_
  refine ok_loop (fun (k : Nat) => ⟨[(0, .sv (ints xs)), (3, .sv (int k))], []⟩) (fun k => 1 ≤ k ∧ ∀ i, 0 < i → i < k → xs.getD (i - 1) 0 < xs.getD i 0) (fun k => xs.length - k) 1 ⟨Nat.le_refl _, fun i h1 h2 => by omega⟩ (le_same ⟨rfl, rfl, trivial⟩) (fun k J => ?_)
  obtain ⟨hk1, J⟩ := J
  refine ok_seq fun K4 h4 => ?_
  refine ok_seq fun K5 h5 => ok_region rfl (q_mv _ rfl (q_mv _ rfl (q_len eS40 rfl (q_bin _ _ _ rfl rfl rfl (run_nil (h5 _ ?_))))))
  refine ok_cond rfl (fun c6 => ?_) (fun c6 => ?_)
  · refine ok_skip (h4 _ ?_)
    have hk : k < xs.length := by simpa [hl] using c6
    refine ok_seq fun K7 h7 => ?_
    refine ok_block ?_
    refine ok_seq fun K8 h8 => ?_
    refine ok_region_d [0, 0, 0, 0, 1, 0, 0, 0, 1, 0] #[[], [], [1], [0, 1, 2], [0, 1, 2, 3], [], [], [5, 6], [5, 6, 7], [0, 1, 2, 3, 4, 5, 6, 7, 8]] [0, 1, 2, 3, 4, 5, 6, 7, 8, 9] (by kernel_rfl) (by kernel_rfl) rfl rfl (
      q_mv _ rfl (q_mv _ rfl (q_sub rfl rfl (by omega) (q_ia (s := int (xs.getD (k - 1) 0)) el40 rfl rfl (by omega) (by rw [show ((k : Int) - 1).toNat = k - 1 by omega]; exact iget (iget' (by omega))) (q_ld _ ag3 rfl rfl (q_mv _ rfl (q_mv _ rfl (q_ia (s := int (xs.getD k 0)) el40 rfl rfl (by omega) (iget (iget' hk)) (
      q_ld _ ag3 rfl rfl (q_bin _ _ _ rfl rfl rfl (run_nil (h8 _ ?_))))))))))))
    refine ok_cond rfl (fun c9 => ?_) (fun c9 => ?_)
    · refine ok_seq fun K10 h10 => ok_region rfl (q_as _ rfl (run_nil (h10 _ ?_)))
      refine ok_ret ⟨_, rfl, ?_⟩
      have c := of_decide_eq_true c9
      rw [risB_false fun h => by have := h k (by omega) hk; omega]; rfl
    · refine ok_skip (h7 _ ?_)
      refine ok_region rfl (q_mv _ rfl (q_add rfl rfl (by omega) (q_as _ rfl (run_nil (⟨k + 1, by omega, ⟨by omega, fun i h1 h2 => ?_⟩, le_same ⟨rfl, rfl, trivial⟩⟩)))))
      rcases Nat.lt_or_ge i k with h | h
      · exact J i h1 h
      · obtain rfl : i = k := by omega
        have c := of_decide_eq_false c9
        omega
  · refine ok_exit (h2 _ ?_)
    have hk : xs.length ≤ k := by simpa [hl] using c6
    refine ok_seq fun K11 h11 => ok_region rfl (q_as _ rfl (run_nil (h11 _ ?_)))
    refine ok_ret ⟨_, rfl, ?_⟩
    rw [risB_true fun i h1 h2 => J i h1 (by omega)]; rfl
end Go.Ring

namespace Go.Ring
open Go Go.RowKit Go.Eager Go.Abs Go.Proofs
set_option maxRecDepth 100000
set_option linter.unusedVariables false
set_option linter.unusedSimpArgs false
def NodeOk (n : RingNode) : Prop := nameB n.id = true ∧ 1 ≤ n.st ∧ n.st ≤ 3 ∧ 1 ≤ n.toks.length ∧ n.toks.length ≤ 16 ∧ Ris n.toks ∧ ∀ t ∈ n.toks, 0 ≤ t ∧ t < 2147483648
def At (r : Ring) (i : Nat) (n : RingNode) : Prop := NodeOk n ∧ (∀ p, 0 < i → r.nodes[i - 1]? = some p → cmpT p.id.data.toList n.id.data.toList < 0) ∧ ∀ j p, j < i → r.nodes[j]? = some p → ∀ t ∈ n.toks, t ∉ p.toks
def GoodR (r : Ring) : Prop := 1 ≤ r.copies ∧ r.copies ≤ 5 ∧ r.nodes.length ≤ 20 ∧ ∀ i n, r.nodes[i]? = some n → At r i n

theorem ris_le {xs : List Int} (h : Ris xs) : ∀ (j i : Nat), i ≤ j → j < xs.length → xs.getD i 0 ≤ xs.getD j 0
  | 0, i, hij, _ => by obtain rfl : i = 0 := by omega
                       exact Int.le_refl _
  | j + 1, i, hij, hj => by
    by_cases e : i = j + 1
    · subst e; exact Int.le_refl _
    · have := ris_le h j i (by omega) (by omega)
      have h2 := h (j + 1) (by omega) hj
      simp only [Nat.add_sub_cancel] at h2
      omega
theorem f141_ok (n : RingNode) (hn : SRingNode n) : PFn Tryz.prog 141 [eRingNode n] (bool (pB (NodeOk n))) := by
  obtain ⟨hn1, hn2⟩ := hn
  refine fn_ok' (n := 51) Tryz.func141 rfl rfl rfl (Nat.le_of_ble_eq_true rfl) rfl fun w0 O => ?_
  refine ok_seq fun K1 h1 => ok_region rfl (q_boxs _ rfl (Nat.zero_lt_succ _) (q_as _ rfl (run_nil (h1 _ ?_))))
  have hl : (n.toks.map int).length = n.toks.length := by simp
  refine ok_seq fun K2 h2 => ?_
  refine ok_seq fun K3 h3 => ?_
  refine ok_region rfl (q_fa _ fd45_0 rfl rfl (by decide) (q_ld _ ag9 rfl rfl (q_call (f171_ok _ hn1) cl171 rfl rfl (q_un _ _ rfl rfl (q_mv _ rfl (q_or 3 3 rfl rfl rfl rfl rfl (fun hb11 =>
      q_fa _ fd45_1 rfl rfl (by decide) (q_ld _ ag3 rfl rfl (q_bin _ _ _ rfl rfl rfl (run_nil ⟨rfl, rfl, rfl, rfl⟩)))) (
    q_mv _ rfl (q_or 3 3 rfl rfl rfl rfl rfl (fun hb16 =>
      q_fa _ fd45_1 rfl rfl (by decide) (q_ld _ ag3 rfl rfl (q_bin _ _ _ rfl rfl rfl (run_nil ⟨rfl, rfl, rfl, rfl⟩)))) (
    q_mv _ rfl (q_or 4 4 rfl rfl rfl rfl rfl (fun hb22 =>
      q_fa _ fd45_2 rfl rfl (by decide) (q_ld _ ag40 rfl rfl (q_len eS40 rfl (q_bin _ _ _ rfl rfl rfl (run_nil ⟨rfl, rfl, rfl, rfl⟩))))) (
    q_mv _ rfl (q_or 4 4 rfl rfl rfl rfl rfl (fun hb28 =>
      q_fa _ fd45_2 rfl rfl (by decide) (q_ld _ ag40 rfl rfl (q_len eS40 rfl (q_bin _ _ _ rfl rfl rfl (run_nil ⟨rfl, rfl, rfl, rfl⟩))))) (
    q_mv _ rfl (q_or 4 4 rfl rfl rfl rfl rfl (fun hb34 =>
      q_fa _ fd45_2 rfl rfl (by decide) (q_ld _ ag40 rfl rfl (q_call (f199_ok _ hn2) cl199 rfl rfl (q_un _ _ rfl rfl (run_nil ⟨rfl, rfl, rfl, rfl⟩))))) (
    run_nil (h3 _ ?_))))))))))))))))
  refine ok_cond rfl (fun c4 => ?_) (fun c4 => ?_)
  · refine ok_seq fun K5 h5 => ok_region rfl (q_as _ rfl (run_nil (h5 _ ?_)))
    refine ok_ret ⟨_, rfl, ?_⟩
    rw [pB_false]; · rfl
    rintro ⟨a1, a2, a3, a4, a5, a6, a7⟩
    rw [a1, risB_true a6, hl] at c4
    simp only [Bool.not_true, Bool.false_or, Bool.true_and, Bool.or_eq_true, decide_eq_true_eq, Bool.not_eq_true', decide_eq_false_iff_not] at c4
    omega
  · refine ok_skip (h2 _ ?_)
    simp only [Bool.or_eq_false_iff, decide_eq_false_iff_not, Bool.not_eq_false', Bool.and_eq_true, decide_eq_true_eq, hl] at c4
    obtain ⟨⟨⟨⟨⟨a1, a2⟩, a3⟩, a4⟩, a5⟩, a6, _⟩ := c4
    have a6' : Ris n.toks := by simpa [risB] using a6
    have a4' : 1 ≤ n.toks.length := by omega
    refine ok_seq fun K6 h6 => ?_
    refine ok_region rfl (q_fa _ fd45_2 rfl rfl (by decide) (q_ld _ ag40 rfl rfl (q_ia (s := int (n.toks.getD 0 0)) el40 rfl rfl (by omega) (iget (iget' a4')) (q_ld _ ag3 rfl rfl (q_bin _ _ _ rfl rfl rfl (q_mv _ rfl (q_and 9 9 rfl rfl rfl rfl rfl (fun hb50 =>
        q_fa _ fd45_2 rfl rfl (by decide) (q_ld _ ag40 rfl rfl (q_fa _ fd45_2 rfl rfl (by decide) (q_ld _ ag40 rfl rfl (q_len eS40 rfl (q_sub rfl rfl (by omega) (q_ia (s := int (n.toks.getD (n.toks.length - 1) 0)) el40 rfl rfl (by omega) (by rw [hl, show ((n.toks.length : Int) - 1).toNat = n.toks.length - 1 by omega]; exact iget (iget' (by omega))) (
        q_ld _ ag3 rfl rfl (q_bin _ _ _ rfl rfl rfl (run_nil ⟨rfl, rfl, rfl, rfl⟩)))))))))) (
      q_as _ rfl (run_nil (h6 _ ?_))))))))))
    refine ok_ret ⟨_, rfl, ?_⟩
    have e : (decide (0 ≤ n.toks.getD 0 0) && decide (n.toks.getD (n.toks.length - 1) 0 < 2147483648)) = pB (NodeOk n) := by
      rw [Bool.eq_iff_iff]
      simp only [Bool.and_eq_true, decide_eq_true_eq, pB]
      constructor
      · rintro ⟨b1, b2⟩
        refine ⟨a1, by omega, by omega, a4', by omega, a6', fun t ht => ?_⟩
        obtain ⟨i, hi⟩ := List.getElem?_of_mem ht
        have hlt := (List.getElem?_eq_some_iff.1 hi).1
        have e1 : n.toks.getD i 0 = t := by rw [List.getD_eq_getElem?_getD, hi]; rfl
        have := ris_le a6' i 0 (by omega) hlt
        have := ris_le a6' (n.toks.length - 1) i (by omega) (by omega)
        omega
      · rintro ⟨_, _, _, _, _, _, a7⟩
        have g : ∀ i, i < n.toks.length → n.toks.getD i 0 ∈ n.toks := fun i hi => List.mem_of_getElem? (iget' hi)
        exact ⟨(a7 _ (g 0 a4')).1, (a7 _ (g _ (by omega))).2⟩
    rw [← e]; rfl
end Go.Ring

namespace Go.Ring
open Go Go.RowKit Go.Eager Go.Abs Go.Proofs
set_option maxRecDepth 100000
set_option linter.unusedVariables false
set_option linter.unusedSimpArgs false
theorem f125_ok (xs : List Int) (x : Int) (hx : xs.length ≤ 1048576) : PFn Tryz.prog 125 [ints xs, int x] (bool (decide (x ∈ xs))) := by
  refine fn_ok' (n := 17) Tryz.func125 rfl rfl rfl (Nat.le_of_ble_eq_true rfl) rfl fun w0 O => ?_
  refine ok_seq fun K0 h0 => ok_region rfl (q_as _ rfl (run_nil (h0 _ ?_)))
  refine ok_seq fun K1 h1 => ?_
  refine ok_seq fun K2 h2 => ok_region rfl (q_mv _ rfl (q_len eS40 rfl (q_mv _ rfl (run_nil (h2 _ ?_)))))
  rw [List.length_map]
  refine ok_block ?_
  refine ok_loop (fun (k : Nat) => ⟨[(0, .sv (ints xs)), (1, .sv (int x)), (7, .sv (ints xs)), (8, .sv (int xs.length)), (9, .sv (int k))], []⟩) (fun k => x ∉ xs.take k) (fun k => xs.length - k) 0 (by simp) (le_same ⟨rfl, rfl, rfl, rfl, rfl, trivial⟩) (fun k J => ?_)
  refine ok_seq fun K3 h3 => ok_region rfl (q_bin _ _ _ rfl rfl rfl (run_nil (h3 _ ?_)))
  refine ok_seq fun K4 h4 => ok_cond rfl (fun c1 => ok_skip (h4 _ ?_)) (fun c1 => ok_exit (h1 _ ?_)) <;> skip
  · have hk : k < xs.length := by simpa using c1
    refine ok_seq fun K5 h5 => ok_block ?_
    refine ok_seq fun K6 h6 => ok_region rfl (q_ia (s := int (xs.getD k 0)) el40 rfl rfl (by omega) (iget (iget' hk)) (q_ld _ ag3 rfl rfl (q_as _ rfl (run_nil (h6 _ ?_)))))
    refine ok_seq fun K6 h6 => ok_region rfl (q_mv _ rfl (q_mv _ rfl (q_bin _ _ _ rfl rfl rfl (run_nil (h6 _ ?_)))))
    refine ok_cond rfl (fun c2 => ?_) (fun c2 => ok_skip (h5 _ ?_))
    · refine ok_seq fun K6 h6 => ok_region rfl (q_as _ rfl (run_nil (h6 _ ?_)))
      refine ok_ret ⟨_, rfl, ?_⟩
      have : x ∈ xs := by rw [← of_decide_eq_true c2]; exact List.mem_of_getElem? (iget' hk)
      simp [tupSV, this]
    · skip
      refine ok_region rfl (q_add rfl rfl (by omega) (q_mv _ rfl (run_nil ?_)))
      have hne := of_decide_eq_false c2
      refine ⟨k + 1, by omega, ?_, le_same ⟨rfl, rfl, rfl, rfl, rfl, trivial⟩⟩
      rw [List.take_add_one, iget' hk, List.mem_append, not_or]
      exact ⟨J, by simpa using Ne.symm hne⟩
  · refine ok_seq fun K6 h6 => ok_region rfl (q_as _ rfl (run_nil (h6 _ ?_)))
    refine ok_ret ⟨_, rfl, ?_⟩
    have hk : xs.length ≤ k := by simpa using c1
    rw [List.take_of_length_le hk] at J
    simp [tupSV, J]
theorem f68_ok (r : Ring) (hr : SRing r) : PFn Tryz.prog 68 [eRing r] (bool (pB (GoodR r))) := by
  obtain ⟨hr1, hr2⟩ := hr
  have hsm : ∀ {i : Nat} {n : RingNode}, r.nodes[i]? = some n → SRingNode n := fun h => hr2 _ (List.mem_of_getElem? h)
  have hl : (r.nodes.map eRingNode).length = r.nodes.length := by simp
  refine fn_ok' (n := 74) Tryz.func68 rfl rfl rfl (Nat.le_of_ble_eq_true rfl) rfl fun w0 O => ?_
  refine ok_seq fun K1 h1 => ok_region rfl (q_boxs _ rfl (Nat.zero_lt_succ _) (q_as _ rfl (run_nil (h1 _ ?_))))
  refine ok_seq fun K2 h2 => ?_
  refine ok_seq fun K3 h3 => ?_
  refine ok_region rfl (q_fa _ fd31_0 rfl rfl (by decide) (q_ld _ ag3 rfl rfl (q_bin _ _ _ rfl rfl rfl (q_mv _ rfl (q_or 3 3 rfl rfl rfl rfl rfl (fun hb16 =>
      q_fa _ fd31_0 rfl rfl (by decide) (q_ld _ ag3 rfl rfl (q_bin _ _ _ rfl rfl rfl (run_nil ⟨rfl, rfl, rfl, rfl⟩)))) (
    q_mv _ rfl (q_or 4 4 rfl rfl rfl rfl rfl (fun hb22 =>
      q_fa _ fd31_1 rfl rfl (by decide) (q_ld _ ag29 rfl rfl (q_len eS29 rfl (q_bin _ _ _ rfl rfl rfl (run_nil ⟨rfl, rfl, rfl, rfl⟩))))) (
    run_nil (h3 _ ?_)))))))))
  refine ok_cond rfl (fun c4 => ?_) (fun c4 => ?_)
  · refine ok_seq fun K5 h5 => ok_region rfl (q_as _ rfl (run_nil (h5 _ ?_)))
    refine ok_ret ⟨_, rfl, ?_⟩
    rw [pB_false]; · rfl
    rintro ⟨a1, a2, a3, _⟩
    simp only [Bool.or_eq_true, decide_eq_true_eq, hl] at c4
    omega
  · refine ok_skip (h2 _ ?_)
    simp only [Bool.or_eq_false_iff, decide_eq_false_iff_not, hl] at c4
    obtain ⟨⟨a1, a2⟩, a3⟩ := c4
    refine ok_seq fun K6 h6 => ?_
    refine ok_seq fun K7 h7 => ok_region rfl (q_fa _ fd31_1 rfl rfl (by decide) (q_ld _ ag29 rfl rfl (q_len eS29 rfl (q_mv _ rfl (run_nil (h7 _ ?_))))))
    rw [hl]
    refine ok_block ?_
    refine ok_loop (fun (k : Nat) => ⟨[(1, .sv (.ptr (eRing r))), (24, .sv (.sl 3 (r.nodes.map eRingNode))), (25, .sv (int r.nodes.length)), (26, .sv (int k))], []⟩) (fun k => ∀ i n, i < k → r.nodes[i]? = some n → At r i n) (fun k => r.nodes.length - k) 0 (fun i n h => by omega) (le_same ⟨rfl, rfl, rfl, rfl, trivial⟩) (fun k J => ?_)
    refine ok_seq fun K8 h8 => ok_region rfl (q_bin _ _ _ rfl rfl rfl (run_nil (h8 _ ?_)))
    refine ok_seq fun K9 h9 => ?_
    refine ok_cond rfl (fun c10 => ?_) (fun c10 => ?_)
    · refine ok_skip (h9 _ ?_)
      have hk : k < r.nodes.length := by simpa using c10
      obtain ⟨n, hn⟩ : ∃ n, r.nodes[k]? = some n := ⟨_, List.getElem?_eq_getElem hk⟩
      obtain ⟨p, hp⟩ : ∃ p, 0 < k → r.nodes[k - 1]? = some p := ⟨r.nodes[k - 1]'(by omega), fun _ => List.getElem?_eq_getElem (by omega)⟩
      refine ok_seq fun K11 h11 => ?_
      refine ok_block ?_
      refine ok_seq fun K12 h12 => ok_region rfl (q_mv _ rfl (q_ia el29 rfl rfl (by omega) (mget hn) (q_lds _ ag45 rfl sz45 (q_alloc _ ze45 rfl rfl rfl rfl (q_as _ rfl (q_sts _ rfl rfl rfl sz45 (Nat.le_of_ble_eq_true rfl) rfl (run_nil (h12 _ ?_))))))))
      refine ok_seq fun K13 h13 => ?_
      refine ok_seq fun K14 h14 => ?_
      have hsn := hsm hn
      refine ok_region_i (by kernel_rfl) (by kernel_rfl) rfl (
        q_ldbs ag45 rfl rfl sz45 rfl rfl (q_call (f141_ok n hsn) cl141 rfl rfl (q_un _ _ rfl rfl (q_mv _ rfl (q_or 15 4 rfl rfl rfl rfl rfl (fun hb50 =>
          q_mv _ rfl (q_bin _ _ _ rfl rfl rfl (q_mv _ rfl (q_and 11 11 rfl rfl rfl rfl rfl (fun hb49 =>
            q_fa _ fd31_1 rfl rfl (by decide) (q_ld _ ag29 rfl rfl (q_mv _ rfl (q_sub rfl rfl (by omega) (q_ia (s := eRingNode p) el29 rfl rfl (by have := of_decide_eq_true hb49; omega) (by rw [show ((k : Int) - 1).toNat = k - 1 by omega]; exact mget (hp (by have := of_decide_eq_true hb49; omega))) (q_fa _ fd45_0 rfl rfl (by decide) (
            q_ld _ ag9 rfl rfl (q_fap fd45_0 rfl (by decide) (q_ldb _ ag9 rfl rfl rfl (q_call (f66_ok p.id n.id (hsm (hp (by have := of_decide_eq_true hb49; omega))).1 hsn.1) cl66 rfl rfl (q_bin _ _ _ rfl rfl rfl (run_nil ⟨rfl, rfl, rfl, rfl⟩)))))))))))) (
          run_nil ⟨rfl, rfl, rfl, rfl⟩))))) (
        run_nil (h14 _ ?_)))))))
      refine ok_cond rfl (fun c15 => ?_) (fun c15 => ?_)
      · refine ok_seq fun K16 h16 => ok_region rfl (q_as _ rfl (run_nil (h16 _ ?_)))
        refine ok_ret ⟨_, rfl, ?_⟩
        rw [pB_false]; · rfl
        rintro ⟨_, _, _, a4⟩
        obtain ⟨b1, b2, b3⟩ := a4 k n hn
        rw [pB_true b1] at c15
        simp only [Bool.not_true, Bool.false_or, Bool.and_eq_true, decide_eq_true_eq] at c15
        have := b2 p (by omega) (hp (by omega))
        omega
      · refine ok_skip (h13 _ ?_)
        simp only [Bool.or_eq_false_iff, Bool.not_eq_false', Bool.and_eq_false_iff, decide_eq_false_iff_not] at c15
        obtain ⟨b1, b2⟩ := c15
        have b1' : NodeOk n := by simpa [pB] using b1
        have b2' : ∀ q, 0 < k → r.nodes[k - 1]? = some q → cmpT q.id.data.toList n.id.data.toList < 0 := by
          intro q h0 hq
          rw [hp h0] at hq
          cases hq
          omega
        have e : ((r.nodes.map eRingNode).drop (0 : Int).toNat).take ((k : Int) - 0).toNat = (r.nodes.take k).map eRingNode := by simp [List.map_take]
        have e2 : (((r.nodes.take k).map eRingNode).length : Int) = k := by simp; omega
        refine ok_seq fun K17 h17 => ?_
        refine ok_region rfl (q_fa _ fd31_1 rfl rfl (by decide) (q_ld _ ag29 rfl rfl (q_mv _ rfl (q_sl _ _ el29 rfl (.inl ⟨rfl, rfl⟩) (.inr ⟨_, _, rfl, rfl⟩) (by omega) (by omega) (by rw [hl]; omega) (
          q_len eS29 rfl (q_mv _ rfl (run_nil (h17 _ ?_))))))))
        rw [e, e2]
        refine ok_block ?_
        refine ok_loop (fun (j : Nat) => ⟨[(1, .sv (.ptr (eRing r))), (4, .ptr 4 0), (24, .sv (.sl 3 (r.nodes.map eRingNode))), (25, .sv (int r.nodes.length)), (26, .sv (int k)), (54, .sv (.sl 3 ((r.nodes.take k).map eRingNode))), (55, .sv (int k)), (56, .sv (int j))], [(4, .box [.sv (str n.id), .sv (int n.st), .sv (ints n.toks)])]⟩)
          (fun j => ∀ i q, i < j → r.nodes[i]? = some q → ∀ t ∈ n.toks, t ∉ q.toks) (fun j => k - j) 0 (fun i q h => by omega) (le_sub ⟨rfl, rfl, rfl, rfl, rfl, rfl, rfl, rfl, trivial⟩ ⟨rfl, trivial⟩) (fun j J2 => ?_)
        refine ok_seq fun K18 h18 => ok_region rfl (q_bin _ _ _ rfl rfl rfl (run_nil (h18 _ ?_)))
        refine ok_seq fun K19 h19 => ?_
        refine ok_cond rfl (fun c20 => ?_) (fun c20 => ?_)
        · refine ok_skip (h19 _ ?_)
          have hj : j < k := by simpa using c20
          obtain ⟨q, hq⟩ : ∃ q, r.nodes[j]? = some q := ⟨_, List.getElem?_eq_getElem (by omega)⟩
          have hq' : (r.nodes.take k)[j]? = some q := by rw [List.getElem?_take, if_pos hj]; exact hq
          have hsq := hsm hq
          have hlt : (n.toks.map int).length = n.toks.length := by simp
          refine ok_seq fun K21 h21 => ?_
          refine ok_block ?_
          refine ok_seq fun K22 h22 => ok_region rfl (q_ia el29 rfl rfl (by omega) (mget hq') (q_lds _ ag45 rfl sz45 (q_alloc _ ze45 rfl rfl rfl rfl (q_sts _ rfl rfl rfl sz45 (Nat.le_of_ble_eq_true rfl) rfl (run_nil (h22 _ ?_))))))
          refine ok_seq fun K23 h23 => ok_region rfl (q_fap fd45_2 rfl (by decide) (q_ldb _ ag40 rfl rfl rfl (q_len eS40 rfl (q_mv _ rfl (run_nil (h23 _ ?_))))))
          rw [hlt]
          refine ok_block ?_
          refine ok_loop (fun (m : Nat) => ⟨[(1, .sv (.ptr (eRing r))), (4, .ptr 4 0), (6, .ptr 6 0), (24, .sv (.sl 3 (r.nodes.map eRingNode))), (25, .sv (int r.nodes.length)), (26, .sv (int k)), (54, .sv (.sl 3 ((r.nodes.take k).map eRingNode))), (55, .sv (int k)), (56, .sv (int j)), (61, .sv (ints n.toks)), (62, .sv (int n.toks.length)), (63, .sv (int m))], [(4, .box [.sv (str n.id), .sv (int n.st), .sv (ints n.toks)]), (6, .box [.sv (str q.id), .sv (int q.st), .sv (ints q.toks)])]⟩)
            (fun m => ∀ i, i < m → i < n.toks.length → n.toks.getD i 0 ∉ q.toks) (fun m => n.toks.length - m) 0 (fun i h => by omega) (le_sub ⟨rfl, rfl, rfl, rfl, rfl, rfl, rfl, rfl, rfl, rfl, rfl, rfl, trivial⟩ ⟨rfl, rfl, trivial⟩) (fun m J3 => ?_)
          refine ok_seq fun K24 h24 => ok_region rfl (q_bin _ _ _ rfl rfl rfl (run_nil (h24 _ ?_)))
          refine ok_seq fun K25 h25 => ?_
          refine ok_cond rfl (fun c26 => ?_) (fun c26 => ?_)
          · refine ok_skip (h25 _ ?_)
            have hm : m < n.toks.length := by simpa using c26
            have hnt := hsn.2
            refine ok_seq fun K27 h27 => ?_
            refine ok_block ?_
            refine ok_seq fun K28 h28 => ok_region rfl (q_ia (s := int (n.toks.getD m 0)) el40 rfl rfl (by omega) (iget (iget' hm)) (q_ld _ ag3 rfl rfl (q_as _ rfl (run_nil (h28 _ ?_)))))
            refine ok_seq fun K29 h29 => ok_region rfl (q_fap fd45_2 rfl (by decide) (q_ldb _ ag40 rfl rfl rfl (q_mv _ rfl (q_call (f125_ok q.toks (n.toks.getD m 0) hsq.2) cl125 rfl rfl (run_nil (h29 _ ?_))))))
            refine ok_cond rfl (fun c30 => ?_) (fun c30 => ?_)
            · refine ok_seq fun K31 h31 => ok_region rfl (q_as _ rfl (run_nil (h31 _ ?_)))
              refine ok_ret ⟨_, rfl, ?_⟩
              rw [pB_false]; · rfl
              rintro ⟨_, _, _, a4⟩
              exact (a4 k n hn).2.2 j q hj hq _ (List.mem_of_getElem? (iget' hm)) (of_decide_eq_true c30)
            · refine ok_skip (h27 _ ?_)
              refine ok_region rfl (q_add rfl rfl (by omega) (q_mv _ rfl (run_nil (⟨m + 1, by omega, fun i h1 h2 => ?_, le_sub ⟨rfl, rfl, rfl, rfl, rfl, rfl, rfl, rfl, rfl, rfl, rfl, rfl, trivial⟩ ⟨rfl, rfl, trivial⟩⟩))))
              rcases Nat.lt_or_ge i m with h | h
              · exact J3 i h h2
              · obtain rfl : i = m := by omega
                exact of_decide_eq_false c30
          · refine ok_exit (h21 _ ?_)
            have hm : n.toks.length ≤ m := by simpa using c26
            refine ok_region rfl (q_add rfl rfl (by omega) (q_mv _ rfl (run_nil (⟨j + 1, by omega, fun i q' h1 hq1 t ht => ?_, le_sub ⟨rfl, rfl, rfl, rfl, rfl, rfl, rfl, rfl, trivial⟩ ⟨rfl, trivial⟩⟩))))
            rcases Nat.lt_or_ge i j with h | h
            · exact J2 i q' h hq1 t ht
            · obtain rfl : i = j := by omega
              rw [hq] at hq1; cases hq1
              obtain ⟨x, hx⟩ := List.getElem?_of_mem ht
              have hxl := (List.getElem?_eq_some_iff.1 hx).1
              have e3 : n.toks.getD x 0 = t := by rw [List.getD_eq_getElem?_getD, hx]; rfl
              rw [← e3]; exact J3 x (by omega) hxl
        · refine ok_exit (h11 _ ?_)
          have hj : k ≤ j := by simpa using c20
          refine ok_region rfl (q_add rfl rfl (by omega) (q_mv _ rfl (run_nil (⟨k + 1, by omega, fun i n' h1 hn' => ?_, le_sub ⟨rfl, rfl, rfl, rfl, trivial⟩ trivial⟩))))
          rcases Nat.lt_or_ge i k with h | h
          · exact J i n' h hn'
          · obtain rfl : i = k := by omega
            rw [hn] at hn'; cases hn'
            exact ⟨b1', b2', fun i q h1 hq => J2 i q (by omega) hq⟩
    · refine ok_exit (h6 _ ?_)
      have hk : r.nodes.length ≤ k := by simpa using c10
      refine ok_seq fun K32 h32 => ok_region rfl (q_as _ rfl (run_nil (h32 _ ?_)))
      refine ok_ret ⟨_, rfl, ?_⟩
      rw [pB_true]; · rfl
      exact ⟨by omega, by omega, by omega, fun i n hn => J i n (by have := (List.getElem?_eq_some_iff.1 hn).1; omega) hn⟩
end Go.Ring

namespace Go.Ring
open Go Go.RowKit Go.Eager Go.Abs Go.Proofs
set_option maxRecDepth 100000
set_option linter.unusedVariables false
set_option linter.unusedSimpArgs false
theorem ris_lt {xs : List Int} (h : Ris xs) {i j : Nat} (hij : i < j) (hj : j < xs.length) : xs.getD i 0 < xs.getD j 0 := by
  have h1 := ris_le h (j - 1) i (by omega) (by omega)
  have h2 := h j (by omega) hj
  omega
theorem lookup_snoc (q x : Int) (v : Value) : ∀ es : List (Int × Value), (es ++ [(x, v)]).lookup q = match es.lookup q with | some u => some u | none => if q = x then some v else none
  | [] => by
    simp only [List.nil_append, List.lookup_cons, List.lookup_nil]
    by_cases h : q = x
    · subst h; simp
    · have : (q == x) = false := by simpa using h
      simp [this, h]
  | (y, u) :: es => by
    simp only [List.cons_append, List.lookup_cons, lookup_snoc q x v es]
    split <;> rfl
def MapIs (es : List (Int × Value)) (S : Int → Prop) : Prop := ∀ q, es.lookup q = if pB (S q) = true then some (.bool true) else none
theorem MapIs.get {es : List (Int × Value)} {S : Int → Prop} (h : MapIs es S) (q : Int) : (es.lookup q).getD (.bool false) = .bool (pB (S q)) := by
  rw [h q]; cases pB (S q) <;> rfl
theorem MapIs.none {es : List (Int × Value)} {S : Int → Prop} (h : MapIs es S) {q : Int} (hq : pB (S q) = false) : es.lookup q = none := by
  rw [h q, hq]; rfl
theorem MapIs.put {es : List (Int × Value)} {S : Int → Prop} (h : MapIs es S) (x : Int) : MapIs (es ++ [(x, .bool true)]) (fun q => S q ∨ q = x) := by
  intro q
  rw [lookup_snoc, h q]
  by_cases h1 : S q
  · rw [pB_true h1, pB_true (Or.inl h1)]; rfl
  · rw [pB_false h1]
    by_cases h2 : q = x
    · rw [pB_true (Or.inr h2)]; simp [h2]
    · rw [pB_false (fun h => h.elim h1 h2)]; simp [h2]
theorem MapIs.to {es : List (Int × Value)} {S S' : Int → Prop} (h : MapIs es S) (hs : ∀ q, S q ↔ S' q) : MapIs es S' := by
  intro q
  rw [h q, show pB (S q) = pB (S' q) by unfold pB; rw [decide_eq_decide]; exact hs q]
def Sn (r : Ring) (k : Nat) (q : Int) : Prop := ∃ i n, i < k ∧ r.nodes[i]? = some n ∧ q ∈ n.toks
theorem f129_ok (r : Ring) (hr : SRing r) : PFn Tryz.prog 129 [eRing r] (bool (pB (GoodR r))) := by
  obtain ⟨hr1, hr2⟩ := hr
  have hsm : ∀ {i : Nat} {n : RingNode}, r.nodes[i]? = some n → SRingNode n := fun h => hr2 _ (List.mem_of_getElem? h)
  have hl : (r.nodes.map eRingNode).length = r.nodes.length := by simp
  refine fn_ok' (n := 101) Tryz.func129 rfl rfl rfl (Nat.le_of_ble_eq_true rfl) rfl fun w0 O => ?_
  refine ok_seq fun K1 h1 => ok_region rfl (q_boxs _ rfl (Nat.zero_lt_succ _) (q_as _ rfl (run_nil (h1 _ ?_))))
  refine ok_seq fun K2 h2 => ?_
  refine ok_seq fun K3 h3 => ?_
  refine ok_region rfl (q_fa _ fd31_0 rfl rfl (by decide) (q_ld _ ag3 rfl rfl (q_bin _ _ _ rfl rfl rfl (q_mv _ rfl (q_or 3 3 rfl rfl rfl rfl rfl (fun hb15 =>
      q_fa _ fd31_0 rfl rfl (by decide) (q_ld _ ag3 rfl rfl (q_bin _ _ _ rfl rfl rfl (run_nil ⟨rfl, rfl, rfl, rfl⟩)))) (
    q_mv _ rfl (q_or 4 4 rfl rfl rfl rfl rfl (fun hb21 =>
      q_fa _ fd31_1 rfl rfl (by decide) (q_ld _ ag29 rfl rfl (q_len eS29 rfl (q_bin _ _ _ rfl rfl rfl (run_nil ⟨rfl, rfl, rfl, rfl⟩))))) (
    run_nil (h3 _ ?_)))))))))
  refine ok_cond rfl (fun c4 => ?_) (fun c4 => ?_)
  · refine ok_seq fun K5 h5 => ok_region rfl (q_as _ rfl (run_nil (h5 _ ?_)))
    refine ok_ret ⟨_, rfl, ?_⟩
    rw [pB_false]; · rfl
    rintro ⟨a1, a2, a3, _⟩
    simp only [Bool.or_eq_true, decide_eq_true_eq, hl] at c4
    omega
  · refine ok_skip (h2 _ ?_)
    simp only [Bool.or_eq_false_iff, decide_eq_false_iff_not, hl] at c4
    obtain ⟨⟨a1, a2⟩, a3⟩ := c4
    refine ok_seq fun K6 h6 => ok_region rfl (q_mmap mp209 rfl rfl (q_ao _ rfl (run_nil (h6 _ ?_))))
    refine ok_seq fun K7 h7 => ?_
    refine ok_seq fun K8 h8 => ok_region rfl (q_fa _ fd31_1 rfl rfl (by decide) (q_ld _ ag29 rfl rfl (q_len eS29 rfl (q_mv _ rfl (run_nil (h8 _ ?_))))))
    rw [hl]
    refine ok_block ?_
    refine ok_loop (fun (s : Nat × List (Int × Value)) => ⟨[(1, .sv (.ptr (eRing r))), (3, .own 22), (24, .sv (.sl 3 (r.nodes.map eRingNode))), (25, .sv (int r.nodes.length)), (26, .sv (int s.1))], [(22, .map .i64 s.2)]⟩)
      (fun s => (∀ i n, i < s.1 → r.nodes[i]? = some n → At r i n) ∧ MapIs s.2 (Sn r s.1)) (fun s => r.nodes.length - s.1) (0, []) ⟨fun i n h => by simp at h, fun q => by rw [pB_false (fun ⟨i, n, h, _⟩ => by simp at h)]; rfl⟩ (le_sub ⟨rfl, rfl, rfl, rfl, rfl, trivial⟩ ⟨rfl, trivial⟩) (fun s J => ?_)
    obtain ⟨k, es⟩ := s
    obtain ⟨J, JM⟩ := J
    simp only at J JM
    refine ok_seq fun K9 h9 => ok_region rfl (q_bin _ _ _ rfl rfl rfl (run_nil (h9 _ ?_)))
    refine ok_seq fun K10 h10 => ?_
    refine ok_cond rfl (fun c11 => ?_) (fun c11 => ?_)
    · refine ok_skip (h10 _ ?_)
      have hk : k < r.nodes.length := by simpa using c11
      obtain ⟨n, hn⟩ : ∃ n, r.nodes[k]? = some n := ⟨_, List.getElem?_eq_getElem hk⟩
      obtain ⟨p, hp⟩ : ∃ p, 0 < k → r.nodes[k - 1]? = some p := ⟨r.nodes[k - 1]'(by omega), fun _ => List.getElem?_eq_getElem (by omega)⟩
      have hsn := hsm hn
      have hlt : (n.toks.map int).length = n.toks.length := by simp
      refine ok_seq fun K12 h12 => ?_
      refine ok_block ?_
      refine ok_seq fun K13 h13 => ok_region rfl (q_mv _ rfl (q_ia el29 rfl rfl (by omega) (mget hn) (q_lds _ ag45 rfl sz45 (q_alloc _ ze45 rfl rfl rfl rfl (q_as _ rfl (q_sts _ rfl rfl rfl sz45 (Nat.le_of_ble_eq_true rfl) rfl (run_nil (h13 _ ?_))))))))
      refine ok_seq fun K14 h14 => ?_
      refine ok_seq fun K15 h15 => ?_
      refine ok_region_i (by kernel_rfl) (by kernel_rfl) rfl (
        q_fap fd45_0 rfl (by decide) (q_ldb _ ag9 rfl rfl rfl (q_call (f195_ok n.id hsn.1) cl195 rfl rfl (q_un _ _ rfl rfl (q_mv _ rfl (q_or 14 4 rfl rfl rfl rfl rfl (fun hb50 =>
          q_mv _ rfl (q_bin _ _ _ rfl rfl rfl (q_mv _ rfl (q_and 10 10 rfl rfl rfl rfl rfl (fun hb49 =>
            q_fa _ fd31_1 rfl rfl (by decide) (q_ld _ ag29 rfl rfl (q_mv _ rfl (q_sub rfl rfl (by omega) (q_ia (s := eRingNode p) el29 rfl rfl (by have := of_decide_eq_true hb49; omega) (by rw [show ((k : Int) - 1).toNat = k - 1 by omega]; exact mget (hp (by have := of_decide_eq_true hb49; omega))) (q_fa _ fd45_0 rfl rfl (by decide) (
            q_ld _ ag9 rfl rfl (q_fap fd45_0 rfl (by decide) (q_ldb _ ag9 rfl rfl rfl (q_bin _ _ _ rfl rfl rfl (run_nil ⟨rfl, rfl, rfl, rfl⟩))))))))))) (
          run_nil ⟨rfl, rfl, rfl, rfl⟩))))) (
        q_mv _ rfl (q_or 3 3 rfl rfl rfl rfl rfl (fun hb55 =>
          q_fap fd45_1 rfl (by decide) (q_ldb _ ag3 rfl rfl rfl (q_bin _ _ _ rfl rfl rfl (run_nil ⟨rfl, rfl, rfl, rfl⟩)))) (
        q_mv _ rfl (q_or 3 3 rfl rfl rfl rfl rfl (fun hb60 =>
          q_fap fd45_1 rfl (by decide) (q_ldb _ ag3 rfl rfl rfl (q_bin _ _ _ rfl rfl rfl (run_nil ⟨rfl, rfl, rfl, rfl⟩)))) (
        q_mv _ rfl (q_or 4 4 rfl rfl rfl rfl rfl (fun hb66 =>
          q_fap fd45_2 rfl (by decide) (q_ldb _ ag40 rfl rfl rfl (q_len eS40 rfl (q_bin _ _ _ rfl rfl rfl (run_nil ⟨rfl, rfl, rfl, rfl⟩))))) (
        q_mv _ rfl (q_or 4 4 rfl rfl rfl rfl rfl (fun hb72 =>
          q_fap fd45_2 rfl (by decide) (q_ldb _ ag40 rfl rfl rfl (q_len eS40 rfl (q_bin _ _ _ rfl rfl rfl (run_nil ⟨rfl, rfl, rfl, rfl⟩))))) (
        q_mv _ rfl (q_or 4 4 rfl rfl rfl rfl rfl (fun hb78 =>
          q_fap fd45_2 rfl (by decide) (q_ldb _ ag40 rfl rfl rfl (q_call (f196_ok n.toks hsn.2) cl196 rfl rfl (q_un _ _ rfl rfl (run_nil ⟨rfl, rfl, rfl, rfl⟩))))) (
        run_nil (h15 _ ?_))))))))))))))))))
      rw [hlt, cmpT_less]
      refine ok_cond rfl (fun c16 => ?_) (fun c16 => ?_)
      · refine ok_seq fun K17 h17 => ok_region rfl (q_as _ rfl (run_nil (h17 _ ?_)))
        refine ok_ret ⟨_, rfl, ?_⟩
        rw [pB_false]; · rfl
        rintro ⟨_, _, _, a4⟩
        obtain ⟨⟨b1, b2, b3, b4, b5, b6, b7⟩, b8, b9⟩ := a4 k n hn
        rw [b1, risB_true b6] at c16
        simp only [Bool.not_true, Bool.false_or, Bool.or_false, Bool.or_eq_true, Bool.and_eq_true, decide_eq_true_eq, Bool.not_eq_true', decide_eq_false_iff_not] at c16
        rcases c16 with (((⟨c, d⟩ | c) | c) | c) | c
        · exact d (b8 p (by omega) (hp (by omega)))
        all_goals omega
      · refine ok_skip (h14 _ ?_)
        simp only [Bool.or_eq_false_iff, Bool.not_eq_false', Bool.and_eq_false_iff, decide_eq_false_iff_not, decide_eq_true_eq] at c16
        obtain ⟨⟨⟨⟨⟨⟨b1, b8⟩, b2⟩, b3⟩, b4⟩, b5⟩, b6⟩ := c16
        have b6' : Ris n.toks := by simpa [risB] using b6
        have b8' : ∀ q, 0 < k → r.nodes[k - 1]? = some q → cmpT q.id.data.toList n.id.data.toList < 0 := by
          intro q h0 hq
          rw [hp h0] at hq
          cases hq
          rcases b8 with b8 | b8
          · omega
          · exact b8
        refine ok_seq fun K18 h18 => ok_region rfl (q_fap fd45_2 rfl (by decide) (q_ldb _ ag40 rfl rfl rfl (q_len eS40 rfl (q_mv _ rfl (run_nil (h18 _ ?_))))))
        rw [hlt]
        refine ok_block ?_
        refine ok_loop (fun (s : Nat × List (Int × Value)) => ⟨[(1, .sv (.ptr (eRing r))), (3, .own 22), (24, .sv (.sl 3 (r.nodes.map eRingNode))), (25, .sv (int r.nodes.length)), (26, .sv (int k)), (80, .sv (ints n.toks)), (81, .sv (int n.toks.length)), (82, .sv (int s.1))], [(22, .map .i64 s.2)]⟩)
          (fun s => (∀ i, i < s.1 → i < n.toks.length → 0 ≤ n.toks.getD i 0 ∧ n.toks.getD i 0 < 2147483648 ∧ ¬ Sn r k (n.toks.getD i 0)) ∧ MapIs s.2 (fun q => Sn r k q ∨ ∃ i, i < s.1 ∧ i < n.toks.length ∧ q = n.toks.getD i 0)) (fun s => n.toks.length - s.1) (0, es)
          ⟨fun i h => by simp at h, JM.to fun q => ⟨.inl, fun h => h.elim id fun ⟨i, h, _⟩ => by simp at h⟩⟩ (le_sub ⟨rfl, rfl, rfl, rfl, rfl, rfl, rfl, rfl, trivial⟩ ⟨rfl, trivial⟩) (fun s J2 => ?_)
        obtain ⟨m, es2⟩ := s
        obtain ⟨J2, JM2⟩ := J2
        simp only at J2 JM2
        refine ok_seq fun K19 h19 => ok_region rfl (q_bin _ _ _ rfl rfl rfl (run_nil (h19 _ ?_)))
        refine ok_seq fun K20 h20 => ?_
        refine ok_cond rfl (fun c21 => ?_) (fun c21 => ?_)
        · refine ok_skip (h20 _ ?_)
          have hm : m < n.toks.length := by simpa using c21
          have hnt := hsn.2
          refine ok_seq fun K22 h22 => ?_
          refine ok_block ?_
          refine ok_seq fun K23 h23 => ok_region rfl (q_ia (s := int (n.toks.getD m 0)) el40 rfl rfl (by omega) (iget (iget' hm)) (q_ld _ ag3 rfl rfl (q_as _ rfl (run_nil (h23 _ ?_)))))
          refine ok_seq fun K24 h24 => ?_
          refine ok_seq fun K25 h25 => ?_
          refine ok_region rfl (q_mv _ rfl (q_bin _ _ _ rfl rfl rfl (q_mv _ rfl (q_or 2 2 rfl rfl rfl rfl rfl (fun hb91 =>
              q_mv _ rfl (q_bin _ _ _ rfl rfl rfl (run_nil ⟨rfl, rfl, rfl, rfl⟩))) (
            q_mv _ rfl (q_or 3 3 rfl rfl rfl rfl rfl (fun hb96 =>
              q_mo _ rfl (q_mv _ rfl (q_mget _ _ mp209 ze4 rfl rfl rfl (JM2.get _) (run_nil ⟨rfl, rfl, rfl, rfl⟩)))) (
            run_nil (h25 _ ?_))))))))
          refine ok_cond rfl (fun c26 => ?_) (fun c26 => ?_)
          · refine ok_seq fun K27 h27 => ok_region rfl (q_as _ rfl (run_nil (h27 _ ?_)))
            refine ok_ret ⟨_, rfl, ?_⟩
            rw [pB_false]; · rfl
            rintro ⟨_, _, _, a4⟩
            obtain ⟨⟨_, _, _, _, _, _, d7⟩, _, d9⟩ := a4 k n hn
            have hmem := List.mem_of_getElem? (iget' hm)
            have := d7 _ hmem
            simp only [Bool.or_eq_true, decide_eq_true_eq, pB] at c26
            rcases c26 with (c | c) | (⟨i, q, h1, h2, h3⟩ | ⟨i, h1, h2, h3⟩)
            · omega
            · omega
            · exact d9 i q h1 h2 _ hmem h3
            · have := ris_lt b6' h1 hm; omega
          · refine ok_skip (h24 _ ?_)
            simp only [Bool.or_eq_false_iff, decide_eq_false_iff_not] at c26
            obtain ⟨⟨e1, e2⟩, e3⟩ := c26
            have e3' : ¬ (Sn r k (n.toks.getD m 0) ∨ ∃ i, i < m ∧ i < n.toks.length ∧ n.toks.getD m 0 = n.toks.getD i 0) := by simpa [pB] using e3
            refine ok_last fun K30 h30 => ok_region rfl (q_mo _ rfl (q_mv _ rfl (q_mput _ mp209 rfl rfl rfl rfl (JM2.none e3) (run_nil (h30 _ (h22 _ ?_))))))
            refine ok_region rfl (q_add rfl rfl (by omega) (q_mv _ rfl (run_nil (⟨(m + 1, es2 ++ [(n.toks.getD m 0, .bool true)]), by simp only; omega, ⟨fun i h1 h2 => ?_, ?_⟩, le_sub ⟨rfl, rfl, rfl, rfl, rfl, rfl, rfl, rfl, trivial⟩ ⟨rfl, trivial⟩⟩))))
            · simp only at h1
              rcases Nat.lt_or_ge i m with h | h
              · exact J2 i h h2
              · obtain rfl : i = m := by omega
                exact ⟨by omega, by omega, fun h => e3' (.inl h)⟩
            · refine (JM2.put _).to fun q => ⟨?_, ?_⟩
              · rintro ((h | ⟨i, h1, h2, h3⟩) | rfl)
                · exact .inl h
                · exact .inr ⟨i, by simp only; omega, h2, h3⟩
                · exact .inr ⟨m, by simp only; omega, hm, rfl⟩
              · rintro (h | ⟨i, h1, h2, h3⟩)
                · exact .inl (.inl h)
                · simp only at h1
                  rcases Nat.lt_or_ge i m with h | h
                  · exact .inl (.inr ⟨i, h, h2, h3⟩)
                  · obtain rfl : i = m := by omega
                    exact .inr h3
        · refine ok_exit (h12 _ ?_)
          have hm : n.toks.length ≤ m := by simpa using c21
          have mem : ∀ t ∈ n.toks, ∃ i, i < n.toks.length ∧ t = n.toks.getD i 0 := by
            intro t ht
            obtain ⟨x, hx⟩ := List.getElem?_of_mem ht
            exact ⟨x, (List.getElem?_eq_some_iff.1 hx).1, by rw [List.getD_eq_getElem?_getD, hx]; rfl⟩
          refine ok_region rfl (q_add rfl rfl (by omega) (q_mv _ rfl (run_nil (⟨(k + 1, es2), by simp only; omega, ⟨fun i n' h1 hn' => ?_, ?_⟩, le_sub ⟨rfl, rfl, rfl, rfl, rfl, trivial⟩ ⟨rfl, trivial⟩⟩))))
          · simp only at h1
            rcases Nat.lt_or_ge i k with h | h
            · exact J i n' h hn'
            · obtain rfl : i = k := by omega
              rw [hn] at hn'; cases hn'
              refine ⟨⟨b1, by omega, by omega, by omega, by omega, b6', fun t ht => ?_⟩, b8', fun j q h1 hq t ht htq => ?_⟩
              · obtain ⟨x, hx, rfl⟩ := mem t ht
                have := J2 x (by omega) hx
                exact ⟨this.1, this.2.1⟩
              · obtain ⟨x, hx, rfl⟩ := mem t ht
                exact (J2 x (by omega) hx).2.2 ⟨j, q, h1, hq, htq⟩
          · refine JM2.to fun q => ⟨?_, ?_⟩
            · rintro (⟨i, p', h1, h2, h3⟩ | ⟨i, h1, h2, rfl⟩)
              · exact ⟨i, p', by simp only; omega, h2, h3⟩
              · exact ⟨k, n, by simp only; omega, hn, List.mem_of_getElem? (iget' h2)⟩
            · rintro ⟨i, p', h1, h2, h3⟩
              simp only at h1
              rcases Nat.lt_or_ge i k with h | h
              · exact .inl ⟨i, p', h, h2, h3⟩
              · obtain rfl : i = k := by omega
                rw [hn] at h2; cases h2
                obtain ⟨x, hx, rfl⟩ := mem q h3
                exact .inr ⟨x, by omega, hx, rfl⟩
    · refine ok_exit (h7 _ ?_)
      have hk : r.nodes.length ≤ k := by simpa using c11
      refine ok_seq fun K28 h28 => ok_region rfl (q_as _ rfl (run_nil (h28 _ ?_)))
      refine ok_ret ⟨_, rfl, ?_⟩
      rw [pB_true]; · rfl
      exact ⟨by omega, by omega, by omega, fun i n hn => J i n (by have := (List.getElem?_eq_some_iff.1 hn).1; omega) hn⟩
end Go.Ring

/- The library's slices.SortFunc at tokens of a ring, at this program: the shelf's layings, in plain words; what the comparison says. No condition. -/
namespace Go.Proofs
open Go.Shelf
def Tryz.lays122_ren : Go.Shelf.Ren := ⟨fun | 122 => 157 | 215 => 210 | n => n, fun | 3 => 3 | 4 => 4 | n => n, fun | n => n⟩
theorem Tryz.lays122 : Go.Proofs.Lays.n122 Tryz.prog Tryz.lays122_ren := {
  mixed := by kernel_rfl
  f122 := Tryz.func157.trans (congrArg some (by kernel_rfl))
  f215 := Tryz.func210.trans (congrArg some (by kernel_rfl))
  t3 := Tryz.underlying3
  a3 := Tryz.isAgg3
  z3 := Tryz.sizeOf3
  v3 := Tryz.zeroValue3
  t4 := Tryz.underlying4
  a4 := Tryz.isAgg4
  z4 := Tryz.sizeOf4
  v4 := Tryz.zeroValue4 }
def Tryz.laysSortF_ren : Go.Shelf.Ren := ⟨fun | 6 => 155 | 15 => 209 | 14 => 208 | 28 => 252 | 29 => 253 | 20 => 244 | 21 => 245 | 22 => 246 | 23 => 247 | 24 => 248 | 25 => 249 | 26 => 250 | 27 => 251 | 46 => 265 | 47 => 266 | 48 => 267 | 49 => 268 | 50 => 269 | 57 => 278 | n => n, fun | 22 => 117 | 24 => 183 | 25 => 185 | 3 => 3 | 39 => 172 | 0 => 0 | 53 => 250 | 55 => 142 | 4 => 4 | 46 => 244 | 45 => 243 | 50 => 82 | 5 => 5 | 9 => 9 | 66 => 262 | 70 => 266 | 76 => 286 | 77 => 287 | n => n, fun | n => n⟩
theorem Tryz.laysSortF : Go.Proofs.SlLaysF0.n6 Tryz.prog Tryz.laysSortF_ren := {
  mixed := by kernel_rfl
  f6 := ⟨Tryz.f155.name, by decide, Tryz.func155.trans (congrArg some (by kernel_rfl))⟩
  f14 := ⟨Tryz.f208.name, by decide, Tryz.func208.trans (congrArg some (by kernel_rfl))⟩
  f15 := Tryz.func209.trans (congrArg some (by kernel_rfl))
  f20 := ⟨Tryz.f244.name, by decide, Tryz.func244.trans (congrArg some (by kernel_rfl))⟩
  f21 := ⟨Tryz.f245.name, by decide, Tryz.func245.trans (congrArg some (by kernel_rfl))⟩
  f22 := ⟨Tryz.f246.name, by decide, Tryz.func246.trans (congrArg some (by kernel_rfl))⟩
  f23 := ⟨Tryz.f247.name, by decide, Tryz.func247.trans (congrArg some (by kernel_rfl))⟩
  f24 := ⟨Tryz.f248.name, by decide, Tryz.func248.trans (congrArg some (by kernel_rfl))⟩
  f25 := ⟨Tryz.f249.name, by decide, Tryz.func249.trans (congrArg some (by kernel_rfl))⟩
  f26 := ⟨Tryz.f250.name, by decide, Tryz.func250.trans (congrArg some (by kernel_rfl))⟩
  f27 := ⟨Tryz.f251.name, by decide, Tryz.func251.trans (congrArg some (by kernel_rfl))⟩
  f28 := Tryz.func252.trans (congrArg some (by kernel_rfl))
  f29 := Tryz.func253.trans (congrArg some (by kernel_rfl))
  f46 := ⟨Tryz.f265.name, by decide, Tryz.func265.trans (congrArg some (by kernel_rfl))⟩
  f47 := Tryz.func266.trans (congrArg some (by kernel_rfl))
  f48 := Tryz.func267.trans (congrArg some (by kernel_rfl))
  f49 := ⟨Tryz.f268.name, by decide, Tryz.func268.trans (congrArg some (by kernel_rfl))⟩
  f50 := ⟨Tryz.f269.name, by decide, Tryz.func269.trans (congrArg some (by kernel_rfl))⟩
  f57 := ⟨Tryz.f278.name, by decide, Tryz.func278.trans (congrArg some (by kernel_rfl))⟩
  t0 := Tryz.underlying0
  a0 := Tryz.isAgg0
  z0 := Tryz.sizeOf0
  v0 := Tryz.zeroValue0
  t3 := Tryz.underlying3
  a3 := Tryz.isAgg3
  z3 := Tryz.sizeOf3
  v3 := Tryz.zeroValue3
  t4 := Tryz.underlying4
  a4 := Tryz.isAgg4
  z4 := Tryz.sizeOf4
  v4 := Tryz.zeroValue4
  t5 := Tryz.underlying5
  a5 := Tryz.isAgg5
  z5 := Tryz.sizeOf5
  v5 := Tryz.zeroValue5
  t9 := Tryz.underlying9
  a9 := Tryz.isAgg9
  z9 := Tryz.sizeOf9
  v9 := Tryz.zeroValue9
  t22 := Tryz.underlying117
  a22 := Tryz.isAgg117
  z22 := Tryz.sizeOf117
  v22 := Tryz.zeroValue117
  t25 := Tryz.underlying185
  a25 := Tryz.isAgg185
  z25 := Tryz.sizeOf185
  v25 := Tryz.zeroValue185
  t39 := Tryz.underlying172
  a39 := Tryz.isAgg172
  z39 := Tryz.sizeOf172
  v39 := Tryz.zeroValue172
  t45 := Tryz.underlying243
  a45 := Tryz.isAgg243
  z45 := Tryz.sizeOf243
  v45 := Tryz.zeroValue243
  t46 := Tryz.underlying244
  a46 := Tryz.isAgg244
  z46 := Tryz.sizeOf244
  v46 := Tryz.zeroValue244
  t50 := Tryz.underlying82
  a50 := Tryz.isAgg82
  z50 := Tryz.sizeOf82
  v50 := Tryz.zeroValue82
  t53 := Tryz.underlying250
  a53 := Tryz.isAgg250
  z53 := Tryz.sizeOf250
  v53 := Tryz.zeroValue250
  t55 := Tryz.underlying142
  a55 := Tryz.isAgg142
  z55 := Tryz.sizeOf142
  v55 := Tryz.zeroValue142
  t66 := Tryz.underlying262
  a66 := Tryz.isAgg262
  z66 := Tryz.sizeOf262
  v66 := Tryz.zeroValue262
  t70 := Tryz.underlying266
  a70 := Tryz.isAgg266
  z70 := Tryz.sizeOf266
  v70 := Tryz.zeroValue266
  t76 := Tryz.underlying286
  a76 := Tryz.isAgg286
  z76 := Tryz.sizeOf286
  v76 := Tryz.zeroValue286
  t77 := Tryz.underlying287
  a77 := Tryz.isAgg287
  z77 := Tryz.sizeOf287
  v77 := Tryz.zeroValue287 }
end Go.Proofs
namespace Go.Ring
open Go Go.RowKit Go.Eager Go.Abs Go.Proofs Go.Shelf Go.Lib Go.Sort
set_option maxHeartbeats 1000000 in
theorem cmpTok (x y : Int × Int) (W : World) : Calls Tryz.prog 156 #[.agg #[.int .i64 x.1, .int .i64 x.2], .agg #[.int .i64 y.1, .int .i64 y.2]] W fun e w' => e = .returned (.int .i64 (Lib.compareInt x.1 y.1)) ∧ ∃ q os', w' = grow (W.drewN q) os' := by
  have hcon := fun W' => Any.cmp_Compare_int Tryz.lays122 x.1 y.1 W'
  change ∀ W', Calls Tryz.prog 157 _ _ _ at hcon
  generalize Lib.compareInt x.1 y.1 = r at hcon ⊢
  go_enter Tryz.func156, Tryz.ntmps156
  go_wp2_with (go_at_call 157; refine (hcon _).mono ?_; rintro e w' ⟨rfl, rfl⟩)
  go_ret
  exact ⟨rfl, 0, _, by rw [alloc_eq_grow, alloc_eq_grow, grow_grow]; rfl⟩
theorem ltTok (x y : Int × Int) : ltOf (fun x y : Int × Int => Lib.compareInt x.1 y.1) x y = decide (x.1 < y.1) := by
  unfold ltOf Lib.compareInt
  by_cases h1 : x.1 < y.1
  · simp [h1]
  · by_cases h2 : y.1 < x.1 <;> simp [h1, h2]
theorem swoTok : SWO (ltOf fun x y : Int × Int => Lib.compareInt x.1 y.1) where
  irrefl x := by rw [ltTok]; simp
  trans x y z h1 h2 := by rw [ltTok] at *; simp at *; omega
  ntrans x y z h1 h2 := by rw [ltTok] at *; simp at *; omega
theorem f155_ok : SortsPairs Tryz.prog 155 156 := by
  intro blk off cap d w hH hblk hsz
  have eg : ∀ args w, (callFunc 156 args).run Tryz.prog w = .ok (.enter 156 args) w := enters_of Tryz.func156 (by kernel_rfl) rfl
  refine (AnyQ.slices_SortFunc Tryz.laysSortF 2 Tryz.isAgg183 Tryz.sizeOf183 encP (fun _ => rfl) (fun x v hv => by simp [encP] at hv; rcases hv with rfl | rfl <;> rfl) (fun x y => Lib.compareInt x.1 y.1) swoTok 156 #[] blk off cap d.toArray w eg (fun _ _ _ _ x y => cmpTok x y _) hH hblk (by simpa using hsz)).mono ?_
  rintro e w' ⟨he, d', n, os, ⟨hs1, _, hs2⟩, hso, hw⟩
  refine ⟨he, d'.toList, n, os, ?_, ?_, by rw [hw]⟩
  · have e1 : d'.extract 0 d.toArray.size = d' := by rw [← hs1]; exact Array.extract_size
    rw [e1, Array.extract_size] at hs2
    simpa using hs2
  · rw [List.pairwise_iff_getElem]
    intro i j hi hj hij
    have hi' : i < d'.size := by simpa using hi
    have hj' : j < d'.size := by simpa using hj
    have := hso i j (Nat.zero_le _) hij (by rw [← hs1]; exact hj')
    rw [getElem!_pos d' j hj', getElem!_pos d' i hi', ltTok] at this
    simp at this
    simpa using this
end Go.Ring
