/- Matchers: what the program and the reference say of them. No condition beyond the lengths. -/
import Derived.Test.YtbhkjbfphhfecaaGreatA7
namespace Go.Ring
open Go Go.RowKit Go.Eager Go.Abs Go.Proofs
set_option maxRecDepth 100000
set_option linter.unusedVariables false
set_option linter.unusedSimpArgs false
def eqS (a b : ByteArray) : Bool := decide (a.data.toList = b.data.toList)
/-- One matcher and a value. -/
def mat1 (m : Matcher) (v : ByteArray) : Bool := if m.op_ = 1 then eqS v m.value else if m.op_ = 2 then !eqS v m.value else if m.op_ = 3 then patB m.value v else !patB m.value v
def gmB (m : Matcher) : Bool := nameB m.name && decide (1 ≤ m.op_) && decide (m.op_ ≤ 4) && (decide ((m.value.size : Int) ≤ 100) && printedB m.value) && (decide (m.op_ < 3) || patOk m.value)
theorem f118_ok (m : Matcher) (v : ByteArray) (hm : SMatcher m) (hv : v.size ≤ 1048576) (hg : gmB m = true) : PFn Tryz.prog 118 [eMatcher m, str v] (bool (mat1 m v)) := by
  refine fn_ok' (n := 30) Tryz.func118 rfl rfl rfl (Nat.le_of_ble_eq_true rfl) rfl fun w0 O => ?_
  refine ok_seq fun K1 h1 => ok_region rfl (q_boxs _ rfl (Nat.zero_lt_succ _) (q_as _ rfl (run_nil (h1 _ ?_)))); clear h1 K1
  refine ok_seq fun K2 h2 => ?_
  refine ok_seq fun K3 h3 => ok_region rfl (q_fa _ fd87_1 rfl rfl (by decide) (q_ld _ ag3 rfl rfl (run_nil (h3 _ ?_)))); clear h3 K3
  refine ok_block ?_
  refine ok_seq fun K4 h4 => ok_region rfl (q_bin _ _ _ rfl rfl rfl (q_as _ rfl (run_nil (h4 _ ?_)))); clear h4 K4
  refine ok_cond rfl (fun c5 => ?_) (fun c5 => ?_)
  · have e1 : m.op_ = 1 := by simpa using c5
    refine ok_seq fun K6 h6 => ?_
    refine ok_region rfl (q_mv _ rfl (q_fa _ fd87_2 rfl rfl (by decide) (q_ld _ ag9 rfl rfl (q_bin _ _ _ rfl rfl rfl (q_as _ rfl (run_nil (h6 _ ?_)))))))
    clear h6 K6
    refine ok_ret ⟨_, rfl, ?_⟩
    unfold mat1; rw [if_pos e1]; rfl
  · have e1 : m.op_ ≠ 1 := by simpa using c5
    refine ok_seq fun K7 h7 => ?_
    refine ok_region rfl (q_bin _ _ _ rfl rfl rfl (q_as _ rfl (run_nil (h7 _ ?_))))
    clear h7 K7
    refine ok_cond rfl (fun c8 => ?_) (fun c8 => ?_)
    · have e2 : m.op_ = 2 := by simpa using c8
      refine ok_seq fun K9 h9 => ?_
      refine ok_region rfl (q_mv _ rfl (q_fa _ fd87_2 rfl rfl (by decide) (q_ld _ ag9 rfl rfl (q_bin _ _ _ rfl rfl rfl (q_as _ rfl (run_nil (h9 _ ?_)))))))
      clear h9 K9
      refine ok_ret ⟨_, rfl, ?_⟩
      unfold mat1; rw [if_neg e1, if_pos e2]; rfl
    · have e2 : m.op_ ≠ 2 := by simpa using c8
      have hp : patOk m.value = true := by
        unfold gmB at hg
        simp only [Bool.and_eq_true, Bool.or_eq_true, decide_eq_true_eq] at hg
        rcases hg.2 with h | h
        · have := hg.1.1.1.2; omega
        · exact h
      refine ok_seq fun K10 h10 => ?_
      refine ok_region rfl (q_bin _ _ _ rfl rfl rfl (q_as _ rfl (run_nil (h10 _ ?_))))
      clear h10 K10
      refine ok_cond rfl (fun c11 => ?_) (fun c11 => ?_)
      · have e3 : m.op_ = 3 := by simpa using c11
        refine ok_seq fun K12 h12 => ?_
        refine ok_region rfl (q_fa _ fd87_2 rfl rfl (by decide) (q_ld _ ag9 rfl rfl (q_mv _ rfl (q_call (f175_ok m.value v hm.2 hv hp) cl175 rfl rfl (q_as _ rfl (run_nil (h12 _ ?_)))))))
        clear h12 K12
        refine ok_ret ⟨_, rfl, ?_⟩
        unfold mat1; rw [if_neg e1, if_neg e2, if_pos e3]; rfl
      · have e3 : m.op_ ≠ 3 := by simpa using c11
        refine ok_skip (h2 _ ?_)
        refine ok_seq fun K13 h13 => ok_region rfl (q_fa _ fd87_2 rfl rfl (by decide) (q_ld _ ag9 rfl rfl (q_mv _ rfl (q_call (f175_ok m.value v hm.2 hv hp) cl175 rfl rfl (q_un _ _ rfl rfl (q_as _ rfl (run_nil (h13 _ ?_)))))))); clear h13 K13
        refine ok_ret ⟨_, rfl, ?_⟩
        unfold mat1; rw [if_neg e1, if_neg e2, if_neg e3]; rfl
/-- All matchers and labels. -/
def matB (ms : List Matcher) (l : List Label) : Bool := ms.all fun m => mat1 m (valOf l m.name)
theorem all_take {α : Type} {p : α → Bool} {l : List α} {k : Nat} {x : α} (h : l[k]? = some x) (h0 : (l.take k).all p = true) : (l.take (k + 1)).all p = p x := by
  rw [List.take_add_one, h, Option.toList_some, List.all_append, h0]; simp
theorem all_false {α : Type} {p : α → Bool} {l : List α} {k : Nat} {x : α} (h : l[k]? = some x) (h0 : p x = false) : l.all p = false :=
  List.all_eq_false.2 ⟨x, List.mem_of_getElem? h, by simp [h0]⟩
theorem f57_ok (ms : List Matcher) (l : List Label) (hn : ms.length ≤ 1048576) (hm : ∀ m ∈ ms, SMatcher m) (hg : ms.all gmB = true) (hl : l.length ≤ 1048576) (hv : ∀ n, (valOf l n).size ≤ 1048576) : PFn Tryz.prog 57 [eMatcherS ms, eLabelS l] (bool (matB ms l)) := by
  refine fn_ok' (n := 21) Tryz.func57 rfl rfl rfl (Nat.le_of_ble_eq_true rfl) rfl fun w0 O => ?_
  refine ok_seq fun K1 h1 => ok_region rfl (q_as _ rfl (run_nil (h1 _ ?_))); clear h1 K1
  refine ok_seq fun K2 h2 => ?_
  refine ok_seq fun K3 h3 => ok_region rfl (q_mv _ rfl (q_len eS36 rfl (q_mv _ rfl (run_nil (h3 _ ?_))))); clear h3 K3
  refine ok_block ?_
  refine ok_loop (fun (k : Nat) => ⟨[(1, .sv (eLabelS l)), (7, .sv (eMatcherS ms)), (8, .sv (int ms.length)), (9, .sv (int k))], []⟩) (fun k => k ≤ ms.length ∧ (ms.take k).all (fun m => mat1 m (valOf l m.name)) = true) (fun k => ms.length - k) 0 ⟨by simp, by simp⟩ (le_same ⟨rfl, rfl, by simp; rfl, rfl, trivial⟩) (fun k J => ?_)
  refine ok_seq fun K4 h4 => ok_region rfl (q_bin _ _ _ rfl rfl rfl (run_nil (h4 _ ?_))); clear h4 K4
  refine ok_seq fun K5 h5 => ?_
  refine ok_cond rfl (fun c6 => ?_) (fun c6 => ?_)
  · refine ok_skip (h5 _ ?_)
    have hk : k < ms.length := by simpa using c6
    obtain ⟨u, hu⟩ := sget hk
    refine ok_seq fun K7 h7 => ?_
    refine ok_block ?_
    refine ok_seq fun K8 h8 => ok_region rfl (q_ia el36 rfl rfl (by omega) (mget hu) (q_lds _ ag87 rfl sz87 (q_alloc _ ze87 rfl rfl rfl rfl (q_sts _ rfl rfl rfl sz87 (Nat.le_of_ble_eq_true rfl) rfl (run_nil (h8 _ ?_)))))); clear h8 K8
    refine ok_seq fun K9 h9 => ?_
    refine ok_region_i (by kernel_rfl) (by kernel_rfl) rfl (
      q_ldbs ag87 rfl rfl sz87 rfl rfl (q_mv _ rfl (q_fap fd87_0 rfl (by decide) (q_ldb (.sv (str u.name)) ag9 rfl rfl rfl (q_call (f119_ok l hl u.name) cl119 rfl rfl (q_call (f118_ok u _ (hm u (smem hu)) (hv u.name) (List.all_eq_true.1 hg u (smem hu))) cl118 rfl rfl (
      q_un _ _ rfl rfl (run_nil (h9 _ ?_)))))))))
    clear h9 K9
    refine ok_cond rfl (fun c10 => ?_) (fun c10 => ?_)
    · refine ok_seq fun K11 h11 => ?_
      refine ok_region rfl (q_as _ rfl (run_nil (h11 _ ?_)))
      clear h11 K11
      refine ok_ret ⟨_, rfl, ?_⟩
      unfold matB; rw [all_false hu (by simpa using c10)]; rfl
    · refine ok_skip (h7 _ ?_)
      refine ok_last fun K12 h12 => ok_region rfl (
        q_add rfl rfl (by omega) (q_mv _ rfl (run_nil (h12 _ ⟨k + 1, by omega, ⟨hk, by rw [all_take hu J.2]; simpa using c10⟩, le_sub ⟨rfl, rfl, rfl, rfl, trivial⟩ trivial⟩))))
  · refine ok_exit (h2 _ ?_)
    have hk : k = ms.length := by have : ¬ k < ms.length := by simpa using c6
                                  omega
    refine ok_seq fun K13 h13 => ok_region rfl (q_as _ rfl (run_nil (h13 _ ?_))); clear h13 K13
    refine ok_ret ⟨_, rfl, ?_⟩
    have := J.2
    rw [hk, List.take_length] at this
    unfold matB; rw [this]; rfl
/-- Good matchers. -/
def gmsB (ms : List Matcher) : Bool := decide ((ms.length : Int) ≤ 10) && ms.all gmB
/-- The first place of one that is so; -1. -/
def fstI {α : Type} (p : α → Bool) : List α → Nat → Int
  | [], _ => -1
  | x :: l, k => if p x then k else fstI p l (k + 1)
theorem fstI_any {α : Type} (p : α → Bool) : ∀ (l : List α) (k : Nat), decide (0 ≤ fstI p l k) = l.any p
  | [], k => by simp [fstI]
  | x :: l, k => by
    cases h : p x with
    | true => simp [fstI, h]
    | false => simp only [fstI, h, List.any_cons, Bool.false_or]; exact fstI_any p l (k + 1)
end Go.Ring
