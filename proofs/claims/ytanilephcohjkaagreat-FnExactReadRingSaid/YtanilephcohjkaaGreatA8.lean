/- Matchers: what the program and the reference say of them. No condition beyond the lengths. -/
import Derived.Test.YtanilephcohjkaaGreatA7
namespace Go.Ring
open Go Go.RowKit Go.Eager Go.Abs Go.Proofs
set_option maxRecDepth 100000
set_option linter.unusedVariables false
set_option linter.unusedSimpArgs false
def eqS (a b : ByteArray) : Bool := decide (a.data.toList = b.data.toList)
/-- One matcher and a value. -/
def mat1 (m : Matcher) (v : ByteArray) : Bool := if m.op_ = 1 then eqS v m.value else if m.op_ = 2 then !eqS v m.value else if m.op_ = 3 then patB m.value v else !patB m.value v
def gmB (m : Matcher) : Bool := nameB m.name && decide (1 ≤ m.op_) && decide (m.op_ ≤ 4) && (decide ((m.value.size : Int) ≤ 100) && printedB m.value) && (decide (m.op_ < 3) || patOk m.value)
theorem f225_ok (m : Matcher) (v : ByteArray) (hm : SMatcher m) (hv : v.size ≤ 1048576) (hg : gmB m = true) : PFn Tryz.prog 225 [eMatcher m, str v] (bool (mat1 m v)) := by
  refine fn_ok' (n := 30) Tryz.func225 rfl rfl rfl (Nat.le_of_ble_eq_true rfl) rfl fun w0 O => ?_
  refine ok_seq fun K1 h1 => ok_region rfl (q_boxs _ rfl (Nat.zero_lt_succ _) (q_as _ rfl (run_nil (h1 _ ?_)))); clear h1 K1
  refine ok_seq fun K2 h2 => ?_
  refine ok_seq fun K3 h3 => ok_region rfl (q_fa _ fd135_1 rfl rfl (by decide) (q_ld _ ag3 rfl rfl (run_nil (h3 _ ?_)))); clear h3 K3
  refine ok_block ?_
  refine ok_seq fun K4 h4 => ok_region rfl (q_bin _ _ _ rfl rfl rfl (q_as _ rfl (run_nil (h4 _ ?_)))); clear h4 K4
  refine ok_cond rfl (fun c5 => ?_) (fun c5 => ?_)
  · have e1 : m.op_ = 1 := by simpa using c5
    refine ok_seq fun K6 h6 => ?_
    refine ok_region rfl (q_mv _ rfl (q_fa _ fd135_2 rfl rfl (by decide) (q_ld _ ag9 rfl rfl (q_bin _ _ _ rfl rfl rfl (q_as _ rfl (run_nil (h6 _ ?_)))))))
    clear h6 K6
    refine ok_ret ⟨_, rfl, ?_⟩
    unfold mat1; rw [if_pos e1]; rfl
  · have e1 : m.op_ ≠ 1 := by simpa using c5
    refine ok_seq fun K7 h7 => ?_
    refine ok_region rfl (q_bin _ _ _ rfl rfl rfl (q_as _ rfl (run_nil (h7 _ ?_))))
    clear h7 K7
    refine ok_cond rfl (fun c8 => ?_) (fun c8 => ?_)
    · have e2 : m.op_ = 2 := by simpa using c8
      refine ok_seq fun K9 h9 => ?_
      refine ok_region rfl (q_mv _ rfl (q_fa _ fd135_2 rfl rfl (by decide) (q_ld _ ag9 rfl rfl (q_bin _ _ _ rfl rfl rfl (q_as _ rfl (run_nil (h9 _ ?_)))))))
      clear h9 K9
      refine ok_ret ⟨_, rfl, ?_⟩
      unfold mat1; rw [if_neg e1, if_pos e2]; rfl
    · have e2 : m.op_ ≠ 2 := by simpa using c8
      have hp : patOk m.value = true := by
        unfold gmB at hg
        simp only [Bool.and_eq_true, Bool.or_eq_true, decide_eq_true_eq] at hg
        rcases hg.2 with h | h
        · have := hg.1.1.1.2; omega
        · exact h
      refine ok_seq fun K10 h10 => ?_
      refine ok_region rfl (q_bin _ _ _ rfl rfl rfl (q_as _ rfl (run_nil (h10 _ ?_))))
      clear h10 K10
      refine ok_cond rfl (fun c11 => ?_) (fun c11 => ?_)
      · have e3 : m.op_ = 3 := by simpa using c11
        refine ok_seq fun K12 h12 => ?_
        refine ok_region rfl (q_fa _ fd135_2 rfl rfl (by decide) (q_ld _ ag9 rfl rfl (q_mv _ rfl (q_call (f259_ok m.value v hm.2 hv hp) cl259 rfl rfl (q_as _ rfl (run_nil (h12 _ ?_)))))))
        clear h12 K12
        refine ok_ret ⟨_, rfl, ?_⟩
        unfold mat1; rw [if_neg e1, if_neg e2, if_pos e3]; rfl
      · have e3 : m.op_ ≠ 3 := by simpa using c11
        refine ok_skip (h2 _ ?_)
        refine ok_seq fun K13 h13 => ok_region rfl (q_fa _ fd135_2 rfl rfl (by decide) (q_ld _ ag9 rfl rfl (q_mv _ rfl (q_call (f259_ok m.value v hm.2 hv hp) cl259 rfl rfl (q_un _ _ rfl rfl (q_as _ rfl (run_nil (h13 _ ?_)))))))); clear h13 K13
        refine ok_ret ⟨_, rfl, ?_⟩
        unfold mat1; rw [if_neg e1, if_neg e2, if_neg e3]; rfl
theorem f229_ok (m : Matcher) (l : List Label) (hm : SMatcher m) (hl : l.length ≤ 1048576) (hv : ∀ n, (valOf l n).size ≤ 100) : PFn Tryz.prog 229 [eMatcher m, eLabelS l] (bool (mat1 m (valOf l m.name))) := by
  refine fn_ok' (n := 35) Tryz.func229 rfl rfl rfl (Nat.le_of_ble_eq_true rfl) rfl fun w0 O => ?_
  refine ok_seq fun K1 h1 => ok_region rfl (q_boxs _ rfl (Nat.zero_lt_succ _) (q_as _ rfl (run_nil (h1 _ ?_)))); clear h1 K1
  refine ok_seq fun K2 h2 => ok_region rfl (q_mv _ rfl (q_fa _ fd135_0 rfl rfl (by decide) (q_ld _ ag9 rfl rfl (q_call (f159_ok l hl m.name) cl159 rfl rfl (q_as _ rfl (run_nil (h2 _ ?_))))))); clear h2 K2
  refine ok_seq fun K3 h3 => ?_
  refine ok_seq fun K4 h4 => ok_region rfl (q_fa _ fd135_1 rfl rfl (by decide) (q_ld _ ag3 rfl rfl (run_nil (h4 _ ?_)))); clear h4 K4
  refine ok_block ?_
  refine ok_seq fun K5 h5 => ok_region rfl (q_bin _ _ _ rfl rfl rfl (q_as _ rfl (run_nil (h5 _ ?_)))); clear h5 K5
  refine ok_cond rfl (fun c6 => ?_) (fun c6 => ?_)
  · have e1 : m.op_ = 1 := by simpa using c6
    refine ok_seq fun K7 h7 => ?_
    refine ok_region rfl (q_mv _ rfl (q_fa _ fd135_2 rfl rfl (by decide) (q_ld _ ag9 rfl rfl (q_bin _ _ _ rfl rfl rfl (q_as _ rfl (run_nil (h7 _ ?_)))))))
    clear h7 K7
    refine ok_ret ⟨_, rfl, ?_⟩
    unfold mat1; rw [if_pos e1]; rfl
  · have e1 : m.op_ ≠ 1 := by simpa using c6
    refine ok_seq fun K8 h8 => ?_
    refine ok_region rfl (q_bin _ _ _ rfl rfl rfl (q_as _ rfl (run_nil (h8 _ ?_))))
    clear h8 K8
    refine ok_cond rfl (fun c9 => ?_) (fun c9 => ?_)
    · have e2 : m.op_ = 2 := by simpa using c9
      refine ok_seq fun K10 h10 => ?_
      refine ok_region rfl (q_mv _ rfl (q_fa _ fd135_2 rfl rfl (by decide) (q_ld _ ag9 rfl rfl (q_bin _ _ _ rfl rfl rfl (q_as _ rfl (run_nil (h10 _ ?_)))))))
      clear h10 K10
      refine ok_ret ⟨_, rfl, ?_⟩
      unfold mat1; rw [if_neg e1, if_pos e2]; rfl
    · have e2 : m.op_ ≠ 2 := by simpa using c9
      refine ok_seq fun K11 h11 => ?_
      refine ok_region rfl (q_bin _ _ _ rfl rfl rfl (q_as _ rfl (run_nil (h11 _ ?_))))
      clear h11 K11
      refine ok_cond rfl (fun c12 => ?_) (fun c12 => ?_)
      · have e3 : m.op_ = 3 := by simpa using c12
        refine ok_seq fun K13 h13 => ?_
        refine ok_region rfl (q_fa _ fd135_2 rfl rfl (by decide) (q_ld _ ag9 rfl rfl (q_mv _ rfl (q_call (f261_ok m.value _ hm.2 (hv m.name)) cl261 rfl rfl (q_as _ rfl (run_nil (h13 _ ?_)))))))
        clear h13 K13
        refine ok_ret ⟨_, rfl, ?_⟩
        unfold mat1; rw [if_neg e1, if_neg e2, if_pos e3]; rfl
      · have e3 : m.op_ ≠ 3 := by simpa using c12
        refine ok_skip (h3 _ ?_)
        refine ok_seq fun K14 h14 => ok_region rfl (q_fa _ fd135_2 rfl rfl (by decide) (q_ld _ ag9 rfl rfl (q_mv _ rfl (q_call (f261_ok m.value _ hm.2 (hv m.name)) cl261 rfl rfl (q_un _ _ rfl rfl (q_as _ rfl (run_nil (h14 _ ?_)))))))); clear h14 K14
        refine ok_ret ⟨_, rfl, ?_⟩
        unfold mat1; rw [if_neg e1, if_neg e2, if_neg e3]; rfl
/-- All matchers and labels. -/
def matB (ms : List Matcher) (l : List Label) : Bool := ms.all fun m => mat1 m (valOf l m.name)
theorem all_take {α : Type} {p : α → Bool} {l : List α} {k : Nat} {x : α} (h : l[k]? = some x) (h0 : (l.take k).all p = true) : (l.take (k + 1)).all p = p x := by
  rw [List.take_add_one, h, Option.toList_some, List.all_append, h0]; simp
theorem all_false {α : Type} {p : α → Bool} {l : List α} {k : Nat} {x : α} (h : l[k]? = some x) (h0 : p x = false) : l.all p = false :=
  List.all_eq_false.2 ⟨x, List.mem_of_getElem? h, by simp [h0]⟩
theorem f180_ok (ms : List Matcher) (l : List Label) (hn : ms.length ≤ 1048576) (hm : ∀ m ∈ ms, SMatcher m) (hl : l.length ≤ 1048576) (hv : ∀ n, (valOf l n).size ≤ 100) : PFn Tryz.prog 180 [eMatcherS ms, eLabelS l] (bool (matB ms l)) := by
  refine fn_ok' (n := 18) Tryz.func180 rfl rfl rfl (Nat.le_of_ble_eq_true rfl) rfl fun w0 O => ?_
  refine ok_seq fun K1 h1 => ok_region rfl (q_as _ rfl (run_nil (h1 _ ?_))); clear h1 K1
  refine ok_seq fun K2 h2 => ?_
  refine ok_seq fun K3 h3 => ok_region rfl (q_mv _ rfl (q_len eS66 rfl (q_mv _ rfl (run_nil (h3 _ ?_))))); clear h3 K3
  refine ok_block ?_
  refine ok_loop (fun (k : Nat) => ⟨[(1, .sv (eLabelS l)), (7, .sv (eMatcherS ms)), (8, .sv (int ms.length)), (9, .sv (int k))], []⟩) (fun k => k ≤ ms.length ∧ (ms.take k).all (fun m => mat1 m (valOf l m.name)) = true) (fun k => ms.length - k) 0 ⟨by simp, by simp⟩ (le_same ⟨rfl, rfl, by simp; rfl, rfl, trivial⟩) (fun k J => ?_)
  refine ok_seq fun K4 h4 => ok_region rfl (q_bin _ _ _ rfl rfl rfl (run_nil (h4 _ ?_))); clear h4 K4
  refine ok_seq fun K5 h5 => ?_
  refine ok_cond rfl (fun c6 => ?_) (fun c6 => ?_)
  · refine ok_skip (h5 _ ?_)
    have hk : k < ms.length := by simpa using c6
    obtain ⟨u, hu⟩ := sget hk
    refine ok_seq fun K7 h7 => ?_
    refine ok_block ?_
    refine ok_seq fun K8 h8 => ok_region rfl (q_ia el66 rfl rfl (by omega) (mget hu) (q_lds _ ag135 rfl sz135 (q_alloc _ ze135 rfl rfl rfl rfl (q_sts _ rfl rfl rfl sz135 (Nat.le_of_ble_eq_true rfl) rfl (run_nil (h8 _ ?_)))))); clear h8 K8
    refine ok_seq fun K9 h9 => ok_region rfl (q_ldbs ag135 rfl rfl sz135 rfl rfl (q_mv _ rfl (q_call (f229_ok u l (hm u (smem hu)) hl hv) cl229 rfl rfl (q_un _ _ rfl rfl (run_nil (h9 _ ?_)))))); clear h9 K9
    refine ok_cond rfl (fun c10 => ?_) (fun c10 => ?_)
    · refine ok_seq fun K11 h11 => ?_
      refine ok_region rfl (q_as _ rfl (run_nil (h11 _ ?_)))
      clear h11 K11
      refine ok_ret ⟨_, rfl, ?_⟩
      unfold matB; rw [all_false hu (by simpa using c10)]; rfl
    · refine ok_skip (h7 _ ?_)
      refine ok_last fun K12 h12 => ok_region rfl (
        q_add rfl rfl (by omega) (q_mv _ rfl (run_nil (h12 _ ⟨k + 1, by omega, ⟨hk, by rw [all_take hu J.2]; simpa using c10⟩, le_sub ⟨rfl, rfl, rfl, rfl, trivial⟩ trivial⟩))))
  · refine ok_exit (h2 _ ?_)
    have hk : k = ms.length := by have : ¬ k < ms.length := by simpa using c6
                                  omega
    refine ok_seq fun K13 h13 => ok_region rfl (q_as _ rfl (run_nil (h13 _ ?_))); clear h13 K13
    refine ok_ret ⟨_, rfl, ?_⟩
    have := J.2
    rw [hk, List.take_length] at this
    unfold matB; rw [this]; rfl
theorem f174_ok (ms : List Matcher) (l : List Label) (hn : ms.length ≤ 1048576) (hm : ∀ m ∈ ms, SMatcher m) (hg : ms.all gmB = true) (hl : l.length ≤ 1048576) (hv : ∀ n, (valOf l n).size ≤ 1048576) : PFn Tryz.prog 174 [eMatcherS ms, eLabelS l] (bool (matB ms l)) := by
  refine fn_ok' (n := 21) Tryz.func174 rfl rfl rfl (Nat.le_of_ble_eq_true rfl) rfl fun w0 O => ?_
  refine ok_seq fun K1 h1 => ok_region rfl (q_as _ rfl (run_nil (h1 _ ?_))); clear h1 K1
  refine ok_seq fun K2 h2 => ?_
  refine ok_seq fun K3 h3 => ok_region rfl (q_mv _ rfl (q_len eS66 rfl (q_mv _ rfl (run_nil (h3 _ ?_))))); clear h3 K3
  refine ok_block ?_
  refine ok_loop (fun (k : Nat) => ⟨[(1, .sv (eLabelS l)), (7, .sv (eMatcherS ms)), (8, .sv (int ms.length)), (9, .sv (int k))], []⟩) (fun k => k ≤ ms.length ∧ (ms.take k).all (fun m => mat1 m (valOf l m.name)) = true) (fun k => ms.length - k) 0 ⟨by simp, by simp⟩ (le_same ⟨rfl, rfl, by simp; rfl, rfl, trivial⟩) (fun k J => ?_)
  refine ok_seq fun K4 h4 => ok_region rfl (q_bin _ _ _ rfl rfl rfl (run_nil (h4 _ ?_))); clear h4 K4
  refine ok_seq fun K5 h5 => ?_
  refine ok_cond rfl (fun c6 => ?_) (fun c6 => ?_)
  · refine ok_skip (h5 _ ?_)
    have hk : k < ms.length := by simpa using c6
    obtain ⟨u, hu⟩ := sget hk
    refine ok_seq fun K7 h7 => ?_
    refine ok_block ?_
    refine ok_seq fun K8 h8 => ok_region rfl (q_ia el66 rfl rfl (by omega) (mget hu) (q_lds _ ag135 rfl sz135 (q_alloc _ ze135 rfl rfl rfl rfl (q_sts _ rfl rfl rfl sz135 (Nat.le_of_ble_eq_true rfl) rfl (run_nil (h8 _ ?_)))))); clear h8 K8
    refine ok_seq fun K9 h9 => ?_
    refine ok_region_i (by kernel_rfl) (by kernel_rfl) rfl (
      q_ldbs ag135 rfl rfl sz135 rfl rfl (q_mv _ rfl (q_fap fd135_0 rfl (by decide) (q_ldb (.sv (str u.name)) ag9 rfl rfl rfl (q_call (f149_ok l hl u.name) cl149 rfl rfl (q_call (f225_ok u _ (hm u (smem hu)) (hv u.name) (List.all_eq_true.1 hg u (smem hu))) cl225 rfl rfl (
      q_un _ _ rfl rfl (run_nil (h9 _ ?_)))))))))
    clear h9 K9
    refine ok_cond rfl (fun c10 => ?_) (fun c10 => ?_)
    · refine ok_seq fun K11 h11 => ?_
      refine ok_region rfl (q_as _ rfl (run_nil (h11 _ ?_)))
      clear h11 K11
      refine ok_ret ⟨_, rfl, ?_⟩
      unfold matB; rw [all_false hu (by simpa using c10)]; rfl
    · refine ok_skip (h7 _ ?_)
      refine ok_last fun K12 h12 => ok_region rfl (
        q_add rfl rfl (by omega) (q_mv _ rfl (run_nil (h12 _ ⟨k + 1, by omega, ⟨hk, by rw [all_take hu J.2]; simpa using c10⟩, le_sub ⟨rfl, rfl, rfl, rfl, trivial⟩ trivial⟩))))
  · refine ok_exit (h2 _ ?_)
    have hk : k = ms.length := by have : ¬ k < ms.length := by simpa using c6
                                  omega
    refine ok_seq fun K13 h13 => ok_region rfl (q_as _ rfl (run_nil (h13 _ ?_))); clear h13 K13
    refine ok_ret ⟨_, rfl, ?_⟩
    have := J.2
    rw [hk, List.take_length] at this
    unfold matB; rw [this]; rfl
/-- Good matchers. -/
def gmsB (ms : List Matcher) : Bool := decide ((ms.length : Int) ≤ 10) && ms.all gmB
theorem f179_ok (m : Matcher) (hm : SMatcher m) : PFn Tryz.prog 179 [eMatcher m] (bool (gmB m)) := by
  refine fn_ok' (n := 31) Tryz.func179 rfl rfl rfl (Nat.le_of_ble_eq_true rfl) rfl fun w0 O => ?_
  refine ok_seq fun K1 h1 => ok_region rfl (q_boxs _ rfl (Nat.zero_lt_succ _) (q_as _ rfl (run_nil (h1 _ ?_)))); clear h1 K1
  refine ok_seq fun K2 h2 => ?_
  refine ok_seq fun K3 h3 => ?_
  refine ok_region rfl (q_fa _ fd135_0 rfl rfl (by decide) (q_ld _ ag9 rfl rfl (q_call (f195_ok m.name hm.1) cl195 rfl rfl (q_un _ _ rfl rfl (q_mv _ rfl (q_or 3 3 rfl rfl rfl rfl rfl (fun hb11 =>
      q_fa _ fd135_1 rfl rfl (by decide) (q_ld _ ag3 rfl rfl (q_bin _ _ _ rfl rfl rfl (run_nil ⟨rfl, rfl, rfl, rfl⟩)))) (
    q_mv _ rfl (q_or 3 3 rfl rfl rfl rfl rfl (fun hb16 =>
      q_fa _ fd135_1 rfl rfl (by decide) (q_ld _ ag3 rfl rfl (q_bin _ _ _ rfl rfl rfl (run_nil ⟨rfl, rfl, rfl, rfl⟩)))) (
    q_mv _ rfl (q_or 4 4 rfl rfl rfl rfl rfl (fun hb22 =>
      q_fa _ fd135_2 rfl rfl (by decide) (q_ld _ ag9 rfl rfl (q_call (f227_ok m.value hm.2 100) cl227 rfl rfl (q_un _ _ rfl rfl (run_nil ⟨rfl, rfl, rfl, rfl⟩))))) (
    run_nil (h3 _ ?_))))))))))))
  clear h3 K3
  refine ok_cond rfl (fun c4 => ?_) (fun c4 => ?_)
  · refine ok_seq fun K5 h5 => ?_
    refine ok_region rfl (q_as _ rfl (run_nil (h5 _ ?_)))
    clear h5 K5
    refine ok_ret ⟨_, rfl, ?_⟩
    have : gmB m = false := by
      cases hg : gmB m with
      | false => rfl
      | true =>
        unfold gmB at hg
        simp only [Bool.and_eq_true, Bool.or_eq_true, decide_eq_true_eq] at hg
        obtain ⟨⟨⟨⟨g1, g2⟩, g3⟩, g4, g5⟩, g6⟩ := hg
        simp [g1, g5] at c4
        omega
    rw [this]; rfl
  · refine ok_skip (h2 _ ?_)
    refine ok_seq fun K6 h6 => ?_
    refine ok_region rfl (q_fa _ fd135_1 rfl rfl (by decide) (q_ld _ ag3 rfl rfl (q_bin _ _ _ rfl rfl rfl (q_mv _ rfl (q_or 3 3 rfl rfl rfl rfl rfl (fun hb30 =>
        q_fa _ fd135_2 rfl rfl (by decide) (q_ld _ ag9 rfl rfl (q_call (f228_ok m.value hm.2) cl228 rfl rfl (run_nil ⟨rfl, rfl, rfl, rfl⟩)))) (
      q_as _ rfl (run_nil (h6 _ ?_))))))))
    clear h6 K6
    refine ok_ret ⟨_, rfl, ?_⟩
    have : gmB m = (decide (m.op_ < 3) || patOk m.value) := by
      simp only [Bool.or_eq_false_iff, Bool.not_eq_false', decide_eq_false_iff_not] at c4
      obtain ⟨⟨⟨g1, g2⟩, g3⟩, g4⟩ := c4
      unfold gmB
      rw [g1, g4, decide_eq_true (by omega : 1 ≤ m.op_), decide_eq_true (by omega : m.op_ ≤ 4)]
      simp
    rw [this]; rfl
theorem f178_ok (m : Matcher) (hm : SMatcher m) : PFn Tryz.prog 178 [eMatcher m] (bool (!gmB m)) := by
  refine fn_ok' (n := 6) Tryz.func178 rfl rfl rfl (Nat.le_of_ble_eq_true rfl) rfl fun w0 O => ?_
  refine ok_seq fun K1 h1 => ok_region rfl (q_boxs _ rfl (Nat.zero_lt_succ _) (q_as _ rfl (run_nil (h1 _ ?_)))); clear h1 K1
  refine ok_seq fun K2 h2 => ok_region rfl (q_lds _ ag135 rfl sz135 (q_call (f179_ok m hm) cl179 rfl rfl (q_un _ _ rfl rfl (q_as _ rfl (run_nil (h2 _ ?_)))))); clear h2 K2
  exact ok_ret ⟨_, rfl, rfl⟩
/-- The first place of one that is so; -1. -/
def fstI {α : Type} (p : α → Bool) : List α → Nat → Int
  | [], _ => -1
  | x :: l, k => if p x then k else fstI p l (k + 1)
theorem fstI_any {α : Type} (p : α → Bool) : ∀ (l : List α) (k : Nat), decide (0 ≤ fstI p l k) = l.any p
  | [], k => by simp [fstI]
  | x :: l, k => by
    cases h : p x with
    | true => simp [fstI, h]
    | false => simp only [fstI, h, List.any_cons, Bool.false_or]; exact fstI_any p l (k + 1)
theorem f226_ok (ms : List Matcher) (hn : ms.length ≤ 1048576) (hm : ∀ m ∈ ms, SMatcher m) : PFn Tryz.prog 226 [eMatcherS ms, fv 178] (int (fstI (fun m => !gmB m) ms 0)) := by
  refine fn_ok' (n := 19) Tryz.func226 rfl rfl rfl (Nat.le_of_ble_eq_true rfl) rfl fun w0 O => ?_
  refine ok_seq fun K1 h1 => ok_region rfl (q_as _ rfl (run_nil (h1 _ ?_))); clear h1 K1
  refine ok_seq fun K2 h2 => ?_
  refine ok_seq fun K3 h3 => ok_region rfl (q_mv _ rfl (q_len eS66 rfl (q_mv _ rfl (run_nil (h3 _ ?_))))); clear h3 K3
  refine ok_block ?_
  refine ok_loop (fun (k : Nat) => ⟨[(0, .sv (eMatcherS ms)), (1, .sv (fv 178)), (7, .sv (int ms.length)), (8, .sv (int k))], []⟩) (fun k => k ≤ ms.length ∧ fstI (fun m => !gmB m) ms 0 = fstI (fun m => !gmB m) (ms.drop k) k) (fun k => ms.length - k) 0 ⟨by simp, rfl⟩ (le_same ⟨rfl, rfl, by simp; rfl, rfl, trivial⟩) (fun k J => ?_)
  refine ok_seq fun K4 h4 => ok_region rfl (q_bin _ _ _ rfl rfl rfl (run_nil (h4 _ ?_))); clear h4 K4
  refine ok_seq fun K5 h5 => ?_
  refine ok_cond rfl (fun c6 => ?_) (fun c6 => ?_)
  · refine ok_skip (h5 _ ?_)
    have hk : k < ms.length := by simpa using c6
    obtain ⟨u, hu⟩ := sget hk
    have hj := J.2
    rw [drop_cons hu] at hj
    simp only [fstI] at hj
    refine ok_seq fun K7 h7 => ?_
    refine ok_block ?_
    refine ok_seq fun K8 h8 => ok_region rfl (q_mv _ rfl (q_as _ rfl (run_nil (h8 _ ?_)))); clear h8 K8
    refine ok_seq fun K9 h9 => ok_region rfl (q_mv _ rfl (q_mv _ rfl (q_mv _ rfl (q_ia el66 rfl rfl (by omega) (mget hu) (q_lds _ ag135 rfl sz135 (q_callv (f178_ok u (hm u (smem hu))) cl178 rfl rfl rfl (run_nil (h9 _ ?_)))))))); clear h9 K9
    refine ok_cond rfl (fun c10 => ?_) (fun c10 => ?_)
    · refine ok_seq fun K11 h11 => ?_
      refine ok_region rfl (q_mv _ rfl (q_as _ rfl (run_nil (h11 _ ?_))))
      clear h11 K11
      refine ok_ret ⟨_, rfl, ?_⟩
      rw [hj, if_pos c10]; rfl
    · refine ok_skip (h7 _ ?_)
      refine ok_last fun K12 h12 => ok_region rfl (
        q_add rfl rfl (by omega) (q_mv _ rfl (run_nil (h12 _ ⟨k + 1, by omega, ⟨hk, by rw [hj, if_neg (by rw [c10]; simp)]⟩, le_same ⟨rfl, rfl, rfl, rfl, trivial⟩⟩))))
  · refine ok_exit (h2 _ ?_)
    have hk : k = ms.length := by have : ¬ k < ms.length := by simpa using c6
                                  omega
    refine ok_seq fun K13 h13 => ok_region rfl (q_as _ rfl (run_nil (h13 _ ?_))); clear h13 K13
    refine ok_ret ⟨_, rfl, ?_⟩
    have := J.2
    rw [hk, List.drop_length] at this
    rw [this]; rfl
theorem f177_ok (ms : List Matcher) (hn : ms.length ≤ 1048576) (hm : ∀ m ∈ ms, SMatcher m) : PFn Tryz.prog 177 [eMatcherS ms, fv 178] (bool (ms.any fun m => !gmB m)) := by
  refine fn_ok' (n := 9) Tryz.func177 rfl rfl rfl (Nat.le_of_ble_eq_true rfl) rfl fun w0 O => ?_
  refine ok_seq fun K1 h1 => ok_region rfl (q_as _ rfl (run_nil (h1 _ ?_))); clear h1 K1
  refine ok_seq fun K2 h2 => ok_region rfl (q_mv _ rfl (q_mv _ rfl (q_call (f226_ok ms hn hm) cl226 rfl rfl (q_bin _ _ _ rfl rfl rfl (q_as _ rfl (run_nil (h2 _ ?_))))))); clear h2 K2
  refine ok_ret ⟨_, rfl, ?_⟩
  rw [← fstI_any]; rfl
theorem f99_ok (ms : List Matcher) (hn : ms.length ≤ 1048576) (hm : ∀ m ∈ ms, SMatcher m) : PFn Tryz.prog 99 [eMatcherS ms] (bool (gmsB ms)) := by
  refine fn_ok' (n := 11) Tryz.func99 rfl rfl rfl (Nat.le_of_ble_eq_true rfl) rfl fun w0 O => ?_
  refine ok_seq fun K1 h1 => ok_region rfl (q_as _ rfl (run_nil (h1 _ ?_))); clear h1 K1
  refine ok_seq fun K2 h2 => ?_
  refine ok_region rfl (q_mv _ rfl (q_len eS66 rfl (q_bin _ _ _ rfl rfl rfl (q_mv _ rfl (q_and 3 3 rfl rfl rfl rfl rfl (fun hb10 =>
      q_mv _ rfl (q_call (f177_ok ms hn hm) cl177 rfl rfl (q_un _ _ rfl rfl (run_nil ⟨rfl, rfl, rfl, rfl⟩)))) (
    q_as _ rfl (run_nil (h2 _ ?_))))))))
  clear h2 K2
  refine ok_ret ⟨_, rfl, ?_⟩
  have e : (!ms.any fun m => !gmB m) = ms.all gmB := by rw [List.not_any_eq_all_not]; simp
  unfold gmsB
  rw [← e]; simp; rfl
theorem f93_ok (ms : List Matcher) (hn : ms.length ≤ 1048576) (hm : ∀ m ∈ ms, SMatcher m) : PFn Tryz.prog 93 [eMatcherS ms] (bool (gmsB ms)) := by
  refine fn_ok' (n := 52) Tryz.func93 rfl rfl rfl (Nat.le_of_ble_eq_true rfl) rfl fun w0 O => ?_
  refine ok_seq fun K1 h1 => ok_region rfl (q_as _ rfl (run_nil (h1 _ ?_))); clear h1 K1
  refine ok_seq fun K2 h2 => ?_
  refine ok_seq fun K3 h3 => ok_region rfl (q_mv _ rfl (q_len eS66 rfl (q_bin _ _ _ rfl rfl rfl (run_nil (h3 _ ?_))))); clear h3 K3
  refine ok_cond rfl (fun c4 => ?_) (fun c4 => ?_)
  · refine ok_seq fun K5 h5 => ?_
    refine ok_region rfl (q_as _ rfl (run_nil (h5 _ ?_)))
    clear h5 K5
    refine ok_ret ⟨_, rfl, ?_⟩
    have : gmsB ms = false := by unfold gmsB; rw [decide_eq_false (by simp at c4; omega)]; rfl
    rw [this]; rfl
  · refine ok_skip (h2 _ ?_)
    have hB : gmsB ms = ms.all gmB := by unfold gmsB; rw [decide_eq_true (by simp at c4; omega)]; rfl
    refine ok_seq fun K6 h6 => ?_
    refine ok_seq fun K7 h7 => ok_region rfl (q_mv _ rfl (q_len eS66 rfl (q_mv _ rfl (run_nil (h7 _ ?_))))); clear h7 K7
    refine ok_block ?_
    refine ok_loop (fun (k : Nat) => ⟨[(8, .sv (eMatcherS ms)), (9, .sv (int ms.length)), (10, .sv (int k))], []⟩) (fun k => k ≤ ms.length ∧ (ms.take k).all gmB = true) (fun k => ms.length - k) 0 ⟨by simp, by simp⟩ (le_same ⟨rfl, by simp; rfl, rfl, trivial⟩) (fun k J => ?_)
    refine ok_seq fun K8 h8 => ok_region rfl (q_bin _ _ _ rfl rfl rfl (run_nil (h8 _ ?_))); clear h8 K8
    refine ok_seq fun K9 h9 => ?_
    refine ok_cond rfl (fun c10 => ?_) (fun c10 => ?_)
    · refine ok_skip (h9 _ ?_)
      have hk : k < ms.length := by simpa using c10
      obtain ⟨u, hu⟩ := sget hk
      have nu := hm u (smem hu)
      refine ok_seq fun K11 h11 => ?_
      refine ok_block ?_
      refine ok_seq fun K12 h12 => ok_region rfl (q_ia el66 rfl rfl (by omega) (mget hu) (q_lds _ ag135 rfl sz135 (q_alloc _ ze135 rfl rfl rfl rfl (q_sts _ rfl rfl rfl sz135 (Nat.le_of_ble_eq_true rfl) rfl (run_nil (h12 _ ?_)))))); clear h12 K12
      refine ok_seq fun K13 h13 => ?_
      refine ok_region rfl (q_fap fd135_0 rfl (by decide) (q_ldb (.sv (str u.name)) ag9 rfl rfl rfl (q_call (f171_ok u.name nu.1) cl171 rfl rfl (q_un _ _ rfl rfl (q_mv _ rfl (q_or 3 3 rfl rfl rfl rfl rfl (fun hb22 =>
          q_fap fd135_1 rfl (by decide) (q_ldb (.sv (int u.op_)) ag3 rfl rfl rfl (q_bin _ _ _ rfl rfl rfl (run_nil ⟨rfl, rfl, rfl, rfl⟩)))) (
        q_mv _ rfl (q_or 3 3 rfl rfl rfl rfl rfl (fun hb27 =>
          q_fap fd135_1 rfl (by decide) (q_ldb (.sv (int u.op_)) ag3 rfl rfl rfl (q_bin _ _ _ rfl rfl rfl (run_nil ⟨rfl, rfl, rfl, rfl⟩)))) (
        q_mv _ rfl (q_or 4 4 rfl rfl rfl rfl rfl (fun hb33 =>
          q_fap fd135_2 rfl (by decide) (q_ldb (.sv (str u.value)) ag9 rfl rfl rfl (q_lens st9 rfl (q_bin _ _ _ rfl rfl rfl (run_nil ⟨rfl, rfl, rfl, rfl⟩))))) (
        q_mv _ rfl (q_or 4 4 rfl rfl rfl rfl rfl (fun hb39 =>
          q_fap fd135_2 rfl (by decide) (q_ldb (.sv (str u.value)) ag9 rfl rfl rfl (q_call (f172_ok u.value nu.2) cl172 rfl rfl (q_un _ _ rfl rfl (run_nil ⟨rfl, rfl, rfl, rfl⟩))))) (
        q_mv _ rfl (q_or 9 5 rfl rfl rfl rfl rfl (fun hb50 =>
          q_fap fd135_1 rfl (by decide) (q_ldb (.sv (int u.op_)) ag3 rfl rfl rfl (q_bin _ _ _ rfl rfl rfl (q_mv _ rfl (q_and 4 4 rfl rfl rfl rfl rfl (fun hb49 =>
            q_fap fd135_2 rfl (by decide) (q_ldb (.sv (str u.value)) ag9 rfl rfl rfl (q_call (f173_ok u.value nu.2) cl173 rfl rfl (q_un _ _ rfl rfl (run_nil ⟨rfl, rfl, rfl, rfl⟩))))) (
          run_nil ⟨rfl, rfl, rfl, rfl⟩)))))) (
        run_nil (h13 _ ?_))))))))))))))))
      clear h13 K13
      refine ok_cond rfl (fun c14 => ?_) (fun c14 => ?_)
      · refine ok_seq fun K15 h15 => ?_
        refine ok_region rfl (q_as _ rfl (run_nil (h15 _ ?_)))
        clear h15 K15
        refine ok_ret ⟨_, rfl, ?_⟩
        have : gmB u = false := by
          cases hg : gmB u with
          | false => rfl
          | true =>
            unfold gmB at hg
            simp only [Bool.and_eq_true, Bool.or_eq_true, decide_eq_true_eq] at hg
            obtain ⟨⟨⟨⟨g1, g2⟩, g3⟩, g4, g5⟩, g6⟩ := hg
            simp [g1, g5] at c14
            rcases g6 with g6 | g6
            · omega
            · simp [g6] at c14; omega
        rw [hB, all_false hu this]; rfl
      · refine ok_skip (h11 _ ?_)
        have : gmB u = true := by
          simp only [Bool.or_eq_false_iff, Bool.not_eq_false', decide_eq_false_iff_not, Bool.and_eq_false_iff] at c14
          obtain ⟨⟨⟨⟨⟨g1, g2⟩, g3⟩, g4⟩, g5⟩, g6⟩ := c14
          unfold gmB
          rw [g1, g5, decide_eq_true (by omega : 1 ≤ u.op_), decide_eq_true (by omega : u.op_ ≤ 4), decide_eq_true (by omega : (u.value.size : Int) ≤ 100)]
          rcases g6 with g6 | g6
          · rw [decide_eq_true (by omega : u.op_ < 3)]; simp
          · rw [g6]; simp
        refine ok_last fun K16 h16 => ok_region rfl (
          q_add rfl rfl (by omega) (q_mv _ rfl (run_nil (h16 _ ⟨k + 1, by omega, ⟨hk, by rw [all_take hu J.2]; exact this⟩, le_sub ⟨rfl, rfl, rfl, trivial⟩ trivial⟩))))
    · refine ok_exit (h6 _ ?_)
      have hk : k = ms.length := by have : ¬ k < ms.length := by simpa using c10
                                    omega
      refine ok_seq fun K17 h17 => ok_region rfl (q_as _ rfl (run_nil (h17 _ ?_))); clear h17 K17
      refine ok_ret ⟨_, rfl, ?_⟩
      have := J.2
      rw [hk, List.take_length] at this
      rw [hB, this]; rfl
end Go.Ring
