/- Parts of the proof, laid together: G7 G9 P1 P2 U0. No condition. -/
import Derived.Test.YtanilephcohjkaaGreatSg4
import Derived.KernelRfl
import Derived.Test.YtanilephcohjkaaGreatEg2
import Derived.Test.YtanilephcohjkaaGreatFam
/- Labels set side by side; series. No condition. -/
namespace Go.Ring
open Go Go.RowKit Go.Eager Go.Abs Go.Proofs
set_option maxRecDepth 100000
set_option linter.unusedVariables false
set_option linter.unusedSimpArgs false
theorem cmpT_cases : ∀ (a b : List UInt8), cmpT a b = -1 ∨ cmpT a b = 0 ∨ cmpT a b = 1
  | [], [] => .inr (.inl rfl)
  | [], _ :: _ => .inl rfl
  | _ :: _, [] => .inr (.inr rfl)
  | x :: a, y :: b => by
    unfold cmpT
    split
    · exact cmpT_cases a b
    · unfold cmpN; split
      · exact .inl rfl
      · split
        · exact .inr (.inr rfl)
        · exact .inr (.inl rfl)
theorem cmpT_zero : ∀ (a b : List UInt8), cmpT a b = 0 ↔ a = b
  | [], [] => by simp [cmpT]
  | [], _ :: _ => by simp [cmpT]
  | _ :: _, [] => by simp [cmpT]
  | x :: a, y :: b => by
    unfold cmpT
    by_cases h : x = y
    · subst h; simp [cmpT_zero a b]
    · have hne : x.toNat ≠ y.toNat := fun e => h (UInt8.toNat_inj.1 e)
      simp only [h, if_false, cmpN, List.cons.injEq, false_and, iff_false]
      (repeat split) <;> omega
def orL : List Int → Int
  | [] => 0
  | x :: l => if x ≠ 0 then x else orL l
theorem orL_step {xs : List Int} {k : Nat} {x : Int} (h : xs[k]? = some x) : orL (xs.drop k) = if x ≠ 0 then x else orL (xs.drop (k + 1)) := by
  obtain ⟨hlt, he⟩ := List.getElem?_eq_some_iff.1 h
  rw [List.drop_eq_getElem_cons hlt, he]; rfl
theorem orL_end {xs : List Int} {k : Nat} (h : xs.length ≤ k) : orL (xs.drop k) = 0 := by rw [List.drop_of_length_le h]; rfl
def cmpLs : List Label → List Label → Int
  | [], m => cmpN 0 m.length
  | a :: l, [] => cmpN (a :: l).length 0
  | a :: l, b :: m => if cmpB a.name b.name ≠ 0 then cmpB a.name b.name else if cmpB a.value b.value ≠ 0 then cmpB a.value b.value else cmpLs l m
theorem cmpLs_step {a b : List Label} {k : Nat} {x y : Label} (ha : a[k]? = some x) (hb : b[k]? = some y) : cmpLs (a.drop k) (b.drop k) = if cmpB x.name y.name ≠ 0 then cmpB x.name y.name else if cmpB x.value y.value ≠ 0 then cmpB x.value y.value else cmpLs (a.drop (k + 1)) (b.drop (k + 1)) := by
  obtain ⟨h1, h2⟩ := List.getElem?_eq_some_iff.1 ha
  obtain ⟨h3, h4⟩ := List.getElem?_eq_some_iff.1 hb
  rw [List.drop_eq_getElem_cons h1, h2, List.drop_eq_getElem_cons h3, h4]; rfl
theorem cmpN_off (a b k : Nat) (ha : k ≤ a) (hb : k ≤ b) : cmpN ((a - k : Nat) : Int) ((b - k : Nat) : Int) = cmpN a b := by unfold cmpN; (repeat split) <;> omega
theorem cmpLs_end {a b : List Label} {k : Nat} (ha : k ≤ a.length) (hb : k ≤ b.length) (h : a.length ≤ k ∨ b.length ≤ k) : cmpLs (a.drop k) (b.drop k) = cmpN a.length b.length := by
  have e : ∀ (l m : List Label), l = [] ∨ m = [] → cmpLs l m = cmpN l.length m.length := by
    intro l m h
    cases l with
    | nil => rfl
    | cons x l =>
      cases m with
      | nil => rfl
      | cons y m => simp at h
  rw [e _ _ (h.imp List.drop_of_length_le List.drop_of_length_le), List.length_drop, List.length_drop, cmpN_off _ _ _ ha hb]
def valOf : List Label → ByteArray → ByteArray
  | [], _ => ⟨#[]⟩
  | x :: l, n => if x.name.data.toList = n.data.toList then x.value else valOf l n
theorem valOf_step {l : List Label} {k : Nat} {x : Label} (h : l[k]? = some x) (n : ByteArray) : valOf (l.drop k) n = if x.name.data.toList = n.data.toList then x.value else valOf (l.drop (k + 1)) n := by
  obtain ⟨hlt, he⟩ := List.getElem?_eq_some_iff.1 h
  rw [List.drop_eq_getElem_cons hlt, he]; rfl
theorem valOf_end {l : List Label} {k : Nat} (h : l.length ≤ k) (n : ByteArray) : valOf (l.drop k) n = ⟨#[]⟩ := by rw [List.drop_of_length_le h]; rfl
@[reducible] def nm : ByteArray := ⟨#[95, 110, 97, 109, 101]⟩
def hasNm (l : List Label) : Bool := !decide ((valOf l nm).data.toList = (⟨#[]⟩ : ByteArray).data.toList)
def SeriesAt (l : List Series) (i : Nat) (x : Series) : Prop := LabelsOk x.labels ∧ hasNm x.labels = true ∧ SamplesOk x.samples ∧ x.samples.length ≠ 0 ∧ ∀ p, 0 < i → l[i - 1]? = some p → cmpLs p.labels x.labels < 0
def SeriesOk (l : List Series) : Prop := l.length ≤ 200 ∧ ∀ i x, l[i]? = some x → SeriesAt l i x
theorem f142_ok (x : ByteArray) : PFn Tryz.prog 142 [str x] (bool false) := by
  refine fn_ok' (n := 6) Tryz.func142 rfl rfl rfl (Nat.le_of_ble_eq_true rfl) rfl fun w0 O => ?_
  refine ok_seq fun K1 h1 => ok_region rfl (q_as _ rfl (run_nil (h1 _ ?_)))
  refine ok_seq fun K2 h2 => ok_region rfl (q_mv _ rfl (q_mv _ rfl (q_bin _ _ _ rfl rfl rfl (q_as _ rfl (run_nil (h2 _ ?_))))))
  refine ok_ret ⟨_, rfl, ?_⟩
  simp [tupSV]
theorem f210_ok (x : Int) : PFn Tryz.prog 210 [int x] (bool false) := by
  refine fn_ok' (n := 6) Tryz.func210 rfl rfl rfl (Nat.le_of_ble_eq_true rfl) rfl fun w0 O => ?_
  refine ok_seq fun K1 h1 => ok_region rfl (q_as _ rfl (run_nil (h1 _ ?_)))
  refine ok_seq fun K2 h2 => ok_region rfl (q_mv _ rfl (q_mv _ rfl (q_bin _ _ _ rfl rfl rfl (q_as _ rfl (run_nil (h2 _ ?_))))))
  refine ok_ret ⟨_, rfl, ?_⟩
  simp [tupSV]
theorem f73_ok (a b : ByteArray) : PFn Tryz.prog 73 [str a, str b] (int (cmpB a b)) := by
  refine fn_ok' (n := 20) Tryz.func73 rfl rfl rfl (Nat.le_of_ble_eq_true rfl) rfl fun w0 O => ?_
  refine ok_seq fun K1 h1 => ok_region rfl (q_as _ rfl (run_nil (h1 _ ?_)))
  refine ok_seq fun K2 h2 => ok_region rfl (q_mv _ rfl (q_call (f142_ok a) cl142 rfl rfl (q_as _ rfl (run_nil (h2 _ ?_)))))
  refine ok_seq fun K3 h3 => ok_region rfl (q_mv _ rfl (q_call (f142_ok b) cl142 rfl rfl (q_as _ rfl (run_nil (h3 _ ?_)))))
  refine ok_seq fun K4 h4 => ?_
  refine ok_seq fun K5 h5 => ok_region rfl (q_mv _ rfl (run_nil (h5 _ ?_)))
  refine ok_cond rfl (fun c6 => ?_) (fun c6 => ?_)
  · refine ok_seq fun K7 h7 => ?_
    refine ok_seq fun K8 h8 => ok_region rfl (q_mv _ rfl (run_nil (h8 _ ?_)))
    refine ok_cond rfl (fun c9 => ?_) (fun c9 => ?_)
    · refine ok_seq fun K10 h10 => ?_
      refine ok_region rfl (q_as _ rfl (run_nil (h10 _ ?_)))
      refine ok_ret ⟨_, rfl, ?_⟩
      simp at c6
    · refine ok_skip (h7 _ ?_)
      refine ok_seq fun K11 h11 => ok_region rfl (q_as _ rfl (run_nil (h11 _ ?_)))
      refine ok_ret ⟨_, rfl, ?_⟩
      simp at c6
  · refine ok_skip (h4 _ ?_)
    refine ok_seq fun K12 h12 => ?_
    refine ok_seq fun K13 h13 => ok_region rfl (q_mv _ rfl (run_nil (h13 _ ?_)))
    refine ok_cond rfl (fun c14 => ?_) (fun c14 => ?_)
    · refine ok_seq fun K15 h15 => ?_
      refine ok_region rfl (q_as _ rfl (run_nil (h15 _ ?_)))
      refine ok_ret ⟨_, rfl, ?_⟩
      simp at c14
    · refine ok_skip (h12 _ ?_)
      refine ok_seq fun K16 h16 => ?_
      refine ok_seq fun K17 h17 => ok_region rfl (q_mv _ rfl (q_mv _ rfl (q_bin _ _ _ rfl rfl rfl (run_nil (h17 _ ?_)))))
      refine ok_cond rfl (fun c18 => ?_) (fun c18 => ?_)
      · refine ok_seq fun K19 h19 => ?_
        refine ok_region rfl (q_as _ rfl (run_nil (h19 _ ?_)))
        refine ok_ret ⟨_, rfl, ?_⟩
        rw [show cmpB a b = -1 by have := of_decide_eq_true ((cmpB_less a b).symm.trans c18); have := cmpT_cases a.data.toList b.data.toList; unfold cmpB at *; omega]; rfl
      · refine ok_skip (h16 _ ?_)
        refine ok_seq fun K20 h20 => ?_
        refine ok_seq fun K21 h21 => ok_region rfl (q_mv _ rfl (q_mv _ rfl (q_bin _ _ _ rfl rfl rfl (run_nil (h21 _ ?_)))))
        refine ok_cond rfl (fun c22 => ?_) (fun c22 => ?_)
        · refine ok_seq fun K23 h23 => ?_
          refine ok_region rfl (q_as _ rfl (run_nil (h23 _ ?_)))
          refine ok_ret ⟨_, rfl, ?_⟩
          rw [show cmpB a b = 1 by
            have h1 := of_decide_eq_false ((cmpB_less a b).symm.trans c18)
            simp only [Bool.not_eq_true', Bool.or_eq_false_iff, decide_eq_false_iff_not] at c22
            have h2 := (not_congr (cmpT_zero a.data.toList b.data.toList)).2 c22.2
            have := cmpT_cases a.data.toList b.data.toList; unfold cmpB at *; omega]; rfl
        · refine ok_skip (h20 _ ?_)
          refine ok_seq fun K24 h24 => ok_region rfl (q_as _ rfl (run_nil (h24 _ ?_)))
          refine ok_ret ⟨_, rfl, ?_⟩
          rw [show cmpB a b = 0 by
            have h1 := of_decide_eq_false ((cmpB_less a b).symm.trans c18)
            simp only [Bool.not_eq_false', Bool.or_eq_true, decide_eq_true_eq] at c22
            rcases c22 with c | c
            · rw [c18] at c; cases c
            · exact (cmpT_zero _ _).2 c]; rfl
theorem f157_ok (a b : Int) : PFn Tryz.prog 157 [int a, int b] (int (cmpN a b)) := by
  refine fn_ok' (n := 20) Tryz.func157 rfl rfl rfl (Nat.le_of_ble_eq_true rfl) rfl fun w0 O => ?_
  refine ok_seq fun K1 h1 => ok_region rfl (q_as _ rfl (run_nil (h1 _ ?_)))
  refine ok_seq fun K2 h2 => ok_region rfl (q_mv _ rfl (q_call (f210_ok a) cl210 rfl rfl (q_as _ rfl (run_nil (h2 _ ?_)))))
  refine ok_seq fun K3 h3 => ok_region rfl (q_mv _ rfl (q_call (f210_ok b) cl210 rfl rfl (q_as _ rfl (run_nil (h3 _ ?_)))))
  refine ok_seq fun K4 h4 => ?_
  refine ok_seq fun K5 h5 => ok_region rfl (q_mv _ rfl (run_nil (h5 _ ?_)))
  refine ok_cond rfl (fun c6 => ?_) (fun c6 => ?_)
  · refine ok_seq fun K7 h7 => ?_
    refine ok_seq fun K8 h8 => ok_region rfl (q_mv _ rfl (run_nil (h8 _ ?_)))
    refine ok_cond rfl (fun c9 => ?_) (fun c9 => ?_)
    · refine ok_seq fun K10 h10 => ?_
      refine ok_region rfl (q_as _ rfl (run_nil (h10 _ ?_)))
      refine ok_ret ⟨_, rfl, ?_⟩
      simp at c6
    · refine ok_skip (h7 _ ?_)
      refine ok_seq fun K11 h11 => ok_region rfl (q_as _ rfl (run_nil (h11 _ ?_)))
      refine ok_ret ⟨_, rfl, ?_⟩
      simp at c6
  · refine ok_skip (h4 _ ?_)
    refine ok_seq fun K12 h12 => ?_
    refine ok_seq fun K13 h13 => ok_region rfl (q_mv _ rfl (run_nil (h13 _ ?_)))
    refine ok_cond rfl (fun c14 => ?_) (fun c14 => ?_)
    · refine ok_seq fun K15 h15 => ?_
      refine ok_region rfl (q_as _ rfl (run_nil (h15 _ ?_)))
      refine ok_ret ⟨_, rfl, ?_⟩
      simp at c14
    · refine ok_skip (h12 _ ?_)
      refine ok_seq fun K16 h16 => ?_
      refine ok_seq fun K17 h17 => ok_region rfl (q_mv _ rfl (q_mv _ rfl (q_bin _ _ _ rfl rfl rfl (run_nil (h17 _ ?_)))))
      refine ok_cond rfl (fun c18 => ?_) (fun c18 => ?_)
      · refine ok_seq fun K19 h19 => ?_
        refine ok_region rfl (q_as _ rfl (run_nil (h19 _ ?_)))
        refine ok_ret ⟨_, rfl, ?_⟩
        rw [cmpN, if_pos (of_decide_eq_true c18)]; rfl
      · refine ok_skip (h16 _ ?_)
        refine ok_seq fun K20 h20 => ?_
        refine ok_seq fun K21 h21 => ok_region rfl (q_mv _ rfl (q_mv _ rfl (q_bin _ _ _ rfl rfl rfl (run_nil (h21 _ ?_)))))
        refine ok_cond rfl (fun c22 => ?_) (fun c22 => ?_)
        · refine ok_seq fun K23 h23 => ?_
          refine ok_region rfl (q_as _ rfl (run_nil (h23 _ ?_)))
          refine ok_ret ⟨_, rfl, ?_⟩
          rw [cmpN, if_neg (of_decide_eq_false c18), if_pos (of_decide_eq_true c22)]; rfl
        · refine ok_skip (h20 _ ?_)
          refine ok_seq fun K24 h24 => ok_region rfl (q_as _ rfl (run_nil (h24 _ ?_)))
          refine ok_ret ⟨_, rfl, ?_⟩
          rw [cmpN, if_neg (of_decide_eq_false c18), if_neg (of_decide_eq_false c22)]; rfl
theorem f220_ok (xs : List Int) (hx : xs.length ≤ 1048576) : PFn Tryz.prog 220 [ints xs] (int (orL xs)) := by
  refine fn_ok' (n := 18) Tryz.func220 rfl rfl rfl (Nat.le_of_ble_eq_true rfl) rfl fun w0 O => ?_
  refine ok_seq fun K1 h1 => ok_region rfl (q_as _ rfl (run_nil (h1 _ ?_)))
  refine ok_seq fun K2 h2 => ok_region rfl (q_as _ rfl (run_nil (h2 _ ?_)))
  refine ok_seq fun K3 h3 => ?_
  refine ok_seq fun K4 h4 => ok_region rfl (q_mv _ rfl (q_len eS40 rfl (q_mv _ rfl (run_nil (h4 _ ?_)))))
  rw [List.length_map] at *
  refine ok_block ?_
  refine ok_loop (fun (k : Nat) => ⟨[(3, .sv (int 0)), (6, .sv (ints xs)), (7, .sv (int xs.length)), (8, .sv (int k))], []⟩) (fun k => orL xs = orL (xs.drop k)) (fun k => xs.length - k) 0 rfl (le_same ⟨rfl, rfl, rfl, rfl, trivial⟩) (fun k J => ?_)
  refine ok_seq fun K5 h5 => ok_region rfl (q_bin _ _ _ rfl rfl rfl (run_nil (h5 _ ?_)))
  refine ok_seq fun K6 h6 => ?_
  refine ok_cond rfl (fun c7 => ?_) (fun c7 => ?_)
  · refine ok_skip (h6 _ ?_)
    have hk : k < xs.length := by simpa using c7
    obtain ⟨u, hu⟩ := sget hk
    rw [orL_step hu] at J
    refine ok_seq fun K8 h8 => ?_
    refine ok_block ?_
    refine ok_seq fun K9 h9 => ok_region rfl (q_ia (s := int u) el40 rfl rfl (by omega) (mget (f := int) hu) (q_ld _ ag3 rfl rfl (q_as _ rfl (run_nil (h9 _ ?_)))))
    refine ok_seq fun K10 h10 => ok_region rfl (q_mv _ rfl (q_mv _ rfl (q_bin _ _ _ rfl rfl rfl (run_nil (h10 _ ?_)))))
    refine ok_cond rfl (fun c11 => ?_) (fun c11 => ?_)
    · refine ok_seq fun K12 h12 => ?_
      refine ok_region rfl (q_mv _ rfl (q_as _ rfl (run_nil (h12 _ ?_))))
      refine ok_ret ⟨_, rfl, ?_⟩
      rw [if_pos (by simpa using c11)] at J
      rw [J]; rfl
    · refine ok_skip (h8 _ ?_)
      refine ok_region rfl (q_add rfl rfl (by omega) (q_mv _ rfl (run_nil (⟨k + 1, by omega, by rw [if_neg (by simpa using c11)] at J; exact J, le_same ⟨rfl, rfl, rfl, rfl, trivial⟩⟩))))
  · refine ok_exit (h3 _ ?_)
    refine ok_seq fun K13 h13 => ok_region rfl (q_mv _ rfl (q_as _ rfl (run_nil (h13 _ ?_))))
    refine ok_ret ⟨_, rfl, ?_⟩
    rw [orL_end (by simpa using c7)] at J
    rw [J]; rfl
theorem f176_ok (a b : List Label) (ha : a.length ≤ 1048576 ∧ ∀ y ∈ a, SLabel y) (hb : b.length ≤ 1048576 ∧ ∀ y ∈ b, SLabel y) : PFn Tryz.prog 176 [eLabelS a, eLabelS b] (int (cmpLs a b)) := by
  have ha1 := ha.1
  have hb1 := hb.1
  refine fn_ok' (n := 53) Tryz.func176 rfl rfl rfl (Nat.le_of_ble_eq_true rfl) rfl fun w0 O => ?_
  refine ok_seq fun K1 h1 => ok_region rfl (q_as _ rfl (run_nil (h1 _ ?_)))
  refine ok_seq fun K2 h2 => ?_
  refine ok_seq fun K3 h3 => ok_region rfl (q_as _ rfl (run_nil (h3 _ ?_)))
  refine ok_block ?_
  refine ok_loop (fun (k : Nat) => ⟨[(0, .sv (eLabelS a)), (1, .sv (eLabelS b)), (5, .sv (int k))], []⟩) (fun k => k ≤ a.length ∧ k ≤ b.length ∧ cmpLs a b = cmpLs (a.drop k) (b.drop k)) (fun k => a.length - k) 0 ⟨Nat.zero_le _, Nat.zero_le _, rfl⟩ (le_same ⟨rfl, rfl, rfl, trivial⟩) (fun k J => ?_)
  obtain ⟨ja, jb, jc⟩ := J
  refine ok_seq fun K4 h4 => ?_
  refine ok_seq fun K5 h5 => ?_
  refine ok_region rfl (q_mv _ rfl (q_mv _ rfl (q_len eS78 rfl (q_bin _ _ _ rfl rfl rfl (q_mv _ rfl (q_and 4 4 rfl rfl rfl rfl rfl (fun hb17 =>
      q_mv _ rfl (q_mv _ rfl (q_len eS78 rfl (q_bin _ _ _ rfl rfl rfl (run_nil ⟨rfl, rfl, rfl, rfl⟩))))) (
    run_nil (h5 _ ?_))))))))
  simp only [List.length_map]
  refine ok_cond rfl (fun c6 => ?_) (fun c6 => ?_)
  · refine ok_skip (h4 _ ?_)
    simp only [Bool.and_eq_true, decide_eq_true_eq] at c6
    have ka : k < a.length := by omega
    have kb : k < b.length := by omega
    obtain ⟨x, hx⟩ := sget ka
    obtain ⟨y, hy⟩ := sget kb
    have nx := ha.2 x (smem hx)
    have ny := hb.2 y (smem hy)
    rw [cmpLs_step hx hy] at jc
    refine ok_seq fun K7 h7 => ?_
    refine ok_block ?_
    refine ok_seq fun K8 h8 => ?_
    refine ok_seq fun K9 h9 => ?_
    refine ok_region_i (by kernel_rfl) (by kernel_rfl) rfl (
      q_mv _ rfl (q_mv _ rfl (q_ia el78 rfl rfl (by omega) (mget hx) (q_fa _ fd190_0 rfl rfl (by decide) (q_ld _ ag9 rfl rfl (q_mv _ rfl (q_mv _ rfl (q_ia el78 rfl rfl (by omega) (mget hy) (
      q_fa _ fd190_0 rfl rfl (by decide) (q_ld _ ag9 rfl rfl (q_call (f66_ok x.name y.name nx.1 ny.1) cl66 rfl rfl (q_as _ rfl (run_nil (h9 _ ?_))))))))))))))
    refine ok_seq fun K10 h10 => ok_region rfl (q_mv _ rfl (q_bin _ _ _ rfl rfl rfl (run_nil (h10 _ ?_))))
    refine ok_cond rfl (fun c11 => ?_) (fun c11 => ?_)
    · refine ok_seq fun K12 h12 => ?_
      refine ok_region rfl (q_mv _ rfl (q_as _ rfl (run_nil (h12 _ ?_))))
      refine ok_ret ⟨_, rfl, ?_⟩
      rw [if_pos (by simpa [cmpB] using c11)] at jc
      rw [jc]; rfl
    · refine ok_skip (h8 _ ?_)
      refine ok_seq fun K13 h13 => ?_
      refine ok_region_i (by kernel_rfl) (by kernel_rfl) rfl (
        q_mv _ rfl (q_mv _ rfl (q_ia el78 rfl rfl (by omega) (mget hx) (q_fa _ fd190_1 rfl rfl (by decide) (q_ld _ ag9 rfl rfl (q_mv _ rfl (q_mv _ rfl (q_ia el78 rfl rfl (by omega) (mget hy) (
        q_fa _ fd190_1 rfl rfl (by decide) (q_ld _ ag9 rfl rfl (q_call (f66_ok x.value y.value nx.2 ny.2) cl66 rfl rfl (q_as _ rfl (run_nil (h13 _ ?_))))))))))))))
      refine ok_seq fun K14 h14 => ok_region rfl (q_mv _ rfl (q_bin _ _ _ rfl rfl rfl (run_nil (h14 _ ?_))))
      refine ok_cond rfl (fun c15 => ?_) (fun c15 => ?_)
      · refine ok_seq fun K16 h16 => ?_
        refine ok_region rfl (q_mv _ rfl (q_as _ rfl (run_nil (h16 _ ?_))))
        refine ok_ret ⟨_, rfl, ?_⟩
        rw [if_neg (by simpa [cmpB] using c11), if_pos (by simpa [cmpB] using c15)] at jc
        rw [jc]; rfl
      · refine ok_skip (h7 _ ?_)
        refine ok_region rfl (q_mv _ rfl (q_add rfl rfl (by omega) (q_as _ rfl (run_nil (⟨k + 1, by omega, ⟨ka, kb, by rw [if_neg (by simpa [cmpB] using c11), if_neg (by simpa [cmpB] using c15)] at jc; exact jc⟩, le_same ⟨rfl, rfl, rfl, trivial⟩⟩)))))
  · refine ok_exit (h2 _ ?_)
    refine ok_seq fun K17 h17 => ok_region rfl (q_mv _ rfl (q_len eS78 rfl (q_mv _ rfl (q_len eS78 rfl (q_call (f140_ok _ _) cl140 rfl rfl (q_as _ rfl (run_nil (h17 _ ?_))))))))
    refine ok_ret ⟨_, rfl, ?_⟩
    simp only [Bool.and_eq_false_iff, decide_eq_false_iff_not] at c6
    rw [jc, cmpLs_end ja jb (by omega)]
    simp [tupSV]
theorem f169_ok (a b : List Label) (ha : a.length ≤ 1048576 ∧ ∀ y ∈ a, SLabel y) (hb : b.length ≤ 1048576 ∧ ∀ y ∈ b, SLabel y) : PFn Tryz.prog 169 [eLabelS a, eLabelS b] (int (cmpLs a b)) := by
  have ha1 := ha.1
  have hb1 := hb.1
  have hm : ∃ m : Int, (if (b.length : Int) < a.length then (b.length : Int) else a.length) = m ∧ m ≤ a.length ∧ m ≤ b.length ∧ (m = a.length ∨ m = b.length) := ⟨_, rfl, by split <;> omega, by split <;> omega, by split <;> omega⟩
  obtain ⟨m, em, m1, m2, m3⟩ := hm
  refine fn_ok' (n := 48) Tryz.func169 rfl rfl rfl (Nat.le_of_ble_eq_true rfl) rfl fun w0 O => ?_
  refine ok_seq fun K1 h1 => ok_region rfl (q_as _ rfl (run_nil (h1 _ ?_)))
  refine ok_seq fun K2 h2 => ?_
  refine ok_seq fun K3 h3 => ok_region rfl (q_mv _ rfl (q_len eS78 rfl (q_mv _ rfl (q_len eS78 rfl (q_min rfl rfl (q_mv _ rfl (run_nil (h3 _ ?_))))))))
  simp only [List.length_map]
  rw [em]
  refine ok_block ?_
  refine ok_loop (fun (k : Nat) => ⟨[(0, .sv (eLabelS a)), (1, .sv (eLabelS b)), (11, .sv (int m)), (12, .sv (int k))], []⟩) (fun k => k ≤ a.length ∧ k ≤ b.length ∧ cmpLs a b = cmpLs (a.drop k) (b.drop k)) (fun k => a.length - k) 0 ⟨Nat.zero_le _, Nat.zero_le _, rfl⟩ (le_same ⟨rfl, rfl, rfl, rfl, trivial⟩) (fun k J => ?_)
  obtain ⟨ja, jb, jc⟩ := J
  refine ok_seq fun K4 h4 => ok_region rfl (q_bin _ _ _ rfl rfl rfl (run_nil (h4 _ ?_)))
  refine ok_seq fun K5 h5 => ?_
  refine ok_cond rfl (fun c6 => ?_) (fun c6 => ?_)
  · refine ok_skip (h5 _ ?_)
    have c6' := of_decide_eq_true c6
    have ka : k < a.length := by omega
    have kb : k < b.length := by omega
    obtain ⟨x, hx⟩ := sget ka
    obtain ⟨y, hy⟩ := sget kb
    have nx := ha.2 x (smem hx)
    have ny := hb.2 y (smem hy)
    rw [cmpLs_step hx hy] at jc
    refine ok_seq fun K7 h7 => ?_
    refine ok_block ?_
    refine ok_seq fun K8 h8 => ok_region rfl (q_mv _ rfl (q_as _ rfl (run_nil (h8 _ ?_))))
    refine ok_seq fun K9 h9 => ?_
    refine ok_region_d [0, 0, 0, 0, 1, 0, 0, 0, 0, 1, 3, 0, 0, 0, 0, 1, 0, 0, 0, 0, 1, 3, 3, 3, 0] #[[], [], [0, 1], [0, 1, 2], [0, 1, 2, 3], [], [], [5, 6], [5, 6, 7], [5, 6, 7, 8], [0, 1, 2, 3, 4, 5, 6, 7, 8, 9], [], [], [11, 12], [11, 12, 13], [11, 12, 13, 14], [], [], [16, 17], [16, 17, 18], [16, 17, 18, 19], [0, 1, 2, 3, 4, 5, 6, 7, 8, 9, 10, 11, 12, 13, 14, 15, 16, 17, 18, 19, 20], [0, 1, 2, 3, 4, 5, 6, 7, 8, 9, 10, 11, 12, 13, 14, 15, 16, 17, 18, 19, 20, 21], [0, 1, 2, 3, 4, 5, 6, 7, 8, 9, 10, 11, 12, 13, 14, 15, 16, 17, 18, 19, 20, 21, 22], [0, 1, 2, 3, 4, 5, 6, 7, 8, 9, 10, 11, 12, 13, 14, 15, 16, 17, 18, 19, 20, 21, 22, 23]] [0, 1, 2, 3, 4, 5, 6, 7, 8, 9, 11, 12, 13, 14, 15, 16, 17, 18, 19, 20, 10, 21, 22, 23, 24] (by kernel_rfl) (by kernel_rfl) rfl rfl (
      q_mv _ rfl (q_mv _ rfl (q_ia el78 rfl rfl (by omega) (mget hx) (q_fa _ fd190_0 rfl rfl (by decide) (q_ld _ ag9 rfl rfl (q_mv _ rfl (q_mv _ rfl (q_ia el78 rfl rfl (by omega) (mget hy) (
      q_fa _ fd190_0 rfl rfl (by decide) (q_ld _ ag9 rfl rfl (q_mv _ rfl (q_mv _ rfl (q_ia el78 rfl rfl (by omega) (mget hx) (q_fa _ fd190_1 rfl rfl (by decide) (q_ld _ ag9 rfl rfl (
      q_mv _ rfl (q_mv _ rfl (q_ia el78 rfl rfl (by omega) (mget hy) (q_fa _ fd190_1 rfl rfl (by decide) (q_ld _ ag9 rfl rfl (q_call (f73_ok x.name y.name) cl73 rfl rfl (q_call (f73_ok x.value y.value) cl73 rfl rfl (
      q_lit _ [_, _] el40 ze3 (by decide) rfl (by decide) rfl rfl (by simp [SV.one, SV.cells, Value.oneCell']) (q_call (f220_ok [_, _] (Nat.le_of_ble_eq_true rfl)) cl220 rfl rfl (q_as _ rfl (run_nil (h9 _ ?_)))))))))))))))))))))))))))
    refine ok_seq fun K10 h10 => ok_region rfl (q_mv _ rfl (q_bin _ _ _ rfl rfl rfl (run_nil (h10 _ ?_))))
    refine ok_cond rfl (fun c11 => ?_) (fun c11 => ?_)
    · refine ok_seq fun K12 h12 => ?_
      refine ok_region rfl (q_mv _ rfl (q_as _ rfl (run_nil (h12 _ ?_))))
      refine ok_ret ⟨_, rfl, ?_⟩
      have hne : orL [cmpB x.name y.name, cmpB x.value y.value] ≠ 0 := by simpa [orL] using c11
      simp only [tupSV, orL]
      simp only [orL] at hne
      rw [jc]
      by_cases h1 : cmpB x.name y.name = 0
      · by_cases h2 : cmpB x.value y.value = 0
        · simp [h1, h2] at hne
        · simp [h1, h2]
      · simp [h1]
    · refine ok_skip (h7 _ ?_)
      refine ok_region rfl (q_add rfl rfl (by omega) (q_mv _ rfl (run_nil (⟨k + 1, by omega, ⟨ka, kb, ?_⟩, le_same ⟨rfl, rfl, rfl, rfl, trivial⟩⟩))))
      have hne : orL [cmpB x.name y.name, cmpB x.value y.value] = 0 := by simpa [orL] using c11
      simp only [orL] at hne
      by_cases h1 : cmpB x.name y.name = 0
      · by_cases h2 : cmpB x.value y.value = 0
        · simpa [h1, h2] using jc
        · simp [h1, h2] at hne
      · simp [h1] at hne
  · refine ok_exit (h2 _ ?_)
    refine ok_seq fun K13 h13 => ok_region rfl (q_mv _ rfl (q_len eS78 rfl (q_mv _ rfl (q_len eS78 rfl (q_call (f157_ok _ _) cl157 rfl rfl (q_as _ rfl (run_nil (h13 _ ?_))))))))
    refine ok_ret ⟨_, rfl, ?_⟩
    have c6' := of_decide_eq_false c6
    rw [jc, cmpLs_end ja jb (by omega)]
    simp [tupSV]
theorem f149_ok (l : List Label) (hl : l.length ≤ 1048576) (n : ByteArray) : PFn Tryz.prog 149 [eLabelS l, str n] (str (valOf l n)) := by
  refine fn_ok' (n := 20) Tryz.func149 rfl rfl rfl (Nat.le_of_ble_eq_true rfl) rfl fun w0 O => ?_
  refine ok_seq fun K1 h1 => ok_region rfl (q_as _ rfl (run_nil (h1 _ ?_)))
  refine ok_seq fun K2 h2 => ?_
  refine ok_seq fun K3 h3 => ok_region rfl (q_mv _ rfl (q_len eS78 rfl (q_mv _ rfl (run_nil (h3 _ ?_)))))
  rw [List.length_map] at *
  refine ok_block ?_
  refine ok_loop (fun (k : Nat) => ⟨[(1, .sv (str n)), (7, .sv (eLabelS l)), (8, .sv (int l.length)), (9, .sv (int k))], []⟩) (fun k => valOf l n = valOf (l.drop k) n) (fun k => l.length - k) 0 rfl (le_same ⟨rfl, rfl, rfl, rfl, trivial⟩) (fun k J => ?_)
  refine ok_seq fun K4 h4 => ok_region rfl (q_bin _ _ _ rfl rfl rfl (run_nil (h4 _ ?_)))
  refine ok_seq fun K5 h5 => ?_
  refine ok_cond rfl (fun c6 => ?_) (fun c6 => ?_)
  · refine ok_skip (h5 _ ?_)
    have hk : k < l.length := by simpa using c6
    obtain ⟨u, hu⟩ := sget hk
    rw [valOf_step hu] at J
    refine ok_seq fun K7 h7 => ?_
    refine ok_block ?_
    refine ok_seq fun K8 h8 => ok_region rfl (q_ia el78 rfl rfl (by omega) (mget hu) (q_lds _ ag190 rfl sz190 (q_alloc _ ze190 rfl rfl rfl rfl (q_sts _ rfl rfl rfl sz190 (Nat.le_of_ble_eq_true rfl) rfl (run_nil (h8 _ ?_))))))
    refine ok_seq fun K9 h9 => ok_region rfl (q_fap fd190_0 rfl (by decide) (q_ldb _ ag9 rfl rfl rfl (q_mv _ rfl (q_bin _ _ _ rfl rfl rfl (run_nil (h9 _ ?_))))))
    refine ok_cond rfl (fun c10 => ?_) (fun c10 => ?_)
    · refine ok_seq fun K11 h11 => ?_
      refine ok_region rfl (q_fap fd190_1 rfl (by decide) (q_ldb _ ag9 rfl rfl rfl (q_as _ rfl (run_nil (h11 _ ?_)))))
      refine ok_ret ⟨_, rfl, ?_⟩
      rw [if_pos (of_decide_eq_true c10)] at J
      rw [J]; rfl
    · refine ok_skip (h7 _ ?_)
      refine ok_region rfl (q_add rfl rfl (by omega) (q_mv _ rfl (run_nil (⟨k + 1, by omega, by rw [if_neg (of_decide_eq_false c10)] at J; exact J, le_sub ⟨rfl, rfl, rfl, rfl, trivial⟩ trivial⟩))))
  · refine ok_exit (h2 _ ?_)
    refine ok_seq fun K12 h12 => ok_region rfl (q_as _ rfl (run_nil (h12 _ ?_)))
    refine ok_ret ⟨_, rfl, ?_⟩
    rw [valOf_end (by simpa using c6)] at J
    rw [J]; rfl
theorem f159_ok (l : List Label) (hl : l.length ≤ 1048576) (n : ByteArray) : PFn Tryz.prog 159 [eLabelS l, str n] (str (valOf l n)) := by
  refine fn_ok' (n := 20) Tryz.func159 rfl rfl rfl (Nat.le_of_ble_eq_true rfl) rfl fun w0 O => ?_
  refine ok_seq fun K1 h1 => ok_region rfl (q_as _ rfl (run_nil (h1 _ ?_)))
  refine ok_seq fun K2 h2 => ?_
  refine ok_seq fun K3 h3 => ok_region rfl (q_mv _ rfl (q_len eS78 rfl (q_mv _ rfl (run_nil (h3 _ ?_)))))
  rw [List.length_map] at *
  refine ok_block ?_
  refine ok_loop (fun (k : Nat) => ⟨[(1, .sv (str n)), (7, .sv (eLabelS l)), (8, .sv (int l.length)), (9, .sv (int k))], []⟩) (fun k => valOf l n = valOf (l.drop k) n) (fun k => l.length - k) 0 rfl (le_same ⟨rfl, rfl, rfl, rfl, trivial⟩) (fun k J => ?_)
  refine ok_seq fun K4 h4 => ok_region rfl (q_bin _ _ _ rfl rfl rfl (run_nil (h4 _ ?_)))
  refine ok_seq fun K5 h5 => ?_
  refine ok_cond rfl (fun c6 => ?_) (fun c6 => ?_)
  · refine ok_skip (h5 _ ?_)
    have hk : k < l.length := by simpa using c6
    obtain ⟨u, hu⟩ := sget hk
    rw [valOf_step hu] at J
    refine ok_seq fun K7 h7 => ?_
    refine ok_block ?_
    refine ok_seq fun K8 h8 => ok_region rfl (q_ia el78 rfl rfl (by omega) (mget hu) (q_lds _ ag190 rfl sz190 (q_alloc _ ze190 rfl rfl rfl rfl (q_sts _ rfl rfl rfl sz190 (Nat.le_of_ble_eq_true rfl) rfl (run_nil (h8 _ ?_))))))
    refine ok_seq fun K9 h9 => ok_region rfl (q_fap fd190_0 rfl (by decide) (q_ldb _ ag9 rfl rfl rfl (q_mv _ rfl (q_bin _ _ _ rfl rfl rfl (run_nil (h9 _ ?_))))))
    refine ok_cond rfl (fun c10 => ?_) (fun c10 => ?_)
    · refine ok_seq fun K11 h11 => ?_
      refine ok_region rfl (q_fap fd190_1 rfl (by decide) (q_ldb _ ag9 rfl rfl rfl (q_as _ rfl (run_nil (h11 _ ?_)))))
      refine ok_ret ⟨_, rfl, ?_⟩
      rw [if_pos (of_decide_eq_true c10)] at J
      rw [J]; rfl
    · refine ok_skip (h7 _ ?_)
      refine ok_region rfl (q_add rfl rfl (by omega) (q_mv _ rfl (run_nil (⟨k + 1, by omega, by rw [if_neg (of_decide_eq_false c10)] at J; exact J, le_sub ⟨rfl, rfl, rfl, rfl, trivial⟩ trivial⟩))))
  · refine ok_exit (h2 _ ?_)
    refine ok_seq fun K12 h12 => ok_region rfl (q_as _ rfl (run_nil (h12 _ ?_)))
    refine ok_ret ⟨_, rfl, ?_⟩
    rw [valOf_end (by simpa using c6)] at J
    rw [J]; rfl
theorem f77_ok (l : List Label) (hl : l.length ≤ 1048576 ∧ ∀ y ∈ l, SLabel y) : PFn Tryz.prog 77 [eLabelS l] (bool (pB (LabelsOk l) && hasNm l)) := by
  refine fn_ok' (n := 10) Tryz.func77 rfl rfl rfl (Nat.le_of_ble_eq_true rfl) rfl fun w0 O => ?_
  refine ok_seq fun K1 h1 => ok_region rfl (q_as _ rfl (run_nil (h1 _ ?_)))
  refine ok_seq fun K2 h2 => ?_
  refine ok_region rfl (q_mv _ rfl (q_call (f148_ok l hl) cl148 rfl rfl (q_mv _ rfl (q_and 3 3 rfl rfl rfl rfl rfl (fun hb9 =>
      q_mv _ rfl (q_call (f149_ok l hl.1 nm) cl149 rfl rfl (q_bin _ _ _ rfl rfl rfl (run_nil ⟨rfl, rfl, rfl, rfl⟩)))) (
    q_as _ rfl (run_nil (h2 _ ?_)))))))
  refine ok_ret ⟨_, rfl, ?_⟩
  rfl
theorem f96_ok (l : List Series) (hl : l.length ≤ 1048576 ∧ ∀ y ∈ l, SSeries y) : PFn Tryz.prog 96 [eSeriesS l] (bool (pB (SeriesOk l))) := by
  obtain ⟨hl1, hl2⟩ := hl
  refine fn_ok' (n := 48) Tryz.func96 rfl rfl rfl (Nat.le_of_ble_eq_true rfl) rfl fun w0 O => ?_
  refine ok_seq fun K1 h1 => ok_region rfl (q_as _ rfl (run_nil (h1 _ ?_)))
  refine ok_seq fun K2 h2 => ?_
  refine ok_seq fun K3 h3 => ok_region rfl (q_mv _ rfl (q_len eS63 rfl (q_bin _ _ _ rfl rfl rfl (run_nil (h3 _ ?_)))))
  refine ok_cond rfl (fun c4 => ?_) (fun c4 => ?_)
  · refine ok_seq fun K5 h5 => ?_
    refine ok_region rfl (q_as _ rfl (run_nil (h5 _ ?_)))
    refine ok_ret ⟨_, rfl, ?_⟩
    have c := of_decide_eq_true c4
    rw [List.length_map] at c
    rw [pB_false (fun h => by have := h.1; omega)]; rfl
  · refine ok_skip (h2 _ ?_)
    have hl3 := of_decide_eq_false c4
    refine ok_seq fun K6 h6 => ?_
    refine ok_seq fun K7 h7 => ok_region rfl (q_mv _ rfl (q_len eS63 rfl (q_mv _ rfl (run_nil (h7 _ ?_)))))
    rw [List.length_map] at *
    refine ok_block ?_
    refine ok_loop (fun (k : Nat) => ⟨[(0, .sv (eSeriesS l)), (8, .sv (eSeriesS l)), (9, .sv (int l.length)), (10, .sv (int k))], []⟩) (fun k => ∀ i y, i < k → l[i]? = some y → SeriesAt l i y) (fun k => l.length - k) 0 (fun i y h => by omega) (le_same ⟨rfl, rfl, rfl, rfl, trivial⟩) (fun k J => ?_)
    refine ok_seq fun K8 h8 => ok_region rfl (q_bin _ _ _ rfl rfl rfl (run_nil (h8 _ ?_)))
    refine ok_seq fun K9 h9 => ?_
    refine ok_cond rfl (fun c10 => ?_) (fun c10 => ?_)
    · refine ok_skip (h9 _ ?_)
      have hk : k < l.length := by simpa using c10
      obtain ⟨u, hu⟩ := sget hk
      obtain ⟨p, hp⟩ := prev hk
      have nu := hl2 u (smem hu)
      refine ok_seq fun K11 h11 => ?_
      refine ok_block ?_
      refine ok_seq fun K12 h12 => ok_region rfl (q_mv _ rfl (q_ia el63 rfl rfl (by omega) (mget hu) (q_lds _ ag125 rfl sz125 (q_alloc _ ze125 rfl rfl rfl rfl (q_as _ rfl (q_sts _ rfl rfl rfl sz125 (Nat.le_of_ble_eq_true rfl) rfl (run_nil (h12 _ ?_))))))))
      refine ok_seq fun K13 h13 => ?_
      refine ok_region_i (by kernel_rfl) (by kernel_rfl) rfl (
        q_fap fd125_0 rfl (by decide) (q_ldb _ ag78 rfl rfl rfl (q_call (f77_ok u.labels nu.1) cl77 rfl rfl (q_un _ _ rfl rfl (q_mv _ rfl (q_or 4 4 rfl rfl rfl rfl rfl (fun hb24 =>
          q_fap fd125_1 rfl (by decide) (q_ldb _ ag123 rfl rfl rfl (q_call (f175_ok u.samples nu.2) cl175 rfl rfl (q_un _ _ rfl rfl (run_nil ⟨rfl, rfl, rfl, rfl⟩))))) (
        q_mv _ rfl (q_or 4 4 rfl rfl rfl rfl rfl (fun hb30 =>
          q_fap fd125_1 rfl (by decide) (q_ldb _ ag123 rfl rfl rfl (q_len eS123 rfl (q_bin _ _ _ rfl rfl rfl (run_nil ⟨rfl, rfl, rfl, rfl⟩))))) (
        q_mv _ rfl (q_or 14 4 rfl rfl rfl rfl rfl (fun hb46 =>
          q_mv _ rfl (q_bin _ _ _ rfl rfl rfl (q_mv _ rfl (q_and 10 10 rfl rfl rfl rfl rfl (fun hb45 =>
            q_mv _ rfl (q_mv _ rfl (q_sub rfl rfl (by omega) (q_ia el63 rfl rfl (by have := of_decide_eq_true hb45; omega) (pget hp (by have := of_decide_eq_true hb45; omega)) (q_fa _ fd125_0 rfl rfl (by decide) (q_ld _ ag78 rfl rfl (q_fap fd125_0 rfl (by decide) (
            q_ldb _ ag78 rfl rfl rfl (q_call (f176_ok p.labels u.labels (hl2 p (smem (hp (by have := of_decide_eq_true hb45; omega)))).1 nu.1) cl176 rfl rfl (q_bin _ _ _ rfl rfl rfl (run_nil ⟨rfl, rfl, rfl, rfl⟩))))))))))) (
          run_nil ⟨rfl, rfl, rfl, rfl⟩))))) (
        run_nil (h13 _ ?_))))))))))))
      simp only [List.length_map]
      refine ok_cond rfl (fun c14 => ?_) (fun c14 => ?_)
      · refine ok_seq fun K15 h15 => ?_
        refine ok_region rfl (q_as _ rfl (run_nil (h15 _ ?_)))
        refine ok_ret ⟨_, rfl, ?_⟩
        rw [pB_false]; · rfl
        rintro ⟨_, h⟩
        obtain ⟨d1, d2, d3, d4, d5⟩ := h k u hu
        rw [pB_true d1, d2, pB_true d3] at c14
        simp only [Bool.and_true, Bool.not_true, Bool.false_or, Bool.or_eq_true, Bool.or_false, Bool.and_eq_true, decide_eq_true_eq] at c14
        rcases c14 with c | ⟨c, d⟩
        · omega
        · have := d5 p (by omega) (hp (by omega))
          omega
      · refine ok_skip (h11 _ ?_)
        refine ok_region rfl (q_add rfl rfl (by omega) (q_mv _ rfl (run_nil (⟨k + 1, by omega, ?_, le_sub ⟨rfl, rfl, rfl, rfl, trivial⟩ trivial⟩))))
        refine at_step J hu ?_
        simp only [Bool.or_eq_false_iff, Bool.not_eq_false', Bool.and_eq_true, Bool.and_eq_false_iff, decide_eq_false_iff_not] at c14
        obtain ⟨⟨⟨⟨d1, d2⟩, d3⟩, d4⟩, d5⟩ := c14
        refine ⟨of_pB d1, d2, of_pB d3, by omega, fun q h0 hq => ?_⟩
        rw [hp h0] at hq; cases hq
        omega
    · refine ok_exit (h6 _ ?_)
      refine ok_seq fun K16 h16 => ok_region rfl (q_as _ rfl (run_nil (h16 _ ?_)))
      refine ok_ret ⟨_, rfl, ?_⟩
      have hk : l.length ≤ k := by simpa using c10
      rw [pB_true ⟨by omega, at_all J hk⟩]; rfl
theorem f89_ok (l : List Series) (hl : l.length ≤ 1048576 ∧ ∀ y ∈ l, SSeries y) : PFn Tryz.prog 89 [eSeriesS l] (bool (pB (SeriesOk l))) := by
  obtain ⟨hl1, hl2⟩ := hl
  refine fn_ok' (n := 54) Tryz.func89 rfl rfl rfl (Nat.le_of_ble_eq_true rfl) rfl fun w0 O => ?_
  refine ok_seq fun K1 h1 => ok_region rfl (q_as _ rfl (run_nil (h1 _ ?_)))
  refine ok_seq fun K2 h2 => ?_
  refine ok_seq fun K3 h3 => ok_region rfl (q_mv _ rfl (q_len eS63 rfl (q_bin _ _ _ rfl rfl rfl (run_nil (h3 _ ?_)))))
  refine ok_cond rfl (fun c4 => ?_) (fun c4 => ?_)
  · refine ok_seq fun K5 h5 => ?_
    refine ok_region rfl (q_as _ rfl (run_nil (h5 _ ?_)))
    refine ok_ret ⟨_, rfl, ?_⟩
    have c := of_decide_eq_true c4
    rw [List.length_map] at c
    rw [pB_false (fun h => by have := h.1; omega)]; rfl
  · refine ok_skip (h2 _ ?_)
    have hl3 := of_decide_eq_false c4
    refine ok_seq fun K6 h6 => ?_
    refine ok_seq fun K7 h7 => ok_region rfl (q_mv _ rfl (q_len eS63 rfl (q_mv _ rfl (run_nil (h7 _ ?_)))))
    rw [List.length_map] at *
    refine ok_block ?_
    refine ok_loop (fun (k : Nat) => ⟨[(0, .sv (eSeriesS l)), (8, .sv (eSeriesS l)), (9, .sv (int l.length)), (10, .sv (int k))], []⟩) (fun k => ∀ i y, i < k → l[i]? = some y → SeriesAt l i y) (fun k => l.length - k) 0 (fun i y h => by omega) (le_same ⟨rfl, rfl, rfl, rfl, trivial⟩) (fun k J => ?_)
    refine ok_seq fun K8 h8 => ok_region rfl (q_bin _ _ _ rfl rfl rfl (run_nil (h8 _ ?_)))
    refine ok_seq fun K9 h9 => ?_
    refine ok_cond rfl (fun c10 => ?_) (fun c10 => ?_)
    · refine ok_skip (h9 _ ?_)
      have hk : k < l.length := by simpa using c10
      obtain ⟨u, hu⟩ := sget hk
      obtain ⟨p, hp⟩ := prev hk
      have nu := hl2 u (smem hu)
      refine ok_seq fun K11 h11 => ?_
      refine ok_block ?_
      refine ok_seq fun K12 h12 => ok_region rfl (q_mv _ rfl (q_ia el63 rfl rfl (by omega) (mget hu) (q_lds _ ag125 rfl sz125 (q_alloc _ ze125 rfl rfl rfl rfl (q_as _ rfl (q_sts _ rfl rfl rfl sz125 (Nat.le_of_ble_eq_true rfl) rfl (run_nil (h12 _ ?_))))))))
      refine ok_seq fun K13 h13 => ?_
      refine ok_region_i (by kernel_rfl) (by kernel_rfl) rfl (
        q_fap fd125_0 rfl (by decide) (q_ldb _ ag78 rfl rfl rfl (q_call (f158_ok u.labels nu.1) cl158 rfl rfl (q_un _ _ rfl rfl (q_mv _ rfl (q_or 4 4 rfl rfl rfl rfl rfl (fun hb24 =>
          q_fap fd125_0 rfl (by decide) (q_ldb _ ag78 rfl rfl rfl (q_call (f159_ok u.labels nu.1.1 nm) cl159 rfl rfl (q_bin _ _ _ rfl rfl rfl (run_nil ⟨rfl, rfl, rfl, rfl⟩))))) (
        q_mv _ rfl (q_or 4 4 rfl rfl rfl rfl rfl (fun hb30 =>
          q_fap fd125_1 rfl (by decide) (q_ldb _ ag123 rfl rfl rfl (q_len eS123 rfl (q_bin _ _ _ rfl rfl rfl (run_nil ⟨rfl, rfl, rfl, rfl⟩))))) (
        q_mv _ rfl (q_or 4 4 rfl rfl rfl rfl rfl (fun hb36 =>
          q_fap fd125_1 rfl (by decide) (q_ldb _ ag123 rfl rfl rfl (q_call (f168_ok u.samples nu.2) cl168 rfl rfl (q_un _ _ rfl rfl (run_nil ⟨rfl, rfl, rfl, rfl⟩))))) (
        q_mv _ rfl (q_or 14 4 rfl rfl rfl rfl rfl (fun hb52 =>
          q_mv _ rfl (q_bin _ _ _ rfl rfl rfl (q_mv _ rfl (q_and 10 10 rfl rfl rfl rfl rfl (fun hb51 =>
            q_mv _ rfl (q_mv _ rfl (q_sub rfl rfl (by omega) (q_ia el63 rfl rfl (by have := of_decide_eq_true hb51; omega) (pget hp (by have := of_decide_eq_true hb51; omega)) (q_fa _ fd125_0 rfl rfl (by decide) (q_ld _ ag78 rfl rfl (q_fap fd125_0 rfl (by decide) (
            q_ldb _ ag78 rfl rfl rfl (q_call (f169_ok p.labels u.labels (hl2 p (smem (hp (by have := of_decide_eq_true hb51; omega)))).1 nu.1) cl169 rfl rfl (q_bin _ _ _ rfl rfl rfl (run_nil ⟨rfl, rfl, rfl, rfl⟩))))))))))) (
          run_nil ⟨rfl, rfl, rfl, rfl⟩))))) (
        run_nil (h13 _ ?_))))))))))))))
      simp only [List.length_map]
      rw [show decide ((valOf u.labels nm).data.toList = (⟨#[]⟩ : ByteArray).data.toList) = !hasNm u.labels by unfold hasNm; rw [Bool.not_not]]
      refine ok_cond rfl (fun c14 => ?_) (fun c14 => ?_)
      · refine ok_seq fun K15 h15 => ?_
        refine ok_region rfl (q_as _ rfl (run_nil (h15 _ ?_)))
        refine ok_ret ⟨_, rfl, ?_⟩
        rw [pB_false]; · rfl
        rintro ⟨_, h⟩
        obtain ⟨d1, d2, d3, d4, d5⟩ := h k u hu
        rw [pB_true d1, d2, pB_true d3] at c14
        simp only [Bool.and_true, Bool.not_true, Bool.false_or, Bool.or_eq_true, Bool.or_false, Bool.and_eq_true, decide_eq_true_eq] at c14
        rcases c14 with c | ⟨c, d⟩
        · omega
        · have := d5 p (by omega) (hp (by omega))
          omega
      · refine ok_skip (h11 _ ?_)
        refine ok_region rfl (q_add rfl rfl (by omega) (q_mv _ rfl (run_nil (⟨k + 1, by omega, ?_, le_sub ⟨rfl, rfl, rfl, rfl, trivial⟩ trivial⟩))))
        refine at_step J hu ?_
        simp only [Bool.or_eq_false_iff, Bool.not_eq_false', Bool.and_eq_true, Bool.and_eq_false_iff, decide_eq_false_iff_not] at c14
        obtain ⟨⟨⟨⟨d1, d2⟩, d4⟩, d3⟩, d5⟩ := c14
        refine ⟨of_pB d1, d2, of_pB d3, by omega, fun q h0 hq => ?_⟩
        rw [hp h0] at hq; cases hq
        omega
    · refine ok_exit (h6 _ ?_)
      refine ok_seq fun K16 h16 => ok_region rfl (q_as _ rfl (run_nil (h16 _ ?_)))
      refine ok_ret ⟨_, rfl, ?_⟩
      have hk : l.length ≤ k := by simpa using c10
      rw [pB_true ⟨by omega, at_all J hk⟩]; rfl
end Go.Ring

/- The order of labels; where a series stands among sorted ones; how wide a block is. No condition. -/
namespace Go.Ring
open Go Go.RowKit Go.Eager Go.Abs Go.Proofs
set_option maxRecDepth 100000
set_option linter.unusedVariables false
set_option linter.unusedSimpArgs false
@[reducible] def fv (f : Nat) : SV := .raw (.func (.func f) #[] #[])
theorem toList_ext {a b : ByteArray} (h : a.data.toList = b.data.toList) : a = b := by
  cases a; cases b; simp only at h; congr; exact Array.ext' h
theorem cmpB_zero {a b : ByteArray} : cmpB a b = 0 ↔ a = b := ⟨fun h => toList_ext ((cmpT_zero _ _).1 h), fun h => by subst h; exact (cmpT_zero _ _).2 rfl⟩
theorem cmpN_lt {a b : Nat} (h : cmpN (a : Int) (b : Int) < 0) : a < b := by
  unfold cmpN at h
  split at h
  · omega
  · split at h <;> omega
theorem cmpT_trans : ∀ (a b c : List UInt8), cmpT a b < 0 → cmpT b c < 0 → cmpT a c < 0
  | [], [], _, h, _ => by simp [cmpT] at h
  | [], _ :: _, [], _, h => by simp [cmpT] at h
  | [], _ :: _, _ :: _, _, _ => by simp [cmpT]
  | _ :: _, [], _, h, _ => by simp [cmpT] at h
  | _ :: _, _ :: _, [], _, h => by simp [cmpT] at h
  | x :: a, y :: b, z :: c, h1, h2 => by
    unfold cmpT at *
    by_cases hxy : x = y
    · subst hxy
      by_cases hxz : x = z
      · subst hxz; simp only [if_true] at *; exact cmpT_trans a b c h1 h2
      · simp only [hxz, if_false, if_true] at *; exact h2
    · by_cases hyz : y = z
      · subst hyz; simp only [hxy, if_false, if_true] at *; exact h1
      · simp only [hxy, hyz, if_false] at h1 h2
        have h3 : x.toNat < y.toNat := cmpN_lt h1
        have h4 : y.toNat < z.toNat := cmpN_lt h2
        have h5 : x ≠ z := by rintro rfl; omega
        simp only [h5, if_false]
        unfold cmpN; rw [if_pos (by omega)]; decide
theorem cmpB_trans {a b c : ByteArray} (h1 : cmpB a b < 0) (h2 : cmpB b c < 0) : cmpB a c < 0 := cmpT_trans _ _ _ h1 h2
theorem cmpLs_trans : ∀ (a b c : List Label), cmpLs a b < 0 → cmpLs b c < 0 → cmpLs a c < 0
  | [], [], _, h, _ => by simp [cmpLs, cmpN] at h
  | [], _ :: _, [], _, h => by simp [cmpLs, cmpN] at h <;> omega
  | [], _ :: _, _ :: _, _, _ => by simp [cmpLs, cmpN] <;> omega
  | _ :: _, [], _, h, _ => by simp [cmpLs, cmpN] at h <;> omega
  | _ :: _, _ :: _, [], _, h => by simp [cmpLs, cmpN] at h <;> omega
  | x :: a, y :: b, z :: c, h1, h2 => by
    unfold cmpLs at *
    by_cases hn : cmpB x.name y.name = 0
    · rw [cmpB_zero.1 hn]
      rw [if_neg (by simp [hn])] at h1
      by_cases hn2 : cmpB y.name z.name = 0
      · rw [if_neg (by simp [hn2])] at h2 ⊢
        by_cases hv : cmpB x.value y.value = 0
        · rw [cmpB_zero.1 hv]
          rw [if_neg (by simp [hv])] at h1
          by_cases hv2 : cmpB y.value z.value = 0
          · rw [if_neg (by simp [hv2])] at h2 ⊢
            exact cmpLs_trans a b c h1 h2
          · rw [if_pos hv2] at h2 ⊢; exact h2
        · rw [if_pos hv] at h1
          by_cases hv2 : cmpB y.value z.value = 0
          · rw [← cmpB_zero.1 hv2, if_pos hv]; exact h1
          · rw [if_pos hv2] at h2
            have := cmpB_trans h1 h2
            rw [if_pos (by omega)]; exact this
      · rw [if_pos hn2] at h2 ⊢; exact h2
    · rw [if_pos hn] at h1
      by_cases hn2 : cmpB y.name z.name = 0
      · rw [← cmpB_zero.1 hn2, if_pos hn]; exact h1
      · rw [if_pos hn2] at h2
        have := cmpB_trans h1 h2
        rw [if_pos (by omega)]; exact this
def Srt (l : List Series) : Prop := ∀ (i j : Nat) (x y : Series), i < j → l[i]? = some x → l[j]? = some y → cmpLs x.labels y.labels < 0
theorem srt_of {l : List Series} (h : ∀ i x, l[i]? = some x → ∀ p, 0 < i → l[i - 1]? = some p → cmpLs p.labels x.labels < 0) : Srt l := by
  intro i j x y hij hx hy
  induction j generalizing y with
  | zero => omega
  | succ j ih =>
    obtain ⟨p, hp⟩ := sget (l := l) (i := j) (by have := slt hy; omega)
    have h1 := h (j + 1) y hy p (by omega) hp
    rcases Nat.lt_or_ge i j with hlt | hge
    · exact cmpLs_trans _ _ _ (ih p hlt hp) h1
    · obtain rfl : i = j := by omega
      rw [hx] at hp; cases hp; exact h1
def lowI (t : List Label) : List Series → Nat
  | [] => 0
  | x :: l => if cmpLs x.labels t < 0 then lowI t l + 1 else 0
def fnd (t : List Label) (l : List Series) : Bool := match l[lowI t l]? with | some x => decide (cmpLs x.labels t = 0) | none => false
theorem lowI_le (t : List Label) : ∀ l : List Series, lowI t l ≤ l.length
  | [] => Nat.le_refl _
  | x :: l => by unfold lowI; have := lowI_le t l; split <;> simp; omega
theorem lowI_eq (t : List Label) : ∀ (l : List Series) (k : Nat), k ≤ l.length → (∀ i x, i < k → l[i]? = some x → cmpLs x.labels t < 0) → (∀ x, l[k]? = some x → ¬ cmpLs x.labels t < 0) → lowI t l = k
  | [], k, hk, _, _ => by simp at hk; subst hk; rfl
  | x :: l, 0, _, _, h2 => by unfold lowI; rw [if_neg (h2 x rfl)]
  | x :: l, k + 1, hk, h1, h2 => by
    unfold lowI
    rw [if_pos (h1 0 x (by omega) rfl), lowI_eq t l k (by simpa using hk) (fun i y hi hy => h1 (i + 1) y (by omega) (by simpa using hy)) (fun y hy => h2 y (by simpa using hy))]
theorem fnd_at {t : List Label} {l : List Series} {k : Nat} (h : lowI t l = k) {x : Series} (hx : l[k]? = some x) : fnd t l = decide (cmpLs x.labels t = 0) := by unfold fnd; rw [h, hx]
theorem fnd_out {t : List Label} {l : List Series} {k : Nat} (h : lowI t l = k) (hk : l.length ≤ k) : fnd t l = false := by unfold fnd; rw [h, List.getElem?_eq_none hk]
theorem shr1 {n m : Int} (h : n / 2 = m) : vBin .shr (.int .u64 n) (.int .u64 1) = some (.int .u64 m) := by subst h; rfl
def WideI (b l : Int) : Prop := 1 ≤ b ∧ b ≤ 1000000 ∧ 1 ≤ l ∧ l ≤ 4
instance (b l : Int) : Decidable (WideI b l) := by unfold WideI; infer_instance
theorem f117_ok (l : List Series) (hl : l.length ≤ 1048576 ∧ ∀ y ∈ l, SSeries y) (t : List Label) (ht : t.length ≤ 1048576 ∧ ∀ y ∈ t, SLabel y) : PFn Tryz.prog 117 [eSeriesS l, eLabelS t] (.tup [int (lowI t l), bool (fnd t l)]) := by
  have hl1 := hl.1
  refine fn_ok' (n := 29) Tryz.func117 rfl rfl rfl (Nat.le_of_ble_eq_true rfl) rfl fun w0 O => ?_
  refine ok_seq fun K1 h1 => ok_region rfl (q_as _ rfl (q_as _ rfl (run_nil (h1 _ ?_))))
  refine ok_seq fun K2 h2 => ?_
  refine ok_seq fun K3 h3 => ok_region rfl (q_mv _ rfl (q_len eS63 rfl (q_mv _ rfl (run_nil (h3 _ ?_)))))
  simp only [List.length_map]
  refine ok_block ?_
  refine ok_loop (fun (k : Nat) => ⟨[(0, .sv (eSeriesS l)), (1, .sv (eLabelS t)), (9, .sv (eSeriesS l)), (10, .sv (int l.length)), (11, .sv (int k))], []⟩) (fun k => k ≤ l.length ∧ ∀ i x, i < k → l[i]? = some x → cmpLs x.labels t < 0) (fun k => l.length - k) 0 ⟨Nat.zero_le _, fun i x h => by omega⟩ (le_same ⟨rfl, rfl, rfl, rfl, rfl, trivial⟩) (fun k J => ?_)
  obtain ⟨jk, J⟩ := J
  refine ok_seq fun K4 h4 => ok_region rfl (q_bin _ _ _ rfl rfl rfl (run_nil (h4 _ ?_)))
  refine ok_seq fun K5 h5 => ?_
  refine ok_cond rfl (fun c6 => ?_) (fun c6 => ?_)
  · refine ok_skip (h5 _ ?_)
    have hk : k < l.length := by simpa using c6
    obtain ⟨u, hu⟩ := sget hk
    refine ok_seq fun K7 h7 => ?_
    refine ok_block ?_
    refine ok_seq fun K8 h8 => ok_region rfl (q_mv _ rfl (q_ia el63 rfl rfl (by omega) (mget hu) (q_lds _ ag125 rfl sz125 (q_alloc _ ze125 rfl rfl rfl rfl (q_as _ rfl (q_sts _ rfl rfl rfl sz125 (Nat.le_of_ble_eq_true rfl) rfl (run_nil (h8 _ ?_))))))))
    refine ok_seq fun K9 h9 => ok_region rfl (q_fap fd125_0 rfl (by decide) (q_ldb _ ag78 rfl rfl rfl (q_mv _ rfl (q_call (f176_ok u.labels t (hl.2 u (smem hu)).1 ht) cl176 rfl rfl (q_as _ rfl (run_nil (h9 _ ?_)))))))
    refine ok_seq fun K10 h10 => ?_
    refine ok_seq fun K11 h11 => ok_region rfl (q_mv _ rfl (q_bin _ _ _ rfl rfl rfl (run_nil (h11 _ ?_))))
    refine ok_cond rfl (fun c12 => ?_) (fun c12 => ?_)
    · refine ok_seq fun K13 h13 => ?_
      refine ok_region rfl (q_mv _ rfl (q_as _ rfl (q_as _ rfl (run_nil (h13 _ ?_)))))
      refine ok_ret ⟨_, rfl, ?_⟩
      have c := of_decide_eq_true c12
      have e := lowI_eq t l k jk J (fun x hx => by rw [hu] at hx; cases hx; omega)
      rw [fnd_at e hu, e, decide_eq_true c]; rfl
    · refine ok_skip (h10 _ ?_)
      refine ok_seq fun K14 h14 => ok_region rfl (q_mv _ rfl (q_bin _ _ _ rfl rfl rfl (run_nil (h14 _ ?_))))
      refine ok_cond rfl (fun c15 => ?_) (fun c15 => ?_)
      · refine ok_seq fun K16 h16 => ?_
        refine ok_region rfl (q_mv _ rfl (q_as _ rfl (q_as _ rfl (run_nil (h16 _ ?_)))))
        refine ok_ret ⟨_, rfl, ?_⟩
        have c := of_decide_eq_false c12
        have d := of_decide_eq_true c15
        have e := lowI_eq t l k jk J (fun x hx => by rw [hu] at hx; cases hx; omega)
        rw [fnd_at e hu, e, decide_eq_false c]; rfl
      · refine ok_skip (h7 _ ?_)
        refine ok_region rfl (q_add rfl rfl (by omega) (q_mv _ rfl (run_nil (⟨k + 1, by omega, ⟨by omega, ?_⟩, le_sub ⟨rfl, rfl, rfl, rfl, rfl, trivial⟩ trivial⟩))))
        have c := of_decide_eq_false c12
        have d := of_decide_eq_false c15
        exact at_step (P := fun _ x => cmpLs x.labels t < 0) J hu (by omega)
  · refine ok_exit (h2 _ ?_)
    refine ok_seq fun K17 h17 => ok_region rfl (q_mv _ rfl (q_len eS63 rfl (q_as _ rfl (q_as _ rfl (run_nil (h17 _ ?_))))))
    simp only [List.length_map]
    refine ok_ret ⟨_, rfl, ?_⟩
    have c := of_decide_eq_false c6
    have e := lowI_eq t l k jk J (fun x hx => by have := slt hx; omega)
    rw [fnd_out e (by omega), e, show k = l.length by omega]; rfl
theorem f215_ok (x : Series) (hx : SSeries x) (t : List Label) (ht : t.length ≤ 1048576 ∧ ∀ y ∈ t, SLabel y) : PFn Tryz.prog 215 [eSeries x, eLabelS t] (int (cmpLs x.labels t)) := by
  refine fn_ok' (n := 9) Tryz.func215 rfl rfl rfl (Nat.le_of_ble_eq_true rfl) rfl fun w0 O => ?_
  refine ok_seq fun K1 h1 => ok_region rfl (q_boxs _ rfl (Nat.zero_lt_succ _) (q_as _ rfl (run_nil (h1 _ ?_))))
  refine ok_seq fun K2 h2 => ok_region rfl (q_fa _ fd125_0 rfl rfl (by decide) (q_ld _ ag78 rfl rfl (q_mv _ rfl (q_call (f169_ok x.labels t hx.1 ht) cl169 rfl rfl (q_as _ rfl (run_nil (h2 _ ?_)))))))
  refine ok_ret ⟨_, rfl, ?_⟩
  rfl
theorem f214_ok (l : List Series) (hl : l.length ≤ 1048576 ∧ ∀ y ∈ l, SSeries y) (t : List Label) (ht : t.length ≤ 1048576 ∧ ∀ y ∈ t, SLabel y) (hs : Srt l) : PFn Tryz.prog 214 [eSeriesS l, eLabelS t, fv 215] (.tup [int (lowI t l), bool (fnd t l)]) := by
  have hl1 := hl.1
  refine fn_ok' (n := 49) Tryz.func214 rfl rfl rfl (Nat.le_of_ble_eq_true rfl) rfl fun w0 O => ?_
  refine ok_seq fun K1 h1 => ok_region rfl (q_as _ rfl (q_as _ rfl (run_nil (h1 _ ?_))))
  refine ok_seq fun K2 h2 => ok_region rfl (q_mv _ rfl (q_len eS63 rfl (q_as _ rfl (run_nil (h2 _ ?_)))))
  simp only [List.length_map]
  refine ok_seq fun K3 h3 => ok_region rfl (q_mv _ rfl (q_as _ rfl (q_as _ rfl (run_nil (h3 _ ?_)))))
  refine ok_seq fun K4 h4 => ?_
  refine ok_block ?_
  refine ok_loop (fun (s : Nat × Nat) => ⟨[(0, .sv (eSeriesS l)), (1, .sv (eLabelS t)), (2, .sv (fv 215)), (8, .sv (int l.length)), (9, .sv (int s.1)), (10, .sv (int s.2))], []⟩) (fun s => s.1 ≤ s.2 ∧ s.2 ≤ l.length ∧ (∀ i x, i < s.1 → l[i]? = some x → cmpLs x.labels t < 0) ∧ (∀ i x, s.2 ≤ i → l[i]? = some x → ¬ cmpLs x.labels t < 0)) (fun s => s.2 - s.1) (0, l.length) ⟨Nat.zero_le _, Nat.le_refl _, fun i x h => by simp only at h; omega, fun i x h hx => by have := slt hx; simp only at h; omega⟩ (le_same ⟨rfl, rfl, rfl, rfl, rfl, rfl, trivial⟩) (fun s J => ?_)
  obtain ⟨lo, hi⟩ := s
  obtain ⟨j1, j2, j3, j4⟩ := J
  simp only at j1 j2 j3 j4
  refine ok_seq fun K5 h5 => ?_
  refine ok_seq fun K6 h6 => ok_region rfl (q_mv _ rfl (q_mv _ rfl (q_bin _ _ _ rfl rfl rfl (run_nil (h6 _ ?_)))))
  refine ok_cond rfl (fun c7 => ?_) (fun c7 => ?_)
  · refine ok_skip (h5 _ ?_)
    have c := of_decide_eq_true c7
    obtain ⟨mid, hmid, hm1, hm2⟩ : ∃ mid : Nat, ((lo : Int) + hi) / 2 = mid ∧ lo ≤ mid ∧ mid < hi := ⟨(lo + hi) / 2, by omega, by omega, by omega⟩
    obtain ⟨u, hu⟩ := sget (l := l) (i := mid) (by omega)
    refine ok_block ?_
    refine ok_seq fun K8 h8 => ok_region rfl (q_mv _ rfl (q_mv _ rfl (q_add rfl rfl (by omega) (q_cv aS3 ik172 rfl (IntWalk.u64_in _ (by omega)) (q_bin (.int .u64 ((lo : Int) + hi)) (.int .u64 1) (.int .u64 (mid : Int)) rfl rfl (shr1 hmid) (q_cv aS172 ik3 rfl (IntWalk.i64_in _ (by omega)) (q_as _ rfl (run_nil (h8 _ ?_)))))))))
    refine ok_seq fun K9 h9 => ok_region rfl (q_mv _ rfl (q_mv _ rfl (q_mv _ rfl (q_ia el63 rfl rfl (by omega) (mget hu) (q_lds _ ag125 rfl sz125 (q_mv _ rfl (q_callv (f215_ok u (hl.2 u (smem hu)) t ht) cl215 rfl rfl rfl (q_bin _ _ _ rfl rfl rfl (run_nil (h9 _ ?_))))))))))
    refine ok_cond rfl (fun c10 => ?_) (fun c10 => ?_)
    · refine ok_last fun K20 h20 => ok_region rfl (q_mv _ rfl (q_add rfl rfl (by omega) (q_as _ rfl (run_nil (h20 _ ⟨(mid + 1, hi), by simp only; omega, ⟨by simp only; omega, j2, ?_, j4⟩, le_same ⟨rfl, rfl, rfl, rfl, rfl, rfl, trivial⟩⟩)))))
      intro i x hi hx
      have d := of_decide_eq_true c10
      rcases Nat.lt_or_ge i mid with h | h
      · exact cmpLs_trans _ _ _ (hs i mid x u h hx hu) d
      · simp only at hi; obtain rfl : i = mid := by omega
        rw [hu] at hx; cases hx; exact d
    · refine ok_last fun K20 h20 => ok_region rfl (q_mv _ rfl (q_as _ rfl (run_nil (h20 _ ⟨(lo, mid), by simp only; omega, ⟨hm1, by simp only; omega, j3, ?_⟩, le_same ⟨rfl, rfl, rfl, rfl, rfl, rfl, trivial⟩⟩))))
      intro i x hi hx d'
      have d := of_decide_eq_false c10
      simp only at hi
      rcases Nat.lt_or_ge mid i with h | h
      · exact d (cmpLs_trans _ _ _ (hs mid i u x h hu hx) d')
      · obtain rfl : i = mid := by omega
        rw [hu] at hx; cases hx; exact d d'
  · refine ok_exit (h4 _ ?_)
    have c := of_decide_eq_false c7
    obtain rfl : lo = hi := by omega
    have e := lowI_eq t l lo j2 j3 (fun x hx => j4 lo x (Nat.le_refl _) hx)
    obtain ⟨v, hv⟩ : ∃ v : Series, lo < l.length → l[lo]? = some v := by
      rcases Nat.lt_or_ge lo l.length with h | h
      · obtain ⟨v, hv⟩ := sget h; exact ⟨v, fun _ => hv⟩
      · exact ⟨⟨[], []⟩, fun h' => by omega⟩
    refine ok_seq fun K11 h11 => ?_
    refine ok_region rfl (q_mv _ rfl (q_mv _ rfl (q_mv _ rfl (q_bin _ _ _ rfl rfl rfl (q_mv _ rfl (q_and 8 8 rfl rfl rfl rfl rfl (fun hb48 =>
        q_mv _ rfl (q_mv _ rfl (q_mv _ rfl (q_ia el63 rfl rfl (by omega) (mget (hv (by have := of_decide_eq_true hb48; omega))) (q_lds _ ag125 rfl sz125 (q_mv _ rfl (q_callv (f215_ok v (hl.2 v (smem (hv (by have := of_decide_eq_true hb48; omega)))) t ht) cl215 rfl rfl rfl (q_bin _ _ _ rfl rfl rfl (run_nil ⟨rfl, rfl, rfl, rfl⟩))))))))) (
      q_as _ rfl (q_as _ rfl (run_nil (h11 _ ?_))))))))))
    refine ok_ret ⟨_, rfl, ?_⟩
    have : (decide ((lo : Int) < l.length) && decide (cmpLs v.labels t = 0)) = fnd t l := by
      rcases Nat.lt_or_ge lo l.length with h | h
      · rw [fnd_at e (hv h), decide_eq_true (by omega)]; rfl
      · rw [fnd_out e h, decide_eq_false (by omega)]; rfl
    rw [← this, e]; rfl
theorem f163_ok (l : List Series) (hl : l.length ≤ 1048576 ∧ ∀ y ∈ l, SSeries y) (t : List Label) (ht : t.length ≤ 1048576 ∧ ∀ y ∈ t, SLabel y) (hs : Srt l) : PFn Tryz.prog 163 [eSeriesS l, eLabelS t] (.tup [int (lowI t l), bool (fnd t l)]) := by
  refine fn_ok' (n := 11) Tryz.func163 rfl rfl rfl (Nat.le_of_ble_eq_true rfl) rfl fun w0 O => ?_
  refine ok_seq fun K1 h1 => ok_region rfl (q_as _ rfl (q_as _ rfl (run_nil (h1 _ ?_))))
  refine ok_seq fun K2 h2 => ok_region rfl (q_mv _ rfl (q_mv _ rfl (q_call (f214_ok l hl t ht hs) cl214 rfl rfl (q_ext _ rfl rfl (q_ext _ rfl rfl (q_as _ rfl (q_as _ rfl (run_nil (h2 _ ?_)))))))))
  refine ok_ret ⟨_, rfl, ?_⟩
  rfl
end Go.Ring

/- Nodes by their ids: binary search. No condition beyond the sizes. -/
set_option maxRecDepth 100000
set_option linter.unusedVariables false
set_option linter.unusedSimpArgs false
namespace Go.Ring
open Go Go.RowKit Go.Eager Go.Abs Go.Proofs
theorem cmpT_lt : ∀ {a b : List UInt8}, Op.bytesLess a b = true ↔ cmpT a b = -1
  | [], [] => by simp [Op.bytesLess, cmpT]
  | [], _ :: _ => by simp [Op.bytesLess, cmpT]
  | _ :: _, [] => by simp [Op.bytesLess, cmpT]
  | x :: a, y :: b => by
    unfold Op.bytesLess cmpT
    by_cases h : x = y
    · subst h
      have : ¬ (x < x) := by simp
      simp [cmpT_lt (a := a) (b := b)]
    · rw [if_neg h]
      have hne : x.toNat ≠ y.toNat := fun e => h (UInt8.toNat_inj.1 e)
      have hlt : (x < y) ↔ x.toNat < y.toNat := UInt8.lt_iff_toNat_lt
      unfold cmpN
      simp only [Bool.or_eq_true, decide_eq_true_eq, Bool.and_eq_true, beq_iff_eq, h, false_and, or_false, hlt]
      constructor
      · intro h1; rw [if_pos (by omega)]
      · intro h1
        split at h1
        · omega
        · split at h1 <;> omega
theorem cmpT_gt {a b : List UInt8} (h1 : Op.bytesLess a b = false) (h2 : (!(Op.bytesLess a b || decide (a = b))) = true) : cmpT a b = 1 := by
  have h3 : ¬ a = b := by intro e; rw [decide_eq_true e] at h2; simp at h2
  have h4 : ¬ cmpT a b = -1 := fun e => by rw [cmpT_lt.2 e] at h1; cases h1
  rcases cmpT_cases a b with h | h | h
  · exact absurd h h4
  · exact absurd ((cmpT_zero a b).1 h) h3
  · exact h
theorem cmpT_same {a b : List UInt8} (h1 : Op.bytesLess a b = false) (h2 : (!(Op.bytesLess a b || decide (a = b))) = false) : cmpT a b = 0 := by
  rw [h1] at h2
  simp only [Bool.false_or, Bool.not_eq_false', decide_eq_true_eq] at h2
  exact (cmpT_zero a b).2 h2
def ltN (a b : ByteArray) : Prop := cmpT a.data.toList b.data.toList < 0
instance (a b : ByteArray) : Decidable (ltN a b) := by unfold ltN; exact inferInstance
theorem ltN_trans {a b c : ByteArray} (h1 : ltN a b) (h2 : ltN b c) : ltN a c := cmpT_trans _ _ _ h1 h2
def SrtN (S : List RingNode) : Prop := S.Pairwise fun a b => ltN a.id b.id
def lowN (p : ByteArray) : List RingNode → Nat
  | [] => 0
  | t :: r => if ltN t.id p then lowN p r + 1 else 0
theorem lowN_eq (p : ByteArray) : ∀ (S : List RingNode) (k : Nat), k ≤ S.length → (∀ i x, i < k → S[i]? = some x → ltN x.id p) → (∀ x, S[k]? = some x → ¬ ltN x.id p) → lowN p S = k
  | [], k, h, _, _ => by simp at h; subst h; rfl
  | t :: r, 0, _, _, h2 => by have := h2 t rfl; unfold lowN; rw [if_neg this]
  | t :: r, k + 1, h, h1, h2 => by
    have := h1 0 t (by omega) rfl
    unfold lowN
    rw [if_pos this, lowN_eq p r k (by simpa using h) (fun i x hi hx => h1 (i + 1) x (by omega) hx) (fun x hx => h2 x hx)]
theorem lowN_le (p : ByteArray) : ∀ S : List RingNode, lowN p S ≤ S.length
  | [] => Nat.le_refl _
  | t :: r => by have := lowN_le p r; unfold lowN; split <;> simp <;> omega
def fndN (p : ByteArray) (S : List RingNode) : Bool := match S[lowN p S]? with | some t => decide (cmpT t.id.data.toList p.data.toList = 0) | none => false
theorem f142_c (x : ByteArray) : PFn Tryz.prog 142 [str x] (bool false) := by
  refine fn_ok' (n := 6) Tryz.func142 rfl rfl rfl (Nat.le_of_ble_eq_true rfl) rfl fun w0 O => ?_
  refine ok_seq fun K1 h1 => ok_region rfl (q_as _ rfl (run_nil (h1 _ ?_)))
  refine ok_seq fun K2 h2 => ok_region rfl (q_mv _ rfl (q_mv _ rfl (q_bin _ _ _ rfl rfl rfl (q_as _ rfl (run_nil (h2 _ ?_))))))
  refine ok_ret ⟨_, rfl, ?_⟩
  simp [tupSV]
theorem f73_c (x y : ByteArray) : PFn Tryz.prog 73 [str x, str y] (int (cmpT x.data.toList y.data.toList)) := by
  refine fn_ok' (n := 20) Tryz.func73 rfl rfl rfl (Nat.le_of_ble_eq_true rfl) rfl fun w0 O => ?_
  refine ok_seq fun K1 h1 => ok_region rfl (q_as _ rfl (run_nil (h1 _ ?_)))
  refine ok_seq fun K2 h2 => ok_region rfl (q_mv _ rfl (q_call (f142_c x) cl142 rfl rfl (q_as _ rfl (run_nil (h2 _ ?_)))))
  refine ok_seq fun K3 h3 => ok_region rfl (q_mv _ rfl (q_call (f142_c y) cl142 rfl rfl (q_as _ rfl (run_nil (h3 _ ?_)))))
  refine ok_seq fun K4 h4 => ?_
  refine ok_seq fun K5 h5 => ok_region rfl (q_mv _ rfl (run_nil (h5 _ ?_)))
  refine ok_cond rfl (fun c6 => ?_) (fun c6 => ?_)
  · cases c6
  · refine ok_skip (h4 _ ?_)
    refine ok_seq fun K12 h12 => ?_
    refine ok_seq fun K13 h13 => ok_region rfl (q_mv _ rfl (run_nil (h13 _ ?_)))
    refine ok_cond rfl (fun c14 => ?_) (fun c14 => ?_)
    · cases c14
    · refine ok_skip (h12 _ ?_)
      refine ok_seq fun K16 h16 => ?_
      refine ok_seq fun K17 h17 => ok_region rfl (q_mv _ rfl (q_mv _ rfl (q_bin _ _ _ rfl rfl rfl (run_nil (h17 _ ?_)))))
      refine ok_cond rfl (fun c18 => ?_) (fun c18 => ?_)
      · refine ok_seq fun K19 h19 => ?_
        refine ok_region rfl (q_as _ rfl (run_nil (h19 _ ?_)))
        refine ok_ret ⟨_, rfl, ?_⟩
        rw [cmpT_lt.1 c18]; rfl
      · refine ok_skip (h16 _ ?_)
        refine ok_seq fun K20 h20 => ?_
        refine ok_seq fun K21 h21 => ok_region rfl (q_mv _ rfl (q_mv _ rfl (q_bin _ _ _ rfl rfl rfl (run_nil (h21 _ ?_)))))
        refine ok_cond rfl (fun c22 => ?_) (fun c22 => ?_)
        · refine ok_seq fun K23 h23 => ?_
          refine ok_region rfl (q_as _ rfl (run_nil (h23 _ ?_)))
          refine ok_ret ⟨_, rfl, ?_⟩
          rw [cmpT_gt c18 c22]; rfl
        · refine ok_skip (h20 _ ?_)
          refine ok_seq fun K24 h24 => ok_region rfl (q_as _ rfl (run_nil (h24 _ ?_)))
          refine ok_ret ⟨_, rfl, ?_⟩
          rw [cmpT_same c18 c22]; rfl
theorem f72_ok (n : RingNode) (p : ByteArray) : PFn Tryz.prog 72 [eRingNode n, str p] (int (cmpT n.id.data.toList p.data.toList)) := by
  refine fn_ok' (n := 9) Tryz.func72 rfl rfl rfl (Nat.le_of_ble_eq_true rfl) rfl fun w0 O => ?_
  refine ok_seq fun K1 h1 => ok_region rfl (q_boxs _ rfl (Nat.zero_lt_succ _) (q_as _ rfl (run_nil (h1 _ ?_))))
  refine ok_seq fun K2 h2 => ok_region rfl (q_fa _ fd45_0 rfl rfl (by decide) (q_ld (str n.id) ag9 rfl rfl (q_mv _ rfl (q_call (f73_c n.id p) cl73 rfl rfl (q_as _ rfl (run_nil (h2 _ ?_)))))))
  refine ok_ret ⟨_, rfl, ?_⟩
  rfl
theorem f71_ok (S : List RingNode) (hl1 : S.length ≤ 1048576) (hs : SrtN S) (p : ByteArray) : PFn Tryz.prog 71 [eRingNodeS S, str p, fw 72] (.tup [int (lowN p S), bool (fndN p S)]) := by
  have hs' : ∀ (i j : Nat) (x y : RingNode), i < j → S[i]? = some x → S[j]? = some y → ltN x.id y.id := by
    intro i j x y hij hx hy
    obtain ⟨hi, rfl⟩ := List.getElem?_eq_some_iff.1 hx
    obtain ⟨hj, rfl⟩ := List.getElem?_eq_some_iff.1 hy
    exact List.pairwise_iff_getElem.1 hs i j hi hj hij
  refine fn_ok' (n := 49) Tryz.func71 rfl rfl rfl (Nat.le_of_ble_eq_true rfl) rfl fun w0 O => ?_
  refine ok_seq fun K1 h1 => ok_region rfl (q_as _ rfl (q_as _ rfl (run_nil (h1 _ ?_))))
  refine ok_seq fun K2 h2 => ok_region rfl (q_mv _ rfl (q_len eS29 rfl (q_as _ rfl (run_nil (h2 _ ?_)))))
  rw [List.length_map]
  refine ok_seq fun K3 h3 => ok_region rfl (q_mv _ rfl (q_as _ rfl (q_as _ rfl (run_nil (h3 _ ?_)))))
  refine ok_seq fun K4 h4 => ?_
  refine ok_block ?_
  refine ok_loop (fun (s : Nat × Nat) => ⟨[(0, .sv (eRingNodeS S)), (1, .sv (str p)), (2, .sv (fw 72)), (8, .sv (int S.length)), (9, .sv (int s.1)), (10, .sv (int s.2))], []⟩) (fun s => s.1 ≤ s.2 ∧ s.2 ≤ S.length ∧ (∀ i x, i < s.1 → S[i]? = some x → ltN x.id p) ∧ (∀ i x, s.2 ≤ i → S[i]? = some x → ¬ ltN x.id p)) (fun s => s.2 - s.1) (0, S.length) ⟨Nat.zero_le _, Nat.le_refl _, fun i x h => by simp only at h; omega, fun i x h hx => by have := slt hx; simp only at h; omega⟩ (le_same ⟨rfl, rfl, rfl, rfl, rfl, rfl, trivial⟩) (fun s J => ?_)
  obtain ⟨lo, hi⟩ := s
  obtain ⟨j1, j2, j3, j4⟩ := J
  simp only at j1 j2 j3 j4
  refine ok_seq fun K5 h5 => ?_
  refine ok_seq fun K6 h6 => ok_region rfl (q_mv _ rfl (q_mv _ rfl (q_bin _ _ _ rfl rfl rfl (run_nil (h6 _ ?_)))))
  refine ok_cond rfl (fun c7 => ?_) (fun c7 => ?_)
  · refine ok_skip (h5 _ ?_)
    have c := of_decide_eq_true c7
    obtain ⟨mid, hmid, hm1, hm2⟩ : ∃ mid : Nat, ((lo : Int) + hi) / 2 = mid ∧ lo ≤ mid ∧ mid < hi := ⟨(lo + hi) / 2, by omega, by omega, by omega⟩
    obtain ⟨u, hu⟩ := sget (l := S) (i := mid) (by omega)
    refine ok_block ?_
    refine ok_seq fun K8 h8 => ok_region rfl (q_mv _ rfl (q_mv _ rfl (q_add rfl rfl (by omega) (q_cv aS3 ik172 rfl (IntWalk.u64_in _ (by omega)) (q_bin (.int .u64 ((lo : Int) + hi)) (.int .u64 1) (.int .u64 (mid : Int)) rfl rfl (shr1w hmid) (q_cv aS172 ik3 rfl (IntWalk.i64_in _ (by omega)) (q_as _ rfl (run_nil (h8 _ ?_)))))))))
    refine ok_seq fun K9 h9 => ok_region rfl (q_mv _ rfl (q_mv _ rfl (q_mv _ rfl (q_ia el29 rfl rfl (by omega) (mget (f := eRingNode) hu) (q_lds _ ag45 rfl sz45 (q_mv _ rfl (q_callv (f72_ok u p) cl72 rfl rfl rfl (q_bin _ _ _ rfl rfl rfl (run_nil (h9 _ ?_))))))))))
    refine ok_cond rfl (fun c10 => ?_) (fun c10 => ?_)
    · have d := of_decide_eq_true c10
      refine ok_last fun K20 h20 => ok_region rfl (q_mv _ rfl (q_add rfl rfl (by omega) (q_as _ rfl (run_nil (h20 _ ⟨(mid + 1, hi), by simp only; omega, ⟨by simp only; omega, j2, ?_, j4⟩, le_same ⟨rfl, rfl, rfl, rfl, rfl, rfl, trivial⟩⟩)))))
      intro i x hi hx
      rcases Nat.lt_or_ge i mid with h | h
      · exact ltN_trans (hs' i mid x u h hx hu) d
      · simp only at hi; obtain rfl : i = mid := by omega
        rw [hu] at hx; cases hx; exact d
    · have d : ¬ ltN u.id p := fun h => of_decide_eq_false c10 h
      refine ok_last fun K20 h20 => ok_region rfl (q_mv _ rfl (q_as _ rfl (run_nil (h20 _ ⟨(lo, mid), by simp only; omega, ⟨hm1, by simp only; omega, j3, ?_⟩, le_same ⟨rfl, rfl, rfl, rfl, rfl, rfl, trivial⟩⟩))))
      intro i x hi hx d'
      simp only at hi
      rcases Nat.lt_or_ge mid i with h | h
      · exact d (ltN_trans (hs' mid i u x h hu hx) d')
      · obtain rfl : i = mid := by omega
        rw [hu] at hx; cases hx; exact d d'
  · refine ok_exit (h4 _ ?_)
    have c := of_decide_eq_false c7
    obtain rfl : lo = hi := by omega
    have e := lowN_eq p S lo j2 j3 (fun x hx => j4 lo x (Nat.le_refl _) hx)
    obtain ⟨v, hv⟩ : ∃ v : RingNode, lo < S.length → S[lo]? = some v := by
      rcases Nat.lt_or_ge lo S.length with h | h
      · obtain ⟨v, hv⟩ := sget h; exact ⟨v, fun _ => hv⟩
      · exact ⟨⟨p, 0, []⟩, fun h' => by omega⟩
    refine ok_seq fun K11 h11 => ?_
    refine ok_region rfl (q_mv _ rfl (q_mv _ rfl (q_mv _ rfl (q_bin _ _ _ rfl rfl rfl (q_mv _ rfl (q_and 8 8 rfl rfl rfl rfl rfl (fun hb48 =>
        q_mv _ rfl (q_mv _ rfl (q_mv _ rfl (q_ia el29 rfl rfl (by omega) (mget (f := eRingNode) (hv (by have := of_decide_eq_true hb48; omega))) (q_lds _ ag45 rfl sz45 (q_mv _ rfl (q_callv (f72_ok v p) cl72 rfl rfl rfl (q_bin _ _ _ rfl rfl rfl (run_nil ⟨rfl, rfl, rfl, rfl⟩))))))))) (
      q_as _ rfl (q_as _ rfl (run_nil (h11 _ ?_))))))))))
    refine ok_ret ⟨_, rfl, ?_⟩
    have : (decide ((lo : Int) < S.length) && decide (cmpT v.id.data.toList p.data.toList = 0)) = fndN p S := by
      unfold fndN
      rw [e]
      rcases Nat.lt_or_ge lo S.length with h | h
      · rw [hv h, decide_eq_true (by omega)]; rfl
      · rw [List.getElem?_eq_none h, decide_eq_false (by omega)]; rfl
    rw [← this, e]; rfl

end Go.Ring

/- The library's slices.Insert of one node and of one row of series: this program's own. No condition. -/
set_option maxRecDepth 100000
set_option linter.unusedVariables false
namespace Go.Ring
open Go Go.RowKit Go.Eager Go.Abs Go.Proofs
def insRenN : Go.Shelf.Ren := ⟨fun | 22 => 74 | 29 => 143 | 30 => 144 | n => n, fun | 24 => 29 | 9 => 45 | n => n, fun x => x⟩
theorem insL74 : InsL Tryz.prog insRenN 3 48 (.agg #[.string ⟨#[]⟩, .int .i64 0, .slice none 0 0]) := {
  mixed := by kernel_rfl
  f22 := ⟨Tryz.f74.name, Tryz.f74.targs, Tryz.func74.trans (congrArg some (by kernel_rfl))⟩
  f29 := ⟨Tryz.f143, Tryz.func143, by kernel_rfl, by kernel_rfl, by kernel_rfl, by kernel_rfl⟩
  t3 := Tryz.underlying3
  a3 := Tryz.isAgg3
  t4 := Tryz.underlying4
  a4 := Tryz.isAgg4
  z9 := Tryz.sizeOf45
  t24 := Tryz.underlying29
  a24 := Tryz.isAgg29
  i9 := by kernel_rfl
  zs := rfl }
theorem ins74 : InsCT Tryz.prog 74 3 48 := insCT_of insL74 (by omega)
def insRenD : Go.Shelf.Ren := ⟨fun | 22 => 75 | 29 => 145 | 30 => 146 | n => n, fun | 24 => 32 | 9 => 63 | n => n, fun x => x⟩
theorem insL75 : InsL Tryz.prog insRenD 1 24 (.slice none 0 0) := {
  mixed := by kernel_rfl
  f22 := ⟨Tryz.f75.name, Tryz.f75.targs, Tryz.func75.trans (congrArg some (by kernel_rfl))⟩
  f29 := ⟨Tryz.f145, Tryz.func145, by kernel_rfl, by kernel_rfl, by kernel_rfl, by kernel_rfl⟩
  t3 := Tryz.underlying3
  a3 := Tryz.isAgg3
  t4 := Tryz.underlying4
  a4 := Tryz.isAgg4
  z9 := Tryz.sizeOf63
  t24 := Tryz.underlying32
  a24 := Tryz.isAgg32
  i9 := by kernel_rfl
  zs := rfl }
theorem ins75 : InsCT Tryz.prog 75 1 24 := insCT_of insL75 (by omega)
end Go.Ring

/- The text of a mark. No condition. -/
set_option maxRecDepth 100000
set_option linter.unusedVariables false
set_option linter.unusedSimpArgs false
namespace Go.Ring
open Go Go.RowKit Go.Eager Go.Abs Go.Proofs
@[reducible] def bsT (l : List UInt8) : ByteArray := ⟨l.toArray⟩
theorem bsT_size (l : List UInt8) : (bsT l).size = l.length := by show l.toArray.size = _; simp
theorem catT {a b : List UInt8} (h : a.length + b.length ≤ 9223372036854775807) : vBin .add (.string (bsT a)) (.string (bsT b)) = some (.string (bsT (a ++ b))) := by
  simp only [vBin, vStr, bsT_size]
  rw [if_pos h]
  have : bsT a ++ bsT b = bsT (a ++ b) := by apply ByteArray.ext; simp [ByteArray.data_append]
  rw [this]
def digs (n : Nat) (out : List UInt8) : List UInt8 := if h : n = 0 then out else digs (n / 10) (UInt8.ofNat (48 + n % 10) :: out)
termination_by n
decreasing_by omega
def markT (k : Nat) : ByteArray := bsT (109 :: digs k [])
theorem f104_ok (k : Nat) (h0 : 1 ≤ k) (hk : k ≤ 1152921504606846976) : PFn Tryz.prog 104 [int k] (str (markT k)) := by
  refine fn_ok' (n := 20) Tryz.func104 rfl rfl rfl (Nat.le_of_ble_eq_true rfl) rfl fun w0 O => ?_
  refine ok_seq fun K1 h1 => ok_region rfl (q_as _ rfl (run_nil (h1 _ ?_)))
  refine ok_seq fun K2 h2 => ?_
  refine ok_seq fun K3 h3 => ok_region rfl (q_mv _ rfl (q_bin _ _ _ rfl rfl rfl (run_nil (h3 _ ?_))))
  refine ok_cond rfl (fun c4 => ?_) (fun c4 => ?_)
  · have := of_decide_eq_true c4; omega
  · refine ok_skip (h2 _ ?_)
    refine ok_seq fun K6 h6 => ok_region rfl (q_as _ rfl (run_nil (h6 _ ?_)))
    refine ok_seq fun K7 h7 => ?_
    refine ok_block ?_
    refine ok_loop (fun (s : Nat × List UInt8) => ⟨[(0, .sv (int s.1)), (3, .sv (str (bsT s.2)))], []⟩) (fun s => digs k [] = digs s.1 s.2 ∧ s.2.length + s.1 ≤ k) (fun s => s.1) (k, []) ⟨rfl, by simp⟩ (le_same ⟨rfl, rfl, trivial⟩) (fun s J => ?_)
    obtain ⟨n, out⟩ := s
    obtain ⟨j1, j2⟩ := J
    simp only at j1 j2
    refine ok_seq fun K8 h8 => ?_
    refine ok_seq fun K9 h9 => ok_region rfl (q_mv _ rfl (q_bin _ _ _ rfl rfl rfl (run_nil (h9 _ ?_))))
    refine ok_cond rfl (fun c10 => ?_) (fun c10 => ?_)
    · have hn : 0 < n := by have : (0 : Int) < n := by simpa using c10
                            omega
      have hb : (48 + (n : Int) % 10) = ((UInt8.ofNat (48 + n % 10)).toNat : Int) := by
        have : (UInt8.ofNat (48 + n % 10)).toNat = (48 + n % 10) % 256 := UInt8.toNat_ofNat'
        rw [this]; omega
      have hst : digs n out = digs (n / 10) (UInt8.ofNat (48 + n % 10) :: out) := by
        conv => lhs; rw [digs]
        rw [dif_neg (by omega)]
      refine ok_skip (h8 _ ?_)
      refine ok_block ?_
      refine ok_seq fun K11 h11 => ?_
      refine ok_region rfl (q_mv _ rfl (q_mod rfl rfl (by omega) (q_add rfl rfl (by omega) (q_cv aS3 ik5 rfl (IntWalk.u8_in _ (by show 0 ≤ 48 + (n : Int) % 10 ∧ 48 + (n : Int) % 10 ≤ 255; omega)) (q_lit1 _ (byteSV (UInt8.ofNat (48 + n % 10))) el73 ze5 (by decide) (by decide) (by show LV.sv (SV.raw (Value.int IntKind.u8 (48 + (n : Int) % 10))) = LV.sv (SV.raw (Value.int IntKind.u8 ((UInt8.ofNat (48 + n % 10)).toNat : Int))); rw [hb]) (.inr rfl) rfl (q_cvf (bs := [UInt8.ofNat (48 + n % 10)]) Tryz.underlying73 Tryz.underlying5 Tryz.underlying9 rfl (
        q_mv _ rfl (q_bin _ _ _ rfl rfl (catT (by simp only [List.length_cons, List.length_nil]; omega)) (q_as _ rfl (run_nil (h11 _ ?_)))))))))))
      refine ok_last fun K12 h12 => ok_region rfl (
        q_mv _ rfl (q_div rfl rfl (by omega) (q_as _ rfl (run_nil (h12 _ (⟨(n / 10, UInt8.ofNat (48 + n % 10) :: out), by simp only; omega, ⟨by rw [j1, hst], by simp only [List.length_cons]; omega⟩, ?_⟩))))))
      rw [show ((n : Int) / 10) = ((n / 10 : Nat) : Int) by omega]
      exact le_same ⟨rfl, rfl, trivial⟩
    · have hn : n = 0 := by have : ¬ (0 : Int) < n := by simpa using c10
                            omega
      subst hn
      have hst : digs 0 out = out := by rw [digs, dif_pos rfl]
      rw [hst] at j1
      refine ok_exit (h7 _ ?_)
      refine ok_seq fun K13 h13 => ok_region rfl (q_mv _ rfl (q_bin _ _ _ rfl rfl (catT (a := [109]) (by simp only [List.length_cons, List.length_nil]; omega)) (q_as _ rfl (run_nil (h13 _ ?_)))))
      refine ok_ret ⟨_, rfl, ?_⟩
      rw [markT, j1]; rfl
end Go.Ring
