/- Labels read back from their own text: the program. -/
import Derived.Test.YtgofadkgmogbgaaQ3
import Derived.Test.YtgofadkgmogbgaaEg2
set_option maxRecDepth 100000
set_option linter.unusedVariables false
set_option linter.unusedSimpArgs false
namespace Go.Ring
open Go Go.RowKit Go.Eager Go.Abs Go.Proofs
/-- What is still to be read behind k labels, a comma ahead of each. -/
def tlL (a : List Label) (k : Nat) : List UInt8 := tailL (a.drop k) ++ [125]
def restL (a : List Label) (k : Nat) : List UInt8 := if k = 0 then joinL a ++ [125] else tlL a k
theorem tl_step {a : List Label} {k : Nat} {x : Label} (h : a[k]? = some x) : tlL a k = 44 :: (partL x ++ tlL a (k + 1)) := by
  unfold tlL
  rw [dropQ h]
  simp [tailL]
theorem rest_zero {a : List Label} {x : Label} (h : a[0]? = some x) : restL a 0 = partL x ++ tlL a 1 := by
  cases a with
  | nil => cases h
  | cons y l =>
    cases h
    simp [restL, tlL, joinL]
theorem rest_end (a : List Label) : restL a a.length = [125] := by
  cases a with
  | nil => rfl
  | cons y l => simp [restL, tlL, tailL]
theorem name_word {n : ByteArray} (h : nameB n = true) : n.data.toList.all wordB = true ∧ n.size ≤ 40 ∧ ∃ c r, n.data.toList = c :: r := by
  simp only [nameB, Bool.and_eq_true, decide_eq_true_eq] at h
  refine ⟨h.2, h.1.1.2, ?_⟩
  cases hl : n.data.toList with
  | nil => have := len_of n; rw [hl] at this; simp at this; omega
  | cons c r => exact ⟨c, r, rfl⟩
theorem value_size {v : ByteArray} (h : valueB v = true) : v.size ≤ 100 := by
  simp only [valueB, Bool.and_eq_true, decide_eq_true_eq] at h
  exact h.1.2
theorem word_not {c : UInt8} (h : wordB c = true) : c ≠ 125 ∧ c ≠ 61 := by
  constructor
  · intro e; subst e; revert h; decide
  · intro e; subst e; revert h; decide
theorem pre_no {c d : UInt8} (r : List UInt8) (h : d ≠ c) : Lib.hasPrefix (d :: r) [c] = false := by
  simp [Lib.hasPrefix, List.isPrefixOf]
  exact fun e => h e.symm
theorem part_at (x : Label) (r : List UInt8) : partL x ++ r = x.name.data.toList ++ 61 :: (quoteB x.value ++ r) := by simp [partL]
theorem tl_len {a : List Label} (ha : LabelsOk a) (k : Nat) : (tlL a k).length ≤ 10000 := by
  have h : ∀ l : List Label, (∀ y ∈ l, nameB y.name = true ∧ valueB y.value = true) → (tailL l).length ≤ 300 * l.length := by
    intro l
    induction l with
    | nil => intro _; simp [tailL]
    | cons y l ih =>
      intro h
      have h1 := ih fun z hz => h z (List.mem_cons_of_mem _ hz)
      have h2 := h y (by simp)
      have h3 := (name_word h2.1).2.1
      have h4 := value_size h2.2
      have h5 := quote_len y.value
      have h6 := len_of y.name
      have e : tailL (y :: l) = 44 :: partL y ++ tailL l := by simp [tailL]
      rw [e]
      simp only [List.length_append, List.length_cons, partL, List.length_nil]
      omega
  have h1 := h (a.drop k) fun y hy => by
    obtain ⟨i, hi⟩ := List.mem_iff_getElem?.1 (List.mem_of_mem_drop hy)
    exact ⟨(ha.2 i y hi).1, (ha.2 i y hi).2.1⟩
  unfold tlL
  have h2 := ha.1
  rw [List.length_append]
  have h3 : (a.drop k).length ≤ a.length := by rw [List.length_drop]; omega
  simp only [List.length_cons, List.length_nil]
  omega
theorem f114_q (a : List Label) (ha : LabelsOk a) : PFn Try.prog 114 [str (bs (textL a))] (.tup [eLabelS a, str (bs []), bool true]) := by
  have hal := ha.1
  have haS : ∀ y ∈ a, SLabel y := by
    intro y hy
    obtain ⟨i, hi⟩ := List.mem_iff_getElem?.1 hy
    have h1 := (name_word (ha.2 i y hi).1).2.1
    have h2 := value_size (ha.2 i y hi).2.1
    exact ⟨by omega, by omega⟩
  rw [show textL a = 123 :: restL a 0 from rfl]
  refine fn_ok' (n := 60) Try.func114 rfl rfl rfl (Nat.le_of_ble_eq_true rfl) rfl fun w0 O => ?_
  refine ok_seq fun K1 h1 => ok_region rfl (q_as _ rfl (q_as _ rfl (q_as _ rfl (run_nil (h1 _ ?_))))); clear h1 K1
  refine ok_seq fun K2 h2 => ok_region rfl (q_mv _ rfl (q_call (cut_q 123 (restL a 0)) cl179 rfl rfl (q_mv _ rfl (q_ext _ rfl rfl (q_ext _ rfl rfl (q_as _ rfl (q_as _ rfl (run_nil (h2 _ ?_))))))))); clear h2 K2
  refine ok_seq fun K3 h3 => ?_
  refine ok_seq fun K4 h4 => ok_region rfl (q_mv _ rfl (q_un _ _ rfl rfl (run_nil (h4 _ ?_)))); clear h4 K4
  refine ok_cond rfl (fun c5 => absurd c5 (by decide)) (fun c5 => ?_)
  refine ok_skip (h3 _ ?_)
  refine ok_seq fun K7 h7 => ok_region rfl (q_an (n := 2) 71 (by decide) rfl rfl rfl (run_nil (h7 _ ?_))); clear h7 K7
  refine ok_seq fun K8 h8 => ?_
  refine ok_block ?_
  refine ok_loop (fun (k : Nat) => ⟨[(5, .sv (str (bs (restL a k)))), (7, .own 7)], [(7, .row 2 71 ((a.take k).map eLabel))]⟩) (fun k => k ≤ a.length) (fun k => a.length - k) 0 (Nat.zero_le _) (le_sub ⟨rfl, rfl, trivial⟩ ⟨rfl, trivial⟩) (fun k J => ?_)
  refine ok_seq fun K9 h9 => ?_
  refine ok_seq fun K10 h10 => ok_region rfl (q_mv (str (bs (restL a k))) rfl (q_call (f180_p (bs (restL a k)) (bs [125])) cl180 rfl rfl (q_un _ _ rfl rfl (run_nil (h10 _ ?_))))); clear h10 K10
  rw [bs_toList, bs_toList]
  by_cases hk : k < a.length
  · obtain ⟨u, hu⟩ : ∃ u, a[k]? = some u := ⟨_, List.getElem?_eq_getElem hk⟩
    obtain ⟨hn, hv, -⟩ := ha.2 k u hu
    obtain ⟨hw, hns, c0, r0, hc0⟩ := name_word hn
    have hvs := value_size hv
    have hw0 : wordB c0 = true := by rw [hc0] at hw; simp at hw; exact hw.1
    have htl := tl_len ha (k + 1)
    have hq := quote_len u.value
    have hnl := len_of u.name
    have hp : Lib.hasPrefix (restL a k) [125] = false := by
      by_cases h0 : k = 0
      · subst h0
        rw [rest_zero hu, part_at, hc0]
        exact pre_no _ (word_not hw0).1
      · unfold restL
        rw [if_neg h0, tl_step hu]
        exact pre_no _ (by decide)
    rw [hp]
    refine ok_cond rfl (fun c11 => ?_) (fun c11 => absurd c11 (by decide))
    refine ok_skip (h9 _ ?_)
    refine ok_block ?_
    refine ok_seq_join (fun (_ : Unit) => ⟨[(5, .sv (str (bs (partL u ++ tlL a (k + 1))))), (7, .own 7)], [(7, .row 2 71 ((a.take k).map eLabel))]⟩) (fun _ => True) ?_ (fun _ J => ?_)
    · refine ok_seq fun K12 h12 => ?_
      refine ok_region rfl (q_mo 7 rfl (q_leno rfl rfl rfl (q_bin _ _ _ rfl rfl rfl (run_nil (h12 _ ?_)))))
      clear h12 K12
      have hlen : ((a.take k).map eLabel).length = k := by rw [List.length_map, List.length_take]; omega
      rw [hlen]
      refine ok_cond rfl (fun c13 => ?_) (fun c13 => ?_)
      · have h0 : k ≠ 0 := by have := of_decide_eq_true (p := (k : Int) > 0) c13; omega
        have hr : restL a k = 44 :: (partL u ++ tlL a (k + 1)) := by unfold restL; rw [if_neg h0, tl_step hu]
        rw [hr]
        refine ok_seq fun K14 h14 => ?_
        refine ok_region rfl (q_mv (str (bs (44 :: (partL u ++ tlL a (k + 1))))) rfl (q_call (cut_q 44 (partL u ++ tlL a (k + 1))) cl179 rfl rfl (q_mv _ rfl (q_ext _ rfl rfl (q_ext _ rfl rfl (q_as _ rfl (q_as _ rfl (run_nil (h14 _ ?_)))))))))
        clear h14 K14
        refine ok_seq fun K15 h15 => ok_region rfl (q_mv _ rfl (q_un _ _ rfl rfl (run_nil (h15 _ ?_)))); clear h15 K15
        refine ok_cond rfl (fun c16 => absurd c16 (by decide)) (fun c16 => ?_)
        exact ok_skip ⟨(), trivial, le_sub ⟨rfl, rfl, trivial⟩ ⟨rfl, trivial⟩⟩
      · have h0 : k = 0 := by have := of_decide_eq_false (p := (k : Int) > 0) c13; omega
        subst h0
        rw [rest_zero hu]
        exact ok_skip ⟨(), trivial, le_sub ⟨rfl, rfl, trivial⟩ ⟨rfl, trivial⟩⟩
    · rw [part_at]
      refine ok_seq fun K18 h18 => ?_
      refine ok_region rfl (q_alloc _ ze71 rfl rfl rfl rfl (run_nil (h18 _ ?_)))
      clear h18 K18
      refine ok_seq fun K19 h19 => ?_
      refine ok_region rfl (q_mv (str (bs (u.name.data.toList ++ 61 :: (quoteB u.value ++ tlL a (k + 1))))) rfl (q_call (f181_q u.name.data.toList (quoteB u.value ++ tlL a (k + 1)) hw (by simp only [List.length_append, List.length_cons]; omega)) cl181 rfl rfl (q_mv _ rfl (q_ext _ rfl rfl (q_ext _ rfl rfl (q_fap fd71_0 rfl (by decide) (q_st _ sz9 rfl rfl (Nat.le_of_ble_eq_true rfl) rfl ⟨_, rfl, rfl⟩ rfl (
        q_as _ rfl (run_nil (h19 _ ?_))))))))))
      clear h19 K19
      refine ok_seq fun K20 h20 => ?_
      refine ok_seq fun K21 h21 => ok_region rfl (q_mv _ rfl (q_call (cut_q 61 (quoteB u.value ++ tlL a (k + 1))) cl179 rfl rfl (q_mv _ rfl (q_ext _ rfl rfl (q_ext _ rfl rfl (q_as _ rfl (q_as _ rfl (run_nil (h21 _ ?_))))))))); clear h21 K21
      refine ok_seq fun K22 h22 => ok_region rfl (q_mv _ rfl (q_un _ _ rfl rfl (run_nil (h22 _ ?_)))); clear h22 K22
      refine ok_cond rfl (fun c23 => absurd c23 (by decide)) (fun c23 => ?_)
      refine ok_skip (h20 _ ?_)
      refine ok_seq fun K25 h25 => ?_
      refine ok_seq fun K26 h26 => ?_
      refine ok_region rfl (q_mv (str (bs (quoteB u.value ++ tlL a (k + 1)))) rfl (q_call (f182_q u.value (tlL a (k + 1)) (by omega) (by omega)) cl182 rfl rfl (q_mv _ rfl (q_ext _ rfl rfl (q_ext _ rfl rfl (q_ext _ rfl rfl (q_fap fd71_1 rfl (by decide) (q_st _ sz9 rfl rfl (Nat.le_of_ble_eq_true rfl) rfl ⟨_, rfl, rfl⟩ rfl (
        q_as _ rfl (q_as _ rfl (run_nil (h26 _ ?_))))))))))))
      clear h26 K26
      refine ok_seq fun K27 h27 => ok_region rfl (q_mv _ rfl (q_un _ _ rfl rfl (run_nil (h27 _ ?_)))); clear h27 K27
      refine ok_cond rfl (fun c28 => absurd c28 (by decide)) (fun c28 => ?_)
      refine ok_skip (h25 _ ?_)
      have hlen : ((a.take k).map eLabel).length = k := by rw [List.length_map, List.length_take]; omega
      have e9 : (a.take k).map eLabel ++ [eLabel u] = (a.take (k + 1)).map eLabel := by rw [List.take_add_one, hu, List.map_append]; rfl
      refine ok_last fun K30 h30 => ok_region rfl (
        q_mo 7 rfl (q_ldbs (r := [str (bs u.name.data.toList), str u.value]) ag71 rfl rfl sz71 rfl rfl (q_lit1 _ _ el61 ze71 (by decide) (by decide) rfl (.inl ⟨_, rfl⟩) rfl (q_app (q := [.agg [str (bs u.name.data.toList), str u.value]]) _ el61 ze71 rfl by71 rfl rfl rfl rfl rfl (by simp) (by intro s hs; simp at hs; subst hs; exact .inl ⟨_, rfl⟩) (by rw [hlen]; show k + 1 ≤ maxLen; unfold maxLen; omega) (by rw [hlen]; show (k + 1) * _ ≤ _; omega) (
        q_ao _ rfl (run_nil (h30 _ ⟨k + 1, by omega, hk, ?_⟩)))))))
      rw [bs_of, show restL a (k + 1) = tlL a (k + 1) from rfl, ← e9]
      exact le_rek 7 54 ⟨rfl, rfl, trivial⟩ ⟨rfl, trivial⟩ rfl rfl rfl rfl ⟨rfl, trivial⟩
  · have hke : k = a.length := by omega
    subst hke
    rw [rest_end, show Lib.hasPrefix [125] [125] = true from rfl]
    refine ok_cond rfl (fun c11 => absurd c11 (by decide)) (fun c11 => ?_)
    refine ok_exit (h8 _ ?_)
    rw [List.take_length]
    refine Ok.le (Le.trans (le_fz (n := 2) (T := 71) (l := a.map eLabel) 7 rfl) (le_sub (t' := [(5, .sv (str (bs [125]))), (7, .own 7)]) (h' := [(7, .row 2 71 (a.map eLabel))]) ⟨rfl, rfl, trivial⟩ ⟨rfl, trivial⟩)) ?_
    refine ok_seq fun K31 h31 => ?_
    refine ok_region_i (by kernel_rfl) (by kernel_rfl) rfl (
      q_mv (eLabelS a) rfl (q_mv (str (bs [125])) rfl (q_ss 1 1 st9 rfl (.inr ⟨_, _, rfl, rfl⟩) (.inl ⟨rfl, rfl⟩) (by omega) (by omega) (by decide) (q_mv (eLabelS a) rfl (q_call (f109_ok a ⟨by omega, haS⟩) cl109 rfl rfl (
      q_as _ rfl (q_as _ rfl (q_as _ rfl (run_nil (h31 _ ?_))))))))))
    clear h31 K31
    refine ok_ret ⟨_, rfl, ?_⟩
    rw [pB_true ha]
    rfl
end Go.Ring
