/- The law of labels: drawn good labels are read back from their text; they are compared as a total order; one of a name is found under it. No condition. -/
import Derived.Test.YtgofadkgmogbgaaQ9
set_option maxRecDepth 100000
set_option linter.unusedVariables false
set_option linter.unusedSimpArgs false
namespace Go.Ring
open Go Go.RowKit Go.Eager Go.Abs Go.Proofs
theorem cmpB_cases (a b : ByteArray) : cmpB a b = -1 ∨ cmpB a b = 0 ∨ cmpB a b = 1 := cmpT_cases _ _
theorem cmpN_cases (a b : Int) : cmpN a b = -1 ∨ cmpN a b = 0 ∨ cmpN a b = 1 := by unfold cmpN; (repeat split) <;> omega
theorem cmpLs_cases : ∀ a b : List Label, cmpLs a b = -1 ∨ cmpLs a b = 0 ∨ cmpLs a b = 1
  | [], m => by unfold cmpLs; exact cmpN_cases _ _
  | x :: l, [] => by unfold cmpLs; exact cmpN_cases _ _
  | x :: l, y :: m => by
    unfold cmpLs
    split
    · exact cmpB_cases _ _
    · split
      · exact cmpB_cases _ _
      · exact cmpLs_cases l m
theorem withG_S {l : List Label} (hl : l.length ≤ 100000 ∧ ∀ y ∈ l, SLabel y) {n v : ByteArray} (hn : n.size ≤ 1048576) (hv : v.size ≤ 1048576) : (withG l n v).length ≤ 1048576 ∧ ∀ y ∈ withG l n v, SLabel y := by
  unfold withG
  split
  · exact withL_S hl hn hv
  · exact ⟨by simp, by simp⟩
theorem withG_self {a : List Label} (ha : LabelsOk a) {i : Nat} {u : Label} (hu : a[i]? = some u) : withG a u.name u.value = a := by
  have e := withL_self ha hu
  have h := ha.2 i u hu
  unfold withG
  have g : goodV u.name u.value = true := by rw [goodV, h.1, h.2.1]; simp
  have g2 : pB (LabelsOk (withL a u.name u.value)) = true := by rw [e]; exact pB_true ha
  rw [if_pos ⟨pB_true ha, g, g2⟩]
  exact e
theorem valG_gone (a : List Label) (n : ByteArray) : valG (withG a n ⟨#[]⟩) n = ⟨#[]⟩ := by
  unfold valG
  split
  · unfold withG
    split
    · exact valOf_gone a n
    · rfl
  · rfl
theorem valG_name {a : List Label} (ha : LabelsOk a) {i : Nat} {u : Label} (hu : a[i]? = some u) : valG a u.name = u.value := by
  unfold valG; rw [if_pos (pB_true ha)]; exact valOf_name ha hu
theorem f6_ok (a0 : List UInt8) (pa0 : LB a0.length) : PFn Try.prog 6 [eCode a0] (bool true) := by
  refine fn_ok' (n := 99) Try.func6 rfl rfl rfl (Nat.le_of_ble_eq_true rfl) rfl fun w0 O => ?_
  refine ok_seq fun K1 h1 => ok_region rfl (q_as _ rfl (run_nil (h1 _ ?_))); clear h1 K1
  refine ok_seq fun K2 h2 => ?_
  refine ok_seq fun K3 h3 => ok_region rfl (q_mv (eCode a0) rfl (q_len eS22 rfl (q_bin _ _ _ rfl rfl rfl (run_nil (h3 _ ?_))))); clear h3 K3
  rw [List.length_map]
  refine ok_cond rfl (fun c4 => ?_) (fun c4 => ?_)
  · refine ok_seq fun K5 h5 => ok_region rfl (q_as _ rfl (run_nil (h5 _ ?_)))
    exact ok_ret ⟨_, rfl, rfl⟩
  have hlen : a0.length ≤ 1048576 := by have : ¬ (1048576 : Int) < a0.length := by simpa using c4
                                        omega
  refine ok_skip (h2 _ ?_)
  refine ok_seq fun K6 h6 => ok_region rfl (q_mv (eCode a0) rfl (q_callr (f29_r a0 hlen) cl29 rfl (fun r hr hz hap => ?_)))
  obtain ⟨a, b, rfl, sa, sb⟩ := hr
  refine q_mv _ rfl (q_ext _ rfl rfl (q_ext _ rfl rfl (q_as _ rfl (q_as _ rfl (run_nil (h6 _ ?_)))))); clear h6 K6
  refine Ok.le (σ' := ⟨[(3, .sv (eLabelS a)), (4, .sv (eLabelS b))], []⟩) (le_sub ⟨rfl, rfl, trivial⟩ trivial) ?_
  clear hz hap
  have hsa : a.length ≤ 100000 ∧ ∀ y ∈ a, SLabel y := ⟨by have := sa.1; omega, sa.S.2⟩
  refine ok_seq fun K7 h7 => ok_region rfl (q_mv (eLabelS a) rfl (q_mv (eLabelS b) rfl (q_call (f30_ok a b sa.S sb.S) cl30 rfl rfl (q_as _ rfl (run_nil (h7 _ ?_)))))); clear h7 K7
  refine ok_seq fun K8 h8 => ?_
  refine ok_seq fun K9 h9 => ?_
  refine ok_region rfl (q_mv (eLabelS a) rfl (q_call (f31_ok a sa.S) cl31 rfl rfl (q_un _ _ rfl rfl (q_mv _ rfl (q_or 3 3 rfl rfl rfl rfl rfl (fun hb28 =>
      q_mv (eLabelS b) rfl (q_call (f31_ok b sb.S) cl31 rfl rfl (q_un _ _ rfl rfl (run_nil ⟨rfl, rfl, rfl, rfl⟩)))) (
    run_nil (h9 _ ?_)))))))
  clear h9 K9
  refine ok_cond rfl (fun c10 => ?_) (fun c10 => ?_)
  · refine ok_seq fun K11 h11 => ?_
    refine ok_region rfl (q_mv (int (cmpG a b)) rfl (q_bin _ _ _ rfl rfl rfl (q_as _ rfl (run_nil (h11 _ ?_)))))
    clear h11 K11
    refine ok_ret ⟨_, rfl, ?_⟩
    have e : cmpG a b = -2 := by rw [cmpG, if_neg (by rintro ⟨h1, h2⟩; rw [h1, h2] at c10; cases c10)]
    rw [e]; rfl
  · refine ok_skip (h8 _ ?_)
    simp only [Bool.or_eq_false_iff, Bool.not_eq_false'] at c10
    have ga : LabelsOk a := by
      by_cases h : LabelsOk a
      · exact h
      · have := c10.1; rw [pB_false h] at this; cases this
    have gb : LabelsOk b := by
      by_cases h : LabelsOk b
      · exact h
      · have := c10.2; rw [pB_false h] at this; cases this
    have ec : cmpG a b = cmpLs a b := by rw [cmpG, if_pos c10]
    have ed : cmpG b a = - cmpLs a b := by rw [cmpG, if_pos ⟨c10.2, c10.1⟩, cmpLs_neg]
    have hcc := cmpLs_cases a b
    rw [ec]
    refine ok_seq fun K12 h12 => ok_region rfl (q_mv (eLabelS a) rfl (q_call (f33_ok a sa.S) cl33 rfl rfl (q_call (f32_q a ga) cl32 rfl rfl (q_mv _ rfl (q_ext _ rfl rfl (q_ext _ rfl rfl (q_as _ rfl (q_as _ rfl (run_nil (h12 _ ?_)))))))))); clear h12 K12
    refine ok_seq fun K13 h13 => ?_
    refine ok_seq fun K14 h14 => ?_
    refine ok_region rfl (q_mv (bool true) rfl (q_un _ _ rfl rfl (q_mv _ rfl (q_or 4 4 rfl rfl rfl rfl rfl (fun hb44 =>
        q_mv (eLabelS a) rfl (q_mv (eLabelS a) rfl (q_call (f34_ok a a sa.S.1 sa.S.1) cl34 rfl rfl (q_un _ _ rfl rfl (run_nil ⟨rfl, rfl, rfl, rfl⟩))))) (
      q_mv _ rfl (q_or 6 6 rfl rfl rfl rfl rfl (fun hb52 =>
        q_mv (eLabelS b) rfl (q_mv (eLabelS a) rfl (q_call (f30_ok b a sb.S sa.S) cl30 rfl rfl (q_mv (int (cmpLs a b)) rfl (q_un _ _ rfl rfl (q_bin _ _ _ rfl rfl rfl (run_nil ⟨rfl, rfl, rfl, rfl⟩))))))) (
      q_mv _ rfl (q_or 6 6 rfl rfl rfl rfl rfl (fun hb60 =>
        q_mv (int (cmpLs a b)) rfl (q_bin _ _ _ rfl rfl rfl (q_mv (eLabelS a) rfl (q_mv (eLabelS b) rfl (q_call (f34_ok a b sa.S.1 sb.S.1) cl34 rfl rfl (q_neb Try.underlying4 rfl rfl (run_nil ⟨rfl, rfl, rfl, rfl⟩))))))) (
      run_nil (h14 _ ?_))))))))))
    clear h14 K14
    have ew : IntKind.i64.wrap (0 - cmpLs a b) = - cmpLs a b := by
      rw [show (0 : Int) - cmpLs a b = - cmpLs a b by omega]; exact IntWalk.i64_in _ (by omega)
    have ez : pB (a = b) = decide (cmpLs a b = 0) := by
      by_cases h : a = b
      · rw [pB_true h, (cmpLs_zero a b).2 h]; rfl
      · rw [pB_false h, decide_eq_false (fun e => h ((cmpLs_zero a b).1 e))]
    rw [pB_true rfl, ed, ew, ez]
    refine ok_cond rfl (fun c15 => ?_) (fun c15 => ?_)
    · exfalso
      simp at c15
    · refine ok_skip (h13 _ ?_)
      refine ok_seq fun K17 h17 => ?_
      refine ok_seq fun K18 h18 => ok_region rfl (q_mv (eLabelS a) rfl (q_len eS61 rfl (q_mv _ rfl (run_nil (h18 _ ?_))))); clear h18 K18
      rw [List.length_map]
      refine ok_block ?_
      refine ok_loop (fun (k : Nat) => ⟨[(3, .sv (eLabelS a)), (61, .sv (eLabelS a)), (62, .sv (int a.length)), (63, .sv (int k))], []⟩) (fun k => True) (fun k => a.length - k) 0 trivial (le_same ⟨rfl, rfl, rfl, rfl, trivial⟩) (fun k J => ?_)
      refine ok_seq fun K19 h19 => ok_region rfl (q_bin _ _ _ rfl rfl rfl (run_nil (h19 _ ?_))); clear h19 K19
      refine ok_seq fun K20 h20 => ?_
      refine ok_cond rfl (fun c21 => ?_) (fun c21 => ?_)
      · refine ok_skip (h20 _ ?_)
        have hk : k < a.length := by simpa using c21
        have hk1 := sa.1
        obtain ⟨u, hu⟩ := sget hk
        have hus := sa.S.2 u (smem hu)
        refine ok_seq fun K22 h22 => ?_
        refine ok_block ?_
        refine ok_seq fun K23 h23 => ok_region rfl (q_ia el61 rfl rfl (by omega) (mget hu) (q_lds _ ag71 rfl sz71 (q_alloc _ ze71 rfl rfl rfl rfl (q_sts _ rfl rfl rfl sz71 (Nat.le_of_ble_eq_true rfl) rfl (run_nil (h23 _ ?_)))))); clear h23 K23
        refine ok_seq fun K24 h24 => ?_
        refine ok_region_d [0, 0, 1, 3, 0, 1, 0, 0, 0, 0, 1, 0, 1, 3, 0, 3, 0, 0, 0, 0, 0, 1, 3, 0, 1, 3, 0, 0] #[[], [], [1], [0, 1, 2], [], [4], [0, 1, 2, 3, 4, 5], [0, 1, 2, 3, 4, 5, 6], [0, 1, 2, 3, 4, 5, 6, 7], [0, 1, 2, 3, 4, 5, 6, 7], [0, 1, 2, 3, 4, 5, 6, 7, 9], [0, 1, 2, 3, 4, 5, 6, 7], [0, 1, 2, 3, 4, 5, 6, 7, 11], [0, 1, 2, 3, 4, 5, 6, 7, 8, 9, 10, 11, 12], [0, 1, 2, 3, 4, 5, 6, 7], [0, 1, 2, 3, 4, 5, 6, 7, 8, 9, 10, 11, 12, 13, 14], [0, 1, 2, 3, 4, 5, 6, 7, 8, 9, 10, 11, 12, 13, 14, 15], [0, 1, 2, 3, 4, 5, 6, 7, 8, 9, 10, 11, 12, 13, 14, 15, 16], [0, 1, 2, 3, 4, 5, 6, 7, 8, 9, 10, 11, 12, 13, 14, 15, 16, 17], [0, 1, 2, 3, 4, 5, 6, 7, 8, 9, 10, 11, 12, 13, 14, 15, 16, 17, 18], [0, 1, 2, 3, 4, 5, 6, 7, 8, 9, 10, 11, 12, 13, 14, 15, 16, 17, 18], [0, 1, 2, 3, 4, 5, 6, 7, 8, 9, 10, 11, 12, 13, 14, 15, 16, 17, 18, 20], [0, 1, 2, 3, 4, 5, 6, 7, 8, 9, 10, 11, 12, 13, 14, 15, 16, 17, 18, 19, 20, 21], [0, 1, 2, 3, 4, 5, 6, 7, 8, 9, 10, 11, 12, 13, 14, 15, 16, 17, 18], [0, 1, 2, 3, 4, 5, 6, 7, 8, 9, 10, 11, 12, 13, 14, 15, 16, 17, 18, 23], [0, 1, 2, 3, 4, 5, 6, 7, 8, 9, 10, 11, 12, 13, 14, 15, 16, 17, 18, 19, 20, 21, 22, 23, 24], [0, 1, 2, 3, 4, 5, 6, 7, 8, 9, 10, 11, 12, 13, 14, 15, 16, 17, 18, 19, 20, 21, 22, 23, 24, 25], [0, 1, 2, 3, 4, 5, 6, 7, 8, 9, 10, 11, 12, 13, 14, 15, 16, 17, 18, 19, 20, 21, 22, 23, 24, 25, 26]] [0, 1, 2, 4, 5, 3, 6, 7, 8, 9, 10, 11, 12, 14, 13, 15, 16, 17, 18, 19, 20, 21, 23, 24, 22, 25, 26, 27] (by kernel_rfl) (by kernel_rfl) rfl rfl (
          q_mv (eLabelS a) rfl (q_fap fd71_0 rfl (by decide) (q_ldb _ ag9 rfl rfl rfl (q_fap fd71_1 rfl (by decide) (q_ldb _ ag9 rfl rfl rfl (q_call (f35_ok a sa.S u.name) cl35 rfl rfl (q_bin _ _ _ rfl rfl rfl (
          q_mv _ rfl (q_or 9 9 rfl rfl rfl rfl rfl (fun hb84 =>
            q_mv (eLabelS a) rfl (q_fap fd71_0 rfl (by decide) (q_ldb _ ag9 rfl rfl rfl (q_fap fd71_1 rfl (by decide) (q_ldb _ ag9 rfl rfl rfl (q_mv (eLabelS a) rfl (q_call (f36_ok a hsa u.name u.value hus.1 hus.2) cl36 rfl rfl (
            q_call (f34_ok (withG a u.name u.value) a (withG_S hsa hus.1 hus.2).1 sa.S.1) cl34 rfl rfl (q_un _ _ rfl rfl (run_nil ⟨rfl, rfl, rfl, rfl⟩)))))))))) (
          q_mv _ rfl (q_or 8 8 rfl rfl rfl rfl rfl (fun hb94 =>
            q_mv (eLabelS a) rfl (q_fap fd71_0 rfl (by decide) (q_ldb _ ag9 rfl rfl rfl (q_fap fd71_0 rfl (by decide) (q_ldb _ ag9 rfl rfl rfl (q_call (f36_ok a hsa u.name ⟨#[]⟩ hus.1 (by decide)) cl36 rfl rfl (q_call (f35_ok (withG a u.name ⟨#[]⟩) (withG_S hsa hus.1 (by decide)) u.name) cl35 rfl rfl (
            q_bin _ _ _ rfl rfl rfl (run_nil ⟨rfl, rfl, rfl, rfl⟩))))))))) (
          run_nil (h24 _ ?_)))))))))))))
        clear h24 K24
        rw [valG_name ga hu, withG_self ga hu, valG_gone, pB_true rfl]
        refine ok_cond rfl (fun c25 => ?_) (fun c25 => ?_)
        · exfalso
          simp at c25
        · refine ok_skip (h22 _ ?_)
          exact ok_last fun K27 h27 => ok_region rfl (
            q_add rfl rfl (by omega) (q_mv _ rfl (run_nil (h27 _ (⟨k + 1, by omega, trivial, le_sub ⟨rfl, rfl, rfl, rfl, trivial⟩ trivial⟩)))))
      · refine ok_exit (h17 _ ?_)
        refine ok_seq fun K28 h28 => ok_region rfl (q_mv (eLabelS a) rfl (q_call (f37_ok a sa.S) cl37 rfl rfl (q_bin _ _ _ rfl rfl rfl (q_as _ rfl (run_nil (h28 _ ?_)))))); clear h28 K28
        refine ok_ret ⟨_, rfl, ?_⟩
        have hh := hashL_nonneg a
        show SV.raw (.bool (decide (hashL a ≥ 0))) = _
        rw [decide_eq_true hh]
end Go.Ring
