/- Where the series stand that fit matchers; the law. No condition. -/
import Derived.Test.YtbhkjbfphhfecaaGreatU1
import Derived.Test.YtbhkjbfphhfecaaGreatA8
set_option maxRecDepth 100000
set_option linter.unusedVariables false
set_option linter.unusedSimpArgs false
namespace Go.Ring
open Go Go.RowKit Go.Eager Go.Abs Go.Proofs
theorem ok_le {Γ : Ctx} {c : Code} {σ σ' : St} {Q : Exit → St → Prop} (h : Le Γ σ' σ) (hok : Ok Γ c σ' Q) : Ok Γ c σ Q := fun a w I => hok a w (h a w I)
theorem val_size {l : List Label} (h : LabelsOk l) (n : ByteArray) : (valOf l n).size ≤ 100 := by
  have key : ∀ l : List Label, (∀ x ∈ l, x.value.size ≤ 100) → (valOf l n).size ≤ 100 := by
    intro l
    induction l with
    | nil => intro _; show (0 : Nat) ≤ 100; omega
    | cons x l ih =>
      intro hx
      unfold valOf
      split
      · exact hx x (List.mem_cons_self ..)
      · exact ih fun y hy => hx y (List.mem_cons_of_mem _ hy)
  refine key l fun x hx => ?_
  obtain ⟨i, hi⟩ := List.getElem?_of_mem hx
  have := (h.2 i x hi).2.1
  unfold valueB at this
  simp only [Bool.and_eq_true, decide_eq_true_eq] at this
  exact this.1.2
theorem labs_of {b : Block} (h : BlockOk b) {k : Nat} {u : Series} (hu : b.series[k]? = some u) : LabelsOk u.labels := (h.2.2.2.2.2.1.2 k u hu).1
def lookF (ms : List Matcher) : List Series → Nat → List Int
  | [], _ => []
  | x :: l, k => if matB ms x.labels = true then (k : Int) :: lookF ms l (k + 1) else lookF ms l (k + 1)
theorem lookF_step {ms : List Matcher} {l : List Series} {k : Nat} {x : Series} (h : l[k]? = some x) : lookF ms (l.drop k) k = if matB ms x.labels = true then (k : Int) :: lookF ms (l.drop (k + 1)) (k + 1) else lookF ms (l.drop (k + 1)) (k + 1) := by
  rw [drop_cons h]; rfl
theorem lookF_len (ms : List Matcher) : ∀ (l : List Series) (k : Nat), (lookF ms l k).length ≤ l.length
  | [], _ => Nat.le_refl _
  | x :: l, k => by
    have := lookF_len ms l (k + 1)
    unfold lookF
    split <;> simp <;> omega
noncomputable def resL (x : Block) (ms : List Matcher) : List Int := if pB (BlockOk x) = true ∧ gmsB ms = true then lookF ms x.series 0 else []
theorem resL_S (x : Block) (hx : SBlock x) (ms : List Matcher) : (resL x ms).length ≤ 1048576 := by
  unfold resL
  split
  · exact Nat.le_trans (lookF_len ms x.series 0) hx.1.1
  · simp
theorem resL_C (x : Block) (hx : SBlock x) (ms : List Matcher) : 1 + cL cOne (resL x ms) ≤ 1152921504606846976 := by
  have := resL_S x hx ms
  rw [cL_const (c := cOne) (m := 1) (fun _ => rfl)]
  omega
theorem gms_all {ms : List Matcher} (h : gmsB ms = true) : ms.all gmB = true := by unfold gmsB at h; simp only [Bool.and_eq_true] at h; exact h.2
theorem f13_t (x : Block) (hx : SBlock x) (ms : List Matcher) (hn : ms.length ≤ 1048576 ∧ ∀ m ∈ ms, SMatcher m) : PFnT Tryz.prog 13 [eBlock x, eMatcherS ms] (ints (resL x ms)) := by
  refine fnp_ok (n := 34) Tryz.func13 rfl rfl rfl (Nat.le_of_ble_eq_true rfl) rfl fun w0 O => ?_
  refine ok_seq fun K1 h1 => ok_region rfl (q_boxs _ rfl (Nat.zero_lt_succ _) (q_as _ rfl (run_nil (h1 _ ?_)))); clear h1 K1
  refine ok_seq fun K2 h2 => ?_
  refine ok_seq fun K3 h3 => ?_
  refine ok_region rfl (q_lds _ ag34 rfl sz34 (q_call (f55_ok x hx) cl55 rfl rfl (q_un _ _ rfl rfl (q_mv _ rfl (q_or 3 3 rfl rfl rfl rfl rfl (fun hb15 =>
      q_mv _ rfl (q_call (f56_ok ms hn.1 hn.2) cl56 rfl rfl (q_un _ _ rfl rfl (run_nil ⟨rfl, rfl, rfl, rfl⟩)))) (
    run_nil (h3 _ ?_)))))))
  clear h3 K3
  refine ok_cond rfl (fun c4 => ?_) (fun c4 => ?_)
  · have e : resL x ms = [] := by
      unfold resL; rw [if_neg]
      rintro ⟨h1, h2⟩
      rw [h1, h2] at c4; simp at c4
    refine ok_seq fun K5 h5 => ?_
    refine ok_region rfl (q_as _ rfl (run_nil (h5 _ ?_)))
    clear h5 K5
    refine ok_nilT 1 (ok_ret ⟨_, ⟨_, _, rfl, rfl, rfl⟩, ?_, fun b hb => (zn_tr hb).elim⟩)
    rw [e]
    exact .tr _ _ _ _
  · rw [Bool.or_eq_false_iff] at c4
    have hg : pB (BlockOk x) = true ∧ gmsB ms = true := ⟨by simpa using c4.1, by simpa using c4.2⟩
    have e : resL x ms = lookF ms x.series 0 := by unfold resL; rw [if_pos hg]
    have hbk := of_pB hg.1
    have hsl := hx.1.1
    refine ok_skip (h2 _ ?_)
    refine ok_seq fun K6 h6 => ok_region rfl (q_an (n := 1) 3 (by decide) rfl rfl rfl (run_nil (h6 _ ?_))); clear h6 K6
    refine ok_seq fun K7 h7 => ?_
    refine ok_seq fun K8 h8 => ok_region rfl (q_fa _ fd34_3 rfl rfl (by decide) (q_ld _ ag31 rfl rfl (q_len eS31 rfl (q_mv _ rfl (run_nil (h8 _ ?_)))))); clear h8 K8
    rw [List.length_map]
    refine ok_block ?_
    refine ok_loop (fun (s : Nat × List Int) => ⟨[(1, .sv (eMatcherS ms)), (5, .own 5), (17, .sv (eSeriesS x.series)), (18, .sv (int x.series.length)), (19, .sv (int s.1))], [(5, .row 1 3 (s.2.map int))]⟩) (fun s => s.2 ++ lookF ms (x.series.drop s.1) s.1 = lookF ms x.series 0 ∧ s.2.length ≤ s.1) (fun s => x.series.length - s.1) (0, []) ⟨rfl, Nat.le_refl _⟩ (le_sub ⟨rfl, rfl, rfl, rfl, rfl, trivial⟩ ⟨rfl, trivial⟩) (fun s J => ?_)
    obtain ⟨k, o⟩ := s
    obtain ⟨j1, j2⟩ := J
    simp only at j1 j2
    refine ok_seq fun K9 h9 => ok_region rfl (q_bin _ _ _ rfl rfl rfl (run_nil (h9 _ ?_))); clear h9 K9
    refine ok_seq fun K10 h10 => ?_
    refine ok_cond rfl (fun c11 => ?_) (fun c11 => ?_)
    · have hk : k < x.series.length := by simpa using c11
      obtain ⟨u, hu⟩ := sget hk
      rw [lookF_step hu] at j1
      have hul := (hx.1.2 u (smem hu)).1.1
      have hvs := val_size (labs_of hbk hu)
      refine ok_skip (h10 _ ?_)
      refine ok_seq_join (fun (o' : List Int) => ⟨[(1, .sv (eMatcherS ms)), (5, .own 5), (17, .sv (eSeriesS x.series)), (18, .sv (int x.series.length)), (19, .sv (int k))], [(5, .row 1 3 (o'.map int))]⟩) (fun o' => o' ++ lookF ms (x.series.drop (k + 1)) (k + 1) = lookF ms x.series 0 ∧ o'.length ≤ k + 1) ?_ (fun o' J => ?_)
      · refine ok_block ?_
        refine ok_seq fun K12 h12 => ok_region rfl (q_mv _ rfl (q_ia el31 rfl rfl (by omega) (mget (f := eSeries) hu) (q_lds _ ag83 rfl sz83 (q_alloc _ ze83 rfl rfl rfl rfl (q_as _ rfl (q_sts _ rfl rfl rfl sz83 (Nat.le_of_ble_eq_true rfl) rfl (run_nil (h12 _ ?_)))))))); clear h12 K12
        refine ok_seq fun K13 h13 => ok_region rfl (q_mv _ rfl (q_fap fd83_0 rfl (by decide) (q_ldb _ ag80 rfl rfl rfl (q_call (f57_ok ms u.labels hn.1 hn.2 (gms_all hg.2) hul (fun n => Nat.le_trans (hvs n) (by omega))) cl57 rfl rfl (run_nil (h13 _ ?_)))))); clear h13 K13
        refine ok_cond rfl (fun c14 => ?_) (fun c14 => ?_)
        · rw [if_pos c14] at j1
          refine ok_last fun K15 h15 => ok_region rfl (
            q_mo _ rfl (q_mv _ rfl (q_lit1 _ (int (k : Int)) el29 ze3 (by decide) (by decide) rfl (.inr rfl) rfl (q_app _ el29 ze3 rfl by3 rfl rfl rfl rfl rfl (by simp) (by intro s hs; simp at hs; subst hs; exact .inr rfl) (by rw [List.length_map]; show o.length + 1 ≤ maxLen; unfold maxLen; omega) (by rw [List.length_map]; show (o.length + 1) * 8 ≤ _; omega) (
            q_ao _ rfl (run_nil (h15 _ (⟨o ++ [(k : Int)], ⟨by rw [List.append_assoc]; exact j1, by rw [List.length_append]; simp; omega⟩, by rw [List.map_append]; exact le_rek 5 31 ⟨rfl, rfl, rfl, rfl, rfl, trivial⟩ ⟨rfl, trivial⟩ rfl rfl rfl rfl ⟨rfl, trivial⟩⟩))))))))
        · rw [if_neg (by rw [c14]; simp)] at j1
          exact ok_skip (⟨o, ⟨j1, by omega⟩, le_sub ⟨rfl, rfl, rfl, rfl, rfl, trivial⟩ ⟨rfl, trivial⟩⟩)
      · obtain ⟨i1, i2⟩ := J
        refine ok_last fun K16 h16 => ok_region rfl (
          q_add rfl rfl (by omega) (q_mv _ rfl (run_nil (h16 _ (⟨(k + 1, o'), by simp only; omega, ⟨i1, i2⟩, le_sub ⟨rfl, rfl, rfl, rfl, rfl, trivial⟩ ⟨rfl, trivial⟩⟩)))))
    · rw [List.drop_of_length_le (by have : ¬ ((k : Int) < x.series.length) := by simpa using c11
                                     omega)] at j1
      have j3 : o = resL x ms := by rw [e, ← j1]; simp [lookF]
      refine ok_exit (h7 _ ?_)
      refine ok_seq fun K17 h17 => ok_region rfl (q_mo _ rfl (q_ao _ rfl (run_nil (h17 _ ?_)))); clear h17 K17
      obtain ⟨g1, g2, g3⟩ := gd_flatL (rs := o.map int) (fun r hr => by obtain ⟨y, _, rfl⟩ := List.mem_map.1 hr; rfl)
      refine ok_treed (k := 5) (n := 1) (T := 3) (rs := o.map int) (ss := o.map int) rfl rfl g1 g2 (fun r hr b hb => (g3 r hr b hb).elim) (fun Z v hZ => ?_)
      refine ok_ret ⟨_, ⟨_, _, rfl, rfl, rfl⟩, ?_, fun b hb => (hZ b (zn_tr hb)).elim id fun h => h.elim⟩
      rw [← j3]
      exact .tr Z 1 _ v
theorem f16_t (x : Block) (hx : SBlock x) (ms : List Matcher) (hn : ms.length ≤ 1048576 ∧ ∀ m ∈ ms, SMatcher m) : PFnT Tryz.prog 16 [eBlock x, eMatcherS ms] (ints (resL x ms)) := by
  refine fnp_ok (n := 34) Tryz.func16 rfl rfl rfl (Nat.le_of_ble_eq_true rfl) rfl fun w0 O => ?_
  refine ok_seq fun K1 h1 => ok_region rfl (q_boxs _ rfl (Nat.zero_lt_succ _) (q_as _ rfl (run_nil (h1 _ ?_)))); clear h1 K1
  refine ok_seq fun K2 h2 => ?_
  refine ok_seq fun K3 h3 => ?_
  refine ok_region rfl (q_lds _ ag34 rfl sz34 (q_call (f61_ok x hx) cl61 rfl rfl (q_un _ _ rfl rfl (q_mv _ rfl (q_or 3 3 rfl rfl rfl rfl rfl (fun hb15 =>
      q_mv _ rfl (q_call (f62_ok ms hn.1 hn.2) cl62 rfl rfl (q_un _ _ rfl rfl (run_nil ⟨rfl, rfl, rfl, rfl⟩)))) (
    run_nil (h3 _ ?_)))))))
  clear h3 K3
  refine ok_cond rfl (fun c4 => ?_) (fun c4 => ?_)
  · have e : resL x ms = [] := by
      unfold resL; rw [if_neg]
      rintro ⟨h1, h2⟩
      rw [h1, h2] at c4; simp at c4
    refine ok_seq fun K5 h5 => ?_
    refine ok_region rfl (q_as _ rfl (run_nil (h5 _ ?_)))
    clear h5 K5
    refine ok_nilT 1 (ok_ret ⟨_, ⟨_, _, rfl, rfl, rfl⟩, ?_, fun b hb => (zn_tr hb).elim⟩)
    rw [e]
    exact .tr _ _ _ _
  · rw [Bool.or_eq_false_iff] at c4
    have hg : pB (BlockOk x) = true ∧ gmsB ms = true := ⟨by simpa using c4.1, by simpa using c4.2⟩
    have e : resL x ms = lookF ms x.series 0 := by unfold resL; rw [if_pos hg]
    have hbk := of_pB hg.1
    have hsl := hx.1.1
    refine ok_skip (h2 _ ?_)
    refine ok_seq fun K6 h6 => ok_region rfl (q_an (n := 1) 3 (by decide) rfl rfl rfl (run_nil (h6 _ ?_))); clear h6 K6
    refine ok_seq fun K7 h7 => ?_
    refine ok_seq fun K8 h8 => ok_region rfl (q_fa _ fd34_3 rfl rfl (by decide) (q_ld _ ag31 rfl rfl (q_len eS31 rfl (q_mv _ rfl (run_nil (h8 _ ?_)))))); clear h8 K8
    rw [List.length_map]
    refine ok_block ?_
    refine ok_loop (fun (s : Nat × List Int) => ⟨[(1, .sv (eMatcherS ms)), (5, .own 5), (17, .sv (eSeriesS x.series)), (18, .sv (int x.series.length)), (19, .sv (int s.1))], [(5, .row 1 3 (s.2.map int))]⟩) (fun s => s.2 ++ lookF ms (x.series.drop s.1) s.1 = lookF ms x.series 0 ∧ s.2.length ≤ s.1) (fun s => x.series.length - s.1) (0, []) ⟨rfl, Nat.le_refl _⟩ (le_sub ⟨rfl, rfl, rfl, rfl, rfl, trivial⟩ ⟨rfl, trivial⟩) (fun s J => ?_)
    obtain ⟨k, o⟩ := s
    obtain ⟨j1, j2⟩ := J
    simp only at j1 j2
    refine ok_seq fun K9 h9 => ok_region rfl (q_bin _ _ _ rfl rfl rfl (run_nil (h9 _ ?_))); clear h9 K9
    refine ok_seq fun K10 h10 => ?_
    refine ok_cond rfl (fun c11 => ?_) (fun c11 => ?_)
    · have hk : k < x.series.length := by simpa using c11
      obtain ⟨u, hu⟩ := sget hk
      rw [lookF_step hu] at j1
      have hul := (hx.1.2 u (smem hu)).1.1
      have hvs := val_size (labs_of hbk hu)
      refine ok_skip (h10 _ ?_)
      refine ok_seq_join (fun (o' : List Int) => ⟨[(1, .sv (eMatcherS ms)), (5, .own 5), (17, .sv (eSeriesS x.series)), (18, .sv (int x.series.length)), (19, .sv (int k))], [(5, .row 1 3 (o'.map int))]⟩) (fun o' => o' ++ lookF ms (x.series.drop (k + 1)) (k + 1) = lookF ms x.series 0 ∧ o'.length ≤ k + 1) ?_ (fun o' J => ?_)
      · refine ok_block ?_
        refine ok_seq fun K12 h12 => ok_region rfl (q_mv _ rfl (q_ia el31 rfl rfl (by omega) (mget (f := eSeries) hu) (q_lds _ ag83 rfl sz83 (q_alloc _ ze83 rfl rfl rfl rfl (q_as _ rfl (q_sts _ rfl rfl rfl sz83 (Nat.le_of_ble_eq_true rfl) rfl (run_nil (h12 _ ?_)))))))); clear h12 K12
        refine ok_seq fun K13 h13 => ok_region rfl (q_mv _ rfl (q_fap fd83_0 rfl (by decide) (q_ldb _ ag80 rfl rfl rfl (q_call (f63_ok ms u.labels hn.1 hn.2 hul hvs) cl63 rfl rfl (run_nil (h13 _ ?_)))))); clear h13 K13
        refine ok_cond rfl (fun c14 => ?_) (fun c14 => ?_)
        · rw [if_pos c14] at j1
          refine ok_last fun K15 h15 => ok_region rfl (
            q_mo _ rfl (q_mv _ rfl (q_lit1 _ (int (k : Int)) el29 ze3 (by decide) (by decide) rfl (.inr rfl) rfl (q_app _ el29 ze3 rfl by3 rfl rfl rfl rfl rfl (by simp) (by intro s hs; simp at hs; subst hs; exact .inr rfl) (by rw [List.length_map]; show o.length + 1 ≤ maxLen; unfold maxLen; omega) (by rw [List.length_map]; show (o.length + 1) * 8 ≤ _; omega) (
            q_ao _ rfl (run_nil (h15 _ (⟨o ++ [(k : Int)], ⟨by rw [List.append_assoc]; exact j1, by rw [List.length_append]; simp; omega⟩, by rw [List.map_append]; exact le_rek 5 31 ⟨rfl, rfl, rfl, rfl, rfl, trivial⟩ ⟨rfl, trivial⟩ rfl rfl rfl rfl ⟨rfl, trivial⟩⟩))))))))
        · rw [if_neg (by rw [c14]; simp)] at j1
          exact ok_skip (⟨o, ⟨j1, by omega⟩, le_sub ⟨rfl, rfl, rfl, rfl, rfl, trivial⟩ ⟨rfl, trivial⟩⟩)
      · obtain ⟨i1, i2⟩ := J
        refine ok_last fun K16 h16 => ok_region rfl (
          q_add rfl rfl (by omega) (q_mv _ rfl (run_nil (h16 _ (⟨(k + 1, o'), by simp only; omega, ⟨i1, i2⟩, le_sub ⟨rfl, rfl, rfl, rfl, rfl, trivial⟩ ⟨rfl, trivial⟩⟩)))))
    · rw [List.drop_of_length_le (by have : ¬ ((k : Int) < x.series.length) := by simpa using c11
                                     omega)] at j1
      have j3 : o = resL x ms := by rw [e, ← j1]; simp [lookF]
      refine ok_exit (h7 _ ?_)
      refine ok_seq fun K17 h17 => ok_region rfl (q_mo _ rfl (q_ao _ rfl (run_nil (h17 _ ?_)))); clear h17 K17
      obtain ⟨g1, g2, g3⟩ := gd_flatL (rs := o.map int) (fun r hr => by obtain ⟨y, _, rfl⟩ := List.mem_map.1 hr; rfl)
      refine ok_treed (k := 5) (n := 1) (T := 3) (rs := o.map int) (ss := o.map int) rfl rfl g1 g2 (fun r hr b hb => (g3 r hr b hb).elim) (fun Z v hZ => ?_)
      refine ok_ret ⟨_, ⟨_, _, rfl, rfl, rfl⟩, ?_, fun b hb => (hZ b (zn_tr hb)).elim id fun h => h.elim⟩
      rw [← j3]
      exact .tr Z 1 _ v
theorem f13_ok (x : Block) (hx : SBlock x) (ms : List Matcher) (hn : ms.length ≤ 1048576 ∧ ∀ m ∈ ms, SMatcher m) : PFn Tryz.prog 13 [eBlock x, eMatcherS ms] (ints (resL x ms)) := PFnR.toP (f13_t x hx ms hn)
theorem f3_ok (a0 : Block) (pa0 : LBlock a0) (a1 : List Matcher) (pa1 : LB a1.length ∧ ∀ y ∈ a1, LMatcher y) : PFn Tryz.prog 3 [eBlock a0, eMatcherS a1] (bool true) := by
  refine fn_ok' (n := 92) Tryz.func3 rfl rfl rfl (Nat.le_of_ble_eq_true rfl) rfl fun w0 O => ?_
  refine ok_seq fun K1 h1 => ?_
  refine ok_region rfl (q_boxs _ rfl (Nat.zero_lt_succ _) (q_as _ rfl (run_nil (h1 _ ?_))))
  clear h1 K1
  refine ok_seq fun K2 h2 => ?_
  refine ok_region rfl (q_as _ rfl (run_nil (h2 _ ?_)))
  clear h2 K2
  refine ok_seq fun K3 h3 => ?_
  refine ok_region rfl (q_lds _ ag25 rfl sz25 (q_mv _ rfl (q_call (f11_ok a0 pa0 1048576 (by decide) (by decide)) cl11 rfl rfl (q_as _ rfl (run_nil (h3 _ ?_))))))
  clear h3 K3
  refine ok_seq fun K4 h4 => ?_
  refine ok_seq fun K5 h5 => ?_
  refine ok_region rfl (q_mv _ rfl (q_bin _ _ _ rfl rfl rfl (run_nil (h5 _ ?_))))
  clear h5 K5
  refine ok_cond rfl (fun c6 => ?_) (fun c6 => ?_)
  · refine ok_seq fun K7 h7 => ?_
    refine ok_region rfl (q_as _ rfl (run_nil (h7 _ ?_)))
    clear h7 K7
    exact ok_ret ⟨_, rfl, rfl⟩
  · have p0 : 0 ≤ zBlock a0 1048576 := by have := of_decide_eq_false c6; omega
    have u0 : zBlock a0 1048576 ≤ 1048576 := (zBlock_ok a0 _ (by decide)).1
    have hs0 := (zBlock_ok a0 _ (by decide)).2.2 p0
    have kb0 := kcm_Block a0 _ p0
    refine ok_skip (h4 _ ?_)
    refine ok_seq fun K8 h8 => ?_
    refine ok_region rfl (q_mv _ rfl (q_mv _ rfl (q_call (f12_ok a1 pa1 (zBlock a0 1048576) p0 u0) cl12 rfl rfl (q_as _ rfl (run_nil (h8 _ ?_))))))
    clear h8 K8
    refine ok_seq fun K9 h9 => ?_
    refine ok_seq fun K10 h10 => ?_
    refine ok_region rfl (q_mv _ rfl (q_bin _ _ _ rfl rfl rfl (run_nil (h10 _ ?_))))
    clear h10 K10
    refine ok_cond rfl (fun c11 => ?_) (fun c11 => ?_)
    · refine ok_seq fun K12 h12 => ?_
      refine ok_region rfl (q_as _ rfl (run_nil (h12 _ ?_)))
      clear h12 K12
      exact ok_ret ⟨_, rfl, rfl⟩
    · have p1 : 0 ≤ zMatcherS a1 ((zBlock a0 1048576)) := by have := of_decide_eq_false c11; omega
      have u1 : zMatcherS a1 ((zBlock a0 1048576)) ≤ 1048576 := (zMatcherS_ok a1 _ u0).1
      have hs1 := (zMatcherS_ok a1 _ u0).2.2 p1
      have kb1 := kc_MatcherS a1 _ p1
      have hCg := resL_C a0 hs0 a1
      refine ok_skip (h9 _ ?_)
      refine ok_seq fun K13 h13 => ?_
      refine ok_region rfl (q_lds _ ag25 rfl sz25 (q_call (f14_ok a0 hs0) cl14 rfl rfl (q_mv _ rfl (q_call (f15_ok a1 hs1) cl15 rfl rfl (q_call (f13_ok a0 hs0 a1 hs1) cl13 rfl rfl (q_as _ rfl (run_nil (h13 _ ?_))))))))
      clear h13 K13
      refine ok_seq fun K14 h14 => ?_
      refine ok_region rfl (q_lds _ ag25 rfl sz25 (q_callg [6, 2, 1, 0] (f14_t a0 hs0) cl14 ⟨.inl rfl, trivial⟩ (fun r_x0 hr_x0 hz_x0 ha_x0 => ?_)))
      obtain ⟨Z3x0, v3x0, Z4x0, v4x0, rfl, d3_4x0⟩ := gi_Block (x := a0) hr_x0
      refine q_alloc _ ze34 rfl rfl rfl rfl (q_sts _ rfl rfl rfl sz34 (Nat.le_of_ble_eq_true rfl) rfl (run_nil (h14 _ ?_)))
      refine ok_le (σ' := ⟨[(7, .ptr 7 0), (30, .sv (.agg [int a0.from_, int a0.to, int a0.level, .tr Z3x0 (eSeriesS a0.series) v3x0, .tr Z4x0 (eStoneS a0.stones) v4x0])), (6, .av (fun b => Zn b (.agg [int a0.from_, int a0.to, int a0.level, .tr Z3x0 (eSeriesS a0.series) v3x0, .tr Z4x0 (eStoneS a0.stones) v4x0])) (ints (resL a0 a1))), (4, .sv (bool false)), (2, .av (fun b => Zn b (.agg [int a0.from_, int a0.to, int a0.level, .tr Z3x0 (eSeriesS a0.series) v3x0, .tr Z4x0 (eStoneS a0.stones) v4x0])) (.ptr (eBlock a0))), (1, .av (fun b => Zn b (.agg [int a0.from_, int a0.to, int a0.level, .tr Z3x0 (eSeriesS a0.series) v3x0, .tr Z4x0 (eStoneS a0.stones) v4x0])) (eMatcherS a1)), (0, .av (fun b => Zn b (.agg [int a0.from_, int a0.to, int a0.level, .tr Z3x0 (eSeriesS a0.series) v3x0, .tr Z4x0 (eStoneS a0.stones) v4x0])) (eBlock a0))], [(7, .box [.sv (int a0.from_), .sv (int a0.to), .sv (int a0.level), .sv (.tr Z3x0 (eSeriesS a0.series) v3x0), .sv (.tr Z4x0 (eStoneS a0.stones) v4x0)])]⟩) (le_sub ⟨rfl, rfl, rfl, rfl, rfl, rfl, rfl, trivial⟩ ⟨rfl, trivial⟩) ?_
      clear h14 K14
      refine ok_seq fun K15 h15 => ?_
      refine ok_region rfl (q_mva rfl (q_callg [6, 2, 1, 0] (f15_t a1 hs1) cl15 ⟨.inr (.inr ⟨_, rfl⟩), trivial⟩ (fun r_x1 hr_x1 hz_x1 ha_x1 => ?_)))
      obtain ⟨Zx1, vx1, rfl⟩ := gd_sl_inv hr_x1
      have ap_x0_x1 : ∀ b, Zn b (.agg [int a0.from_, int a0.to, int a0.level, .tr Z3x0 (eSeriesS a0.series) v3x0, .tr Z4x0 (eStoneS a0.stones) v4x0]) → ¬ Zn b (.tr Zx1 (eMatcherS a1) vx1) := fun b h1 h2 => ha_x1.1 30 _ b rfl h1 h2
      refine q_as _ rfl (run_nil (h15 _ ?_))
      refine ok_le (σ' := ⟨[(8, .sv (.tr Zx1 (eMatcherS a1) vx1)), (32, .sv (.tr Zx1 (eMatcherS a1) vx1)), (7, .ptr 7 0), (30, .sv (.agg [int a0.from_, int a0.to, int a0.level, .tr Z3x0 (eSeriesS a0.series) v3x0, .tr Z4x0 (eStoneS a0.stones) v4x0])), (6, .av (fun b => (Zn b (.agg [int a0.from_, int a0.to, int a0.level, .tr Z3x0 (eSeriesS a0.series) v3x0, .tr Z4x0 (eStoneS a0.stones) v4x0])) ∨ Zn b (.tr Zx1 (eMatcherS a1) vx1)) (ints (resL a0 a1))), (4, .sv (bool false)), (2, .av (fun b => (Zn b (.agg [int a0.from_, int a0.to, int a0.level, .tr Z3x0 (eSeriesS a0.series) v3x0, .tr Z4x0 (eStoneS a0.stones) v4x0])) ∨ Zn b (.tr Zx1 (eMatcherS a1) vx1)) (.ptr (eBlock a0))), (1, .av (fun b => (Zn b (.agg [int a0.from_, int a0.to, int a0.level, .tr Z3x0 (eSeriesS a0.series) v3x0, .tr Z4x0 (eStoneS a0.stones) v4x0])) ∨ Zn b (.tr Zx1 (eMatcherS a1) vx1)) (eMatcherS a1)), (0, .av (fun b => (Zn b (.agg [int a0.from_, int a0.to, int a0.level, .tr Z3x0 (eSeriesS a0.series) v3x0, .tr Z4x0 (eStoneS a0.stones) v4x0])) ∨ Zn b (.tr Zx1 (eMatcherS a1) vx1)) (eBlock a0))], [(7, .box [.sv (int a0.from_), .sv (int a0.to), .sv (int a0.level), .sv (.tr Z3x0 (eSeriesS a0.series) v3x0), .sv (.tr Z4x0 (eStoneS a0.stones) v4x0)])]⟩) (le_sub ⟨rfl, rfl, rfl, rfl, rfl, rfl, rfl, rfl, rfl, trivial⟩ ⟨rfl, trivial⟩) ?_
      clear h15 K15
      refine ok_seq fun K16 h16 => ?_
      refine ok_region rfl (q_ldbs ag34 rfl rfl sz34 rfl rfl (q_mv _ rfl (q_callg [6, 2, 1, 0] (f16_t a0 hs0 a1 hs1) cl16 ⟨.inr (.inl ⟨_, rfl, (gc_Block a0 d3_4x0)⟩), .inr (.inl ⟨_, rfl, (.tr _ _ _ _)⟩), trivial⟩ (fun r_g hr_g hz_g ha_g => ?_))))
      obtain ⟨Zg, vg, rfl⟩ := gd_sl_inv hr_g
      have ap_x0_g : ∀ b, Zn b (.agg [int a0.from_, int a0.to, int a0.level, .tr Z3x0 (eSeriesS a0.series) v3x0, .tr Z4x0 (eStoneS a0.stones) v4x0]) → ¬ Zn b (.tr Zg (ints (resL a0 a1)) vg) := fun b h1 h2 => ha_g.1 33 _ b rfl h1 h2
      have ap_x1_g : ∀ b, Zn b (.tr Zx1 (eMatcherS a1) vx1) → ¬ Zn b (.tr Zg (ints (resL a0 a1)) vg) := fun b h1 h2 => ha_g.1 34 _ b rfl h1 h2
      refine q_as _ rfl (run_nil (h16 _ ?_))
      refine ok_le (σ' := ⟨[(9, .sv (.tr Zg (ints (resL a0 a1)) vg)), (35, .sv (.tr Zg (ints (resL a0 a1)) vg)), (8, .sv (.tr Zx1 (eMatcherS a1) vx1)), (32, .sv (.tr Zx1 (eMatcherS a1) vx1)), (7, .ptr 7 0), (30, .sv (.agg [int a0.from_, int a0.to, int a0.level, .tr Z3x0 (eSeriesS a0.series) v3x0, .tr Z4x0 (eStoneS a0.stones) v4x0])), (6, .av (fun b => ((Zn b (.agg [int a0.from_, int a0.to, int a0.level, .tr Z3x0 (eSeriesS a0.series) v3x0, .tr Z4x0 (eStoneS a0.stones) v4x0])) ∨ Zn b (.tr Zx1 (eMatcherS a1) vx1)) ∨ Zn b (.tr Zg (ints (resL a0 a1)) vg)) (ints (resL a0 a1))), (4, .sv (bool false)), (2, .av (fun b => ((Zn b (.agg [int a0.from_, int a0.to, int a0.level, .tr Z3x0 (eSeriesS a0.series) v3x0, .tr Z4x0 (eStoneS a0.stones) v4x0])) ∨ Zn b (.tr Zx1 (eMatcherS a1) vx1)) ∨ Zn b (.tr Zg (ints (resL a0 a1)) vg)) (.ptr (eBlock a0))), (1, .av (fun b => ((Zn b (.agg [int a0.from_, int a0.to, int a0.level, .tr Z3x0 (eSeriesS a0.series) v3x0, .tr Z4x0 (eStoneS a0.stones) v4x0])) ∨ Zn b (.tr Zx1 (eMatcherS a1) vx1)) ∨ Zn b (.tr Zg (ints (resL a0 a1)) vg)) (eMatcherS a1)), (0, .av (fun b => ((Zn b (.agg [int a0.from_, int a0.to, int a0.level, .tr Z3x0 (eSeriesS a0.series) v3x0, .tr Z4x0 (eStoneS a0.stones) v4x0])) ∨ Zn b (.tr Zx1 (eMatcherS a1) vx1)) ∨ Zn b (.tr Zg (ints (resL a0 a1)) vg)) (eBlock a0))], [(7, .box [.sv (int a0.from_), .sv (int a0.to), .sv (int a0.level), .sv (.tr Z3x0 (eSeriesS a0.series) v3x0), .sv (.tr Z4x0 (eStoneS a0.stones) v4x0)])]⟩) (le_sub ⟨rfl, rfl, rfl, rfl, rfl, rfl, rfl, rfl, rfl, rfl, rfl, trivial⟩ ⟨rfl, trivial⟩) ?_
      clear h16 K16
      refine ok_seq fun K17 h17 => ?_
      refine ok_seq fun K18 h18 => ?_
      refine ok_region rfl (q_mv _ rfl (q_mva rfl (q_callp (f17_ok (resL a0 a1) (resL_S a0 hs0 a1)) cl17 ⟨.inr (.inl ⟨_, rfl, (.tr _ _ _ _)⟩), .inr (.inr ⟨_, rfl⟩), trivial⟩ (q_un _ _ rfl rfl (run_nil (h18 _ ?_))))))
      clear h18 K18
      refine ok_cond rfl (fun c19 => ?_) (fun c19 => ?_)
      · first | (exfalso; simp at c19; done) | (exfalso; have hcc := of_decide_eq_true c19; omega) | (exfalso; simp at c19; omega)
      · refine ok_skip (h17 _ ?_)
        refine ok_seq fun K20 h20 => ?_
        refine ok_seq fun K21 h21 => ?_
        refine ok_region_i (by kernel_rfl) (by kernel_rfl) rfl (q_ldbs ag34 rfl rfl sz34 rfl rfl (q_ldsa _ ag25 rfl sz25 (q_call (f14_ok a0 hs0) cl14 rfl rfl (q_callp (f18_ok a0 hs0) cl18 ⟨.inr (.inl ⟨_, rfl, (gc_Block a0 d3_4x0)⟩), .inl rfl, trivial⟩ (q_un _ _ rfl rfl (run_nil (h21 _ ?_)))))))
        clear h21 K21
        refine ok_cond rfl (fun c22 => ?_) (fun c22 => ?_)
        · first | (exfalso; simp at c22; done) | (exfalso; have hcc := of_decide_eq_true c22; omega) | (exfalso; simp at c22; omega)
        · refine ok_skip (h20 _ ?_)
          refine ok_seq fun K23 h23 => ?_
          refine ok_seq fun K24 h24 => ?_
          refine ok_region rfl (q_mv _ rfl (q_mva rfl (q_callq (fun b hb => by cases hb) (f15_ok a1 hs1) cl15 ⟨.inr (.inr ⟨_, rfl⟩), trivial⟩ (q_callp (f19_ok a1 hs1) cl19 ⟨.inr (.inl ⟨_, rfl, (.tr _ _ _ _)⟩), .inl rfl, trivial⟩ (q_un _ _ rfl rfl (run_nil (h24 _ ?_)))))))
          clear h24 K24
          refine ok_cond rfl (fun c25 => ?_) (fun c25 => ?_)
          · first | (exfalso; simp at c25; done) | (exfalso; have hcc := of_decide_eq_true c25; omega) | (exfalso; simp at c25; omega)
          · refine ok_skip (h23 _ ?_)
            refine ok_seq fun K26 h26 => ?_
            refine ok_region rfl (q_as _ rfl (run_nil (h26 _ ?_)))
            clear h26 K26
            refine ok_seq fun K27 h27 => ?_
            refine ok_region rfl (q_ldbs ag34 rfl rfl sz34 rfl rfl (q_mv _ rfl (q_markg (k := ((1 : Nat) : Int)) (gc_Block a0 d3_4x0) (f20_m a0 (nBlock_of hs0) (1) (by omega) (by omega)) cl20 rfl rfl (fun b hb => .inl (hz_x0 b hb)) [(10, .sv (int 1)), (9, .sv (.tr Zg (ints (resL a0 a1)) vg)), (35, .sv (.tr Zg (ints (resL a0 a1)) vg)), (8, .sv (.tr Zx1 (eMatcherS a1) vx1)), (32, .sv (.tr Zx1 (eMatcherS a1) vx1)), (6, .av (fun b => ((Zn b (.agg [int a0.from_, int a0.to, int a0.level, .tr Z3x0 (eSeriesS a0.series) v3x0, .tr Z4x0 (eStoneS a0.stones) v4x0])) ∨ Zn b (.tr Zx1 (eMatcherS a1) vx1)) ∨ Zn b (.tr Zg (ints (resL a0 a1)) vg)) (ints (resL a0 a1))), (4, .sv (bool false)), (2, .av (fun b => ((Zn b (.agg [int a0.from_, int a0.to, int a0.level, .tr Z3x0 (eSeriesS a0.series) v3x0, .tr Z4x0 (eStoneS a0.stones) v4x0])) ∨ Zn b (.tr Zx1 (eMatcherS a1) vx1)) ∨ Zn b (.tr Zg (ints (resL a0 a1)) vg)) (.ptr (eBlock a0))), (1, .av (fun b => ((Zn b (.agg [int a0.from_, int a0.to, int a0.level, .tr Z3x0 (eSeriesS a0.series) v3x0, .tr Z4x0 (eStoneS a0.stones) v4x0])) ∨ Zn b (.tr Zx1 (eMatcherS a1) vx1)) ∨ Zn b (.tr Zg (ints (resL a0 a1)) vg)) (eMatcherS a1)), (0, .av (fun b => ((Zn b (.agg [int a0.from_, int a0.to, int a0.level, .tr Z3x0 (eSeriesS a0.series) v3x0, .tr Z4x0 (eStoneS a0.stones) v4x0])) ∨ Zn b (.tr Zx1 (eMatcherS a1) vx1)) ∨ Zn b (.tr Zg (ints (resL a0 a1)) vg)) (eBlock a0))] [] ⟨⟨_, rfl, .raw⟩, ⟨_, rfl, .good (.tr _ _ _ _) (fun b hb hb' => ap_x0_g b hb' hb)⟩, ⟨_, rfl, .good (.tr _ _ _ _) (fun b hb hb' => ap_x0_g b hb' hb)⟩, ⟨_, rfl, .good (.tr _ _ _ _) (fun b hb hb' => ap_x0_x1 b hb' hb)⟩, ⟨_, rfl, .good (.tr _ _ _ _) (fun b hb hb' => ap_x0_x1 b hb' hb)⟩, ⟨_, rfl, .av (fun b hb => (.inl (.inl hb)))⟩, ⟨_, rfl, .raw⟩, ⟨_, rfl, .av (fun b hb => (.inl (.inl hb)))⟩, ⟨_, rfl, .av (fun b hb => (.inl (.inl hb)))⟩, ⟨_, rfl, .av (fun b hb => (.inl (.inl hb)))⟩, trivial⟩ trivial (fun k' s' hR => ?_))))
            obtain ⟨rfl, -⟩ := hR
            refine q_as _ rfl (run_nil (h27 _ ?_))
            refine ok_le (σ' := ⟨[(10, .sv (int ((1 + cmBlock a0 : Nat) : Int))), (9, .sv (.tr Zg (ints (resL a0 a1)) vg)), (35, .sv (.tr Zg (ints (resL a0 a1)) vg)), (8, .sv (.tr Zx1 (eMatcherS a1) vx1)), (32, .sv (.tr Zx1 (eMatcherS a1) vx1)), (6, .av (fun b => ((Zn b (.agg [int a0.from_, int a0.to, int a0.level, .tr Z3x0 (eSeriesS a0.series) v3x0, .tr Z4x0 (eStoneS a0.stones) v4x0])) ∨ Zn b (.tr Zx1 (eMatcherS a1) vx1)) ∨ Zn b (.tr Zg (ints (resL a0 a1)) vg)) (ints (resL a0 a1))), (4, .sv (bool false)), (2, .av (fun b => ((Zn b (.agg [int a0.from_, int a0.to, int a0.level, .tr Z3x0 (eSeriesS a0.series) v3x0, .tr Z4x0 (eStoneS a0.stones) v4x0])) ∨ Zn b (.tr Zx1 (eMatcherS a1) vx1)) ∨ Zn b (.tr Zg (ints (resL a0 a1)) vg)) (.ptr (eBlock a0))), (1, .av (fun b => ((Zn b (.agg [int a0.from_, int a0.to, int a0.level, .tr Z3x0 (eSeriesS a0.series) v3x0, .tr Z4x0 (eStoneS a0.stones) v4x0])) ∨ Zn b (.tr Zx1 (eMatcherS a1) vx1)) ∨ Zn b (.tr Zg (ints (resL a0 a1)) vg)) (eMatcherS a1)), (0, .av (fun b => ((Zn b (.agg [int a0.from_, int a0.to, int a0.level, .tr Z3x0 (eSeriesS a0.series) v3x0, .tr Z4x0 (eStoneS a0.stones) v4x0])) ∨ Zn b (.tr Zx1 (eMatcherS a1) vx1)) ∨ Zn b (.tr Zg (ints (resL a0 a1)) vg)) (eBlock a0))], []⟩) (le_sub ⟨rfl, rfl, rfl, rfl, rfl, rfl, rfl, rfl, rfl, rfl, trivial⟩ trivial) ?_
            clear h27 K27
            refine ok_seq fun K28 h28 => ?_
            refine ok_region rfl (q_mv _ rfl (q_mv _ rfl (q_markg (k := ((1 + cmBlock a0 : Nat) : Int)) (.tr _ _ _ _) (f21_m a1 ((hs1).1) (1 + cmBlock a0) (by omega) (by omega)) cl21 rfl rfl (fun b hb => .inl (hz_x1 b hb)) [(10, .sv (int ((1 + cmBlock a0 : Nat) : Int))), (9, .sv (.tr Zg (ints (resL a0 a1)) vg)), (35, .sv (.tr Zg (ints (resL a0 a1)) vg)), (6, .av (fun b => ((Zn b (.agg [int a0.from_, int a0.to, int a0.level, .tr Z3x0 (eSeriesS a0.series) v3x0, .tr Z4x0 (eStoneS a0.stones) v4x0])) ∨ Zn b (.tr Zx1 (eMatcherS a1) vx1)) ∨ Zn b (.tr Zg (ints (resL a0 a1)) vg)) (ints (resL a0 a1))), (4, .sv (bool false)), (2, .av (fun b => ((Zn b (.agg [int a0.from_, int a0.to, int a0.level, .tr Z3x0 (eSeriesS a0.series) v3x0, .tr Z4x0 (eStoneS a0.stones) v4x0])) ∨ Zn b (.tr Zx1 (eMatcherS a1) vx1)) ∨ Zn b (.tr Zg (ints (resL a0 a1)) vg)) (.ptr (eBlock a0))), (1, .av (fun b => ((Zn b (.agg [int a0.from_, int a0.to, int a0.level, .tr Z3x0 (eSeriesS a0.series) v3x0, .tr Z4x0 (eStoneS a0.stones) v4x0])) ∨ Zn b (.tr Zx1 (eMatcherS a1) vx1)) ∨ Zn b (.tr Zg (ints (resL a0 a1)) vg)) (eMatcherS a1)), (0, .av (fun b => ((Zn b (.agg [int a0.from_, int a0.to, int a0.level, .tr Z3x0 (eSeriesS a0.series) v3x0, .tr Z4x0 (eStoneS a0.stones) v4x0])) ∨ Zn b (.tr Zx1 (eMatcherS a1) vx1)) ∨ Zn b (.tr Zg (ints (resL a0 a1)) vg)) (eBlock a0))] [] ⟨⟨_, rfl, .raw⟩, ⟨_, rfl, .good (.tr _ _ _ _) (fun b hb hb' => ap_x1_g b hb' hb)⟩, ⟨_, rfl, .good (.tr _ _ _ _) (fun b hb hb' => ap_x1_g b hb' hb)⟩, ⟨_, rfl, .av (fun b hb => (.inl (.inr hb)))⟩, ⟨_, rfl, .raw⟩, ⟨_, rfl, .av (fun b hb => (.inl (.inr hb)))⟩, ⟨_, rfl, .av (fun b hb => (.inl (.inr hb)))⟩, ⟨_, rfl, .av (fun b hb => (.inl (.inr hb)))⟩, trivial⟩ trivial (fun k' s' hR => ?_))))
            obtain ⟨rfl, -⟩ := hR
            refine q_as _ rfl (run_nil (h28 _ ?_))
            refine ok_le (σ' := ⟨[(10, .sv (int ((1 + cmBlock a0 + cL cMatcher a1 : Nat) : Int))), (9, .sv (.tr Zg (ints (resL a0 a1)) vg)), (35, .sv (.tr Zg (ints (resL a0 a1)) vg)), (6, .av (fun b => ((Zn b (.agg [int a0.from_, int a0.to, int a0.level, .tr Z3x0 (eSeriesS a0.series) v3x0, .tr Z4x0 (eStoneS a0.stones) v4x0])) ∨ Zn b (.tr Zx1 (eMatcherS a1) vx1)) ∨ Zn b (.tr Zg (ints (resL a0 a1)) vg)) (ints (resL a0 a1))), (4, .sv (bool false)), (2, .av (fun b => ((Zn b (.agg [int a0.from_, int a0.to, int a0.level, .tr Z3x0 (eSeriesS a0.series) v3x0, .tr Z4x0 (eStoneS a0.stones) v4x0])) ∨ Zn b (.tr Zx1 (eMatcherS a1) vx1)) ∨ Zn b (.tr Zg (ints (resL a0 a1)) vg)) (.ptr (eBlock a0))), (1, .av (fun b => ((Zn b (.agg [int a0.from_, int a0.to, int a0.level, .tr Z3x0 (eSeriesS a0.series) v3x0, .tr Z4x0 (eStoneS a0.stones) v4x0])) ∨ Zn b (.tr Zx1 (eMatcherS a1) vx1)) ∨ Zn b (.tr Zg (ints (resL a0 a1)) vg)) (eMatcherS a1)), (0, .av (fun b => ((Zn b (.agg [int a0.from_, int a0.to, int a0.level, .tr Z3x0 (eSeriesS a0.series) v3x0, .tr Z4x0 (eStoneS a0.stones) v4x0])) ∨ Zn b (.tr Zx1 (eMatcherS a1) vx1)) ∨ Zn b (.tr Zg (ints (resL a0 a1)) vg)) (eBlock a0))], []⟩) (le_sub ⟨rfl, rfl, rfl, rfl, rfl, rfl, rfl, rfl, trivial⟩ trivial) ?_
            clear h28 K28
            refine ok_seq fun K29 h29 => ?_
            refine ok_seq fun K30 h30 => ?_
            refine ok_region rfl (q_mv _ rfl (q_bin _ _ _ rfl rfl rfl (q_mv _ rfl (q_or 4 4 rfl rfl rfl rfl rfl (fun hb63 =>q_mv _ rfl (q_mva rfl (q_callp (f17_ok (resL a0 a1) (resL_S a0 hs0 a1)) cl17 ⟨.inr (.inl ⟨_, rfl, (.tr _ _ _ _)⟩), .inr (.inr ⟨_, rfl⟩), trivial⟩ (q_un _ _ rfl rfl (run_nil ⟨rfl, rfl, rfl, rfl⟩))))) (run_nil (h30 _ ?_))))))
            clear h30 K30
            refine ok_cond rfl (fun c31 => ?_) (fun c31 => ?_)
            · first | (exfalso; simp at c31; done) | (exfalso; have hcc := of_decide_eq_true c31; omega) | (exfalso; simp at c31; omega)
            · refine ok_skip (h29 _ ?_)
              refine ok_seq fun K32 h32 => ?_
              refine ok_region rfl (q_as _ rfl (run_nil (h32 _ ?_)))
              refine ok_le (σ' := ⟨[(11, .sv (int 1)), (10, .sv (int ((1 + cmBlock a0 + cL cMatcher a1 : Nat) : Int))), (9, .sv (.tr Zg (ints (resL a0 a1)) vg)), (35, .sv (.tr Zg (ints (resL a0 a1)) vg)), (6, .av (fun b => ((Zn b (.agg [int a0.from_, int a0.to, int a0.level, .tr Z3x0 (eSeriesS a0.series) v3x0, .tr Z4x0 (eStoneS a0.stones) v4x0])) ∨ Zn b (.tr Zx1 (eMatcherS a1) vx1)) ∨ Zn b (.tr Zg (ints (resL a0 a1)) vg)) (ints (resL a0 a1))), (4, .sv (bool false)), (2, .av (fun b => ((Zn b (.agg [int a0.from_, int a0.to, int a0.level, .tr Z3x0 (eSeriesS a0.series) v3x0, .tr Z4x0 (eStoneS a0.stones) v4x0])) ∨ Zn b (.tr Zx1 (eMatcherS a1) vx1)) ∨ Zn b (.tr Zg (ints (resL a0 a1)) vg)) (.ptr (eBlock a0))), (1, .av (fun b => ((Zn b (.agg [int a0.from_, int a0.to, int a0.level, .tr Z3x0 (eSeriesS a0.series) v3x0, .tr Z4x0 (eStoneS a0.stones) v4x0])) ∨ Zn b (.tr Zx1 (eMatcherS a1) vx1)) ∨ Zn b (.tr Zg (ints (resL a0 a1)) vg)) (eMatcherS a1)), (0, .av (fun b => ((Zn b (.agg [int a0.from_, int a0.to, int a0.level, .tr Z3x0 (eSeriesS a0.series) v3x0, .tr Z4x0 (eStoneS a0.stones) v4x0])) ∨ Zn b (.tr Zx1 (eMatcherS a1) vx1)) ∨ Zn b (.tr Zg (ints (resL a0 a1)) vg)) (eBlock a0))], []⟩) (le_sub ⟨rfl, rfl, rfl, rfl, rfl, rfl, rfl, rfl, rfl, trivial⟩ trivial) ?_
              clear h32 K32
              refine ok_seq fun K33 h33 => ?_
              refine ok_region rfl (q_mv _ rfl (q_mv _ rfl (q_mark (k := ((1 : Nat) : Int)) (f22_m (resL a0 a1) ((resL_S a0 hs0 a1)) 1 (by decide) hCg) cl22 rfl rfl (fun b hb => .inl (hz_g b (.tr _ _ _ hb))) (fun s' => [(65, .sv (int 1)), (64, .dead), (11, .sv (int 1)), (10, .sv (int ((1 + cmBlock a0 + cL cMatcher a1 : Nat) : Int))), (9, .sv (.tr Zg s' vg)), (35, .sv (.tr Zg s' vg)), (6, .av (fun b => ((Zn b (.agg [int a0.from_, int a0.to, int a0.level, .tr Z3x0 (eSeriesS a0.series) v3x0, .tr Z4x0 (eStoneS a0.stones) v4x0])) ∨ Zn b (.tr Zx1 (eMatcherS a1) vx1)) ∨ Zn b (.tr Zg (ints (resL a0 a1)) vg)) (ints (resL a0 a1))), (4, .sv (bool false)), (2, .av (fun b => ((Zn b (.agg [int a0.from_, int a0.to, int a0.level, .tr Z3x0 (eSeriesS a0.series) v3x0, .tr Z4x0 (eStoneS a0.stones) v4x0])) ∨ Zn b (.tr Zx1 (eMatcherS a1) vx1)) ∨ Zn b (.tr Zg (ints (resL a0 a1)) vg)) (.ptr (eBlock a0))), (1, .av (fun b => ((Zn b (.agg [int a0.from_, int a0.to, int a0.level, .tr Z3x0 (eSeriesS a0.series) v3x0, .tr Z4x0 (eStoneS a0.stones) v4x0])) ∨ Zn b (.tr Zx1 (eMatcherS a1) vx1)) ∨ Zn b (.tr Zg (ints (resL a0 a1)) vg)) (eMatcherS a1)), (0, .av (fun b => ((Zn b (.agg [int a0.from_, int a0.to, int a0.level, .tr Z3x0 (eSeriesS a0.series) v3x0, .tr Z4x0 (eStoneS a0.stones) v4x0])) ∨ Zn b (.tr Zx1 (eMatcherS a1) vx1)) ∨ Zn b (.tr Zg (ints (resL a0 a1)) vg)) (eBlock a0))]) (fun s' => []) (fun s' => ⟨rfl, .sv (.raw _), rfl, .dead, rfl, .sv (.raw _), rfl, .sv (.raw _), rfl, .sv .same, rfl, .sv .same, rfl, .av (fun b hb => (.inr (.tr _ _ _ hb))), rfl, .sv (.raw _), rfl, .av (fun b hb => (.inr (.tr _ _ _ hb))), rfl, .av (fun b hb => (.inr (.tr _ _ _ hb))), rfl, .av (fun b hb => (.inr (.tr _ _ _ hb))), trivial⟩) (fun s' => trivial) (fun k' s' hR => ?_))))
              obtain ⟨rfl, lg, rfl, hhg, hcg, hmg⟩ := hR
              refine q_as _ rfl (run_nil (h33 _ ?_))
              clear h33 K33
              refine ok_seq fun K34 h34 => ?_
              refine ok_region rfl (q_as _ rfl (run_nil (h34 _ ?_)))
              refine ok_le (σ' := ⟨[(12, .sv (int 1)), (11, .sv (int ((1 + cL cOne (resL a0 a1) : Nat) : Int))), (10, .sv (int ((1 + cmBlock a0 + cL cMatcher a1 : Nat) : Int))), (9, .sv (.tr Zg (ints lg) vg)), (35, .sv (.tr Zg (ints lg) vg)), (6, .av (fun b => ((Zn b (.agg [int a0.from_, int a0.to, int a0.level, .tr Z3x0 (eSeriesS a0.series) v3x0, .tr Z4x0 (eStoneS a0.stones) v4x0])) ∨ Zn b (.tr Zx1 (eMatcherS a1) vx1)) ∨ Zn b (.tr Zg (ints (resL a0 a1)) vg)) (ints (resL a0 a1))), (4, .sv (bool false)), (2, .av (fun b => ((Zn b (.agg [int a0.from_, int a0.to, int a0.level, .tr Z3x0 (eSeriesS a0.series) v3x0, .tr Z4x0 (eStoneS a0.stones) v4x0])) ∨ Zn b (.tr Zx1 (eMatcherS a1) vx1)) ∨ Zn b (.tr Zg (ints (resL a0 a1)) vg)) (.ptr (eBlock a0))), (1, .av (fun b => ((Zn b (.agg [int a0.from_, int a0.to, int a0.level, .tr Z3x0 (eSeriesS a0.series) v3x0, .tr Z4x0 (eStoneS a0.stones) v4x0])) ∨ Zn b (.tr Zx1 (eMatcherS a1) vx1)) ∨ Zn b (.tr Zg (ints (resL a0 a1)) vg)) (eMatcherS a1)), (0, .av (fun b => ((Zn b (.agg [int a0.from_, int a0.to, int a0.level, .tr Z3x0 (eSeriesS a0.series) v3x0, .tr Z4x0 (eStoneS a0.stones) v4x0])) ∨ Zn b (.tr Zx1 (eMatcherS a1) vx1)) ∨ Zn b (.tr Zg (ints (resL a0 a1)) vg)) (eBlock a0))], []⟩) (le_sub ⟨rfl, rfl, rfl, rfl, rfl, rfl, rfl, rfl, rfl, rfl, trivial⟩ trivial) ?_
              clear h34 K34
              refine ok_seq fun K35 h35 => ?_
              refine ok_region rfl (q_mv _ rfl (q_mv _ rfl (q_callp (show PFn Tryz.prog 23 [ints lg, int ((1 : Nat) : Int)] (int ((1 + cL cOne (resL a0 a1) : Nat) : Int)) from by have h9 := f23_h lg hmg 1 (by decide) (by rw [hcg]; exact hCg) hhg; rw [hcg] at h9; exact h9) cl23 ⟨.inr (.inl ⟨_, rfl, .tr _ _ _ _⟩), .inl rfl, trivial⟩ (q_as _ rfl (run_nil (h35 _ ?_))))))
              clear h35 K35
              refine ok_seq fun K36 h36 => ?_
              refine ok_seq fun K37 h37 => ?_
              refine ok_region rfl (q_mv _ rfl (q_bin _ _ _ rfl rfl rfl (run_nil (h37 _ ?_))))
              clear h37 K37
              refine ok_cond rfl (fun c38 => ?_) (fun c38 => ?_)
              · first | (exfalso; simp at c38; done) | (exfalso; have hcc := of_decide_eq_true c38; omega) | (exfalso; simp at c38; omega)
              · refine ok_skip (h36 _ ?_)
                refine ok_seq fun K39 h39 => ?_
                refine ok_seq fun K40 h40 => ?_
                refine ok_region rfl (q_mv _ rfl (q_mv _ rfl (q_bin _ _ _ rfl rfl rfl (run_nil (h40 _ ?_)))))
                clear h40 K40
                refine ok_cond rfl (fun c41 => ?_) (fun c41 => ?_)
                · first | (exfalso; simp at c41; done) | (exfalso; have hcc := of_decide_eq_true c41; omega) | (exfalso; simp at c41; omega)
                · refine ok_skip (h39 _ ?_)
                  refine ok_seq fun K42 h42 => ?_
                  refine ok_region rfl (q_ldsa _ ag25 rfl sz25 (q_call (f14_ok a0 hs0) cl14 rfl rfl (q_mva rfl (q_callq (fun b hb => by cases hb) (f15_ok a1 hs1) cl15 ⟨.inr (.inr ⟨_, rfl⟩), trivial⟩ (q_callg [] (f16_t a0 hs0 a1 hs1) cl16 ⟨.inl rfl, .inl rfl, trivial⟩ (fun r_h hr_h hz_h ha_h => ?_))))))
                  obtain ⟨Zh, vh, rfl⟩ := gd_sl_inv hr_h
                  refine q_as _ rfl (run_nil (h42 _ ?_))
                  refine ok_le (σ' := ⟨[(13, .sv (.tr Zh (ints (resL a0 a1)) vh)), (79, .sv (.tr Zh (ints (resL a0 a1)) vh)), (12, .sv (int ((1 + cL cOne (resL a0 a1) : Nat) : Int))), (11, .sv (int ((1 + cL cOne (resL a0 a1) : Nat) : Int))), (10, .sv (int ((1 + cmBlock a0 + cL cMatcher a1 : Nat) : Int))), (9, .sv (.tr Zg (ints lg) vg)), (35, .sv (.tr Zg (ints lg) vg)), (6, .av (fun b => ((Zn b (.agg [int a0.from_, int a0.to, int a0.level, .tr Z3x0 (eSeriesS a0.series) v3x0, .tr Z4x0 (eStoneS a0.stones) v4x0])) ∨ Zn b (.tr Zx1 (eMatcherS a1) vx1)) ∨ Zn b (.tr Zg (ints (resL a0 a1)) vg)) (ints (resL a0 a1))), (4, .sv (bool false)), (2, .av (fun b => ((Zn b (.agg [int a0.from_, int a0.to, int a0.level, .tr Z3x0 (eSeriesS a0.series) v3x0, .tr Z4x0 (eStoneS a0.stones) v4x0])) ∨ Zn b (.tr Zx1 (eMatcherS a1) vx1)) ∨ Zn b (.tr Zg (ints (resL a0 a1)) vg)) (.ptr (eBlock a0))), (1, .av (fun b => ((Zn b (.agg [int a0.from_, int a0.to, int a0.level, .tr Z3x0 (eSeriesS a0.series) v3x0, .tr Z4x0 (eStoneS a0.stones) v4x0])) ∨ Zn b (.tr Zx1 (eMatcherS a1) vx1)) ∨ Zn b (.tr Zg (ints (resL a0 a1)) vg)) (eMatcherS a1)), (0, .av (fun b => ((Zn b (.agg [int a0.from_, int a0.to, int a0.level, .tr Z3x0 (eSeriesS a0.series) v3x0, .tr Z4x0 (eStoneS a0.stones) v4x0])) ∨ Zn b (.tr Zx1 (eMatcherS a1) vx1)) ∨ Zn b (.tr Zg (ints (resL a0 a1)) vg)) (eBlock a0))], []⟩) (le_sub ⟨rfl, rfl, rfl, rfl, rfl, rfl, rfl, rfl, rfl, rfl, rfl, rfl, trivial⟩ trivial) ?_
                  clear h42 K42
                  refine ok_seq fun K43 h43 => ?_
                  refine ok_seq fun K44 h44 => ?_
                  refine ok_region rfl (q_mv _ rfl (q_mva rfl (q_callp (f17_ok (resL a0 a1) (resL_S a0 hs0 a1)) cl17 ⟨.inr (.inl ⟨_, rfl, (.tr _ _ _ _)⟩), .inr (.inr ⟨_, rfl⟩), trivial⟩ (q_un _ _ rfl rfl (run_nil (h44 _ ?_))))))
                  clear h44 K44
                  refine ok_cond rfl (fun c45 => ?_) (fun c45 => ?_)
                  · first | (exfalso; simp at c45; done) | (exfalso; have hcc := of_decide_eq_true c45; omega) | (exfalso; simp at c45; omega)
                  · refine ok_skip (h43 _ ?_)
                    refine ok_seq fun K46 h46 => ?_
                    refine ok_region rfl (q_as _ rfl (run_nil (h46 _ ?_)))
                    refine ok_le (σ' := ⟨[(12, .sv (int 1)), (13, .sv (.tr Zh (ints (resL a0 a1)) vh)), (79, .sv (.tr Zh (ints (resL a0 a1)) vh)), (11, .sv (int ((1 + cL cOne (resL a0 a1) : Nat) : Int))), (10, .sv (int ((1 + cmBlock a0 + cL cMatcher a1 : Nat) : Int))), (9, .sv (.tr Zg (ints lg) vg)), (35, .sv (.tr Zg (ints lg) vg)), (6, .av (fun b => ((Zn b (.agg [int a0.from_, int a0.to, int a0.level, .tr Z3x0 (eSeriesS a0.series) v3x0, .tr Z4x0 (eStoneS a0.stones) v4x0])) ∨ Zn b (.tr Zx1 (eMatcherS a1) vx1)) ∨ Zn b (.tr Zg (ints (resL a0 a1)) vg)) (ints (resL a0 a1))), (4, .sv (bool false)), (2, .av (fun b => ((Zn b (.agg [int a0.from_, int a0.to, int a0.level, .tr Z3x0 (eSeriesS a0.series) v3x0, .tr Z4x0 (eStoneS a0.stones) v4x0])) ∨ Zn b (.tr Zx1 (eMatcherS a1) vx1)) ∨ Zn b (.tr Zg (ints (resL a0 a1)) vg)) (.ptr (eBlock a0))), (1, .av (fun b => ((Zn b (.agg [int a0.from_, int a0.to, int a0.level, .tr Z3x0 (eSeriesS a0.series) v3x0, .tr Z4x0 (eStoneS a0.stones) v4x0])) ∨ Zn b (.tr Zx1 (eMatcherS a1) vx1)) ∨ Zn b (.tr Zg (ints (resL a0 a1)) vg)) (eMatcherS a1)), (0, .av (fun b => ((Zn b (.agg [int a0.from_, int a0.to, int a0.level, .tr Z3x0 (eSeriesS a0.series) v3x0, .tr Z4x0 (eStoneS a0.stones) v4x0])) ∨ Zn b (.tr Zx1 (eMatcherS a1) vx1)) ∨ Zn b (.tr Zg (ints (resL a0 a1)) vg)) (eBlock a0))], []⟩) (le_sub ⟨rfl, rfl, rfl, rfl, rfl, rfl, rfl, rfl, rfl, rfl, rfl, rfl, trivial⟩ trivial) ?_
                    clear h46 K46
                    refine ok_seq fun K47 h47 => ?_
                    refine ok_region rfl (q_mv _ rfl (q_mv _ rfl (q_callp (show PFn Tryz.prog 23 [ints lg, int ((1 : Nat) : Int)] (int ((1 + cL cOne (resL a0 a1) : Nat) : Int)) from by have h9 := f23_h lg hmg 1 (by decide) (by rw [hcg]; exact hCg) hhg; rw [hcg] at h9; exact h9) cl23 ⟨.inr (.inl ⟨_, rfl, .tr _ _ _ _⟩), .inl rfl, trivial⟩ (q_as _ rfl (run_nil (h47 _ ?_))))))
                    clear h47 K47
                    refine ok_seq fun K48 h48 => ?_
                    refine ok_seq fun K49 h49 => ?_
                    refine ok_region rfl (q_mv _ rfl (q_bin _ _ _ rfl rfl rfl (run_nil (h49 _ ?_))))
                    clear h49 K49
                    refine ok_cond rfl (fun c50 => ?_) (fun c50 => ?_)
                    · first | (exfalso; simp at c50; done) | (exfalso; have hcc := of_decide_eq_true c50; omega) | (exfalso; simp at c50; omega)
                    · refine ok_skip (h48 _ ?_)
                      refine ok_seq fun K51 h51 => ?_
                      refine ok_seq fun K52 h52 => ?_
                      refine ok_region rfl (q_mv _ rfl (q_mv _ rfl (q_bin _ _ _ rfl rfl rfl (run_nil (h52 _ ?_)))))
                      clear h52 K52
                      refine ok_cond rfl (fun c53 => ?_) (fun c53 => ?_)
                      · first | (exfalso; simp at c53; done) | (exfalso; have hcc := of_decide_eq_true c53; omega) | (exfalso; simp at c53; omega)
                      · refine ok_skip (h51 _ ?_)
                        refine ok_seq fun K54 h54 => ?_
                        refine ok_region rfl (q_as _ rfl (run_nil (h54 _ ?_)))
                        refine ok_le (σ' := ⟨[(4, .sv (bool true)), (12, .sv (int ((1 + cL cOne (resL a0 a1) : Nat) : Int))), (13, .sv (.tr Zh (ints (resL a0 a1)) vh)), (79, .sv (.tr Zh (ints (resL a0 a1)) vh)), (11, .sv (int ((1 + cL cOne (resL a0 a1) : Nat) : Int))), (10, .sv (int ((1 + cmBlock a0 + cL cMatcher a1 : Nat) : Int))), (9, .sv (.tr Zg (ints lg) vg)), (35, .sv (.tr Zg (ints lg) vg)), (6, .av (fun b => ((Zn b (.agg [int a0.from_, int a0.to, int a0.level, .tr Z3x0 (eSeriesS a0.series) v3x0, .tr Z4x0 (eStoneS a0.stones) v4x0])) ∨ Zn b (.tr Zx1 (eMatcherS a1) vx1)) ∨ Zn b (.tr Zg (ints (resL a0 a1)) vg)) (ints (resL a0 a1))), (2, .av (fun b => ((Zn b (.agg [int a0.from_, int a0.to, int a0.level, .tr Z3x0 (eSeriesS a0.series) v3x0, .tr Z4x0 (eStoneS a0.stones) v4x0])) ∨ Zn b (.tr Zx1 (eMatcherS a1) vx1)) ∨ Zn b (.tr Zg (ints (resL a0 a1)) vg)) (.ptr (eBlock a0))), (1, .av (fun b => ((Zn b (.agg [int a0.from_, int a0.to, int a0.level, .tr Z3x0 (eSeriesS a0.series) v3x0, .tr Z4x0 (eStoneS a0.stones) v4x0])) ∨ Zn b (.tr Zx1 (eMatcherS a1) vx1)) ∨ Zn b (.tr Zg (ints (resL a0 a1)) vg)) (eMatcherS a1)), (0, .av (fun b => ((Zn b (.agg [int a0.from_, int a0.to, int a0.level, .tr Z3x0 (eSeriesS a0.series) v3x0, .tr Z4x0 (eStoneS a0.stones) v4x0])) ∨ Zn b (.tr Zx1 (eMatcherS a1) vx1)) ∨ Zn b (.tr Zg (ints (resL a0 a1)) vg)) (eBlock a0))], []⟩) (le_sub ⟨rfl, rfl, rfl, rfl, rfl, rfl, rfl, rfl, rfl, rfl, rfl, rfl, trivial⟩ trivial) ?_
                        clear h54 K54
                        exact ok_ret ⟨_, rfl, rfl⟩
end Go.Ring
