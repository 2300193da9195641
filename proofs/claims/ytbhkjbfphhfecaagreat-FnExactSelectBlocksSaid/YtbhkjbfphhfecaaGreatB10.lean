/- What is chosen of the blocks of a shelf: program and reference. No condition beyond the sizes. -/
import Derived.Test.YtbhkjbfphhfecaaGreatB9
import Derived.Test.YtbhkjbfphhfecaaGreatD2
set_option maxRecDepth 100000
set_option linter.unusedVariables false
set_option linter.unusedSimpArgs false
namespace Go.Ring
open Go Go.RowKit Go.Eager Go.Abs Go.Proofs
/-- What is chosen of blocks, laid together. -/
def selA (ms : List Matcher) (f t : Int) (l : List Block) : List Series := l.foldl (fun a b => mrgS a (selL ms f t (standL b))) []
theorem selA_step {ms : List Matcher} {f t : Int} {l : List Block} {k : Nat} {b : Block} (h : l[k]? = some b) : selA ms f t (l.take (k + 1)) = mrgS (selA ms f t (l.take k)) (selL ms f t (standL b)) := by
  unfold selA
  rw [List.take_add_one, h, Option.toList_some, List.foldl_append]
  rfl
theorem selL_lb {ms : List Matcher} {f t : Int} {l : List Series} (h : LbOk l) : LbOk (selL ms f t l) := fun y hy => by
  obtain ⟨s, hs, h2⟩ := List.mem_filterMap.1 hy
  unfold selG at h2
  split at h2
  · cases h2; exact h s hs
  · cases h2
theorem selL_wt (ms : List Matcher) (f t : Int) (l : List Series) : wt (selL ms f t l) ≤ wt l := wt_fm (fun s y h => by
  unfold selG at h
  split at h
  · cases h; exact cutF_len f t s.samples
  · cases h) l
theorem selA_inv {ms : List Matcher} {f t : Int} {l : List Block} (h : ∀ b ∈ l, SBlock b) : Srt (selA ms f t l) ∧ LbOk (selA ms f t l) ∧ wt (selA ms f t l) ≤ wtB l := by
  obtain ⟨h1, h2, h3⟩ := fold_inv (f := fun b => selL ms f t (standL b)) l [] (fun b hb => selL_lb (standL_lb (ss_lb (h b hb).1.2))) (fun b _ => Nat.le_trans (selL_wt ms f t _) (standL_wt b)) srt_nil lb_nil
  exact ⟨h1, h2, by unfold selA; simpa [wt] using h3⟩
/-- What there is before a block's turn. -/
theorem selA_at {ms : List Matcher} {f t : Int} {l : List Block} (h : ∀ b ∈ l, SBlock b) (hw : wtB l ≤ 1048576) {k : Nat} {b : Block} (hb : l[k]? = some b) :
    Srt (selA ms f t (l.take k)) ∧ LbOk (selA ms f t (l.take k)) ∧ LbOk (selL ms f t (standL b)) ∧ wt (selA ms f t (l.take k)) + wt (selL ms f t (standL b)) ≤ 1048576 := by
  obtain ⟨h1, h2, h3⟩ := selA_inv (ms := ms) (f := f) (t := t) (l := l.take k) fun b hb => h b (List.mem_of_mem_take hb)
  refine ⟨h1, h2, selL_lb (standL_lb (ss_lb (h b (smem hb)).1.2)), ?_⟩
  have e1 : wtB (l.take (k + 1)) = wtB (l.take k) + wt b.series := sumF_take _ hb
  have e2 : wtB (l.take (k + 1)) ≤ wtB l := sumF_take_le _ l (k + 1)
  have e3 := selL_wt ms f t (standL b)
  have e4 := standL_wt b
  omega
theorem f86_ok (l : List Block) (hl : l.length ≤ 1048576 ∧ ∀ y ∈ l, SBlock y) (hw : wtB l ≤ 1048576) (hk : ∀ y ∈ l, BlockOk y) (ms : List Matcher) (hn : ms.length ≤ 1048576 ∧ ∀ m ∈ ms, SMatcher m) (hg : gmsB ms = true) (f t : Int) : PFn Tryz.prog 86 [eBlockS l, eMatcherS ms, int f, int t] (eSeriesS (selA ms f t l)) := by
  refine fn_ok' (n := 27) Tryz.func86 rfl rfl rfl (Nat.le_of_ble_eq_true rfl) rfl fun w0 O => ?_
  have hll := hl.1
  refine ok_seq fun K1 h1 => ok_region rfl (q_as _ rfl (run_nil (h1 _ ?_))); clear h1 K1
  refine ok_seq fun K2 h2 => ok_region rfl (q_as _ rfl (run_nil (h2 _ ?_))); clear h2 K2
  refine Ok.le (le_nil 2 9 rfl) ?_
  refine ok_seq fun K3 h3 => ?_
  refine ok_seq fun K4 h4 => ok_region rfl (q_mv _ rfl (q_len eS53 rfl (q_mv _ rfl (run_nil (h4 _ ?_))))); clear h4 K4
  rw [List.length_map]
  refine ok_block ?_
  refine ok_loop (fun (k : Nat) => ⟨[(1, .sv (eMatcherS ms)), (2, .sv (int f)), (3, .sv (int t)), (9, .sv (eSeriesS (selA ms f t (l.take k)))), (12, .sv (eBlockS l)), (13, .sv (int l.length)), (14, .sv (int k))], []⟩) (fun k => True) (fun k => l.length - k) 0 trivial (le_same ⟨rfl, rfl, rfl, rfl, rfl, rfl, rfl, trivial⟩) (fun k J => ?_)
  refine ok_seq fun K5 h5 => ok_region rfl (q_bin _ _ _ rfl rfl rfl (run_nil (h5 _ ?_))); clear h5 K5
  refine ok_seq fun K6 h6 => ?_
  refine ok_cond rfl (fun c7 => ?_) (fun c7 => ?_)
  · refine ok_skip (h6 _ ?_)
    have hkk : k < l.length := by simpa using c7
    obtain ⟨b, hb⟩ := sget hkk
    have nb := hl.2 b (smem hb)
    have kb := hk b (smem hb)
    obtain ⟨a1, a2, a3, a4⟩ := selA_at (ms := ms) (f := f) (t := t) hl.2 hw hb
    have hst := selA_step (ms := ms) (f := f) (t := t) hb
    have hlaw := sel_law kb ms f t
    refine ok_seq fun K8 h8 => ?_
    refine ok_block ?_
    refine ok_seq fun K9 h9 => ok_region rfl (q_ia el53 rfl rfl (by omega) (mget (f := eBlock) hb) (q_lds _ ag34 rfl sz34 (q_alloc _ ze34 rfl rfl rfl rfl (q_sts _ rfl rfl rfl sz34 (Nat.le_of_ble_eq_true rfl) rfl (run_nil (h9 _ ?_)))))); clear h9 K9
    refine ok_last fun K10 h10 => ok_region rfl (
      q_mv (eSeriesS (selA ms f t (l.take k))) rfl (q_ldbs (r := [int b.from_, int b.to, int b.level, eSeriesS b.series, eStoneS b.stones]) ag34 rfl rfl sz34 rfl rfl (q_mv _ rfl (q_mv _ rfl (q_mv _ rfl (q_call (f68_ok b nb (stones_of kb) ms hn.1 hn.2 (gms_all hg) (fun y hy n => by
        obtain ⟨i, hi⟩ := List.getElem?_of_mem hy
        exact Nat.le_trans (val_size (labs_of kb hi) n) (by omega)) f t) cl68 rfl rfl (q_call (PFnR.toP (show PFnT Tryz.prog 147 [eSeriesS (selA ms f t (l.take k)), eSeriesS (selL [] f t (aliL b ms b.series))] (eSeriesS (selA ms f t (l.take (k + 1)))) from by rw [hst, hlaw]; exact f147_t _ _ a2 a3 a1 a4)) cl147 rfl rfl (q_as _ rfl (run_nil (h10 _ (h8 _ ?_)))))))))))
    refine ok_last fun K11 h11 => ok_region rfl (
      q_add rfl rfl (by omega) (q_mv _ rfl (run_nil (h11 _ ⟨k + 1, by omega, trivial, le_sub ⟨rfl, rfl, rfl, rfl, rfl, rfl, rfl, trivial⟩ trivial⟩))))
  · refine ok_exit (h3 _ ?_)
    rw [List.take_of_length_le (by have : ¬ ((k : Int) < l.length) := by simpa using c7
                                   omega)]
    refine ok_seq fun K12 h12 => ok_region rfl (q_mv (eSeriesS (selA ms f t l)) rfl (q_as _ rfl (run_nil (h12 _ ?_)))); clear h12 K12
    exact ok_ret ⟨_, rfl, rfl⟩
noncomputable def resSB (base : Int) (l : List Block) (ms : List Matcher) (f t : Int) : List Series := if pB (ShelfOk base l) = true ∧ gmsB ms = true ∧ pB (SeriesOk (selA ms f t l)) = true then selA ms f t l else []
theorem shelf_blocks {base : Int} {l : List Block} (h : ShelfOk base l) : ∀ y ∈ l, BlockOk y := fun y hy => by
  obtain ⟨i, hi⟩ := List.getElem?_of_mem hy
  exact (h.2.2.2 i y hi).2.1
theorem f33_ok (base : Int) (l : List Block) (hl : l.length ≤ 1048576 ∧ ∀ y ∈ l, SBlock y) (hw : wtB l ≤ 1048576) (ms : List Matcher) (hn : ms.length ≤ 1048576 ∧ ∀ m ∈ ms, SMatcher m) (f t : Int) : PFn Tryz.prog 33 [int base, eBlockS l, eMatcherS ms, int f, int t] (eSeriesS (resSB base l ms f t)) := by
  refine fn_ok' (n := 30) Tryz.func33 rfl rfl rfl (Nat.le_of_ble_eq_true rfl) rfl fun w0 O => ?_
  refine ok_seq fun K1 h1 => ok_region rfl (q_as _ rfl (run_nil (h1 _ ?_))); clear h1 K1
  refine ok_seq fun K2 h2 => ?_
  refine ok_seq fun K3 h3 => ?_
  refine ok_region rfl (q_mv _ rfl (q_mv _ rfl (q_call (f85_ok base l hl) cl85 rfl rfl (q_un _ _ rfl rfl (q_mv _ rfl (q_or 3 3 rfl rfl rfl rfl rfl (fun hb20 =>
      q_mv _ rfl (q_call (f56_ok ms hn.1 hn.2) cl56 rfl rfl (q_un _ _ rfl rfl (run_nil ⟨rfl, rfl, rfl, rfl⟩)))) (
    run_nil (h3 _ ?_))))))))
  clear h3 K3
  refine ok_cond rfl (fun c4 => ?_) (fun c4 => ?_)
  · have e : resSB base l ms f t = [] := by
      unfold resSB
      rw [if_neg]
      rintro ⟨g1, g2, _⟩
      rw [g1, g2] at c4
      exact absurd c4 (by decide)
    refine ok_seq fun K5 h5 => ?_
    refine ok_region rfl (q_as _ rfl (run_nil (h5 _ ?_)))
    clear h5 K5
    refine Ok.le (le_nil 2 10 rfl) (ok_ret ⟨_, rfl, ?_⟩)
    rw [e]; rfl
  · rw [Bool.or_eq_false_iff] at c4
    have g1 : pB (ShelfOk base l) = true := by simpa using c4.1
    have g2 : gmsB ms = true := by simpa using c4.2
    have hk := shelf_blocks (of_pB g1)
    obtain ⟨a1, a2, a3⟩ := selA_inv (ms := ms) (f := f) (t := t) hl.2
    refine ok_skip (h2 _ ?_)
    refine ok_seq fun K6 h6 => ok_region rfl (q_mv _ rfl (q_mv _ rfl (q_mv _ rfl (q_mv _ rfl (q_call (f86_ok l hl hw hk ms hn g2 f t) cl86 rfl rfl (q_as _ rfl (run_nil (h6 _ ?_)))))))); clear h6 K6
    refine ok_seq fun K7 h7 => ?_
    refine ok_seq fun K8 h8 => ok_region rfl (q_mv _ rfl (q_call (f87_ok (selA ms f t l) (lb_ss a2 (by omega))) cl87 rfl rfl (q_un _ _ rfl rfl (run_nil (h8 _ ?_))))); clear h8 K8
    refine ok_cond rfl (fun c9 => ?_) (fun c9 => ?_)
    · have e : resSB base l ms f t = [] := by
        unfold resSB
        rw [if_neg]
        rintro ⟨_, _, g3⟩
        rw [g3] at c9
        exact absurd c9 (by decide)
      refine ok_seq fun K10 h10 => ?_
      refine ok_region rfl (q_as _ rfl (run_nil (h10 _ ?_)))
      clear h10 K10
      refine Ok.le (le_nil 2 10 rfl) (ok_ret ⟨_, rfl, ?_⟩)
      rw [e]; rfl
    · have e : resSB base l ms f t = selA ms f t l := by unfold resSB; rw [if_pos ⟨g1, g2, by simpa using c9⟩]
      refine ok_skip (h7 _ ?_)
      refine ok_seq fun K11 h11 => ok_region rfl (q_mv _ rfl (q_as _ rfl (run_nil (h11 _ ?_)))); clear h11 K11
      exact ok_ret ⟨_, rfl, by rw [e]; rfl⟩
theorem f35_t (base : Int) (l : List Block) (hl : l.length ≤ 1048576 ∧ ∀ y ∈ l, SBlock y) (hw : wtB l ≤ 1048576) (ms : List Matcher) (hn : ms.length ≤ 1048576 ∧ ∀ m ∈ ms, SMatcher m) (f t : Int) : PFnT Tryz.prog 35 [int base, eBlockS l, eMatcherS ms, int f, int t] (eSeriesS (resSB base l ms f t)) := by
  refine fnp_ok (n := 42) Tryz.func35 rfl rfl rfl (Nat.le_of_ble_eq_true rfl) rfl fun w0 O => ?_
  have hll := hl.1
  refine ok_seq fun K1 h1 => ok_region rfl (q_as _ rfl (run_nil (h1 _ ?_))); clear h1 K1
  refine ok_seq fun K2 h2 => ?_
  refine ok_seq fun K3 h3 => ?_
  refine ok_region rfl (q_mv _ rfl (q_mv _ rfl (q_call (f88_ok base l hl) cl88 rfl rfl (q_un _ _ rfl rfl (q_mv _ rfl (q_or 3 3 rfl rfl rfl rfl rfl (fun hb22 =>
      q_mv _ rfl (q_call (f62_ok ms hn.1 hn.2) cl62 rfl rfl (q_un _ _ rfl rfl (run_nil ⟨rfl, rfl, rfl, rfl⟩)))) (
    run_nil (h3 _ ?_))))))))
  clear h3 K3
  refine ok_cond rfl (fun c4 => ?_) (fun c4 => ?_)
  · have e : resSB base l ms f t = [] := by
      unfold resSB
      rw [if_neg]
      rintro ⟨g1, g2, _⟩
      rw [g1, g2] at c4
      exact absurd c4 (by decide)
    refine ok_seq fun K5 h5 => ?_
    refine ok_region rfl (q_as _ rfl (run_nil (h5 _ ?_)))
    clear h5 K5
    refine ok_nilT 2 (ok_ret ⟨_, ⟨_, _, rfl, rfl, rfl⟩, ?_, fun b hb => (zn_tr hb).elim⟩)
    rw [e]
    exact .tr _ _ _ _
  · rw [Bool.or_eq_false_iff] at c4
    have g1 : pB (ShelfOk base l) = true := by simpa using c4.1
    have g2 : gmsB ms = true := by simpa using c4.2
    have hk := shelf_blocks (of_pB g1)
    obtain ⟨a1, a2, a3⟩ := selA_inv (ms := ms) (f := f) (t := t) hl.2
    refine ok_skip (h2 _ ?_)
    refine ok_seq fun K6 h6 => ok_region rfl (q_as _ rfl (run_nil (h6 _ ?_))); clear h6 K6
    refine ok_nilT 2 ?_
    refine ok_seq fun K7 h7 => ?_
    refine ok_seq fun K8 h8 => ok_region rfl (q_mv _ rfl (q_len eS53 rfl (q_mv _ rfl (run_nil (h8 _ ?_))))); clear h8 K8
    rw [List.length_map]
    refine ok_block ?_
    refine ok_loop (fun (s : Nat × SV) => ⟨[(2, .sv (eMatcherS ms)), (3, .sv (int f)), (4, .sv (int t)), (11, .sv s.2), (23, .sv (eBlockS l)), (24, .sv (int l.length)), (25, .sv (int s.1))], []⟩) (fun s => Gd s.2 (eSeriesS (selA ms f t (l.take s.1))) ∧ ∀ b, Zn b s.2 → w0.heap.size ≤ b) (fun s => l.length - s.1) (0, .tr (fun _ => False) (.sl 2 []) (.slice none 0 0)) ⟨.tr _ _ _ _, fun b hb => (zn_tr hb).elim⟩ (le_same ⟨rfl, rfl, rfl, rfl, rfl, rfl, rfl, trivial⟩) (fun s J => ?_)
    obtain ⟨k, r⟩ := s
    obtain ⟨jg, jz⟩ := J
    simp only at jg jz
    refine ok_seq fun K9 h9 => ok_region rfl (q_bin _ _ _ rfl rfl rfl (run_nil (h9 _ ?_))); clear h9 K9
    refine ok_seq fun K10 h10 => ?_
    refine ok_cond rfl (fun c11 => ?_) (fun c11 => ?_)
    · refine ok_skip (h10 _ ?_)
      have hkk : k < l.length := by simpa using c11
      obtain ⟨b, hb⟩ := sget hkk
      have nb := hl.2 b (smem hb)
      have kb := hk b (smem hb)
      obtain ⟨b1, b2, b3, b4⟩ := selA_at (ms := ms) (f := f) (t := t) hl.2 hw hb
      have hst := selA_step (ms := ms) (f := f) (t := t) hb
      have hvs : ∀ y ∈ standL b, ∀ n, (valOf y.labels n).size ≤ 100 := fun y hy n => by
        obtain ⟨s, hs, hs2⟩ := List.mem_filterMap.1 hy
        obtain ⟨i, hi⟩ := List.getElem?_of_mem hs
        unfold stG at hs2
        split at hs2
        · cases hs2; exact val_size (labs_of kb hi) n
        · cases hs2
      refine ok_seq fun K12 h12 => ?_
      refine ok_block ?_
      refine ok_seq fun K13 h13 => ok_region rfl (q_ia el53 rfl rfl (by omega) (mget (f := eBlock) hb) (q_lds _ ag34 rfl sz34 (q_alloc _ ze34 rfl rfl rfl rfl (q_sts _ rfl rfl rfl sz34 (Nat.le_of_ble_eq_true rfl) rfl (run_nil (h13 _ ?_)))))); clear h13 K13
      refine ok_last fun K14 h14 => ok_region rfl (
        q_mv r rfl (q_ldbs (r := [int b.from_, int b.to, int b.level, eSeriesS b.series, eStoneS b.stones]) ag34 rfl rfl sz34 rfl rfl (q_call (f70_ok b nb) cl70 rfl rfl (q_mv _ rfl (q_mv _ rfl (q_mv _ rfl (q_callr (f69_t (standL b) (standL_S nb) ms hn.1 hn.2 hvs f t) cl69 rfl (fun r1 hr1 hz1 ha1 => ?_))))))))
      refine q_callg [] (f89_t _ _ b2 b3 b1 b4) cl89 ⟨.inr (.inl ⟨_, rfl, jg⟩), .inr (.inl ⟨_, rfl, hr1⟩), trivial⟩ (fun r2 hr2 hz2 ha2 => ?_)
      rw [← hst] at hr2
      refine q_as _ rfl (run_nil (h14 _ (h12 _ ?_)))
      refine ok_last fun K15 h15 => ok_region rfl (
        q_add rfl rfl (by omega) (q_mv _ rfl (run_nil (h15 _ ⟨(k + 1, r2), by simp only; omega, ⟨hr2, hz2⟩, le_sub ⟨rfl, rfl, rfl, rfl, rfl, rfl, rfl, trivial⟩ trivial⟩))))
    · rw [List.take_of_length_le (by have : ¬ ((k : Int) < l.length) := by simpa using c11
                                     omega)] at jg
      obtain ⟨Z, v, rfl⟩ := gd_sl_inv jg
      refine ok_exit (h7 _ ?_)
      refine ok_seq fun K16 h16 => ?_
      refine ok_seq fun K17 h17 => ok_region rfl (q_mv _ rfl (q_callp (f90_ok (selA ms f t l) (lb_ss a2 (by omega))) cl90 ⟨.inr (.inl ⟨_, rfl, .tr _ _ _ _⟩), trivial⟩ (q_un _ _ rfl rfl (run_nil (h17 _ ?_))))); clear h17 K17
      refine ok_cond rfl (fun c18 => ?_) (fun c18 => ?_)
      · have e : resSB base l ms f t = [] := by
          unfold resSB
          rw [if_neg]
          rintro ⟨_, _, g3⟩
          rw [g3] at c18
          exact absurd c18 (by decide)
        refine ok_seq fun K19 h19 => ?_
        refine ok_region rfl (q_as _ rfl (run_nil (h19 _ ?_)))
        clear h19 K19
        refine ok_nilT 2 (ok_ret ⟨_, ⟨_, _, rfl, rfl, rfl⟩, ?_, fun b hb => (zn_tr hb).elim⟩)
        rw [e]
        exact .tr _ _ _ _
      · have e : resSB base l ms f t = selA ms f t l := by unfold resSB; rw [if_pos ⟨g1, g2, by simpa using c18⟩]
        refine ok_skip (h16 _ ?_)
        refine ok_seq fun K20 h20 => ok_region rfl (q_mv _ rfl (q_as _ rfl (run_nil (h20 _ ?_)))); clear h20 K20
        refine ok_ret ⟨_, ⟨_, _, rfl, rfl, rfl⟩, ?_, jz⟩
        rw [e]
        exact .tr _ _ _ _
theorem resSB_S (base : Int) {l : List Block} (hl : ∀ y ∈ l, SBlock y) (hw : wtB l ≤ 1048576) (ms : List Matcher) (f t : Int) : (resSB base l ms f t).length ≤ 1048576 ∧ ∀ y ∈ resSB base l ms f t, SSeries y := by
  obtain ⟨a1, a2, a3⟩ := selA_inv (ms := ms) (f := f) (t := t) hl
  unfold resSB
  split
  · exact lb_ss a2 (by omega)
  · exact ⟨by simp, by simp⟩
theorem resSB_C (base : Int) {l : List Block} (hl : ∀ y ∈ l, SBlock y) (hw : wtB l ≤ 1048576) (ms : List Matcher) (f t : Int) : 1 + cL cSeries (resSB base l ms f t) ≤ 1152921504606846976 := by
  have h := resSB_S base hl hw ms f t
  have h1 := cL_le (c := cSeries) (m := 4194304) (resSB base l ms f t) fun s hs => cSeries_le (h.2 s hs)
  have h2 := h.1
  omega
end Go.Ring
