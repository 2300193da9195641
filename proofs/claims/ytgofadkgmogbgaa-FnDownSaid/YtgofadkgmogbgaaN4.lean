/- Samples brought down to windows, windows to wider ones; what is asked over a span: the program. No condition beyond the sizes. -/
import Derived.Test.YtgofadkgmogbgaaN3
import Derived.Test.YtgofadkgmogbgaaD6
set_option maxRecDepth 100000
set_option linter.unusedVariables false
set_option linter.unusedSimpArgs false
namespace Go.Ring
open Go Go.RowKit Go.Eager Go.Abs Go.Proofs
def lastA (q : List Agg) : Agg := q.getD (q.length - 1) ⟨0, 0, 0, 0, 0, 0, 0, 0⟩
theorem lastA_get {q : List Agg} (h : 0 < q.length) : q[q.length - 1]? = some (lastA q) := by
  have hlt : q.length - 1 < q.length := by omega
  unfold lastA
  rw [List.getD_eq_getElem?_getD, List.getElem?_eq_getElem hlt]; rfl
theorem lastA_map {q : List Agg} (h : (0 : Int) < q.length) : (q.map eAgg)[((q.length : Int) - 1).toNat]? = some (eAgg (lastA q)) := by
  rw [show ((q.length : Int) - 1).toNat = q.length - 1 by omega, List.getElem?_map, lastA_get (by omega)]; rfl
def joinsB (q : List Agg) (a : Agg) : Bool := decide ((0 : Int) < q.length) && decide ((lastA q).time = a.time)
/-- A window more: it joins the last one where it has its time. -/
def stepD (q : List Agg) (a : Agg) : List Agg := if joinsB q a = true then q.set (q.length - 1) (mrg (lastA q) a) else q ++ [a]
theorem stepD_len (q : List Agg) (a : Agg) : (stepD q a).length ≤ q.length + 1 := by unfold stepD; split <;> simp
def downS (l : List Sample) (r : Int) : List Agg := (liveF l).foldl (fun q s => stepD q (aggO s (winW s.time r))) []
theorem live_in {l : List Sample} (h : SamplesOk l) {u : Sample} (hu : u ∈ liveF l) : TimeOk u.time := by
  have h1 : u ∈ l := (List.mem_filter.1 hu).1
  obtain ⟨i, hi⟩ := List.mem_iff_getElem?.1 h1
  exact (h.2 i u hi).1
theorem live_len (l : List Sample) : (liveF l).length ≤ l.length := List.length_filter_le _ _
noncomputable def downG (l : List Sample) (r : Int) : List Agg := if pB (SamplesOk l) = true ∧ resB r = true then downS l r else []
theorem foldl_drop {α β : Type} {f : β → α → β} {l : List α} {k : Nat} {u : α} {b : β} (hu : l[k]? = some u) : (l.drop k).foldl f b = (l.drop (k + 1)).foldl f (f b u) := by
  obtain ⟨hlt, he⟩ := List.getElem?_eq_some_iff.1 hu
  rw [List.drop_eq_getElem_cons hlt, he, List.foldl_cons]
theorem f18_ok (l : List Sample) (hl : l.length ≤ 1048576) (r : Int) : PFn Try.prog 18 [eSampleS l, int r] (eAggS (downG l r)) := by
  refine fn_ok' (n := 63) Try.func18 rfl rfl rfl (Nat.le_of_ble_eq_true rfl) rfl fun w0 O => ?_
  refine ok_seq fun K1 h1 => ok_region rfl (q_as _ rfl (run_nil (h1 _ ?_))); clear h1 K1
  refine ok_seq fun K2 h2 => ?_
  refine ok_seq fun K3 h3 => ?_
  refine ok_region rfl (q_mv (eSampleS l) rfl (q_call (f78_ok l hl) cl78 rfl rfl (q_un _ _ rfl rfl (q_mv _ rfl (q_or 3 3 rfl rfl rfl rfl rfl (fun hb17 =>
      q_mv (int r) rfl (q_call (f79_ok r) cl79 rfl rfl (q_un _ _ rfl rfl (run_nil ⟨rfl, rfl, rfl, rfl⟩)))) (
    run_nil (h3 _ ?_)))))))
  clear h3 K3
  refine ok_cond rfl (fun c4 => ?_) (fun c4 => ?_)
  · refine ok_seq fun K5 h5 => ?_
    refine ok_region rfl (q_as _ rfl (run_nil (h5 _ ?_)))
    clear h5 K5
    refine Ok.le (le_nil 8 4 rfl) (ok_ret ⟨_, rfl, ?_⟩)
    rw [downG, if_neg (by rintro ⟨g1, g2⟩; rw [g1, g2] at c4; cases c4)]; rfl
  simp only [Bool.or_eq_false_iff, Bool.not_eq_false'] at c4
  have hs := pB_spec.1 c4.1
  have hr := res_in c4.2
  have hlv := live_len l
  refine ok_skip (h2 _ ?_)
  refine ok_seq fun K6 h6 => ok_region rfl (q_an (n := 8) 41 (by decide) rfl rfl rfl (run_nil (h6 _ ?_))); clear h6 K6
  refine ok_seq fun K7 h7 => ?_
  refine ok_seq fun K8 h8 => ok_region rfl (q_mv (eSampleS l) rfl (q_call (f80_ok l hl) cl80 rfl rfl (q_len eS32 rfl (q_mv _ rfl (run_nil (h8 _ ?_)))))); clear h8 K8
  rw [List.length_map]
  refine ok_block ?_
  refine ok_loop (fun (s : Nat × List Agg) => ⟨[(1, .sv (int r)), (5, .own 5), (19, .sv (eSampleS (liveF l))), (20, .sv (int (liveF l).length)), (21, .sv (int s.1))], [(5, .row 8 41 (s.2.map eAgg))]⟩) (fun s => ((liveF l).drop s.1).foldl (fun q s => stepD q (aggO s (winW s.time r))) s.2 = downS l r ∧ s.2.length ≤ s.1) (fun s => (liveF l).length - s.1) (0, []) ⟨rfl, Nat.le_refl _⟩ (le_sub ⟨rfl, rfl, rfl, rfl, rfl, trivial⟩ ⟨rfl, trivial⟩) (fun s J => ?_)
  obtain ⟨k, q⟩ := s
  obtain ⟨j1, j2⟩ := J
  simp only at j1 j2
  refine ok_seq fun K9 h9 => ok_region rfl (q_bin _ _ _ rfl rfl rfl (run_nil (h9 _ ?_))); clear h9 K9
  refine ok_seq fun K10 h10 => ?_
  refine ok_cond rfl (fun c11 => ?_) (fun c11 => ?_)
  · refine ok_skip (h10 _ ?_)
    have hk : k < (liveF l).length := by simpa using c11
    obtain ⟨u, hu⟩ := sget hk
    have ht := live_in hs (smem hu)
    have hql : q.length ≤ 1048576 := by omega
    rw [foldl_drop hu] at j1
    refine ok_seq_join (fun (q' : List Agg) => ⟨[(1, .sv (int r)), (5, .own 5), (19, .sv (eSampleS (liveF l))), (20, .sv (int (liveF l).length)), (21, .sv (int k))], [(5, .row 8 41 (q'.map eAgg))]⟩) (fun q' => q' = stepD q (aggO u (winW u.time r))) ?_ (fun q' J => ?_)
    · refine ok_block ?_
      refine ok_seq fun K12 h12 => ok_region rfl (q_ia el32 rfl rfl (by omega) (mget (f := eSample) hu) (q_lds _ ag135 rfl sz135 (q_alloc _ ze135 rfl rfl rfl rfl (q_sts _ rfl rfl rfl sz135 (Nat.le_of_ble_eq_true rfl) rfl (run_nil (h12 _ ?_)))))); clear h12 K12
      refine ok_seq_join (fun (_ : Unit) => ⟨[(1, .sv (int r)), (5, .own 5), (8, .ptr 8 0), (19, .sv (eSampleS (liveF l))), (20, .sv (int (liveF l).length)), (21, .sv (int k))], [(5, .row 8 41 (q.map eAgg)), (8, .box [.sv (int (aggO u (winW u.time r)).time), .sv (int (aggO u (winW u.time r)).count), .sv (int (aggO u (winW u.time r)).sum), .sv (int (aggO u (winW u.time r)).mn), .sv (int (aggO u (winW u.time r)).mx), .sv (int (aggO u (winW u.time r)).first), .sv (int (aggO u (winW u.time r)).last), .sv (int (aggO u (winW u.time r)).rise)])]⟩) (fun _ => True) ?_ (fun _ _ => ?_)
      · refine ok_last fun K13 h13 => ok_region_t (.fork [0, 1, 2, 3] 4 (.fork [] 5 (.leaf [6, 7]) 6 (.leaf [5, 7])) 6 (.leaf [4, 5, 7])) (by kernel_rfl) (by kernel_rfl) rfl ?_
        refine runT_fork ?_
        refine q_ldbs (r := [int u.time, int u.value]) ag135 rfl rfl sz135 rfl rfl (q_fap fd135_0 rfl (by decide) (q_ldb _ ag3 rfl rfl rfl (q_mv (int r) rfl (run_nil ⟨?_, ?_⟩))))
        · refine q_call (f82_ok u.time r ⟨ht.1, by have := ht.2; omega⟩ hr) cl82 rfl rfl (run_nil (runT_fork (run_nil ⟨?_, ?_⟩)))
          · exact q_call (f81_ok u (winW u.time r)) cl81 rfl rfl (run_nil (runT_leaf (q_alloc _ ze41 rfl rfl rfl rfl (q_sts [int (aggO u (winW u.time r)).time, int (aggO u (winW u.time r)).count, int (aggO u (winW u.time r)).sum, int (aggO u (winW u.time r)).mn, int (aggO u (winW u.time r)).mx, int (aggO u (winW u.time r)).first, int (aggO u (winW u.time r)).last, int (aggO u (winW u.time r)).rise] rfl rfl rfl sz41 (Nat.le_of_ble_eq_true rfl) rfl (run_nil (h13 _ ⟨(), trivial, le_sub ⟨rfl, rfl, rfl, rfl, rfl, rfl, trivial⟩ ⟨rfl, rfl, trivial⟩⟩ ))))))
          · exact q_alloc _ ze41 rfl rfl rfl rfl (run_nil (runT_leaf (q_call (f81_ok u (winW u.time r)) cl81 rfl rfl (q_sts [int (aggO u (winW u.time r)).time, int (aggO u (winW u.time r)).count, int (aggO u (winW u.time r)).sum, int (aggO u (winW u.time r)).mn, int (aggO u (winW u.time r)).mx, int (aggO u (winW u.time r)).first, int (aggO u (winW u.time r)).last, int (aggO u (winW u.time r)).rise] rfl rfl rfl sz41 (Nat.le_of_ble_eq_true rfl) rfl (run_nil (h13 _ ⟨(), trivial, le_sub ⟨rfl, rfl, rfl, rfl, rfl, rfl, trivial⟩ ⟨rfl, rfl, trivial⟩⟩ ))))))
        · exact q_alloc _ ze41 rfl rfl rfl rfl (run_nil (runT_leaf (q_call (f82_ok u.time r ⟨ht.1, by have := ht.2; omega⟩ hr) cl82 rfl rfl (q_call (f81_ok u (winW u.time r)) cl81 rfl rfl (q_sts [int (aggO u (winW u.time r)).time, int (aggO u (winW u.time r)).count, int (aggO u (winW u.time r)).sum, int (aggO u (winW u.time r)).mn, int (aggO u (winW u.time r)).mx, int (aggO u (winW u.time r)).first, int (aggO u (winW u.time r)).last, int (aggO u (winW u.time r)).rise] rfl rfl rfl sz41 (Nat.le_of_ble_eq_true rfl) rfl (run_nil (h13 _ ⟨(), trivial, le_sub ⟨rfl, rfl, rfl, rfl, rfl, rfl, trivial⟩ ⟨rfl, rfl, trivial⟩⟩ )))))))
      refine ok_seq fun K14 h14 => ok_region rfl (q_mo 5 rfl (q_leno eS36 rfl rfl (q_as _ rfl (run_nil (h14 _ ?_))))); clear h14 K14
      rw [List.length_map]
      refine ok_seq fun K15 h15 => ?_
      refine ok_region_i (by kernel_rfl) (by kernel_rfl) rfl (
        q_mv (int q.length) rfl (q_bin _ _ _ rfl rfl rfl (q_mv _ rfl (q_and 9 9 rfl rfl rfl rfl rfl (fun hb45 =>
          q_mo 5 rfl (q_mv (int q.length) rfl (q_sub rfl rfl (by omega) (q_iao el36 rfl rfl rfl (by have := of_decide_eq_true hb45; omega) (by have := of_decide_eq_true hb45; rw [List.length_map]; show ((q.length : Int) - 1).toNat < q.length; omega) (q_fae fd41_0 rfl (by decide) (q_ldef (cs := [int (lastA q).time, int (lastA q).count, int (lastA q).sum, int (lastA q).mn, int (lastA q).mx, int (lastA q).first, int (lastA q).last, int (lastA q).rise]) (int (lastA q).time) ag3 rfl rfl (lastA_map (of_decide_eq_true hb45)) rfl (q_fap fd41_0 rfl (by decide) (
          q_ldb _ ag3 rfl rfl rfl (q_bin _ _ _ rfl rfl rfl (run_nil ⟨rfl, rfl, rfl, rfl⟩)))))))))) (
        run_nil (h15 _ ?_))))))
      clear h15 K15
      refine ok_cond rfl (fun c16 => ?_) (fun c16 => ?_)
      · have c16' : joinsB q (aggO u (winW u.time r)) = true := c16
        have hpos : (0 : Int) < q.length := by
          have := c16'
          simp only [joinsB, Bool.and_eq_true, decide_eq_true_eq] at this
          exact this.1
        refine ok_last fun K17 h17 => ok_region_i (by kernel_rfl) (by kernel_rfl) rfl (
          q_mo 5 rfl (q_mv (int q.length) rfl (q_sub rfl rfl (by omega) (q_mo 5 rfl (q_mv (int q.length) rfl (q_sub rfl rfl (by omega) (q_iao el36 rfl rfl rfl (by omega) (by rw [List.length_map]; show ((q.length : Int) - 1).toNat < q.length; omega) (q_ldes (cs := [int (lastA q).time, int (lastA q).count, int (lastA q).sum, int (lastA q).mn, int (lastA q).mx, int (lastA q).first, int (lastA q).last, int (lastA q).rise]) ag41 rfl rfl (lastA_map hpos) sz41 (q_ldbs (r := [int (aggO u (winW u.time r)).time, int (aggO u (winW u.time r)).count, int (aggO u (winW u.time r)).sum, int (aggO u (winW u.time r)).mn, int (aggO u (winW u.time r)).mx, int (aggO u (winW u.time r)).first, int (aggO u (winW u.time r)).last, int (aggO u (winW u.time r)).rise]) ag41 rfl rfl sz41 rfl rfl (
          q_call (f83_ok (lastA q) (aggO u (winW u.time r))) cl83 rfl rfl (q_iao el36 rfl rfl rfl (by omega) (by rw [List.length_map]; show ((q.length : Int) - 1).toNat < q.length; omega) (q_ste (s := eAgg (lastA q)) (s' := eAgg (mrg (lastA q) (aggO u (winW u.time r)))) sz41 rfl rfl (lastA_map hpos) rfl (.inl ⟨_, rfl⟩) rfl (run_nil (h17 _ (⟨stepD q (aggO u (winW u.time r)), rfl, ?_⟩) ))))))))))))))
        have e : (stepD q (aggO u (winW u.time r))).map eAgg = (q.map eAgg).set ((q.length : Int) - 1).toNat (eAgg (mrg (lastA q) (aggO u (winW u.time r)))) := by
          rw [stepD, if_pos c16', List.map_set, show ((q.length : Int) - 1).toNat = q.length - 1 by omega]
        rw [e]
        exact le_sub ⟨rfl, rfl, rfl, rfl, rfl, trivial⟩ ⟨rfl, trivial⟩
      · have c16' : joinsB q (aggO u (winW u.time r)) = false := c16
        have e : (stepD q (aggO u (winW u.time r))).map eAgg = q.map eAgg ++ [eAgg (aggO u (winW u.time r))] := by
          rw [stepD, if_neg (by rw [c16']; simp), List.map_append]; rfl
        refine ok_last fun K18 h18 => ok_region rfl (
          q_mo 5 rfl (q_ldbs (r := [int (aggO u (winW u.time r)).time, int (aggO u (winW u.time r)).count, int (aggO u (winW u.time r)).sum, int (aggO u (winW u.time r)).mn, int (aggO u (winW u.time r)).mx, int (aggO u (winW u.time r)).first, int (aggO u (winW u.time r)).last, int (aggO u (winW u.time r)).rise]) ag41 rfl rfl sz41 rfl rfl (q_lit1 _ _ el36 ze41 (by decide) (by decide) rfl (.inl ⟨_, rfl⟩) rfl (q_app (q := [eAgg (aggO u (winW u.time r))]) _ el36 ze41 rfl by41 rfl rfl rfl rfl rfl (by simp) (by intro s hs; simp at hs; subst hs; exact .inl ⟨_, rfl⟩) (by rw [List.length_map]; show q.length + 1 ≤ maxLen; unfold maxLen; omega) (by rw [List.length_map]; show (q.length + 1) * _ ≤ _; omega) (
          q_ao _ rfl (run_nil (h18 _ (⟨stepD q (aggO u (winW u.time r)), rfl, ?_⟩) )))))))
        rw [e]
        exact le_rek 5 60 ⟨rfl, rfl, rfl, rfl, rfl, trivial⟩ ⟨rfl, trivial⟩ rfl rfl rfl rfl ⟨rfl, trivial⟩
    · subst J
      have := stepD_len q (aggO u (winW u.time r))
      exact ok_last fun K19 h19 => ok_region rfl (
        q_add rfl rfl (by omega) (q_mv _ rfl (run_nil (h19 _ (⟨(k + 1, stepD q (aggO u (winW u.time r))), by simp only; omega, ⟨j1, by simp only; omega⟩, le_sub ⟨rfl, rfl, rfl, rfl, rfl, trivial⟩ ⟨rfl, trivial⟩⟩)))))
  · have hk : (liveF l).length ≤ k := by have : ¬ ((k : Int) < (liveF l).length) := by simpa using c11
                                         omega
    rw [List.drop_of_length_le hk] at j1
    have j3 : q = downS l r := j1
    subst j3
    refine ok_exit (h7 _ ?_)
    refine Ok.le (Le.trans (le_fz (n := 8) (T := 41) (l := (downS l r).map eAgg) 5 rfl) (le_sub (t' := [(5, .own 5)]) (h' := [(5, .row 8 41 ((downS l r).map eAgg))]) ⟨rfl, trivial⟩ ⟨rfl, trivial⟩)) ?_
    refine ok_seq fun K20 h20 => ok_region rfl (q_mv (eAggS (downS l r)) rfl (q_as _ rfl (run_nil (h20 _ ?_)))); clear h20 K20
    exact ok_ret ⟨_, rfl, by rw [downG, if_pos c4]; rfl⟩
def downA (l : List Agg) (R : Int) : List Agg := l.foldl (fun q u => stepD q { u with time := winW u.time R }) []
theorem f21_q (l : List Agg) (r m : Int) (hr : resB r = true) (hl : AggsOk r l) (hm : 1 ≤ m ∧ m ≤ 1000) (hrm : r * m ≤ 1000000) : PFn Try.prog 21 [eAggS l, int r, int m] (eAggS (downA l (r * m))) := by
  have hl1 := hl.1
  have hr1 := res_in hr
  have hrm1 : 1 ≤ r * m := by
    have := Int.mul_le_mul hr1.1 hm.1 (by omega) (by omega)
    omega
  refine fn_ok' (n := 74) Try.func21 rfl rfl rfl (Nat.le_of_ble_eq_true rfl) rfl fun w0 O => ?_
  refine ok_seq fun K1 h1 => ok_region rfl (q_as _ rfl (run_nil (h1 _ ?_))); clear h1 K1
  refine ok_seq fun K2 h2 => ?_
  refine ok_seq fun K3 h3 => ?_
  refine ok_region rfl (q_mv (eAggS l) rfl (q_mv (int r) rfl (q_call (f86_q l r hr hl) cl86 rfl rfl (q_un _ _ rfl rfl (q_mv _ rfl (q_or 2 2 rfl rfl rfl rfl rfl (fun hb18 =>
      q_mv (int m) rfl (q_bin _ _ _ rfl rfl rfl (run_nil ⟨rfl, rfl, rfl, rfl⟩))) (
    q_mv _ rfl (q_or 2 2 rfl rfl rfl rfl rfl (fun hb22 =>
      q_mv (int m) rfl (q_bin _ _ _ rfl rfl rfl (run_nil ⟨rfl, rfl, rfl, rfl⟩))) (
    q_mv _ rfl (q_or 4 4 rfl rfl rfl rfl rfl (fun hb28 =>
      q_mv (int r) rfl (q_mv (int m) rfl (q_mul rfl rfl (by omega) (q_bin _ _ _ rfl rfl rfl (run_nil ⟨rfl, rfl, rfl, rfl⟩))))) (
    run_nil (h3 _ ?_))))))))))))
  clear h3 K3
  refine ok_cond rfl (fun c4 => ?_) (fun c4 => ?_)
  · exfalso
    have e1 : decide (m < 1) = false := decide_eq_false (by omega)
    have e2 : decide ((1000 : Int) < m) = false := decide_eq_false (by omega)
    have e3 : decide ((1000000 : Int) < r * m) = false := decide_eq_false (by omega)
    rw [e1, e2, e3] at c4
    simp at c4
  refine ok_skip (h2 _ ?_)
  refine ok_seq fun K6 h6 => ok_region rfl (q_an (n := 8) 41 (by decide) rfl rfl rfl (run_nil (h6 _ ?_))); clear h6 K6
  refine ok_seq fun K7 h7 => ?_
  refine ok_seq fun K8 h8 => ok_region rfl (q_mv (eAggS l) rfl (q_len eS36 rfl (q_mv _ rfl (run_nil (h8 _ ?_))))); clear h8 K8
  rw [List.length_map]
  refine ok_block ?_
  refine ok_loop (fun (s : Nat × List Agg) => ⟨[(1, .sv (int r)), (2, .sv (int m)), (7, .own 7), (29, .sv (eAggS l)), (30, .sv (int l.length)), (31, .sv (int s.1))], [(7, .row 8 41 (s.2.map eAgg))]⟩) (fun s => (l.drop s.1).foldl (fun q u => stepD q { u with time := winW u.time (r * m) }) s.2 = downA l (r * m) ∧ s.2.length ≤ s.1) (fun s => l.length - s.1) (0, []) ⟨rfl, Nat.le_refl _⟩ (le_sub ⟨rfl, rfl, rfl, rfl, rfl, rfl, trivial⟩ ⟨rfl, trivial⟩) (fun s J => ?_)
  obtain ⟨k, q⟩ := s
  obtain ⟨j1, j2⟩ := J
  simp only at j1 j2
  refine ok_seq fun K9 h9 => ok_region rfl (q_bin _ _ _ rfl rfl rfl (run_nil (h9 _ ?_))); clear h9 K9
  refine ok_seq fun K10 h10 => ?_
  refine ok_cond rfl (fun c11 => ?_) (fun c11 => ?_)
  · refine ok_skip (h10 _ ?_)
    have hk : k < l.length := by simpa using c11
    obtain ⟨u, hu⟩ := sget hk
    have ht := (hl.2 k u hu).1
    have hql : q.length ≤ 1048576 := by omega
    rw [foldl_drop hu] at j1
    refine ok_seq_join (fun (q' : List Agg) => ⟨[(1, .sv (int r)), (2, .sv (int m)), (7, .own 7), (29, .sv (eAggS l)), (30, .sv (int l.length)), (31, .sv (int k))], [(7, .row 8 41 (q'.map eAgg))]⟩) (fun q' => q' = stepD q ({ u with time := winW u.time (r * m) })) ?_ (fun q' J => ?_)
    · refine ok_block ?_
      refine ok_seq fun K12 h12 => ok_region rfl (q_ia el36 rfl rfl (by omega) (mget (f := eAgg) hu) (q_lds _ ag41 rfl sz41 (q_alloc _ ze41 rfl rfl rfl rfl (q_sts _ rfl rfl rfl sz41 (Nat.le_of_ble_eq_true rfl) rfl (run_nil (h12 _ ?_)))))); clear h12 K12
      refine ok_seq fun K13 h13 => ok_region rfl (q_fap fd41_0 rfl (by decide) (q_ldb _ ag3 rfl rfl rfl (q_mv (int r) rfl (q_mv (int m) rfl (q_mul rfl rfl (by omega) (q_call (f82_ok u.time (r * m) ⟨ht.2.1, by have := ht.2.2.1; omega⟩ ⟨hrm1, hrm⟩) cl82 rfl rfl (q_fap fd41_0 rfl (by decide) (
          q_st _ sz3 rfl rfl (Nat.le_of_ble_eq_true rfl) rfl ⟨_, rfl, rfl⟩ rfl (run_nil (h13 _ ?_)))))))))); clear h13 K13
      refine ok_seq fun K14 h14 => ok_region rfl (q_mo 7 rfl (q_leno eS36 rfl rfl (q_as _ rfl (run_nil (h14 _ ?_))))); clear h14 K14
      rw [List.length_map]
      refine ok_seq fun K15 h15 => ?_
      refine ok_region_i (by kernel_rfl) (by kernel_rfl) rfl (
        q_mv (int q.length) rfl (q_bin _ _ _ rfl rfl rfl (q_mv _ rfl (q_and 9 9 rfl rfl rfl rfl rfl (fun hb45 =>
          q_mo 7 rfl (q_mv (int q.length) rfl (q_sub rfl rfl (by omega) (q_iao el36 rfl rfl rfl (by have := of_decide_eq_true hb45; omega) (by have := of_decide_eq_true hb45; rw [List.length_map]; show ((q.length : Int) - 1).toNat < q.length; omega) (q_fae fd41_0 rfl (by decide) (q_ldef (cs := [int (lastA q).time, int (lastA q).count, int (lastA q).sum, int (lastA q).mn, int (lastA q).mx, int (lastA q).first, int (lastA q).last, int (lastA q).rise]) (int (lastA q).time) ag3 rfl rfl (lastA_map (of_decide_eq_true hb45)) rfl (q_fap fd41_0 rfl (by decide) (
          q_ldb _ ag3 rfl rfl rfl (q_bin _ _ _ rfl rfl rfl (run_nil ⟨rfl, rfl, rfl, rfl⟩)))))))))) (
        run_nil (h15 _ ?_))))))
      clear h15 K15
      refine ok_cond rfl (fun c16 => ?_) (fun c16 => ?_)
      · have c16' : joinsB q ({ u with time := winW u.time (r * m) }) = true := c16
        have hpos : (0 : Int) < q.length := by
          have := c16'
          simp only [joinsB, Bool.and_eq_true, decide_eq_true_eq] at this
          exact this.1
        refine ok_last fun K17 h17 => ok_region_i (by kernel_rfl) (by kernel_rfl) rfl (
          q_mo 7 rfl (q_mv (int q.length) rfl (q_sub rfl rfl (by omega) (q_mo 7 rfl (q_mv (int q.length) rfl (q_sub rfl rfl (by omega) (q_iao el36 rfl rfl rfl (by omega) (by rw [List.length_map]; show ((q.length : Int) - 1).toNat < q.length; omega) (q_ldes (cs := [int (lastA q).time, int (lastA q).count, int (lastA q).sum, int (lastA q).mn, int (lastA q).mx, int (lastA q).first, int (lastA q).last, int (lastA q).rise]) ag41 rfl rfl (lastA_map hpos) sz41 (q_ldbs (r := [int ({ u with time := winW u.time (r * m) }).time, int ({ u with time := winW u.time (r * m) }).count, int ({ u with time := winW u.time (r * m) }).sum, int ({ u with time := winW u.time (r * m) }).mn, int ({ u with time := winW u.time (r * m) }).mx, int ({ u with time := winW u.time (r * m) }).first, int ({ u with time := winW u.time (r * m) }).last, int ({ u with time := winW u.time (r * m) }).rise]) ag41 rfl rfl sz41 rfl rfl (
          q_call (f83_ok (lastA q) ({ u with time := winW u.time (r * m) })) cl83 rfl rfl (q_iao el36 rfl rfl rfl (by omega) (by rw [List.length_map]; show ((q.length : Int) - 1).toNat < q.length; omega) (q_ste (s := eAgg (lastA q)) (s' := eAgg (mrg (lastA q) ({ u with time := winW u.time (r * m) }))) sz41 rfl rfl (lastA_map hpos) rfl (.inl ⟨_, rfl⟩) rfl (run_nil (h17 _ (⟨stepD q ({ u with time := winW u.time (r * m) }), rfl, ?_⟩) ))))))))))))))
        have e : (stepD q ({ u with time := winW u.time (r * m) })).map eAgg = (q.map eAgg).set ((q.length : Int) - 1).toNat (eAgg (mrg (lastA q) ({ u with time := winW u.time (r * m) }))) := by
          rw [stepD, if_pos c16', List.map_set, show ((q.length : Int) - 1).toNat = q.length - 1 by omega]
        rw [e]
        exact le_sub ⟨rfl, rfl, rfl, rfl, rfl, rfl, trivial⟩ ⟨rfl, trivial⟩
      · have c16' : joinsB q ({ u with time := winW u.time (r * m) }) = false := c16
        have e : (stepD q ({ u with time := winW u.time (r * m) })).map eAgg = q.map eAgg ++ [eAgg ({ u with time := winW u.time (r * m) })] := by
          rw [stepD, if_neg (by rw [c16']; simp), List.map_append]; rfl
        refine ok_last fun K18 h18 => ok_region rfl (
          q_mo 7 rfl (q_ldbs (r := [int ({ u with time := winW u.time (r * m) }).time, int ({ u with time := winW u.time (r * m) }).count, int ({ u with time := winW u.time (r * m) }).sum, int ({ u with time := winW u.time (r * m) }).mn, int ({ u with time := winW u.time (r * m) }).mx, int ({ u with time := winW u.time (r * m) }).first, int ({ u with time := winW u.time (r * m) }).last, int ({ u with time := winW u.time (r * m) }).rise]) ag41 rfl rfl sz41 rfl rfl (q_lit1 _ _ el36 ze41 (by decide) (by decide) rfl (.inl ⟨_, rfl⟩) rfl (q_app (q := [eAgg ({ u with time := winW u.time (r * m) })]) _ el36 ze41 rfl by41 rfl rfl rfl rfl rfl (by simp) (by intro s hs; simp at hs; subst hs; exact .inl ⟨_, rfl⟩) (by rw [List.length_map]; show q.length + 1 ≤ maxLen; unfold maxLen; omega) (by rw [List.length_map]; show (q.length + 1) * _ ≤ _; omega) (
          q_ao _ rfl (run_nil (h18 _ (⟨stepD q ({ u with time := winW u.time (r * m) }), rfl, ?_⟩) )))))))
        rw [e]
        exact le_rek 7 71 ⟨rfl, rfl, rfl, rfl, rfl, rfl, trivial⟩ ⟨rfl, trivial⟩ rfl rfl rfl rfl ⟨rfl, trivial⟩
    · subst J
      have := stepD_len q ({ u with time := winW u.time (r * m) })
      exact ok_last fun K19 h19 => ok_region rfl (
        q_add rfl rfl (by omega) (q_mv _ rfl (run_nil (h19 _ (⟨(k + 1, stepD q ({ u with time := winW u.time (r * m) })), by simp only; omega, ⟨j1, by simp only; omega⟩, le_sub ⟨rfl, rfl, rfl, rfl, rfl, rfl, trivial⟩ ⟨rfl, trivial⟩⟩)))))
  · have hk : l.length ≤ k := by have : ¬ ((k : Int) < l.length) := by simpa using c11
                                 omega
    rw [List.drop_of_length_le hk] at j1
    have j3 : q = downA l (r * m) := j1
    subst j3
    refine ok_exit (h7 _ ?_)
    refine Ok.le (Le.trans (le_fz (n := 8) (T := 41) (l := (downA l (r * m)).map eAgg) 7 rfl) (le_sub (t' := [(7, .own 7)]) (h' := [(7, .row 8 41 ((downA l (r * m)).map eAgg))]) ⟨rfl, trivial⟩ ⟨rfl, trivial⟩)) ?_
    refine ok_seq fun K20 h20 => ok_region rfl (q_mv (eAggS (downA l (r * m))) rfl (q_as _ rfl (run_nil (h20 _ ?_)))); clear h20 K20
    exact ok_ret ⟨_, rfl, rfl⟩
end Go.Ring
