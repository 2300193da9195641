/- What is asked over a span, of samples and of windows: the program. No condition beyond the sizes. -/
import Derived.Test.YtgofadkgmogbgaaN4
set_option maxRecDepth 100000
set_option linter.unusedVariables false
set_option linter.unusedSimpArgs false
namespace Go.Ring
open Go Go.RowKit Go.Eager Go.Abs Go.Proofs
def zB (l : List UInt8) (i : Nat) : Int := match l[i]? with | some b => (b.toNat : Int) | none => 0
theorem zB_in (l : List UInt8) (i : Nat) : 0 ≤ zB l i ∧ zB l i ≤ 255 := by
  unfold zB
  split
  · rename_i b _; have := b.toNat_lt; omega
  · omega
theorem f15_ok (l : List UInt8) (hl : l.length ≤ 1048576) (i : Nat) (hi : i ≤ 100) : PFn Try.prog 15 [eCode l, int i] (int (zB l i)) := by
  refine fn_ok' (n := 14) Try.func15 rfl rfl rfl (Nat.le_of_ble_eq_true rfl) rfl fun w0 O => ?_
  refine ok_seq fun K1 h1 => ok_region rfl (q_as _ rfl (run_nil (h1 _ ?_))); clear h1 K1
  refine ok_seq fun K2 h2 => ?_
  refine ok_seq fun K3 h3 => ok_region rfl (q_mv (int i) rfl (q_mv (eCode l) rfl (q_len eS22 rfl (q_bin _ _ _ rfl rfl rfl (run_nil (h3 _ ?_)))))); clear h3 K3
  rw [List.length_map]
  refine ok_cond rfl (fun c4 => ?_) (fun c4 => ?_)
  · have hk : i < l.length := by have := of_decide_eq_true (p := (i : Int) < l.length) c4; omega
    obtain ⟨u, hu⟩ := sget hk
    have hur : (0 : Int) ≤ (u.toNat : Int) ∧ (u.toNat : Int) ≤ 255 := by have := u.toNat_lt; omega
    refine ok_seq fun K5 h5 => ?_
    refine ok_region rfl (q_mv (eCode l) rfl (q_mv (int i) rfl (q_ia el22 rfl rfl (by omega) (get_byte hu) (q_ld _ ag5 rfl rfl (q_cv (by rw [ag5]; rfl) ik3 rfl (IntWalk.i64_in _ (by omega)) (q_as _ rfl (run_nil (h5 _ ?_))))))))
    clear h5 K5
    refine ok_ret ⟨_, rfl, ?_⟩
    simp only [zB, hu]; rfl
  · have hk : l.length ≤ i := by have := of_decide_eq_false (p := (i : Int) < l.length) c4; omega
    refine ok_skip (h2 _ ?_)
    refine ok_seq fun K6 h6 => ok_region rfl (q_as _ rfl (run_nil (h6 _ ?_))); clear h6 K6
    refine ok_ret ⟨_, rfl, ?_⟩
    simp only [zB, List.getElem?_eq_none hk]; rfl
/-- What is asked of all of them. -/
def allOv (l : List Agg) (o : Int) : Int × Bool := match l with | [] => (0, false) | x :: r => (ovr (r.foldl mrg x) o, true)
def aggsOf (l : List Sample) : List Agg := (liveF l).map fun s => aggO s s.time
def sOv (l : List Sample) (o : Int) : Int × Bool := allOv (aggsOf l) o
theorem f88_ok (l : List Sample) (hl : l.length ≤ 1048576) (o : Int) : PFn Try.prog 88 [eSampleS l, int o] (.tup [int (sOv l o).1, bool (sOv l o).2]) := by
  have hlv := live_len l
  refine fn_ok' (n := 31) Try.func88 rfl rfl rfl (Nat.le_of_ble_eq_true rfl) rfl fun w0 O => ?_
  refine ok_seq fun K1 h1 => ok_region rfl (q_as _ rfl (q_as _ rfl (run_nil (h1 _ ?_)))); clear h1 K1
  refine ok_seq fun K2 h2 => ok_region rfl (q_an (n := 8) 41 (by decide) rfl rfl rfl (run_nil (h2 _ ?_))); clear h2 K2
  refine ok_seq fun K3 h3 => ?_
  refine ok_seq fun K4 h4 => ok_region rfl (q_mv (eSampleS l) rfl (q_call (f80_ok l hl) cl80 rfl rfl (q_len eS32 rfl (q_mv _ rfl (run_nil (h4 _ ?_)))))); clear h4 K4
  rw [List.length_map]
  refine ok_block ?_
  refine ok_loop (fun (s : Nat × List Agg) => ⟨[(1, .sv (int o)), (6, .own 6), (10, .sv (eSampleS (liveF l))), (11, .sv (int (liveF l).length)), (12, .sv (int s.1))], [(6, .row 8 41 (s.2.map eAgg))]⟩) (fun s => s.2 ++ ((liveF l).drop s.1).map (fun s => aggO s s.time) = aggsOf l ∧ s.2.length ≤ s.1) (fun s => (liveF l).length - s.1) (0, []) ⟨rfl, Nat.le_refl _⟩ (le_sub ⟨rfl, rfl, rfl, rfl, rfl, trivial⟩ ⟨rfl, trivial⟩) (fun s J => ?_)
  obtain ⟨k, q⟩ := s
  obtain ⟨j1, j2⟩ := J
  simp only at j1 j2
  refine ok_seq fun K5 h5 => ok_region rfl (q_bin _ _ _ rfl rfl rfl (run_nil (h5 _ ?_))); clear h5 K5
  refine ok_seq fun K6 h6 => ?_
  refine ok_cond rfl (fun c7 => ?_) (fun c7 => ?_)
  · refine ok_skip (h6 _ ?_)
    have hk : k < (liveF l).length := by simpa using c7
    obtain ⟨u, hu⟩ := sget hk
    have hql : q.length ≤ 1048576 := by omega
    have hd : (liveF l).drop k = u :: (liveF l).drop (k + 1) := by
      obtain ⟨hlt, he⟩ := List.getElem?_eq_some_iff.1 hu
      rw [List.drop_eq_getElem_cons hlt, he]
    rw [hd, List.map_cons] at j1
    refine ok_seq fun K8 h8 => ?_
    refine ok_block ?_
    refine ok_seq fun K9 h9 => ok_region rfl (q_ia el32 rfl rfl (by omega) (mget (f := eSample) hu) (q_lds _ ag135 rfl sz135 (q_alloc _ ze135 rfl rfl rfl rfl (q_sts _ rfl rfl rfl sz135 (Nat.le_of_ble_eq_true rfl) rfl (run_nil (h9 _ ?_)))))); clear h9 K9
    refine ok_last fun K10 h10 => ok_region rfl (
      q_mo 6 rfl (q_ldbs (r := [int u.time, int u.value]) ag135 rfl rfl sz135 rfl rfl (q_fap fd135_0 rfl (by decide) (q_ldb _ ag3 rfl rfl rfl (q_call (f81_ok u u.time) cl81 rfl rfl (q_lit1 _ _ el36 ze41 (by decide) (by decide) rfl (.inl ⟨_, rfl⟩) rfl (
      q_app (q := [eAgg (aggO u u.time)]) _ el36 ze41 rfl by41 rfl rfl rfl rfl rfl (by simp) (by intro s hs; simp at hs; subst hs; exact .inl ⟨_, rfl⟩) (by rw [List.length_map]; show q.length + 1 ≤ maxLen; unfold maxLen; omega) (by rw [List.length_map]; show (q.length + 1) * _ ≤ _; omega) (q_ao _ rfl (run_nil (h10 _ (h8 _ ?_))) ))))))))
    refine ok_last fun K11 h11 => ok_region rfl (
      q_add rfl rfl (by omega) (q_mv _ rfl (run_nil (h11 _ (⟨(k + 1, q ++ [aggO u u.time]), by simp only; omega, ⟨by rw [List.append_assoc]; exact j1, by simp; omega⟩, ?_⟩)))))
    rw [List.map_append]
    exact le_rek 6 22 ⟨rfl, rfl, rfl, rfl, rfl, trivial⟩ ⟨rfl, trivial⟩ rfl rfl rfl rfl ⟨rfl, trivial⟩
  · have hk : (liveF l).length ≤ k := by have : ¬ ((k : Int) < (liveF l).length) := by simpa using c7
                                         omega
    rw [List.drop_of_length_le hk, List.map_nil, List.append_nil] at j1
    have hql : q.length ≤ 1048576 := by
      have := congrArg List.length j1
      rw [aggsOf, List.length_map] at this
      omega
    refine ok_exit (h3 _ ?_)
    refine Ok.le (Le.trans (le_fz (n := 8) (T := 41) (l := q.map eAgg) 6 rfl) (le_sub (t' := [(1, .sv (int o)), (6, .own 6)]) (h' := [(6, .row 8 41 (q.map eAgg))]) ⟨rfl, rfl, trivial⟩ ⟨rfl, trivial⟩)) ?_
    have e : sOv l o = allOv q o := by rw [sOv, ← j1]
    refine ok_seq fun K12 h12 => ?_
    refine ok_seq fun K13 h13 => ok_region rfl (q_mv (eAggS q) rfl (q_len eS36 rfl (q_bin _ _ _ rfl rfl rfl (run_nil (h13 _ ?_))))); clear h13 K13
    rw [List.length_map]
    refine ok_cond rfl (fun c14 => ?_) (fun c14 => ?_)
    · have hq : q = [] := List.eq_nil_of_length_eq_zero (by have := of_decide_eq_true (p := (q.length : Int) = 0) c14; omega)
      refine ok_seq fun K15 h15 => ?_
      refine ok_region rfl (q_as _ rfl (q_as _ rfl (run_nil (h15 _ ?_))))
      clear h15 K15
      exact ok_ret ⟨_, rfl, by rw [e, hq]; rfl⟩
    · cases q with
      | nil => simp at c14
      | cons x t =>
        refine ok_skip (h12 _ ?_)
        refine ok_seq fun K16 h16 => ok_region rfl (q_mv (eAggS (x :: t)) rfl (q_call (f93_ok x t (by simp at hql; omega)) cl93 rfl rfl (q_mv (int o) rfl (q_call (f92_ok (t.foldl mrg x) o) cl92 rfl rfl (q_as _ rfl (q_as _ rfl (run_nil (h16 _ ?_)))))))); clear h16 K16
        exact ok_ret ⟨_, rfl, by rw [e]; rfl⟩
noncomputable def sOvG (l : List Sample) (f t o : Int) : Int × Bool := if pB (SamplesOk l) = true ∧ gOv f t o = true then sOv (cutF (f + 1) t l) o else (0, false)
theorem gOv_in {f t o : Int} (h : gOv f t o = true) : -1 ≤ f ∧ f ≤ 1000000000000 ∧ -1 ≤ t ∧ t ≤ 1000000000000 ∧ f ≤ t := by
  simp only [gOv, Bool.and_eq_true, Bool.or_eq_true, decide_eq_true_eq, pB_spec] at h
  obtain ⟨⟨⟨⟨h1, h2⟩, h3⟩, -⟩, -⟩ := h
  unfold TimeOk at h1 h2
  omega
theorem f22_ok (l : List Sample) (hl : l.length ≤ 1048576) (f t o : Int) : PFn Try.prog 22 [eSampleS l, int f, int t, int o] (.tup [int (sOvG l f t o).1, bool (sOvG l f t o).2]) := by
  refine fn_ok' (n := 29) Try.func22 rfl rfl rfl (Nat.le_of_ble_eq_true rfl) rfl fun w0 O => ?_
  refine ok_seq fun K1 h1 => ok_region rfl (q_as _ rfl (q_as _ rfl (run_nil (h1 _ ?_)))); clear h1 K1
  refine ok_seq fun K2 h2 => ?_
  refine ok_seq fun K3 h3 => ?_
  refine ok_region rfl (q_mv (eSampleS l) rfl (q_call (f78_ok l hl) cl78 rfl rfl (q_un _ _ rfl rfl (q_mv _ rfl (q_or 5 5 rfl rfl rfl rfl rfl (fun hb19 =>
      q_mv (int f) rfl (q_mv (int t) rfl (q_mv (int o) rfl (q_call (f87_ok f t o) cl87 rfl rfl (q_un _ _ rfl rfl (run_nil ⟨rfl, rfl, rfl, rfl⟩)))))) (
    run_nil (h3 _ ?_)))))))
  clear h3 K3
  refine ok_cond rfl (fun c4 => ?_) (fun c4 => ?_)
  · refine ok_seq fun K5 h5 => ?_
    refine ok_region rfl (q_as _ rfl (q_as _ rfl (run_nil (h5 _ ?_))))
    clear h5 K5
    refine ok_ret ⟨_, rfl, ?_⟩
    rw [sOvG, if_neg (by rintro ⟨g1, g2⟩; rw [g1, g2] at c4; cases c4)]; rfl
  · refine ok_skip (h2 _ ?_)
    simp only [Bool.or_eq_false_iff, Bool.not_eq_false'] at c4
    have hb := gOv_in c4.2
    have hcl : (cutF (f + 1) t l).length ≤ 1048576 := Nat.le_trans (List.length_filter_le _ _) hl
    refine ok_seq fun K6 h6 => ?_
    refine ok_region rfl (q_mv (eSampleS l) rfl (q_mv (int f) rfl (q_add rfl rfl (by omega) (q_mv (int t) rfl (q_call (f89_ok l hl (f + 1) t) cl89 rfl rfl (q_mv (int o) rfl (q_call (f88_ok _ hcl o) cl88 rfl rfl (q_ext _ rfl rfl (
      q_ext _ rfl rfl (q_as _ rfl (q_as _ rfl (run_nil (h6 _ ?_)))))))))))))
    clear h6 K6
    refine ok_ret ⟨_, rfl, ?_⟩
    rw [sOvG, if_pos c4]; rfl
def spanA (f t : Int) (l : List Agg) : List Agg := l.filter fun u => decide (f < u.time) && decide (u.time ≤ t)
noncomputable def aOvG (l : List Agg) (f t o : Int) : Int × Bool := if gOv f t o = true then allOv (spanA f t l) o else (0, false)
theorem f23_q (l : List Agg) (r f t o : Int) (hr : resB r = true) (hl : AggsOk r l) (hf : f.tmod r = 0) (ht : t.tmod r = 0) : PFn Try.prog 23 [eAggS l, int r, int f, int t, int o] (.tup [int (aOvG l f t o).1, bool (aOvG l f t o).2]) := by
  have hl1 := hl.1
  have hr0 : r ≠ 0 := by have := res_in hr; omega
  refine fn_ok' (n := 54) Try.func23 rfl rfl rfl (Nat.le_of_ble_eq_true rfl) rfl fun w0 O => ?_
  refine ok_seq fun K1 h1 => ok_region rfl (q_box (int f) rfl (.inr rfl) (q_box (int t) rfl (.inr rfl) (q_as _ rfl (q_as _ rfl (run_nil (h1 _ ?_)))))); clear h1 K1
  refine ok_seq fun K2 h2 => ?_
  refine ok_seq fun K3 h3 => ?_
  refine ok_region rfl (q_mv (eAggS l) rfl (q_mv (int r) rfl (q_call (f86_q l r hr hl) cl86 rfl rfl (q_un _ _ rfl rfl (q_mv _ rfl (q_or 5 5 rfl rfl rfl rfl rfl (fun hb23 =>
      q_ld (int f) ag3 rfl rfl (q_ld (int t) ag3 rfl rfl (q_mv (int o) rfl (q_call (f87_ok f t o) cl87 rfl rfl (q_un _ _ rfl rfl (run_nil ⟨rfl, rfl, rfl, rfl⟩)))))) (
    q_mv _ rfl (q_or 8 4 rfl rfl rfl rfl rfl (fun hb33 =>
      q_ld (int f) ag3 rfl rfl (q_bin _ _ _ rfl rfl rfl (q_mv _ rfl (q_and 4 4 rfl rfl rfl rfl rfl (fun hb32 =>
        q_ld (int f) ag3 rfl rfl (q_mv (int r) rfl (q_bin _ _ _ rfl rfl (remR hr0) (q_bin _ _ _ rfl rfl rfl (run_nil ⟨rfl, rfl, rfl, rfl⟩))))) (
      run_nil ⟨rfl, rfl, rfl, rfl⟩))))) (
    q_mv _ rfl (q_or 8 4 rfl rfl rfl rfl rfl (fun hb43 =>
      q_ld (int t) ag3 rfl rfl (q_bin _ _ _ rfl rfl rfl (q_mv _ rfl (q_and 4 4 rfl rfl rfl rfl rfl (fun hb42 =>
        q_ld (int t) ag3 rfl rfl (q_mv (int r) rfl (q_bin _ _ _ rfl rfl (remR hr0) (q_bin _ _ _ rfl rfl rfl (run_nil ⟨rfl, rfl, rfl, rfl⟩))))) (
      run_nil ⟨rfl, rfl, rfl, rfl⟩))))) (
    run_nil (h3 _ ?_))))))))))))
  clear h3 K3
  rw [hf, ht]
  refine ok_cond rfl (fun c4 => ?_) (fun c4 => ?_)
  · refine ok_seq fun K5 h5 => ?_
    refine ok_region rfl (q_as _ rfl (q_as _ rfl (run_nil (h5 _ ?_))))
    clear h5 K5
    refine ok_ret ⟨_, rfl, ?_⟩
    rw [aOvG, if_neg (by intro g; rw [g] at c4; simp at c4)]; rfl
  · refine ok_skip (h2 _ ?_)
    have g : gOv f t o = true := by simpa using c4
    have e : aOvG l f t o = allOv (spanA f t l) o := by rw [aOvG, if_pos g]
    have hsl : (spanA f t l).length ≤ 1048576 := by
      have : (spanA f t l).length ≤ l.length := List.length_filter_le _ _
      omega
    refine ok_seq fun K6 h6 => ok_region rfl (q_mv (eAggS l) rfl (q_mkf (ss := [.ptr (int f), .ptr (int t)]) rfl (q_call (f90_c l (by omega) (fun u => decide (f < u.time) && decide (u.time ≤ t)) 91 _ cl91 fun u _ => f91_ok u f t) cl90 rfl rfl (q_as (eAggS (spanA f t l)) rfl (run_nil (h6 _ ?_)))))); clear h6 K6
    generalize hq : spanA f t l = q at e hsl
    refine ok_seq fun K7 h7 => ?_
    refine ok_seq fun K8 h8 => ok_region rfl (q_mv (eAggS q) rfl (q_len eS36 rfl (q_bin _ _ _ rfl rfl rfl (run_nil (h8 _ ?_))))); clear h8 K8
    rw [List.length_map]
    refine ok_cond rfl (fun c9 => ?_) (fun c9 => ?_)
    · have hq0 : q = [] := List.eq_nil_of_length_eq_zero (by have := of_decide_eq_true (p := (q.length : Int) = 0) c9; omega)
      refine ok_seq fun K10 h10 => ?_
      refine ok_region rfl (q_as _ rfl (q_as _ rfl (run_nil (h10 _ ?_))))
      clear h10 K10
      exact ok_ret ⟨_, rfl, by rw [e, hq0]; rfl⟩
    · cases q with
      | nil => simp at c9
      | cons x s =>
        refine ok_skip (h7 _ ?_)
        refine ok_seq fun K11 h11 => ok_region rfl (q_mv (eAggS (x :: s)) rfl (q_call (f93_ok x s (by simp at hsl; omega)) cl93 rfl rfl (q_mv (int o) rfl (q_call (f92_ok (s.foldl mrg x) o) cl92 rfl rfl (q_as _ rfl (q_as _ rfl (run_nil (h11 _ ?_)))))))); clear h11 K11
        exact ok_ret ⟨_, rfl, by rw [e]; rfl⟩
end Go.Ring
