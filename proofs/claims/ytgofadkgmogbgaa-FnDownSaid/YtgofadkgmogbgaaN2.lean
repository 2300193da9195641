/- Samples and windows: filters, what windows come to, what is asked of them: the program. No condition beyond the sizes. -/
import Derived.Test.YtgofadkgmogbgaaN1
set_option maxRecDepth 100000
set_option linter.unusedVariables false
set_option linter.unusedSimpArgs false
namespace Go.Ring
open Go Go.RowKit Go.Eager Go.Abs Go.Proofs
theorem quoR {a b : Int} (h : b ≠ 0) : vBin .quo (.int .i64 a) (.int .i64 b) = some (.int .i64 (w64 (a.tdiv b))) := by simp [vBin, vInt, h, w64]
theorem remR {a b : Int} (h : b ≠ 0) : vBin .rem (.int .i64 a) (.int .i64 b) = some (.int .i64 (a.tmod b)) := by simp [vBin, vInt, h]
def quoC (a b : Int) : Bool := decide (a.tmod b ≠ 0) && (decide (a < 0) != decide (b < 0))
def quo (a b : Int) : Int := if b = 0 then 0 else if quoC a b = true then w64 (w64 (a.tdiv b) - 1) else w64 (a.tdiv b)
theorem f168_ok (a b : Int) : PFn Try.prog 168 [int a, int b] (int (quo a b)) := by
  refine fn_ok' (n := 25) Try.func168 rfl rfl rfl (Nat.le_of_ble_eq_true rfl) rfl fun w0 O => ?_
  refine ok_seq fun K1 h1 => ok_region rfl (q_as _ rfl (run_nil (h1 _ ?_))); clear h1 K1
  refine ok_seq fun K2 h2 => ?_
  refine ok_seq fun K3 h3 => ok_region rfl (q_mv (int b) rfl (q_bin _ _ _ rfl rfl rfl (run_nil (h3 _ ?_)))); clear h3 K3
  refine ok_cond rfl (fun c4 => ?_) (fun c4 => ?_)
  · refine ok_seq fun K5 h5 => ?_
    refine ok_region rfl (q_as _ rfl (run_nil (h5 _ ?_)))
    clear h5 K5
    refine ok_ret ⟨_, rfl, ?_⟩
    rw [quo, if_pos (of_decide_eq_true c4)]; rfl
  · have hb : b ≠ 0 := of_decide_eq_false c4
    refine ok_skip (h2 _ ?_)
    refine ok_seq fun K6 h6 => ok_region rfl (q_mv (int a) rfl (q_mv (int b) rfl (q_bin _ _ _ rfl rfl (quoR hb) (q_as _ rfl (run_nil (h6 _ ?_)))))); clear h6 K6
    refine ok_seq_join (fun (_ : Unit) => ⟨[(5, .sv (int (quo a b)))], []⟩) (fun v => True) ?_ (fun v J => ?_)
    · refine ok_seq fun K7 h7 => ?_
      refine ok_region rfl (q_mv (int a) rfl (q_mv (int b) rfl (q_bin _ _ _ rfl rfl (remR hb) (q_bin _ _ _ rfl rfl rfl (q_mv _ rfl (q_and 5 5 rfl rfl rfl rfl rfl (fun hb21 =>
          q_mv (int a) rfl (q_bin _ _ _ rfl rfl rfl (q_mv (int b) rfl (q_bin _ _ _ rfl rfl rfl (q_neb Try.underlying4 rfl rfl (run_nil ⟨rfl, rfl, rfl, rfl⟩)))))) (
        run_nil (h7 _ ?_))))))))
      clear h7 K7
      refine ok_cond rfl (fun c8 => ?_) (fun c8 => ?_)
      · have e : quo a b = w64 (w64 (a.tdiv b) - 1) := by rw [quo, if_neg hb, if_pos (show quoC a b = true from c8)]
        refine ok_last fun K9 h9 => ok_region rfl (
          q_mv (int (w64 (a.tdiv b))) rfl (q_bin _ _ _ rfl rfl rfl (q_as _ rfl (run_nil (h9 _ (⟨(), trivial, ?_⟩))))))
        rw [e]; exact le_same ⟨rfl, trivial⟩
      · have e : quo a b = w64 (a.tdiv b) := by rw [quo, if_neg hb, if_neg (by rw [show quoC a b = false from c8]; simp)]
        refine ok_skip (⟨(), trivial, ?_⟩)
        rw [e]; exact le_same ⟨rfl, trivial⟩
    · refine ok_seq fun K10 h10 => ?_
      refine ok_region rfl (q_mv (int (quo a b)) rfl (q_as _ rfl (run_nil (h10 _ ?_))))
      clear h10 K10
      exact ok_ret ⟨_, rfl, rfl⟩
/-- What is asked of windows. -/
def ovr (a : Agg) (o : Int) : Int := if o = 1 then a.count else if o = 2 then a.sum else if o = 3 then a.mn else if o = 4 then a.mx else if o = 5 then quo a.sum a.count else if o = 6 then a.rise else if o = 7 then a.first else a.last
theorem f92_ok (a : Agg) (o : Int) : PFn Try.prog 92 [eAgg a, int o] (int (ovr a o)) := by
  refine fn_ok' (n := 39) Try.func92 rfl rfl rfl (Nat.le_of_ble_eq_true rfl) rfl fun w0 O => ?_
  refine ok_seq fun K1 h1 => ok_region rfl (q_boxs _ rfl (Nat.zero_lt_succ _) (q_as _ rfl (run_nil (h1 _ ?_)))); clear h1 K1
  refine ok_seq fun K2 h2 => ?_
  refine ok_seq fun K3 h3 => ok_region rfl (q_mv (int o) rfl (run_nil (h3 _ ?_))); clear h3 K3
  refine ok_block ?_
  refine ok_seq fun K101 h101 => ok_region rfl (q_bin _ _ _ rfl rfl rfl (q_as _ rfl (run_nil (h101 _ ?_)))); clear h101 K101
  refine ok_cond rfl (fun c1 => ?_) (fun c1 => ?_)
  · refine ok_seq fun K201 h201 => ok_region rfl (q_fa _ fd41_1 rfl rfl (by decide) (q_ld _ ag3 rfl rfl (q_as _ rfl (run_nil (h201 _ ?_))))); clear h201 K201
    refine ok_ret ⟨_, rfl, ?_⟩
    rw [ovr, if_pos (of_decide_eq_true c1)]; rfl
  · skip
    refine ok_seq fun K102 h102 => ok_region rfl (q_bin _ _ _ rfl rfl rfl (q_as _ rfl (run_nil (h102 _ ?_)))); clear h102 K102
    refine ok_cond rfl (fun c2 => ?_) (fun c2 => ?_)
    · refine ok_seq fun K202 h202 => ok_region rfl (q_fa _ fd41_2 rfl rfl (by decide) (q_ld _ ag3 rfl rfl (q_as _ rfl (run_nil (h202 _ ?_))))); clear h202 K202
      refine ok_ret ⟨_, rfl, ?_⟩
      rw [ovr, if_neg (of_decide_eq_false c1), if_pos (of_decide_eq_true c2)]; rfl
    · skip
      refine ok_seq fun K103 h103 => ok_region rfl (q_bin _ _ _ rfl rfl rfl (q_as _ rfl (run_nil (h103 _ ?_)))); clear h103 K103
      refine ok_cond rfl (fun c3 => ?_) (fun c3 => ?_)
      · refine ok_seq fun K203 h203 => ok_region rfl (q_fa _ fd41_3 rfl rfl (by decide) (q_ld _ ag3 rfl rfl (q_as _ rfl (run_nil (h203 _ ?_))))); clear h203 K203
        refine ok_ret ⟨_, rfl, ?_⟩
        rw [ovr, if_neg (of_decide_eq_false c1), if_neg (of_decide_eq_false c2), if_pos (of_decide_eq_true c3)]; rfl
      · skip
        refine ok_seq fun K104 h104 => ok_region rfl (q_bin _ _ _ rfl rfl rfl (q_as _ rfl (run_nil (h104 _ ?_)))); clear h104 K104
        refine ok_cond rfl (fun c4 => ?_) (fun c4 => ?_)
        · refine ok_seq fun K204 h204 => ok_region rfl (q_fa _ fd41_4 rfl rfl (by decide) (q_ld _ ag3 rfl rfl (q_as _ rfl (run_nil (h204 _ ?_))))); clear h204 K204
          refine ok_ret ⟨_, rfl, ?_⟩
          rw [ovr, if_neg (of_decide_eq_false c1), if_neg (of_decide_eq_false c2), if_neg (of_decide_eq_false c3), if_pos (of_decide_eq_true c4)]; rfl
        · skip
          refine ok_seq fun K105 h105 => ok_region rfl (q_bin _ _ _ rfl rfl rfl (q_as _ rfl (run_nil (h105 _ ?_)))); clear h105 K105
          refine ok_cond rfl (fun c5 => ?_) (fun c5 => ?_)
          · refine ok_seq fun K205 h205 => ok_region rfl (q_fa _ fd41_2 rfl rfl (by decide) (q_ld _ ag3 rfl rfl (q_fa _ fd41_1 rfl rfl (by decide) (q_ld _ ag3 rfl rfl (q_call (f168_ok a.sum a.count) cl168 rfl rfl (q_as _ rfl (run_nil (h205 _ ?_)))))))); clear h205 K205
            refine ok_ret ⟨_, rfl, ?_⟩
            rw [ovr, if_neg (of_decide_eq_false c1), if_neg (of_decide_eq_false c2), if_neg (of_decide_eq_false c3), if_neg (of_decide_eq_false c4), if_pos (of_decide_eq_true c5)]; rfl
          · skip
            refine ok_seq fun K106 h106 => ok_region rfl (q_bin _ _ _ rfl rfl rfl (q_as _ rfl (run_nil (h106 _ ?_)))); clear h106 K106
            refine ok_cond rfl (fun c6 => ?_) (fun c6 => ?_)
            · refine ok_seq fun K206 h206 => ok_region rfl (q_fa _ fd41_7 rfl rfl (by decide) (q_ld _ ag3 rfl rfl (q_as _ rfl (run_nil (h206 _ ?_))))); clear h206 K206
              refine ok_ret ⟨_, rfl, ?_⟩
              rw [ovr, if_neg (of_decide_eq_false c1), if_neg (of_decide_eq_false c2), if_neg (of_decide_eq_false c3), if_neg (of_decide_eq_false c4), if_neg (of_decide_eq_false c5), if_pos (of_decide_eq_true c6)]; rfl
            · skip
              refine ok_seq fun K107 h107 => ok_region rfl (q_bin _ _ _ rfl rfl rfl (q_as _ rfl (run_nil (h107 _ ?_)))); clear h107 K107
              refine ok_cond rfl (fun c7 => ?_) (fun c7 => ?_)
              · refine ok_seq fun K207 h207 => ok_region rfl (q_fa _ fd41_5 rfl rfl (by decide) (q_ld _ ag3 rfl rfl (q_as _ rfl (run_nil (h207 _ ?_))))); clear h207 K207
                refine ok_ret ⟨_, rfl, ?_⟩
                rw [ovr, if_neg (of_decide_eq_false c1), if_neg (of_decide_eq_false c2), if_neg (of_decide_eq_false c3), if_neg (of_decide_eq_false c4), if_neg (of_decide_eq_false c5), if_neg (of_decide_eq_false c6), if_pos (of_decide_eq_true c7)]; rfl
              · skip
                refine ok_skip (h2 _ ?_)
                refine ok_seq fun K25 h25 => ok_region rfl (q_fa _ fd41_6 rfl rfl (by decide) (q_ld _ ag3 rfl rfl (q_as _ rfl (run_nil (h25 _ ?_))))); clear h25 K25
                refine ok_ret ⟨_, rfl, ?_⟩
                rw [ovr, if_neg (of_decide_eq_false c1), if_neg (of_decide_eq_false c2), if_neg (of_decide_eq_false c3), if_neg (of_decide_eq_false c4), if_neg (of_decide_eq_false c5), if_neg (of_decide_eq_false c6), if_neg (of_decide_eq_false c7)]; rfl
noncomputable def gOv (f t o : Int) : Bool := ((((decide (f = -1) || pB (TimeOk f)) && (decide (t = -1) || pB (TimeOk t))) && decide (f ≤ t)) && decide (o ≥ 1)) && decide (o ≤ 8)
theorem f87_ok (f t o : Int) : PFn Try.prog 87 [int f, int t, int o] (bool (gOv f t o)) := by
  refine fn_ok' (n := 34) Try.func87 rfl rfl rfl (Nat.le_of_ble_eq_true rfl) rfl fun w0 O => ?_
  refine ok_seq fun K1 h1 => ok_region rfl (q_as _ rfl (run_nil (h1 _ ?_))); clear h1 K1
  refine ok_seq fun K2 h2 => ?_
  refine ok_region rfl (q_mv (int f) rfl (q_bin _ _ _ rfl rfl rfl (q_mv _ rfl (q_or 2 2 rfl rfl rfl rfl rfl (fun hb12 =>
      q_mv (int f) rfl (q_call (f100_ok f) cl100 rfl rfl (run_nil ⟨rfl, rfl, rfl, rfl⟩))) (
    q_mv _ rfl (q_and 6 4 rfl rfl rfl rfl rfl (fun hb20 =>
      q_mv (int t) rfl (q_bin _ _ _ rfl rfl rfl (q_mv _ rfl (q_or 2 2 rfl rfl rfl rfl rfl (fun hb19 =>
        q_mv (int t) rfl (q_call (f100_ok t) cl100 rfl rfl (run_nil ⟨rfl, rfl, rfl, rfl⟩))) (
      run_nil ⟨rfl, rfl, rfl, rfl⟩))))) (
    q_mv _ rfl (q_and 3 3 rfl rfl rfl rfl rfl (fun hb25 =>
      q_mv (int f) rfl (q_mv (int t) rfl (q_bin _ _ _ rfl rfl rfl (run_nil ⟨rfl, rfl, rfl, rfl⟩)))) (
    q_mv _ rfl (q_and 2 2 rfl rfl rfl rfl rfl (fun hb29 =>
      q_mv (int o) rfl (q_bin _ _ _ rfl rfl rfl (run_nil ⟨rfl, rfl, rfl, rfl⟩))) (
    q_mv _ rfl (q_and 2 2 rfl rfl rfl rfl rfl (fun hb33 =>
      q_mv (int o) rfl (q_bin _ _ _ rfl rfl rfl (run_nil ⟨rfl, rfl, rfl, rfl⟩))) (
    q_as _ rfl (run_nil (h2 _ ?_)))))))))))))))
  clear h2 K2
  exact ok_ret ⟨_, rfl, rfl⟩
theorem filt_drop {α : Type} {x : List α} {k : Nat} {u : α} {p : α → Bool} (hu : x[k]? = some u) : (x.drop k).filter p = if p u = true then u :: (x.drop (k + 1)).filter p else (x.drop (k + 1)).filter p := by
  obtain ⟨hlt, he⟩ := List.getElem?_eq_some_iff.1 hu
  rw [List.drop_eq_getElem_cons hlt, he, List.filter_cons]
theorem f161_f (x : List Sample) (hx : x.length ≤ 1048576) (p : Sample → Bool) (g : Nat) (hg : Calb Try.prog g) (hp : ∀ u ∈ x, PFn Try.prog g [eSample u] (bool (p u))) : PFn Try.prog 161 [eSampleS x, .raw (.func (.func g) #[] #[])] (eSampleS ((x.filter p))) := by
  refine fn_ok' (n := 23) Try.func161 rfl rfl rfl (Nat.le_of_ble_eq_true rfl) rfl fun w0 O => ?_
  refine ok_seq fun K1 h1 => ok_region rfl (q_as _ rfl (run_nil (h1 _ ?_))); clear h1 K1
  refine ok_seq fun K2 h2 => ok_region rfl (q_an (n := 2) 135 (by decide) rfl rfl rfl (run_nil (h2 _ ?_))); clear h2 K2
  refine ok_seq fun K3 h3 => ?_
  refine ok_seq fun K4 h4 => ok_region rfl (q_mv (eSampleS x) rfl (q_len eS32 rfl (q_mv _ rfl (run_nil (h4 _ ?_))))); clear h4 K4
  rw [List.length_map]
  refine ok_block ?_
  refine ok_loop (fun (s : Nat × List Sample) => ⟨[(1, .sv (.raw (.func (.func g) #[] #[]))), (5, .own 5), (8, .sv (eSampleS x)), (9, .sv (int x.length)), (10, .sv (int s.1))], [(5, .row 2 135 (s.2.map eSample))]⟩) (fun s => s.2 ++ (x.drop s.1).filter p = x.filter p ∧ s.2.length ≤ s.1) (fun s => x.length - s.1) (0, []) ⟨rfl, Nat.le_refl _⟩ (le_sub ⟨rfl, rfl, rfl, rfl, rfl, trivial⟩ ⟨rfl, trivial⟩) (fun s J => ?_)
  obtain ⟨k, q⟩ := s
  obtain ⟨j1, j2⟩ := J
  simp only at j1 j2
  refine ok_seq fun K5 h5 => ok_region rfl (q_bin _ _ _ rfl rfl rfl (run_nil (h5 _ ?_))); clear h5 K5
  refine ok_seq fun K6 h6 => ?_
  refine ok_cond rfl (fun c7 => ?_) (fun c7 => ?_)
  · have hk : k < x.length := by simpa using c7
    obtain ⟨u, hu⟩ := sget hk
    rw [filt_drop hu] at j1
    refine ok_skip (h6 _ ?_)
    refine ok_seq_join (fun (q' : List Sample) => ⟨[(1, .sv (.raw (.func (.func g) #[] #[]))), (5, .own 5), (8, .sv (eSampleS x)), (9, .sv (int x.length)), (10, .sv (int k))], [(5, .row 2 135 (q'.map eSample))]⟩) (fun q' => q' ++ (x.drop (k + 1)).filter p = x.filter p ∧ q'.length ≤ k + 1) ?_ (fun q' J => ?_)
    · refine ok_block ?_
      refine ok_seq fun K8 h8 => ok_region rfl (q_ia el32 rfl rfl (by omega) (mget (f := eSample) hu) (q_lds _ ag135 rfl sz135 (q_alloc _ ze135 rfl rfl rfl rfl (q_sts _ rfl rfl rfl sz135 (Nat.le_of_ble_eq_true rfl) rfl (run_nil (h8 _ ?_)))))); clear h8 K8
      refine ok_seq fun K9 h9 => ok_region rfl (q_mv _ rfl (q_ldbs ag135 rfl rfl sz135 rfl rfl (q_callv (hp u (smem hu)) hg rfl rfl rfl (run_nil (h9 _ ?_))))); clear h9 K9
      refine ok_cond rfl (fun c10 => ?_) (fun c10 => ?_)
      · rw [if_pos (by simpa using c10)] at j1
        refine ok_last fun K11 h11 => ok_region rfl (q_mo _ rfl (q_ldbs ag135 rfl rfl sz135 rfl rfl (q_lit1 _ _ el32 ze135 (by decide) (by decide) rfl (.inl ⟨_, rfl⟩) rfl (q_app _ el32 ze135 rfl by135 rfl rfl rfl rfl rfl (by simp) (by intro s hs; simp at hs; subst hs; exact .inl ⟨_, rfl⟩) (by rw [List.length_map]; show q.length + 1 ≤ maxLen; unfold maxLen; omega) (by rw [List.length_map]; show (q.length + 1) * _ ≤ _; omega) (q_ao _ rfl (run_nil (h11 _ ⟨q ++ [u], ⟨by rw [List.append_assoc]; exact j1, by rw [List.length_append]; simp; omega⟩, by rw [List.map_append]; exact le_rek 5 20 ⟨rfl, rfl, rfl, rfl, rfl, trivial⟩ ⟨rfl, trivial⟩ rfl rfl rfl rfl ⟨rfl, trivial⟩⟩)))))))
      · rw [if_neg (by simpa using c10)] at j1
        exact ok_skip ⟨q, ⟨j1, by omega⟩, le_sub ⟨rfl, rfl, rfl, rfl, rfl, trivial⟩ ⟨rfl, trivial⟩⟩
    · refine ok_last fun K12 h12 => ok_region rfl (q_add rfl rfl (by omega) (q_mv _ rfl (run_nil (h12 _ ⟨(k + 1, q'), by simp only; omega, J, le_sub ⟨rfl, rfl, rfl, rfl, rfl, trivial⟩ ⟨rfl, trivial⟩⟩))))
  · rw [List.drop_of_length_le (by have : ¬ ((k : Int) < x.length) := by simpa using c7
                                   omega)] at j1
    have j3 : q = x.filter p := by rw [← j1]; simp
    refine ok_exit (h3 _ ?_)
    refine Ok.le (Le.trans (le_fz (n := 2) (T := 135) (l := q.map eSample) 5 rfl) (le_sub (t' := [(5, .own 5)]) (h' := [(5, .row 2 135 (q.map eSample))]) ⟨rfl, trivial⟩ ⟨rfl, trivial⟩)) ?_
    refine ok_seq fun K13 h13 => ok_region rfl (q_mv (eSampleS q) rfl (q_as _ rfl (run_nil (h13 _ ?_)))); clear h13 K13
    exact ok_ret ⟨_, rfl, by rw [← j3]; rfl⟩
theorem f161_c (x : List Sample) (hx : x.length ≤ 1048576) (p : Sample → Bool) (g : Nat) (cs : List SV) (hg : Calb Try.prog g) (hp : ∀ u ∈ x, PFn Try.prog g ([eSample u] ++ cs) (bool (p u))) : PFn Try.prog 161 [eSampleS x, .clo g cs] (eSampleS ((x.filter p))) := by
  refine fn_ok' (n := 23) Try.func161 rfl rfl rfl (Nat.le_of_ble_eq_true rfl) rfl fun w0 O => ?_
  refine ok_seq fun K1 h1 => ok_region rfl (q_as _ rfl (run_nil (h1 _ ?_))); clear h1 K1
  refine ok_seq fun K2 h2 => ok_region rfl (q_an (n := 2) 135 (by decide) rfl rfl rfl (run_nil (h2 _ ?_))); clear h2 K2
  refine ok_seq fun K3 h3 => ?_
  refine ok_seq fun K4 h4 => ok_region rfl (q_mv (eSampleS x) rfl (q_len eS32 rfl (q_mv _ rfl (run_nil (h4 _ ?_))))); clear h4 K4
  rw [List.length_map]
  refine ok_block ?_
  refine ok_loop (fun (s : Nat × List Sample) => ⟨[(1, .sv (.clo g cs)), (5, .own 5), (8, .sv (eSampleS x)), (9, .sv (int x.length)), (10, .sv (int s.1))], [(5, .row 2 135 (s.2.map eSample))]⟩) (fun s => s.2 ++ (x.drop s.1).filter p = x.filter p ∧ s.2.length ≤ s.1) (fun s => x.length - s.1) (0, []) ⟨rfl, Nat.le_refl _⟩ (le_sub ⟨rfl, rfl, rfl, rfl, rfl, trivial⟩ ⟨rfl, trivial⟩) (fun s J => ?_)
  obtain ⟨k, q⟩ := s
  obtain ⟨j1, j2⟩ := J
  simp only at j1 j2
  refine ok_seq fun K5 h5 => ok_region rfl (q_bin _ _ _ rfl rfl rfl (run_nil (h5 _ ?_))); clear h5 K5
  refine ok_seq fun K6 h6 => ?_
  refine ok_cond rfl (fun c7 => ?_) (fun c7 => ?_)
  · have hk : k < x.length := by simpa using c7
    obtain ⟨u, hu⟩ := sget hk
    rw [filt_drop hu] at j1
    refine ok_skip (h6 _ ?_)
    refine ok_seq_join (fun (q' : List Sample) => ⟨[(1, .sv (.clo g cs)), (5, .own 5), (8, .sv (eSampleS x)), (9, .sv (int x.length)), (10, .sv (int k))], [(5, .row 2 135 (q'.map eSample))]⟩) (fun q' => q' ++ (x.drop (k + 1)).filter p = x.filter p ∧ q'.length ≤ k + 1) ?_ (fun q' J => ?_)
    · refine ok_block ?_
      refine ok_seq fun K8 h8 => ok_region rfl (q_ia el32 rfl rfl (by omega) (mget (f := eSample) hu) (q_lds _ ag135 rfl sz135 (q_alloc _ ze135 rfl rfl rfl rfl (q_sts _ rfl rfl rfl sz135 (Nat.le_of_ble_eq_true rfl) rfl (run_nil (h8 _ ?_)))))); clear h8 K8
      refine ok_seq fun K9 h9 => ok_region rfl (q_mv _ rfl (q_ldbs ag135 rfl rfl sz135 rfl rfl (q_callcp (hp u (smem hu)) hg rfl ⟨.inl rfl, trivial⟩ (run_nil (h9 _ ?_))))); clear h9 K9
      refine ok_cond rfl (fun c10 => ?_) (fun c10 => ?_)
      · rw [if_pos (by simpa using c10)] at j1
        refine ok_last fun K11 h11 => ok_region rfl (q_mo _ rfl (q_ldbs ag135 rfl rfl sz135 rfl rfl (q_lit1 _ _ el32 ze135 (by decide) (by decide) rfl (.inl ⟨_, rfl⟩) rfl (q_app _ el32 ze135 rfl by135 rfl rfl rfl rfl rfl (by simp) (by intro s hs; simp at hs; subst hs; exact .inl ⟨_, rfl⟩) (by rw [List.length_map]; show q.length + 1 ≤ maxLen; unfold maxLen; omega) (by rw [List.length_map]; show (q.length + 1) * _ ≤ _; omega) (q_ao _ rfl (run_nil (h11 _ ⟨q ++ [u], ⟨by rw [List.append_assoc]; exact j1, by rw [List.length_append]; simp; omega⟩, by rw [List.map_append]; exact le_rek 5 20 ⟨rfl, rfl, rfl, rfl, rfl, trivial⟩ ⟨rfl, trivial⟩ rfl rfl rfl rfl ⟨rfl, trivial⟩⟩)))))))
      · rw [if_neg (by simpa using c10)] at j1
        exact ok_skip ⟨q, ⟨j1, by omega⟩, le_sub ⟨rfl, rfl, rfl, rfl, rfl, trivial⟩ ⟨rfl, trivial⟩⟩
    · refine ok_last fun K12 h12 => ok_region rfl (q_add rfl rfl (by omega) (q_mv _ rfl (run_nil (h12 _ ⟨(k + 1, q'), by simp only; omega, J, le_sub ⟨rfl, rfl, rfl, rfl, rfl, trivial⟩ ⟨rfl, trivial⟩⟩))))
  · rw [List.drop_of_length_le (by have : ¬ ((k : Int) < x.length) := by simpa using c7
                                   omega)] at j1
    have j3 : q = x.filter p := by rw [← j1]; simp
    refine ok_exit (h3 _ ?_)
    refine Ok.le (Le.trans (le_fz (n := 2) (T := 135) (l := q.map eSample) 5 rfl) (le_sub (t' := [(5, .own 5)]) (h' := [(5, .row 2 135 (q.map eSample))]) ⟨rfl, trivial⟩ ⟨rfl, trivial⟩)) ?_
    refine ok_seq fun K13 h13 => ok_region rfl (q_mv (eSampleS q) rfl (q_as _ rfl (run_nil (h13 _ ?_)))); clear h13 K13
    exact ok_ret ⟨_, rfl, by rw [← j3]; rfl⟩
theorem f90_c (x : List Agg) (hx : x.length ≤ 1048576) (p : Agg → Bool) (g : Nat) (cs : List SV) (hg : Calb Try.prog g) (hp : ∀ u ∈ x, PFn Try.prog g ([eAgg u] ++ cs) (bool (p u))) : PFn Try.prog 90 [eAggS x, .clo g cs] (eAggS ((x.filter p))) := by
  refine fn_ok' (n := 23) Try.func90 rfl rfl rfl (Nat.le_of_ble_eq_true rfl) rfl fun w0 O => ?_
  refine ok_seq fun K1 h1 => ok_region rfl (q_as _ rfl (run_nil (h1 _ ?_))); clear h1 K1
  refine ok_seq fun K2 h2 => ok_region rfl (q_an (n := 8) 41 (by decide) rfl rfl rfl (run_nil (h2 _ ?_))); clear h2 K2
  refine ok_seq fun K3 h3 => ?_
  refine ok_seq fun K4 h4 => ok_region rfl (q_mv (eAggS x) rfl (q_len eS36 rfl (q_mv _ rfl (run_nil (h4 _ ?_))))); clear h4 K4
  rw [List.length_map]
  refine ok_block ?_
  refine ok_loop (fun (s : Nat × List Agg) => ⟨[(1, .sv (.clo g cs)), (5, .own 5), (8, .sv (eAggS x)), (9, .sv (int x.length)), (10, .sv (int s.1))], [(5, .row 8 41 (s.2.map eAgg))]⟩) (fun s => s.2 ++ (x.drop s.1).filter p = x.filter p ∧ s.2.length ≤ s.1) (fun s => x.length - s.1) (0, []) ⟨rfl, Nat.le_refl _⟩ (le_sub ⟨rfl, rfl, rfl, rfl, rfl, trivial⟩ ⟨rfl, trivial⟩) (fun s J => ?_)
  obtain ⟨k, q⟩ := s
  obtain ⟨j1, j2⟩ := J
  simp only at j1 j2
  refine ok_seq fun K5 h5 => ok_region rfl (q_bin _ _ _ rfl rfl rfl (run_nil (h5 _ ?_))); clear h5 K5
  refine ok_seq fun K6 h6 => ?_
  refine ok_cond rfl (fun c7 => ?_) (fun c7 => ?_)
  · have hk : k < x.length := by simpa using c7
    obtain ⟨u, hu⟩ := sget hk
    rw [filt_drop hu] at j1
    refine ok_skip (h6 _ ?_)
    refine ok_seq_join (fun (q' : List Agg) => ⟨[(1, .sv (.clo g cs)), (5, .own 5), (8, .sv (eAggS x)), (9, .sv (int x.length)), (10, .sv (int k))], [(5, .row 8 41 (q'.map eAgg))]⟩) (fun q' => q' ++ (x.drop (k + 1)).filter p = x.filter p ∧ q'.length ≤ k + 1) ?_ (fun q' J => ?_)
    · refine ok_block ?_
      refine ok_seq fun K8 h8 => ok_region rfl (q_ia el36 rfl rfl (by omega) (mget (f := eAgg) hu) (q_lds _ ag41 rfl sz41 (q_alloc _ ze41 rfl rfl rfl rfl (q_sts _ rfl rfl rfl sz41 (Nat.le_of_ble_eq_true rfl) rfl (run_nil (h8 _ ?_)))))); clear h8 K8
      refine ok_seq fun K9 h9 => ok_region rfl (q_mv _ rfl (q_ldbs ag41 rfl rfl sz41 rfl rfl (q_callcp (hp u (smem hu)) hg rfl ⟨.inl rfl, trivial⟩ (run_nil (h9 _ ?_))))); clear h9 K9
      refine ok_cond rfl (fun c10 => ?_) (fun c10 => ?_)
      · rw [if_pos (by simpa using c10)] at j1
        refine ok_last fun K11 h11 => ok_region rfl (q_mo _ rfl (q_ldbs ag41 rfl rfl sz41 rfl rfl (q_lit1 _ _ el36 ze41 (by decide) (by decide) rfl (.inl ⟨_, rfl⟩) rfl (q_app _ el36 ze41 rfl by41 rfl rfl rfl rfl rfl (by simp) (by intro s hs; simp at hs; subst hs; exact .inl ⟨_, rfl⟩) (by rw [List.length_map]; show q.length + 1 ≤ maxLen; unfold maxLen; omega) (by rw [List.length_map]; show (q.length + 1) * _ ≤ _; omega) (q_ao _ rfl (run_nil (h11 _ ⟨q ++ [u], ⟨by rw [List.append_assoc]; exact j1, by rw [List.length_append]; simp; omega⟩, by rw [List.map_append]; exact le_rek 5 20 ⟨rfl, rfl, rfl, rfl, rfl, trivial⟩ ⟨rfl, trivial⟩ rfl rfl rfl rfl ⟨rfl, trivial⟩⟩)))))))
      · rw [if_neg (by simpa using c10)] at j1
        exact ok_skip ⟨q, ⟨j1, by omega⟩, le_sub ⟨rfl, rfl, rfl, rfl, rfl, trivial⟩ ⟨rfl, trivial⟩⟩
    · refine ok_last fun K12 h12 => ok_region rfl (q_add rfl rfl (by omega) (q_mv _ rfl (run_nil (h12 _ ⟨(k + 1, q'), by simp only; omega, J, le_sub ⟨rfl, rfl, rfl, rfl, rfl, trivial⟩ ⟨rfl, trivial⟩⟩))))
  · rw [List.drop_of_length_le (by have : ¬ ((k : Int) < x.length) := by simpa using c7
                                   omega)] at j1
    have j3 : q = x.filter p := by rw [← j1]; simp
    refine ok_exit (h3 _ ?_)
    refine Ok.le (Le.trans (le_fz (n := 8) (T := 41) (l := q.map eAgg) 5 rfl) (le_sub (t' := [(5, .own 5)]) (h' := [(5, .row 8 41 (q.map eAgg))]) ⟨rfl, trivial⟩ ⟨rfl, trivial⟩)) ?_
    refine ok_seq fun K13 h13 => ok_region rfl (q_mv (eAggS q) rfl (q_as _ rfl (run_nil (h13 _ ?_)))); clear h13 K13
    exact ok_ret ⟨_, rfl, by rw [← j3]; rfl⟩
def stale : Int := -9223372036854775808
def liveB (s : Sample) : Bool := decide (s.value ≠ stale)
def liveF (l : List Sample) : List Sample := l.filter liveB
theorem f162_ok (s : Sample) : PFn Try.prog 162 [eSample s] (bool (liveB s)) := by
  refine fn_ok' (n := 6) Try.func162 rfl rfl rfl (Nat.le_of_ble_eq_true rfl) rfl fun w0 O => ?_
  refine ok_seq fun K1 h1 => ok_region rfl (q_boxs _ rfl (Nat.zero_lt_succ _) (q_as _ rfl (run_nil (h1 _ ?_)))); clear h1 K1
  refine ok_seq fun K2 h2 => ok_region rfl (q_fa _ fd135_1 rfl rfl (by decide) (q_ld _ ag3 rfl rfl (q_bin _ _ _ rfl rfl rfl (q_as _ rfl (run_nil (h2 _ ?_)))))); clear h2 K2
  exact ok_ret ⟨_, rfl, rfl⟩
theorem f80_ok (l : List Sample) (hl : l.length ≤ 1048576) : PFn Try.prog 80 [eSampleS l] (eSampleS (liveF l)) := by
  refine fn_ok' (n := 5) Try.func80 rfl rfl rfl (Nat.le_of_ble_eq_true rfl) rfl fun w0 O => ?_
  refine ok_seq fun K1 h1 => ok_region rfl (q_as _ rfl (run_nil (h1 _ ?_))); clear h1 K1
  refine ok_seq fun K2 h2 => ok_region rfl (q_mv (eSampleS l) rfl (q_call (f161_f l hl liveB 162 cl162 fun u _ => f162_ok u) cl161 rfl rfl (q_as _ rfl (run_nil (h2 _ ?_))))); clear h2 K2
  exact ok_ret ⟨_, rfl, rfl⟩
theorem f167_ok (u : Sample) (f t : Int) : PFn Try.prog 167 ([eSample u] ++ [.ptr (int f), .ptr (int t)]) (bool (decide (f ≤ u.time) && decide (u.time ≤ t))) := by
  refine fn_ok' (n := 15) Try.func167 rfl rfl rfl (Nat.le_of_ble_eq_true rfl) rfl fun w0 O => ?_
  refine ok_seq fun K1 h1 => ok_region rfl (q_boxs _ rfl (Nat.zero_lt_succ _) (q_as _ rfl (run_nil (h1 _ ?_)))); clear h1 K1
  refine ok_seq fun K2 h2 => ok_region rfl (q_fa _ fd135_0 rfl rfl (by decide) (q_ld _ ag3 rfl rfl (q_ld _ ag3 rfl rfl (q_bin _ _ _ rfl rfl rfl (q_mv _ rfl (q_and 4 4 rfl rfl rfl rfl rfl (fun hb14 =>
    q_fa _ fd135_0 rfl rfl (by decide) (q_ld _ ag3 rfl rfl (q_ld _ ag3 rfl rfl (q_bin _ _ _ rfl rfl rfl (run_nil ⟨rfl, rfl, rfl, rfl⟩))))) (
    q_as _ rfl (run_nil (h2 _ ?_)))))))))
  clear h2 K2
  exact ok_ret ⟨_, rfl, rfl⟩
theorem f91_ok (u : Agg) (f t : Int) : PFn Try.prog 91 ([eAgg u] ++ [.ptr (int f), .ptr (int t)]) (bool (decide (f < u.time) && decide (u.time ≤ t))) := by
  refine fn_ok' (n := 15) Try.func91 rfl rfl rfl (Nat.le_of_ble_eq_true rfl) rfl fun w0 O => ?_
  refine ok_seq fun K1 h1 => ok_region rfl (q_boxs _ rfl (Nat.zero_lt_succ _) (q_as _ rfl (run_nil (h1 _ ?_)))); clear h1 K1
  refine ok_seq fun K2 h2 => ok_region rfl (q_fa _ fd41_0 rfl rfl (by decide) (q_ld _ ag3 rfl rfl (q_ld _ ag3 rfl rfl (q_bin _ _ _ rfl rfl rfl (q_mv _ rfl (q_and 4 4 rfl rfl rfl rfl rfl (fun hb14 =>
    q_fa _ fd41_0 rfl rfl (by decide) (q_ld _ ag3 rfl rfl (q_ld _ ag3 rfl rfl (q_bin _ _ _ rfl rfl rfl (run_nil ⟨rfl, rfl, rfl, rfl⟩))))) (
    q_as _ rfl (run_nil (h2 _ ?_)))))))))
  clear h2 K2
  exact ok_ret ⟨_, rfl, rfl⟩
def cutF (f t : Int) (l : List Sample) : List Sample := l.filter fun u => decide (f ≤ u.time) && decide (u.time ≤ t)
theorem f89_ok (l : List Sample) (hl : l.length ≤ 1048576) (f t : Int) : PFn Try.prog 89 [eSampleS l, int f, int t] (eSampleS (cutF f t l)) := by
  refine fn_ok' (n := 10) Try.func89 rfl rfl rfl (Nat.le_of_ble_eq_true rfl) rfl fun w0 O => ?_
  refine ok_seq fun K1 h1 => ok_region rfl (q_box _ rfl (.inr rfl) (q_box _ rfl (.inr rfl) (q_as _ rfl (run_nil (h1 _ ?_))))); clear h1 K1
  refine ok_seq fun K2 h2 => ok_region rfl (q_mv (eSampleS l) rfl (q_mkf (ss := [.ptr (int f), .ptr (int t)]) rfl (q_call (f161_c l hl _ 167 _ cl167 fun u _ => f167_ok u f t) cl161 rfl rfl (q_as _ rfl (run_nil (h2 _ ?_))))))
  clear h2 K2
  exact ok_ret ⟨_, rfl, rfl⟩
/-- What windows come to. -/
def cellsA (a : Agg) : List LV := [.sv (int a.time), .sv (int a.count), .sv (int a.sum), .sv (int a.mn), .sv (int a.mx), .sv (int a.first), .sv (int a.last), .sv (int a.rise)]
theorem f93_ok (x : Agg) (l : List Agg) (hl : l.length ≤ 1048576) : PFn Try.prog 93 [eAggS (x :: l)] (eAgg (l.foldl mrg x)) := by
  refine fnr_ok (n := 21) Try.func93 rfl rfl rfl (Nat.le_of_ble_eq_true rfl) rfl fun w0 O => ?_
  refine ok_seq fun K1 h1 => ok_region rfl (q_alloc _ ze41 rfl rfl rfl rfl (run_nil (h1 _ ?_))); clear h1 K1
  refine ok_seq fun K2 h2 => ok_region rfl (q_mv (eAggS (x :: l)) rfl (q_ia (s := eAgg x) el36 rfl rfl (by omega) rfl (q_lds _ ag41 rfl sz41 (q_alloc _ ze41 rfl rfl rfl rfl (q_sts _ rfl rfl rfl sz41 (Nat.le_of_ble_eq_true rfl) rfl (run_nil (h2 _ ?_))))))); clear h2 K2
  have es : (((x :: l).map eAgg).drop (1 : Int).toNat).take ((((x :: l).map eAgg).length : Int) - 1).toNat = l.map eAgg := by
    have e : ((((x :: l).map eAgg).length : Int) - 1).toNat = l.length := by simp
    rw [e]
    show (l.map eAgg).take l.length = _
    exact List.take_of_length_le (by simp)
  refine ok_seq fun K3 h3 => ?_
  refine ok_seq fun K4 h4 => ok_region rfl (q_mv (eAggS (x :: l)) rfl (q_sl 1 (((x :: l).map eAgg).length : Int) el36 rfl (.inr ⟨_, _, rfl, rfl⟩) (.inl ⟨rfl, rfl⟩) (by omega) (by simp; omega) (by omega) ?_))
  rw [es]
  refine q_len eS36 rfl (q_mv _ rfl (run_nil (h4 _ ?_))); clear h4 K4
  rw [List.length_map]
  refine ok_block ?_
  refine ok_loop (fun (s : Nat × Agg) => ⟨[(2, .ptr 2 0), (3, .ptr 3 0), (10, .sv (eAggS l)), (11, .sv (int l.length)), (12, .sv (int s.1))], [(2, .box [.sv (int 0), .sv (int 0), .sv (int 0), .sv (int 0), .sv (int 0), .sv (int 0), .sv (int 0), .sv (int 0)]), (3, .box (cellsA s.2))]⟩) (fun s => (l.drop s.1).foldl mrg s.2 = l.foldl mrg x) (fun s => l.length - s.1) (0, x) rfl (le_sub ⟨rfl, rfl, rfl, rfl, rfl, trivial⟩ ⟨rfl, rfl, trivial⟩) (fun s J => ?_)
  obtain ⟨k, acc⟩ := s
  simp only at J
  refine ok_seq fun K5 h5 => ok_region rfl (q_bin _ _ _ rfl rfl rfl (run_nil (h5 _ ?_))); clear h5 K5
  refine ok_seq fun K6 h6 => ?_
  refine ok_cond rfl (fun c7 => ?_) (fun c7 => ?_)
  · have hk : k < l.length := by simpa using c7
    obtain ⟨u, hu⟩ := sget hk
    have hd : l.drop k = u :: l.drop (k + 1) := by
      obtain ⟨hlt, he⟩ := List.getElem?_eq_some_iff.1 hu
      rw [List.drop_eq_getElem_cons hlt, he]
    rw [hd, List.foldl_cons] at J
    refine ok_skip (h6 _ ?_)
    refine ok_seq fun K8 h8 => ?_
    refine ok_block ?_
    refine ok_seq fun K9 h9 => ok_region rfl (q_ia el36 rfl rfl (by omega) (mget (f := eAgg) hu) (q_lds _ ag41 rfl sz41 (q_alloc _ ze41 rfl rfl rfl rfl (q_sts _ rfl rfl rfl sz41 (Nat.le_of_ble_eq_true rfl) rfl (run_nil (h9 _ ?_)))))); clear h9 K9
    refine ok_last fun K10 h10 => ok_region rfl (
      q_ldbs (r := [int acc.time, int acc.count, int acc.sum, int acc.mn, int acc.mx, int acc.first, int acc.last, int acc.rise]) ag41 rfl rfl sz41 rfl rfl (q_ldbs (r := [int u.time, int u.count, int u.sum, int u.mn, int u.mx, int u.first, int u.last, int u.rise]) ag41 rfl rfl sz41 rfl rfl (q_call (f83_ok acc u) cl83 rfl rfl (q_sts [int (mrg acc u).time, int (mrg acc u).count, int (mrg acc u).sum, int (mrg acc u).mn, int (mrg acc u).mx, int (mrg acc u).first, int (mrg acc u).last, int (mrg acc u).rise] rfl rfl rfl sz41 (Nat.le_of_ble_eq_true rfl) rfl (run_nil (h10 _ (h8 _ ?_)))))))
    exact ok_last fun K11 h11 => ok_region rfl (
      q_add rfl rfl (by omega) (q_mv _ rfl (run_nil (h11 _ (⟨(k + 1, mrg acc u), by simp only; omega, J, le_sub ⟨rfl, rfl, rfl, rfl, rfl, trivial⟩ ⟨rfl, rfl, trivial⟩⟩)))))
  · have hk : l.length ≤ k := by have : ¬ ((k : Int) < l.length) := by simpa using c7
                                 omega
    rw [List.drop_of_length_le hk] at J
    have J' : acc = l.foldl mrg x := J
    refine ok_exit (h3 _ ?_)
    refine ok_seq fun K12 h12 => ok_region rfl (q_ldbs (r := [int acc.time, int acc.count, int acc.sum, int acc.mn, int acc.mx, int acc.first, int acc.last, int acc.rise]) ag41 rfl rfl sz41 rfl rfl (q_sts [int acc.time, int acc.count, int acc.sum, int acc.mn, int acc.mx, int acc.first, int acc.last, int acc.rise] rfl rfl rfl sz41 (Nat.le_of_ble_eq_true rfl) rfl (run_nil (h12 _ ?_)))); clear h12 K12
    rw [← J']
    exact ok_ret ⟨_, ⟨_, _, res_cells (l := [int acc.time, int acc.count, int acc.sum, int acc.mn, int acc.mx, int acc.first, int acc.last, int acc.rise]) rfl rfl ag41 sz41 rfl, rfl, rfl⟩, rfl⟩
end Go.Ring
