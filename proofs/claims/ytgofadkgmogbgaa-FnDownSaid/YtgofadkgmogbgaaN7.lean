/- The reference's windows: how many there are (behind each other). No condition beyond the sizes. -/
import Derived.Test.YtgofadkgmogbgaaN6
import Derived.Test.YtgofadkgmogbgaaQ9
set_option maxRecDepth 100000
set_option linter.unusedVariables false
set_option linter.unusedSimpArgs false
namespace Go.Ring
open Go Go.RowKit Go.Eager Go.Abs Go.Proofs
theorem winW_ge (t : Int) {r : Int} (hr : 1 ≤ r) : t ≤ winW t r := by
  have h := Int.lt_ediv_add_one_mul_self (t + r - 1) (show 0 < r by omega)
  rw [Int.add_mul] at h
  unfold winW
  omega
/-- How many windows the reference makes. -/
def dnN (r : Int) : List Sample → Nat
  | [] => 0
  | x :: l => 1 + dnN r (l.dropWhile fun s => decide (s.time ≤ winW x.time r))
termination_by l => l.length
decreasing_by
  have := (List.dropWhile_sublist (l := l) (fun s => decide (s.time ≤ winW x.time r))).length_le
  simp only [List.length_cons]; omega
theorem dnN_nil (r : Int) : dnN r [] = 0 := by rw [dnN]
theorem dnN_cons (r : Int) (x : Sample) (l : List Sample) : dnN r (x :: l) = 1 + dnN r (l.dropWhile fun s => decide (s.time ≤ winW x.time r)) := by rw [dnN]
theorem dw_step {α : Type} {p : α → Bool} {m : List α} {n : Nat} {v : α} (hv : m[n]? = some v) (h : p v = true) : (m.drop n).dropWhile p = (m.drop (n + 1)).dropWhile p := by
  obtain ⟨hlt, he⟩ := List.getElem?_eq_some_iff.1 hv
  rw [List.drop_eq_getElem_cons hlt, he, List.dropWhile_cons_of_pos h]
theorem dw_stop {α : Type} {p : α → Bool} {m : List α} {n : Nat} {v : α} (hv : m[n]? = some v) (h : ¬ p v = true) : (m.drop n).dropWhile p = m.drop n := by
  obtain ⟨hlt, he⟩ := List.getElem?_eq_some_iff.1 hv
  rw [List.drop_eq_getElem_cons hlt, he, List.dropWhile_cons_of_neg h]
theorem f85_r (l : List Sample) (hs : SamplesOk l) (r : Int) (hr : resB r = true) : PFnR Try.prog 85 [eSampleS l, int r] (fun s => ∃ q : List Agg, s = eAggS q ∧ q.length = dnN r (liveF l)) := by
  have hlv := live_len l
  have hl := hs.1
  have hr1 := res_in hr
  refine fnp_ok (n := 47) Try.func85 rfl rfl rfl (Nat.le_of_ble_eq_true rfl) rfl fun w0 O => ?_
  refine ok_seq fun K1 h1 => ok_region rfl (q_as _ rfl (run_nil (h1 _ ?_))); clear h1 K1
  refine ok_seq fun K2 h2 => ok_region rfl (q_an (n := 8) 41 (by decide) rfl rfl rfl (run_nil (h2 _ ?_))); clear h2 K2
  refine ok_seq fun K3 h3 => ok_region rfl (q_mv (eSampleS l) rfl (q_call (f164_ok l (by omega)) cl164 rfl rfl (q_as _ rfl (run_nil (h3 _ ?_))))); clear h3 K3
  refine ok_seq fun K4 h4 => ?_
  refine ok_block ?_
  refine ok_loop (fun (s : List Sample × List Agg) => ⟨[(1, .sv (int r)), (5, .own 5), (6, .sv (eSampleS s.1))], [(5, .row 8 41 (s.2.map eAgg))]⟩) (fun s => s.2.length + dnN r s.1 = dnN r (liveF l) ∧ (∀ y ∈ s.1, TimeOk y.time) ∧ s.1.length + s.2.length ≤ (liveF l).length) (fun s => s.1.length) (liveF l, []) ⟨Nat.zero_add _, fun y hy => live_in hs hy, Nat.le_refl _⟩ (le_sub ⟨rfl, rfl, rfl, trivial⟩ ⟨rfl, trivial⟩) (fun s J => ?_)
  obtain ⟨m, q⟩ := s
  obtain ⟨j1, j2, j3⟩ := J
  simp only at j1 j2 j3
  refine ok_seq fun K5 h5 => ?_
  refine ok_seq fun K6 h6 => ok_region rfl (q_mv (eSampleS m) rfl (q_len eS32 rfl (q_bin _ _ _ rfl rfl rfl (run_nil (h6 _ ?_))))); clear h6 K6
  rw [List.length_map]
  refine ok_cond rfl (fun c7 => ?_) (fun c7 => ?_)
  · have hm0 : 0 < m.length := by have := of_decide_eq_true (p := (0 : Int) < m.length) c7; omega
    obtain ⟨x, hx⟩ := sget hm0
    have hxt := j2 x (smem hx)
    have hxe := winW_ge x.time hr1.1
    refine ok_skip (h5 _ ?_)
    refine ok_block ?_
    refine ok_seq fun K8 h8 => ok_region rfl (q_mv (eSampleS m) rfl (q_ia el32 rfl rfl (by omega) (mget (f := eSample) hx) (q_fa _ fd135_0 rfl rfl (by decide) (q_ld _ ag3 rfl rfl (q_mv (int r) rfl (q_call (f165_ok x.time r ⟨hxt.1, by have := hxt.2; omega⟩ hr1) cl165 rfl rfl (q_as _ rfl (run_nil (h8 _ ?_))))))))); clear h8 K8
    generalize he : winW x.time r = e at hxe
    refine ok_seq fun K9 h9 => ok_region rfl (q_as (int 0) rfl (run_nil (h9 _ ?_))); clear h9 K9
    refine ok_seq fun K10 h10 => ?_
    refine ok_block ?_
    refine ok_loop (fun (n : Nat) => ⟨[(1, .sv (int r)), (5, .own 5), (6, .sv (eSampleS m)), (7, .sv (int e)), (8, .sv (int n))], [(5, .row 8 41 (q.map eAgg))]⟩) (fun n => n ≤ m.length ∧ m.dropWhile (fun s => decide (s.time ≤ e)) = (m.drop n).dropWhile (fun s => decide (s.time ≤ e))) (fun n => m.length - n) 0 ⟨Nat.zero_le _, rfl⟩ (le_sub ⟨rfl, rfl, rfl, rfl, rfl, trivial⟩ ⟨rfl, trivial⟩) (fun n J => ?_)
    obtain ⟨i1, i2⟩ := J
    obtain ⟨v, hv⟩ : ∃ v, n < m.length → m[n]? = some v := by
      rcases Nat.lt_or_ge n m.length with h | h
      · exact ⟨m[n], fun _ => List.getElem?_eq_getElem h⟩
      · exact ⟨x, fun h' => by omega⟩
    refine ok_seq fun K11 h11 => ?_
    refine ok_seq fun K12 h12 => ?_
    refine ok_region rfl (q_mv (int n) rfl (q_mv (eSampleS m) rfl (q_len eS32 rfl (q_bin _ _ _ rfl rfl rfl (q_mv _ rfl (q_and 7 7 rfl rfl rfl rfl rfl (fun hb32 =>
        q_mv (eSampleS m) rfl (q_mv (int n) rfl (q_ia el32 rfl rfl (by omega) (mget (f := eSample) (hv (by have := of_decide_eq_true hb32; rw [List.length_map] at this; omega))) (q_fa _ fd135_0 rfl rfl (by decide) (q_ld _ ag3 rfl rfl (q_mv (int e) rfl (q_bin _ _ _ rfl rfl rfl (run_nil ⟨rfl, rfl, rfl, rfl⟩)))))))) (
      run_nil (h12 _ ?_))))))))
    clear h12 K12
    rw [List.length_map]
    refine ok_cond rfl (fun c13 => ?_) (fun c13 => ?_)
    · have c : n < m.length ∧ v.time ≤ e := by
        have := c13
        simp only [Bool.and_eq_true, decide_eq_true_eq] at this
        omega
      refine ok_skip (h11 _ ?_)
      refine ok_block ?_
      exact ok_last fun K14 h14 => ok_region rfl (
        q_mv (int n) rfl (q_add rfl rfl (by omega) (q_as _ rfl (run_nil (h14 _ (⟨n + 1, by omega, ⟨by omega, by rw [i2]; exact dw_step (hv c.1) (decide_eq_true c.2)⟩, le_sub ⟨rfl, rfl, rfl, rfl, rfl, trivial⟩ ⟨rfl, trivial⟩⟩))))))
    · have c : ¬ (n < m.length ∧ v.time ≤ e) := by
        intro h
        have e1 : decide ((n : Int) < m.length) = true := decide_eq_true (by omega)
        have e2 : decide (v.time ≤ e) = true := decide_eq_true h.2
        rw [e1, e2] at c13; cases c13
      have hn0 : 0 < n := by
        rcases Nat.eq_zero_or_pos n with h | h
        · subst h
          have hvx : v = x := by have := hv hm0; rw [hx] at this; exact (Option.some.inj this).symm
          subst hvx
          exact absurd ⟨hm0, hxe⟩ c
        · exact h
      have hdw : m.dropWhile (fun s => decide (s.time ≤ e)) = m.drop n := by
        rw [i2]
        rcases Nat.lt_or_ge n m.length with h | h
        · exact dw_stop (hv h) (by simp; have : ¬ v.time ≤ e := fun h' => c ⟨h, h'⟩
                                   omega)
        · rw [List.drop_of_length_le h]; rfl
      have hmx : m = x :: m.drop 1 := by
        obtain ⟨hlt, hh⟩ := List.getElem?_eq_some_iff.1 hx
        have := List.drop_eq_getElem_cons hlt
        rw [hh] at this
        simpa using this
      have hdn : dnN r m = 1 + dnN r (m.drop n) := by
        rw [← hdw]
        conv => lhs; rw [hmx, dnN_cons, he]
        conv => rhs; rw [hmx, List.dropWhile_cons_of_pos (by exact decide_eq_true hxe)]
      have hql : q.length ≤ 1048576 := by omega
      refine ok_exit (h10 _ ?_)
      have es : ((m.map eSample).drop (0 : Int).toNat).take ((n : Int) - 0).toNat = (m.take n).map eSample := by
        rw [show ((n : Int) - 0).toNat = n by omega]
        simp
      have htn : m.take n ≠ [] := fun h => by have := congrArg List.length h; rw [List.length_take, List.length_nil] at this; omega
      have htl : (m.take n).length ≤ 1048576 := by rw [List.length_take]; omega
      refine ok_seq fun K15 h15 => ok_region rfl (q_mo 5 rfl (q_mv (eSampleS m) rfl (q_mv (int n) rfl (q_sl 0 (n : Int) el32 rfl (.inl ⟨rfl, rfl⟩) (.inr ⟨_, _, rfl, rfl⟩) (by omega) (by omega) (by rw [List.length_map]; omega) ?_))))
      rw [es]
      refine q_mv (int e) rfl (q_callr (sa := [eSampleS (m.take n), int e]) (f166_r (m.take n) htn htl e) cl166 rfl (fun s hs hz ha => ?_))
      obtain ⟨a, rfl⟩ := hs
      refine q_lit1 _ _ el36 ze41 (by decide) (by decide) rfl (.inl ⟨_, rfl⟩) rfl (q_app (q := [eAgg a]) _ el36 ze41 rfl by41 rfl rfl rfl rfl rfl (by simp) (by intro s hs; simp at hs; subst hs; exact .inl ⟨_, rfl⟩) (by rw [List.length_map]; show q.length + 1 ≤ maxLen; unfold maxLen; omega) (by rw [List.length_map]; show (q.length + 1) * _ ≤ _; omega) (
        q_ao _ rfl (run_nil (h15 _ ?_)))); clear h15 K15
      have es2 : ((m.map eSample).drop (n : Int).toNat).take (((m.map eSample).length : Int) - n).toNat = (m.drop n).map eSample := by
        rw [List.length_map, show ((m.length : Int) - n).toNat = m.length - n by omega, show (n : Int).toNat = n by omega, ← List.map_drop]
        exact List.take_of_length_le (by simp)
      refine ok_last fun K16 h16 => ok_region rfl (
        q_mv (eSampleS m) rfl (q_mv (int n) rfl (q_sl (n : Int) ((m.map eSample).length : Int) el32 rfl (.inr ⟨_, _, rfl, rfl⟩) (.inl ⟨rfl, rfl⟩) (by omega) (by rw [List.length_map]; omega) (by omega) ?_)))
      rw [es2]
      refine q_as (eSampleS (m.drop n)) rfl (run_nil (h16 _ ⟨(m.drop n, q ++ [a]), ?_, ⟨?_, ?_, ?_⟩, ?_⟩))
      · simp only [List.length_drop]; omega
      · simp only [List.length_append, List.length_cons, List.length_nil]; omega
      · exact fun y hy => j2 y (List.mem_of_mem_drop hy)
      · simp only [List.length_drop, List.length_append, List.length_cons, List.length_nil]; omega
      · rw [List.map_append]
        exact le_rek 5 42 ⟨rfl, rfl, rfl, trivial⟩ ⟨rfl, trivial⟩ rfl rfl rfl rfl ⟨rfl, trivial⟩
  · have hm0 : m = [] := List.eq_nil_of_length_eq_zero (by have := of_decide_eq_false (p := (0 : Int) < m.length) c7; omega)
    subst hm0
    rw [dnN_nil, Nat.add_zero] at j1
    refine ok_exit (h4 _ ?_)
    refine Ok.le (Le.trans (le_fz (n := 8) (T := 41) (l := q.map eAgg) 5 rfl) (le_sub (t' := [(5, .own 5)]) (h' := [(5, .row 8 41 (q.map eAgg))]) ⟨rfl, trivial⟩ ⟨rfl, trivial⟩)) ?_
    refine ok_seq fun K17 h17 => ok_region rfl (q_mv (eAggS q) rfl (q_as _ rfl (run_nil (h17 _ ?_)))); clear h17 K17
    exact ok_ret ⟨_, ⟨_, _, rfl, rfl, rfl⟩, ⟨q, rfl, j1⟩, fun b hb => (zn_sl (n := 8) (l := q.map eAgg) hb).elim⟩
theorem f20_r (l : List Sample) (hs : SamplesOk l) (r : Int) (hr : resB r = true) : PFnR Try.prog 20 [eSampleS l, int r] (fun s => ∃ q : List Agg, s = eAggS q ∧ q.length = dnN r (liveF l)) := by
  have hl := hs.1
  refine fnp_ok (n := 16) Try.func20 rfl rfl rfl (Nat.le_of_ble_eq_true rfl) rfl fun w0 O => ?_
  refine ok_seq fun K1 h1 => ok_region rfl (q_as _ rfl (run_nil (h1 _ ?_))); clear h1 K1
  refine ok_seq fun K2 h2 => ?_
  refine ok_seq fun K3 h3 => ?_
  refine ok_region rfl (q_mv (eSampleS l) rfl (q_call (f17_ok l (by omega)) cl17 rfl rfl (q_un _ _ rfl rfl (q_mv _ rfl (q_or 3 3 rfl rfl rfl rfl rfl (fun hb12 =>
      q_mv (int r) rfl (q_call (f84_ok r) cl84 rfl rfl (q_un _ _ rfl rfl (run_nil ⟨rfl, rfl, rfl, rfl⟩)))) (
    run_nil (h3 _ ?_)))))))
  clear h3 K3
  rw [pB_true hs, hr]
  refine ok_cond rfl (fun c4 => absurd c4 (by decide)) (fun c4 => ?_)
  refine ok_skip (h2 _ ?_)
  refine ok_seq fun K6 h6 => ok_region rfl (q_mv (eSampleS l) rfl (q_mv (int r) rfl (q_callr (f85_r l hs r hr) cl85 rfl (fun s hs hz ha => ?_))))
  obtain ⟨q, rfl, hq⟩ := hs
  refine q_as _ rfl (run_nil (h6 _ ?_)); clear h6 K6
  exact ok_ret ⟨_, ⟨_, _, rfl, rfl, rfl⟩, ⟨q, rfl, hq⟩, fun b hb => (zn_sl (n := 8) (l := q.map eAgg) hb).elim⟩
end Go.Ring
