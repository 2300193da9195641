/- Two rows of samples laid together: program and reference. No condition beyond the lengths. -/
import Derived.Test.YtanilephcohjkaaGreatB6
set_option maxRecDepth 100000
set_option linter.unusedVariables false
set_option linter.unusedSimpArgs false
namespace Go.Ring
open Go Go.RowKit Go.Eager Go.Abs Go.Proofs
theorem mg_nil0 (b : List Sample) : mg [] b = b := by rw [mg]
theorem f216_t (a b : List Sample) (ha : a.length ≤ 1048576) (hb : b.length ≤ 1048576) : PFnT Tryz.prog 216 [eSampleS a, eSampleS b] (eSampleS (mg a b)) := by
  refine fnp_ok (n := 66) Tryz.func216 rfl rfl rfl (Nat.le_of_ble_eq_true rfl) rfl fun w0 O => ?_
  refine ok_seq fun K1 h1 => ok_region rfl (q_as _ rfl (run_nil (h1 _ ?_))); clear h1 K1
  refine ok_seq fun K2 h2 => ok_region rfl (q_an (n := 2) 122 (by decide) rfl rfl rfl (run_nil (h2 _ ?_))); clear h2 K2
  refine ok_seq fun K3 h3 => ?_
  refine ok_block ?_
  refine ok_loop (fun (s : List Sample × List Sample × List Sample) => ⟨[(0, .sv (eSampleS s.1)), (1, .sv (eSampleS s.2.1)), (5, .own 5)], [(5, .row 2 122 (s.2.2.map eSample))]⟩) (fun s => s.2.2 ++ mg s.1 s.2.1 = mg a b ∧ s.2.2.length + s.1.length + s.2.1.length ≤ a.length + b.length) (fun s => s.1.length + s.2.1.length) (a, b, []) ⟨rfl, by simp⟩ (le_sub ⟨rfl, rfl, rfl, trivial⟩ ⟨rfl, trivial⟩) (fun s J => ?_)
  obtain ⟨p, r, q⟩ := s
  obtain ⟨j1, j2⟩ := J
  simp only at j1 j2
  obtain ⟨x0, hx0⟩ := fst0 p
  obtain ⟨y0, hy0⟩ := fst0 r
  refine ok_seq fun K4 h4 => ?_
  refine ok_seq fun K5 h5 => ?_
  refine ok_region rfl (q_mv _ rfl (q_len eS123 rfl (q_bin _ _ _ rfl rfl rfl (q_mv _ rfl (q_or 3 3 rfl rfl rfl rfl rfl (fun hb13 =>
      q_mv _ rfl (q_len eS123 rfl (q_bin _ _ _ rfl rfl rfl (run_nil ⟨rfl, rfl, rfl, rfl⟩)))) (
    run_nil (h5 _ ?_)))))))
  clear h5 K5
  refine ok_cond rfl (fun c6 => ?_) (fun c6 => ?_)
  · refine ok_skip (h4 _ ?_)
    refine ok_block ?_
    refine ok_seq fun K7 h7 => ?_
    refine ok_region_i (by kernel_rfl) (by kernel_rfl) rfl (
      q_mv _ rfl (q_len eS123 rfl (q_bin _ _ _ rfl rfl rfl (q_mv _ rfl (q_or 14 5 rfl rfl rfl rfl rfl (fun hb32 =>
        q_mv _ rfl (q_len eS123 rfl (q_bin _ _ _ rfl rfl rfl (q_mv _ rfl (q_and 9 9 rfl rfl rfl rfl rfl (fun hb31 =>
          q_mv _ rfl (q_ia el123 rfl rfl (by omega) (zget hx0 (by rcases p with _ | ⟨x, p⟩; exact absurd hb31 (by simp); simp)) (q_fa _ fd122_0 rfl rfl (by decide) (q_ld _ ag3 rfl rfl (q_mv _ rfl (q_ia el123 rfl rfl (by omega) (zget hy0 (by rcases r with _ | ⟨x, r⟩; exact absurd hb32 (by simp); simp)) (q_fa _ fd122_0 rfl rfl (by decide) (
          q_ld _ ag3 rfl rfl (q_bin _ _ _ rfl rfl rfl (run_nil ⟨rfl, rfl, rfl, rfl⟩)))))))))) (
        run_nil ⟨rfl, rfl, rfl, rfl⟩)))))) (
      run_nil (h7 _ ?_)))))))
    clear h7 K7
    refine ok_cond rfl (fun c8 => ?_) (fun c8 => ?_)
    · rcases p with _ | ⟨x, p⟩
      · exfalso
        rcases r with _ | ⟨y, r⟩
        · simp at c6
        · simp at c8
          omega
      have ex : x = x0 := by have := hx0 (by simp); simpa using this
      subst ex
      refine ok_seq_join (fun (v : List Sample) => ⟨[(0, .sv (eSampleS (x :: p))), (1, .sv (eSampleS v)), (5, .own 5)], [(5, .row 2 122 (q.map eSample))]⟩) (fun v => mg (x :: p) r = x :: mg p v ∧ v.length ≤ r.length) ?_ (fun v J => ?_)
      · refine ok_seq fun K9 h9 => ?_
        refine ok_region_i (by kernel_rfl) (by kernel_rfl) rfl (
          q_mv _ rfl (q_len eS123 rfl (q_bin _ _ _ rfl rfl rfl (q_mv _ rfl (q_and 9 9 rfl rfl rfl rfl rfl (fun hb46 =>
            q_mv _ rfl (q_ia el123 rfl rfl (by omega) (zget (l := x :: p) (x := x) (fun _ => rfl) (by simp)) (q_fa _ fd122_0 rfl rfl (by decide) (q_ld _ ag3 rfl rfl (q_mv _ rfl (q_ia el123 rfl rfl (by omega) (zget hy0 (by rcases r with _ | ⟨x, r⟩; exact absurd hb46 (by simp); simp)) (q_fa _ fd122_0 rfl rfl (by decide) (
            q_ld _ ag3 rfl rfl (q_bin _ _ _ rfl rfl rfl (run_nil ⟨rfl, rfl, rfl, rfl⟩)))))))))) (
          run_nil (h9 _ ?_)))))))
        clear h9 K9
        refine ok_cond rfl (fun c10 => ?_) (fun c10 => ?_)
        · rcases r with _ | ⟨y, r⟩
          · simp at c10
          have ey : y = y0 := by have := hy0 (by simp); simpa using this
          subst ey
          have ht : x.time = y.time := by
            rw [Bool.and_eq_true] at c10
            exact of_decide_eq_true c10.2
          refine ok_last fun K11 h11 => ok_region rfl (
            q_mv _ rfl (q_tl el123 rfl (q_as _ rfl (run_nil (h11 _ ⟨r, ⟨mg_eq ht, by simp⟩, le_sub ⟨rfl, rfl, rfl, trivial⟩ ⟨rfl, trivial⟩⟩)))))
        · refine ok_skip ⟨r, ⟨?_, Nat.le_refl _⟩, le_sub ⟨rfl, rfl, rfl, trivial⟩ ⟨rfl, trivial⟩⟩
          rcases r with _ | ⟨y, r⟩
          · rw [mg_nil, mg_nil]
          · have ey : y = y0 := by have := hy0 (by simp); simpa using this
            subst ey
            have t1 : x.time ≤ y.time := by
              rw [Bool.or_eq_true, Bool.and_eq_true] at c8
              rcases c8 with c | c
              · exact absurd (of_decide_eq_true c) (by simp; omega)
              · exact of_decide_eq_true c.2
            have t2 : ¬ x.time = y.time := by
              intro e
              rw [Bool.and_eq_false_iff] at c10
              rcases c10 with c | c
              · exact absurd (of_decide_eq_false c) (by simp)
              · exact absurd e (of_decide_eq_false c)
            exact mg_lt (by omega)
      · obtain ⟨m1, m2⟩ := J
        refine ok_seq fun K12 h12 => ?_
        have hq : q.length ≤ 2097152 := by omega
        refine ok_region rfl (q_mo _ rfl (q_mv _ rfl (q_ia el123 rfl rfl (by omega) (zget (l := x :: p) (x := x) (fun _ => rfl) (by simp)) (q_lds _ ag122 rfl sz122 (q_lit1 _ (eSample x) el123 ze122 (by decide) (by decide) rfl (.inl ⟨_, rfl⟩) rfl (q_app (q := [eSample x]) _ el123 ze122 rfl by122 rfl rfl rfl rfl rfl (by simp) (by intro s hs; simp at hs; subst hs; exact .inl ⟨_, rfl⟩) (by rw [List.length_map]; show q.length + 1 ≤ maxLen; unfold maxLen; omega) (by rw [List.length_map]; show (q.length + 1) * 16 ≤ _; omega) (
          q_ao _ rfl (run_nil (h12 _ ?_)))))))))
        clear h12 K12
        refine ok_last fun K13 h13 => ok_region rfl (
          q_mv _ rfl (q_tl el123 rfl (q_as _ rfl (run_nil (h13 _ ⟨(p, v, q ++ [x]), by simp only [List.length_cons]; omega, ⟨by simp only; rw [List.append_assoc, List.singleton_append, ← m1]; exact j1, by simp only [List.length_append, List.length_cons, List.length_nil] at j2 ⊢; omega⟩, by simp only; rw [List.map_append]; exact le_rek 5 54 ⟨rfl, rfl, rfl, trivial⟩ ⟨rfl, trivial⟩ rfl rfl rfl rfl ⟨rfl, trivial⟩⟩)))))
    · rcases r with _ | ⟨y, r⟩
      · simp at c8
      have ey : y = y0 := by have := hy0 (by simp); simpa using this
      subst ey
      have m1 : mg p (y :: r) = y :: mg p r := by
        rcases p with _ | ⟨x, p⟩
        · rw [mg_nil0, mg_nil0]
        · have ex : x = x0 := by have := hx0 (by simp); simpa using this
          subst ex
          rw [Bool.or_eq_false_iff, Bool.and_eq_false_iff] at c8
          refine mg_gt ?_
          rcases c8.2 with c | c
          · exact absurd (of_decide_eq_false c) (by simp)
          · have := of_decide_eq_false c; omega
      have hq : q.length ≤ 2097152 := by omega
      refine ok_seq fun K14 h14 => ?_
      refine ok_region rfl (q_mo _ rfl (q_mv _ rfl (q_ia el123 rfl rfl (by omega) (zget (l := y :: r) (x := y) (fun _ => rfl) (by simp)) (q_lds _ ag122 rfl sz122 (q_lit1 _ (eSample y) el123 ze122 (by decide) (by decide) rfl (.inl ⟨_, rfl⟩) rfl (q_app (q := [eSample y]) _ el123 ze122 rfl by122 rfl rfl rfl rfl rfl (by simp) (by intro s hs; simp at hs; subst hs; exact .inl ⟨_, rfl⟩) (by rw [List.length_map]; show q.length + 1 ≤ maxLen; unfold maxLen; omega) (by rw [List.length_map]; show (q.length + 1) * 16 ≤ _; omega) (
        q_ao _ rfl (run_nil (h14 _ ?_)))))))))
      clear h14 K14
      refine ok_last fun K15 h15 => ok_region rfl (
        q_mv _ rfl (q_tl el123 rfl (q_as _ rfl (run_nil (h15 _ ⟨(p, r, q ++ [y]), by simp only [List.length_cons]; omega, ⟨by simp only; rw [List.append_assoc, List.singleton_append, ← m1]; exact j1, by simp only [List.length_append, List.length_cons, List.length_nil] at j2 ⊢; omega⟩, by simp only; rw [List.map_append]; exact le_rek 5 62 ⟨rfl, rfl, rfl, trivial⟩ ⟨rfl, trivial⟩ rfl rfl rfl rfl ⟨rfl, trivial⟩⟩)))))
  · have hp : p = [] := by
      rcases p with _ | ⟨x, p⟩
      · rfl
      · simp at c6
    have hr : r = [] := by
      rcases r with _ | ⟨x, r⟩
      · rfl
      · simp at c6
    subst hp hr
    rw [mg_nil, List.append_nil] at j1
    refine ok_exit (h3 _ ?_)
    refine ok_seq fun K16 h16 => ok_region rfl (q_mo _ rfl (q_ao _ rfl (run_nil (h16 _ ?_)))); clear h16 K16
    rw [j1]
    obtain ⟨g1, g2, g3⟩ := gd_flatL (rs := (mg a b).map eSample) (fun r hr => by obtain ⟨y, _, rfl⟩ := List.mem_map.1 hr; rfl)
    refine ok_treed (k := 5) (n := 2) (T := 122) (rs := (mg a b).map eSample) (ss := (mg a b).map eSample) rfl rfl g1 g2 (fun r hr b hb => (g3 r hr b hb).elim) (fun Z v hZ => ?_)
    exact ok_ret ⟨_, ⟨_, _, rfl, rfl, rfl⟩, .tr Z 2 _ v, fun b hb => (hZ b (zn_tr hb)).elim id fun h => h.elim⟩
theorem fstI_ (l : List Sample) (i : Nat) : ∃ x, i < l.length → l[i]? = some x := by
  by_cases h : i < l.length
  · obtain ⟨x, hx⟩ := sget h; exact ⟨x, fun _ => hx⟩
  · exact ⟨⟨0, 0⟩, fun h' => absurd h' h⟩
theorem f206_t (a b : List Sample) (ha : a.length ≤ 1048576) (hb : b.length ≤ 1048576) : PFnT Tryz.prog 206 [eSampleS a, eSampleS b] (eSampleS (mg a b)) := by
  refine fnp_ok (n := 79) Tryz.func206 rfl rfl rfl (Nat.le_of_ble_eq_true rfl) rfl fun w0 O => ?_
  refine ok_seq fun K1 h1 => ok_region rfl (q_as _ rfl (run_nil (h1 _ ?_))); clear h1 K1
  refine ok_seq fun K2 h2 => ok_region rfl (q_an (n := 2) 122 (by decide) rfl rfl rfl (run_nil (h2 _ ?_))); clear h2 K2
  refine ok_seq fun K3 h3 => ok_region rfl (q_as _ rfl (run_nil (h3 _ ?_))); clear h3 K3
  refine ok_seq fun K4 h4 => ok_region rfl (q_as _ rfl (run_nil (h4 _ ?_))); clear h4 K4
  refine ok_seq fun K5 h5 => ?_
  refine ok_block ?_
  refine ok_loop (fun (s : Nat × Nat × List Sample) => ⟨[(0, .sv (eSampleS a)), (1, .sv (eSampleS b)), (5, .own 5), (6, .sv (int s.1)), (7, .sv (int s.2.1))], [(5, .row 2 122 (s.2.2.map eSample))]⟩) (fun s => s.2.2 ++ mg (a.drop s.1) (b.drop s.2.1) = mg a b ∧ s.1 ≤ a.length ∧ s.2.1 ≤ b.length ∧ s.2.2.length ≤ s.1 + s.2.1) (fun s => (a.length - s.1) + (b.length - s.2.1)) (0, 0, []) ⟨rfl, Nat.zero_le _, Nat.zero_le _, Nat.le_refl _⟩ (le_sub ⟨rfl, rfl, rfl, rfl, rfl, trivial⟩ ⟨rfl, trivial⟩) (fun s J => ?_)
  obtain ⟨i, k, q⟩ := s
  obtain ⟨j1, j2, j3, j4⟩ := J
  simp only at j1 j2 j3 j4
  obtain ⟨x, hx⟩ := fstI_ a i
  obtain ⟨y, hy⟩ := fstI_ b k
  refine ok_seq fun K6 h6 => ?_
  refine ok_seq fun K7 h7 => ?_
  refine ok_region rfl (q_mv _ rfl (q_mv _ rfl (q_len eS123 rfl (q_bin _ _ _ rfl rfl rfl (q_mv _ rfl (q_or 4 4 rfl rfl rfl rfl rfl (fun hb17 =>
      q_mv _ rfl (q_mv _ rfl (q_len eS123 rfl (q_bin _ _ _ rfl rfl rfl (run_nil ⟨rfl, rfl, rfl, rfl⟩))))) (
    run_nil (h7 _ ?_))))))))
  clear h7 K7
  refine ok_cond rfl (fun c8 => ?_) (fun c8 => ?_)
  · refine ok_skip (h6 _ ?_)
    refine ok_block ?_
    refine ok_seq fun K9 h9 => ?_
    refine ok_region_i (by kernel_rfl) (by kernel_rfl) rfl (
      q_mv _ rfl (q_mv _ rfl (q_len eS123 rfl (q_bin _ _ _ rfl rfl rfl (q_mv _ rfl (q_or 17 6 rfl rfl rfl rfl rfl (fun hb40 =>
        q_mv _ rfl (q_mv _ rfl (q_len eS123 rfl (q_bin _ _ _ rfl rfl rfl (q_mv _ rfl (q_and 11 11 rfl rfl rfl rfl rfl (fun hb39 =>
          q_mv _ rfl (q_mv _ rfl (q_ia el123 rfl rfl (by omega) (mget (f := eSample) (hx (by have h : ((i : Nat) : Int) < ((a.map eSample).length : Int) := of_decide_eq_true hb39; rw [List.length_map] at h; omega))) (q_fa _ fd122_0 rfl rfl (by decide) (q_ld _ ag3 rfl rfl (q_mv _ rfl (q_mv _ rfl (q_ia el123 rfl rfl (by omega) (mget (f := eSample) (hy (by have h : ¬ ((k : Nat) : Int) = ((b.map eSample).length : Int) := of_decide_eq_false hb40; rw [List.length_map] at h; omega))) (
          q_fa _ fd122_0 rfl rfl (by decide) (q_ld _ ag3 rfl rfl (q_bin _ _ _ rfl rfl rfl (run_nil ⟨rfl, rfl, rfl, rfl⟩)))))))))))) (
        run_nil ⟨rfl, rfl, rfl, rfl⟩))))))) (
      run_nil (h9 _ ?_))))))))
    clear h9 K9
    simp only [List.length_map] at c8
    refine ok_cond rfl (fun c10 => ?_) (fun c10 => ?_)
    · simp only [List.length_map, Bool.or_eq_true, Bool.and_eq_true, decide_eq_true_eq] at c8 c10
      have hi : i < a.length := by omega
      have hxi := hx hi
      have da := drop_cons hxi
      refine ok_seq_join (fun (v : Nat) => ⟨[(0, .sv (eSampleS a)), (1, .sv (eSampleS b)), (5, .own 5), (6, .sv (int i)), (7, .sv (int v))], [(5, .row 2 122 (q.map eSample))]⟩) (fun v => mg (a.drop i) (b.drop k) = x :: mg (a.drop (i + 1)) (b.drop v) ∧ k ≤ v ∧ v ≤ b.length) ?_ (fun v J => ?_)
      · refine ok_seq fun K11 h11 => ?_
        refine ok_region_i (by kernel_rfl) (by kernel_rfl) rfl (
          q_mv _ rfl (q_mv _ rfl (q_len eS123 rfl (q_bin _ _ _ rfl rfl rfl (q_mv _ rfl (q_and 11 11 rfl rfl rfl rfl rfl (fun hb57 =>
            q_mv _ rfl (q_mv _ rfl (q_ia el123 rfl rfl (by omega) (mget (f := eSample) hxi) (q_fa _ fd122_0 rfl rfl (by decide) (q_ld _ ag3 rfl rfl (q_mv _ rfl (q_mv _ rfl (q_ia el123 rfl rfl (by omega) (mget (f := eSample) (hy (by have h : ((k : Nat) : Int) < ((b.map eSample).length : Int) := of_decide_eq_true hb57; rw [List.length_map] at h; omega))) (
            q_fa _ fd122_0 rfl rfl (by decide) (q_ld _ ag3 rfl rfl (q_bin _ _ _ rfl rfl rfl (run_nil ⟨rfl, rfl, rfl, rfl⟩)))))))))))) (
          run_nil (h11 _ ?_))))))))
        clear h11 K11
        refine ok_cond rfl (fun c12 => ?_) (fun c12 => ?_)
        · simp only [List.length_map, Bool.and_eq_true, decide_eq_true_eq] at c12
          have hk : k < b.length := by omega
          refine ok_last fun K13 h13 => ok_region rfl (
            q_mv _ rfl (q_add rfl rfl (by show -9223372036854775808 ≤ (k : Int) + 1 ∧ (k : Int) + 1 ≤ 9223372036854775807; omega) (q_as _ rfl (run_nil (h13 _ ⟨k + 1, ⟨by rw [da, drop_cons (hy hk)]; exact mg_eq c12.2, by omega, by omega⟩, le_sub ⟨rfl, rfl, rfl, rfl, rfl, trivial⟩ ⟨rfl, trivial⟩⟩)))))
        · refine ok_skip ⟨k, ⟨?_, Nat.le_refl _, j3⟩, le_sub ⟨rfl, rfl, rfl, rfl, rfl, trivial⟩ ⟨rfl, trivial⟩⟩
          rw [Bool.and_eq_false_iff] at c12
          simp only [List.length_map, decide_eq_false_iff_not] at c12
          rw [da]
          rcases Nat.lt_or_ge k b.length with hk | hk
          · rw [drop_cons (hy hk)]
            exact mg_lt (by omega)
          · rw [List.drop_of_length_le hk, mg_nil, mg_nil]
      · obtain ⟨m1, m2, m3⟩ := J
        refine ok_seq fun K14 h14 => ?_
        refine ok_region rfl (q_mo _ rfl (q_mv _ rfl (q_mv _ rfl (q_ia el123 rfl rfl (by omega) (mget (f := eSample) hxi) (q_lds _ ag122 rfl sz122 (q_lit1 _ (eSample x) el123 ze122 (by decide) (by decide) rfl (.inl ⟨_, rfl⟩) rfl (
          q_app (q := [eSample x]) _ el123 ze122 rfl by122 rfl rfl rfl rfl rfl (by simp) (by intro s hs; simp at hs; subst hs; exact .inl ⟨_, rfl⟩) (by rw [List.length_map]; show q.length + 1 ≤ maxLen; unfold maxLen; omega) (by rw [List.length_map]; show (q.length + 1) * 16 ≤ _; omega) (q_ao _ rfl (run_nil (h14 _ ?_))))))))))
        clear h14 K14
        refine ok_last fun K15 h15 => ok_region rfl (
          q_mv _ rfl (q_add rfl rfl (by omega) (q_as _ rfl (run_nil (h15 _ ⟨(i + 1, v, q ++ [x]), by simp only; omega, ⟨by simp only; rw [List.append_assoc, List.singleton_append, ← m1]; exact j1, by simp only; omega, m3, by simp only [List.length_append, List.length_cons, List.length_nil]; omega⟩, by simp only; rw [List.map_append]; exact le_rek 5 66 ⟨rfl, rfl, rfl, rfl, rfl, trivial⟩ ⟨rfl, trivial⟩ rfl rfl rfl rfl ⟨rfl, trivial⟩⟩)))))
    · simp only [List.length_map, Bool.or_eq_true, Bool.or_eq_false_iff, Bool.and_eq_false_iff, decide_eq_true_eq, decide_eq_false_iff_not] at c8 c10
      have hk : k < b.length := by omega
      have hyk := hy hk
      have m1 : mg (a.drop i) (b.drop k) = y :: mg (a.drop i) (b.drop (k + 1)) := by
        rw [drop_cons hyk]
        rcases Nat.lt_or_ge i a.length with hi | hi
        · rw [drop_cons (hx hi)]
          exact mg_gt (by omega)
        · rw [List.drop_of_length_le hi, mg_nil0, mg_nil0]
      refine ok_seq fun K16 h16 => ?_
      refine ok_region rfl (q_mo _ rfl (q_mv _ rfl (q_mv _ rfl (q_ia el123 rfl rfl (by omega) (mget (f := eSample) hyk) (q_lds _ ag122 rfl sz122 (q_lit1 _ (eSample y) el123 ze122 (by decide) (by decide) rfl (.inl ⟨_, rfl⟩) rfl (
        q_app (q := [eSample y]) _ el123 ze122 rfl by122 rfl rfl rfl rfl rfl (by simp) (by intro s hs; simp at hs; subst hs; exact .inl ⟨_, rfl⟩) (by rw [List.length_map]; show q.length + 1 ≤ maxLen; unfold maxLen; omega) (by rw [List.length_map]; show (q.length + 1) * 16 ≤ _; omega) (q_ao _ rfl (run_nil (h16 _ ?_))))))))))
      clear h16 K16
      refine ok_last fun K17 h17 => ok_region rfl (
        q_mv _ rfl (q_add rfl rfl (by show -9223372036854775808 ≤ (k : Int) + 1 ∧ (k : Int) + 1 ≤ 9223372036854775807; omega) (q_as _ rfl (run_nil (h17 _ ⟨(i, k + 1, q ++ [y]), by simp only; omega, ⟨by simp only; rw [List.append_assoc, List.singleton_append, ← m1]; exact j1, j2, by simp only; omega, by simp only [List.length_append, List.length_cons, List.length_nil]; omega⟩, by simp only; rw [List.map_append]; exact le_rek 5 75 ⟨rfl, rfl, rfl, rfl, rfl, trivial⟩ ⟨rfl, trivial⟩ rfl rfl rfl rfl ⟨rfl, trivial⟩⟩)))))
  · simp only [List.length_map, Bool.or_eq_false_iff, decide_eq_false_iff_not] at c8
    rw [List.drop_of_length_le (by omega : a.length ≤ i), List.drop_of_length_le (by omega : b.length ≤ k), mg_nil, List.append_nil] at j1
    refine ok_exit (h5 _ ?_)
    refine ok_seq fun K18 h18 => ok_region rfl (q_mo _ rfl (q_ao _ rfl (run_nil (h18 _ ?_)))); clear h18 K18
    rw [j1]
    obtain ⟨g1, g2, g3⟩ := gd_flatL (rs := (mg a b).map eSample) (fun r hr => by obtain ⟨y, _, rfl⟩ := List.mem_map.1 hr; rfl)
    refine ok_treed (k := 5) (n := 2) (T := 122) (rs := (mg a b).map eSample) (ss := (mg a b).map eSample) rfl rfl g1 g2 (fun r hr b hb => (g3 r hr b hb).elim) (fun Z v hZ => ?_)
    exact ok_ret ⟨_, ⟨_, _, rfl, rfl, rfl⟩, .tr Z 2 _ v, fun b hb => (hZ b (zn_tr hb)).elim id fun h => h.elim⟩
end Go.Ring
