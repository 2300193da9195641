/- Parts of the proof, laid together: B7 J3 J4 I1 J5 J6. No condition. -/
import Derived.Test.YtanilephcohjkaaGreatSg9
import Derived.Test.YtanilephcohjkaaGreatSg4
import Derived.Test.YtanilephcohjkaaGreatEg3
import Derived.KernelRfl
/- Two rows of samples laid together: program and reference. No condition beyond the lengths. -/
set_option maxRecDepth 100000
set_option linter.unusedVariables false
set_option linter.unusedSimpArgs false
namespace Go.Ring
open Go Go.RowKit Go.Eager Go.Abs Go.Proofs
theorem mg_nil0 (b : List Sample) : mg [] b = b := by rw [mg]
theorem f216_t (a b : List Sample) (ha : a.length ≤ 1048576) (hb : b.length ≤ 1048576) : PFnT Tryz.prog 216 [eSampleS a, eSampleS b] (eSampleS (mg a b)) := by
  refine fnp_ok (n := 66) Tryz.func216 rfl rfl rfl (Nat.le_of_ble_eq_true rfl) rfl fun w0 O => ?_
  refine ok_seq fun K1 h1 => ok_region rfl (q_as _ rfl (run_nil (h1 _ ?_)))
  refine ok_seq fun K2 h2 => ok_region rfl (q_an (n := 2) 122 (by decide) rfl rfl rfl (run_nil (h2 _ ?_)))
  refine ok_seq fun K3 h3 => ?_
  refine ok_block ?_
  refine ok_loop (fun (s : List Sample × List Sample × List Sample) => ⟨[(0, .sv (eSampleS s.1)), (1, .sv (eSampleS s.2.1)), (5, .own 5)], [(5, .row 2 122 (s.2.2.map eSample))]⟩) (fun s => s.2.2 ++ mg s.1 s.2.1 = mg a b ∧ s.2.2.length + s.1.length + s.2.1.length ≤ a.length + b.length) (fun s => s.1.length + s.2.1.length) (a, b, []) ⟨rfl, by simp⟩ (le_sub ⟨rfl, rfl, rfl, trivial⟩ ⟨rfl, trivial⟩) (fun s J => ?_)
  obtain ⟨p, r, q⟩ := s
  obtain ⟨j1, j2⟩ := J
  simp only at j1 j2
  obtain ⟨x0, hx0⟩ := fst0 p
  obtain ⟨y0, hy0⟩ := fst0 r
  refine ok_seq fun K4 h4 => ?_
  refine ok_seq fun K5 h5 => ?_
  refine ok_region rfl (q_mv _ rfl (q_len eS123 rfl (q_bin _ _ _ rfl rfl rfl (q_mv _ rfl (q_or 3 3 rfl rfl rfl rfl rfl (fun hb13 =>
      q_mv _ rfl (q_len eS123 rfl (q_bin _ _ _ rfl rfl rfl (run_nil ⟨rfl, rfl, rfl, rfl⟩)))) (
    run_nil (h5 _ ?_)))))))
  refine ok_cond rfl (fun c6 => ?_) (fun c6 => ?_)
  · refine ok_skip (h4 _ ?_)
    refine ok_block ?_
    refine ok_seq fun K7 h7 => ?_
    refine ok_region_i (by kernel_rfl) (by kernel_rfl) rfl (
      q_mv _ rfl (q_len eS123 rfl (q_bin _ _ _ rfl rfl rfl (q_mv _ rfl (q_or 14 5 rfl rfl rfl rfl rfl (fun hb32 =>
        q_mv _ rfl (q_len eS123 rfl (q_bin _ _ _ rfl rfl rfl (q_mv _ rfl (q_and 9 9 rfl rfl rfl rfl rfl (fun hb31 =>
          q_mv _ rfl (q_ia el123 rfl rfl (by omega) (zget hx0 (by rcases p with _ | ⟨x, p⟩; exact absurd hb31 (by simp); simp)) (q_fa _ fd122_0 rfl rfl (by decide) (q_ld _ ag3 rfl rfl (q_mv _ rfl (q_ia el123 rfl rfl (by omega) (zget hy0 (by rcases r with _ | ⟨x, r⟩; exact absurd hb32 (by simp); simp)) (q_fa _ fd122_0 rfl rfl (by decide) (
          q_ld _ ag3 rfl rfl (q_bin _ _ _ rfl rfl rfl (run_nil ⟨rfl, rfl, rfl, rfl⟩)))))))))) (
        run_nil ⟨rfl, rfl, rfl, rfl⟩)))))) (
      run_nil (h7 _ ?_)))))))
    refine ok_cond rfl (fun c8 => ?_) (fun c8 => ?_)
    · rcases p with _ | ⟨x, p⟩
      · exfalso
        rcases r with _ | ⟨y, r⟩
        · simp at c6
        · simp at c8
          omega
      have ex : x = x0 := by have := hx0 (by simp); simpa using this
      subst ex
      refine ok_seq_join (fun (v : List Sample) => ⟨[(0, .sv (eSampleS (x :: p))), (1, .sv (eSampleS v)), (5, .own 5)], [(5, .row 2 122 (q.map eSample))]⟩) (fun v => mg (x :: p) r = x :: mg p v ∧ v.length ≤ r.length) ?_ (fun v J => ?_)
      · refine ok_seq fun K9 h9 => ?_
        refine ok_region_i (by kernel_rfl) (by kernel_rfl) rfl (
          q_mv _ rfl (q_len eS123 rfl (q_bin _ _ _ rfl rfl rfl (q_mv _ rfl (q_and 9 9 rfl rfl rfl rfl rfl (fun hb46 =>
            q_mv _ rfl (q_ia el123 rfl rfl (by omega) (zget (l := x :: p) (x := x) (fun _ => rfl) (by simp)) (q_fa _ fd122_0 rfl rfl (by decide) (q_ld _ ag3 rfl rfl (q_mv _ rfl (q_ia el123 rfl rfl (by omega) (zget hy0 (by rcases r with _ | ⟨x, r⟩; exact absurd hb46 (by simp); simp)) (q_fa _ fd122_0 rfl rfl (by decide) (
            q_ld _ ag3 rfl rfl (q_bin _ _ _ rfl rfl rfl (run_nil ⟨rfl, rfl, rfl, rfl⟩)))))))))) (
          run_nil (h9 _ ?_)))))))
        refine ok_cond rfl (fun c10 => ?_) (fun c10 => ?_)
        · rcases r with _ | ⟨y, r⟩
          · simp at c10
          have ey : y = y0 := by have := hy0 (by simp); simpa using this
          subst ey
          have ht : x.time = y.time := by
            rw [Bool.and_eq_true] at c10
            exact of_decide_eq_true c10.2
          refine ok_last fun K11 h11 => ok_region rfl (
            q_mv _ rfl (q_tl el123 rfl (q_as _ rfl (run_nil (h11 _ ⟨r, ⟨mg_eq ht, by simp⟩, le_sub ⟨rfl, rfl, rfl, trivial⟩ ⟨rfl, trivial⟩⟩)))))
        · refine ok_skip ⟨r, ⟨?_, Nat.le_refl _⟩, le_sub ⟨rfl, rfl, rfl, trivial⟩ ⟨rfl, trivial⟩⟩
          rcases r with _ | ⟨y, r⟩
          · rw [mg_nil, mg_nil]
          · have ey : y = y0 := by have := hy0 (by simp); simpa using this
            subst ey
            have t1 : x.time ≤ y.time := by
              rw [Bool.or_eq_true, Bool.and_eq_true] at c8
              rcases c8 with c | c
              · exact absurd (of_decide_eq_true c) (by simp; omega)
              · exact of_decide_eq_true c.2
            have t2 : ¬ x.time = y.time := by
              intro e
              rw [Bool.and_eq_false_iff] at c10
              rcases c10 with c | c
              · exact absurd (of_decide_eq_false c) (by simp)
              · exact absurd e (of_decide_eq_false c)
            exact mg_lt (by omega)
      · obtain ⟨m1, m2⟩ := J
        refine ok_seq fun K12 h12 => ?_
        have hq : q.length ≤ 2097152 := by omega
        refine ok_region rfl (q_mo _ rfl (q_mv _ rfl (q_ia el123 rfl rfl (by omega) (zget (l := x :: p) (x := x) (fun _ => rfl) (by simp)) (q_lds _ ag122 rfl sz122 (q_lit1 _ (eSample x) el123 ze122 (by decide) (by decide) rfl (.inl ⟨_, rfl⟩) rfl (q_app (q := [eSample x]) _ el123 ze122 rfl by122 rfl rfl rfl rfl rfl (by simp) (by intro s hs; simp at hs; subst hs; exact .inl ⟨_, rfl⟩) (by rw [List.length_map]; show q.length + 1 ≤ maxLen; unfold maxLen; omega) (by rw [List.length_map]; show (q.length + 1) * 16 ≤ _; omega) (
          q_ao _ rfl (run_nil (h12 _ ?_)))))))))
        refine ok_last fun K13 h13 => ok_region rfl (
          q_mv _ rfl (q_tl el123 rfl (q_as _ rfl (run_nil (h13 _ ⟨(p, v, q ++ [x]), by simp only [List.length_cons]; omega, ⟨by simp only; rw [List.append_assoc, List.singleton_append, ← m1]; exact j1, by simp only [List.length_append, List.length_cons, List.length_nil] at j2 ⊢; omega⟩, by simp only; rw [List.map_append]; exact le_rek 5 54 ⟨rfl, rfl, rfl, trivial⟩ ⟨rfl, trivial⟩ rfl rfl rfl rfl ⟨rfl, trivial⟩⟩)))))
    · rcases r with _ | ⟨y, r⟩
      · simp at c8
      have ey : y = y0 := by have := hy0 (by simp); simpa using this
      subst ey
      have m1 : mg p (y :: r) = y :: mg p r := by
        rcases p with _ | ⟨x, p⟩
        · rw [mg_nil0, mg_nil0]
        · have ex : x = x0 := by have := hx0 (by simp); simpa using this
          subst ex
          rw [Bool.or_eq_false_iff, Bool.and_eq_false_iff] at c8
          refine mg_gt ?_
          rcases c8.2 with c | c
          · exact absurd (of_decide_eq_false c) (by simp)
          · have := of_decide_eq_false c; omega
      have hq : q.length ≤ 2097152 := by omega
      refine ok_seq fun K14 h14 => ?_
      refine ok_region rfl (q_mo _ rfl (q_mv _ rfl (q_ia el123 rfl rfl (by omega) (zget (l := y :: r) (x := y) (fun _ => rfl) (by simp)) (q_lds _ ag122 rfl sz122 (q_lit1 _ (eSample y) el123 ze122 (by decide) (by decide) rfl (.inl ⟨_, rfl⟩) rfl (q_app (q := [eSample y]) _ el123 ze122 rfl by122 rfl rfl rfl rfl rfl (by simp) (by intro s hs; simp at hs; subst hs; exact .inl ⟨_, rfl⟩) (by rw [List.length_map]; show q.length + 1 ≤ maxLen; unfold maxLen; omega) (by rw [List.length_map]; show (q.length + 1) * 16 ≤ _; omega) (
        q_ao _ rfl (run_nil (h14 _ ?_)))))))))
      refine ok_last fun K15 h15 => ok_region rfl (
        q_mv _ rfl (q_tl el123 rfl (q_as _ rfl (run_nil (h15 _ ⟨(p, r, q ++ [y]), by simp only [List.length_cons]; omega, ⟨by simp only; rw [List.append_assoc, List.singleton_append, ← m1]; exact j1, by simp only [List.length_append, List.length_cons, List.length_nil] at j2 ⊢; omega⟩, by simp only; rw [List.map_append]; exact le_rek 5 62 ⟨rfl, rfl, rfl, trivial⟩ ⟨rfl, trivial⟩ rfl rfl rfl rfl ⟨rfl, trivial⟩⟩)))))
  · have hp : p = [] := by
      rcases p with _ | ⟨x, p⟩
      · rfl
      · simp at c6
    have hr : r = [] := by
      rcases r with _ | ⟨x, r⟩
      · rfl
      · simp at c6
    subst hp hr
    rw [mg_nil, List.append_nil] at j1
    refine ok_exit (h3 _ ?_)
    refine ok_seq fun K16 h16 => ok_region rfl (q_mo _ rfl (q_ao _ rfl (run_nil (h16 _ ?_))))
    rw [j1]
    obtain ⟨g1, g2, g3⟩ := gd_flatL (rs := (mg a b).map eSample) (fun r hr => by obtain ⟨y, _, rfl⟩ := List.mem_map.1 hr; rfl)
    refine ok_treed (k := 5) (n := 2) (T := 122) (rs := (mg a b).map eSample) (ss := (mg a b).map eSample) rfl rfl g1 g2 (fun r hr b hb => (g3 r hr b hb).elim) (fun Z v hZ => ?_)
    exact ok_ret ⟨_, ⟨_, _, rfl, rfl, rfl⟩, .tr Z 2 _ v, fun b hb => (hZ b (zn_tr hb)).elim id fun h => h.elim⟩
theorem fstI_ (l : List Sample) (i : Nat) : ∃ x, i < l.length → l[i]? = some x := by
  by_cases h : i < l.length
  · obtain ⟨x, hx⟩ := sget h; exact ⟨x, fun _ => hx⟩
  · exact ⟨⟨0, 0⟩, fun h' => absurd h' h⟩
theorem f206_t (a b : List Sample) (ha : a.length ≤ 1048576) (hb : b.length ≤ 1048576) : PFnT Tryz.prog 206 [eSampleS a, eSampleS b] (eSampleS (mg a b)) := by
  refine fnp_ok (n := 79) Tryz.func206 rfl rfl rfl (Nat.le_of_ble_eq_true rfl) rfl fun w0 O => ?_
  refine ok_seq fun K1 h1 => ok_region rfl (q_as _ rfl (run_nil (h1 _ ?_)))
  refine ok_seq fun K2 h2 => ok_region rfl (q_an (n := 2) 122 (by decide) rfl rfl rfl (run_nil (h2 _ ?_)))
  refine ok_seq fun K3 h3 => ok_region rfl (q_as _ rfl (run_nil (h3 _ ?_)))
  refine ok_seq fun K4 h4 => ok_region rfl (q_as _ rfl (run_nil (h4 _ ?_)))
  refine ok_seq fun K5 h5 => ?_
  refine ok_block ?_
  refine ok_loop (fun (s : Nat × Nat × List Sample) => ⟨[(0, .sv (eSampleS a)), (1, .sv (eSampleS b)), (5, .own 5), (6, .sv (int s.1)), (7, .sv (int s.2.1))], [(5, .row 2 122 (s.2.2.map eSample))]⟩) (fun s => s.2.2 ++ mg (a.drop s.1) (b.drop s.2.1) = mg a b ∧ s.1 ≤ a.length ∧ s.2.1 ≤ b.length ∧ s.2.2.length ≤ s.1 + s.2.1) (fun s => (a.length - s.1) + (b.length - s.2.1)) (0, 0, []) ⟨rfl, Nat.zero_le _, Nat.zero_le _, Nat.le_refl _⟩ (le_sub ⟨rfl, rfl, rfl, rfl, rfl, trivial⟩ ⟨rfl, trivial⟩) (fun s J => ?_)
  obtain ⟨i, k, q⟩ := s
  obtain ⟨j1, j2, j3, j4⟩ := J
  simp only at j1 j2 j3 j4
  obtain ⟨x, hx⟩ := fstI_ a i
  obtain ⟨y, hy⟩ := fstI_ b k
  refine ok_seq fun K6 h6 => ?_
  refine ok_seq fun K7 h7 => ?_
  refine ok_region rfl (q_mv _ rfl (q_mv _ rfl (q_len eS123 rfl (q_bin _ _ _ rfl rfl rfl (q_mv _ rfl (q_or 4 4 rfl rfl rfl rfl rfl (fun hb17 =>
      q_mv _ rfl (q_mv _ rfl (q_len eS123 rfl (q_bin _ _ _ rfl rfl rfl (run_nil ⟨rfl, rfl, rfl, rfl⟩))))) (
    run_nil (h7 _ ?_))))))))
  refine ok_cond rfl (fun c8 => ?_) (fun c8 => ?_)
  · refine ok_skip (h6 _ ?_)
    refine ok_block ?_
    refine ok_seq fun K9 h9 => ?_
    refine ok_region_i (by kernel_rfl) (by kernel_rfl) rfl (
      q_mv _ rfl (q_mv _ rfl (q_len eS123 rfl (q_bin _ _ _ rfl rfl rfl (q_mv _ rfl (q_or 17 6 rfl rfl rfl rfl rfl (fun hb40 =>
        q_mv _ rfl (q_mv _ rfl (q_len eS123 rfl (q_bin _ _ _ rfl rfl rfl (q_mv _ rfl (q_and 11 11 rfl rfl rfl rfl rfl (fun hb39 =>
          q_mv _ rfl (q_mv _ rfl (q_ia el123 rfl rfl (by omega) (mget (f := eSample) (hx (by have h : ((i : Nat) : Int) < ((a.map eSample).length : Int) := of_decide_eq_true hb39; rw [List.length_map] at h; omega))) (q_fa _ fd122_0 rfl rfl (by decide) (q_ld _ ag3 rfl rfl (q_mv _ rfl (q_mv _ rfl (q_ia el123 rfl rfl (by omega) (mget (f := eSample) (hy (by have h : ¬ ((k : Nat) : Int) = ((b.map eSample).length : Int) := of_decide_eq_false hb40; rw [List.length_map] at h; omega))) (
          q_fa _ fd122_0 rfl rfl (by decide) (q_ld _ ag3 rfl rfl (q_bin _ _ _ rfl rfl rfl (run_nil ⟨rfl, rfl, rfl, rfl⟩)))))))))))) (
        run_nil ⟨rfl, rfl, rfl, rfl⟩))))))) (
      run_nil (h9 _ ?_))))))))
    simp only [List.length_map] at c8
    refine ok_cond rfl (fun c10 => ?_) (fun c10 => ?_)
    · simp only [List.length_map, Bool.or_eq_true, Bool.and_eq_true, decide_eq_true_eq] at c8 c10
      have hi : i < a.length := by omega
      have hxi := hx hi
      have da := drop_cons hxi
      refine ok_seq_join (fun (v : Nat) => ⟨[(0, .sv (eSampleS a)), (1, .sv (eSampleS b)), (5, .own 5), (6, .sv (int i)), (7, .sv (int v))], [(5, .row 2 122 (q.map eSample))]⟩) (fun v => mg (a.drop i) (b.drop k) = x :: mg (a.drop (i + 1)) (b.drop v) ∧ k ≤ v ∧ v ≤ b.length) ?_ (fun v J => ?_)
      · refine ok_seq fun K11 h11 => ?_
        refine ok_region_i (by kernel_rfl) (by kernel_rfl) rfl (
          q_mv _ rfl (q_mv _ rfl (q_len eS123 rfl (q_bin _ _ _ rfl rfl rfl (q_mv _ rfl (q_and 11 11 rfl rfl rfl rfl rfl (fun hb57 =>
            q_mv _ rfl (q_mv _ rfl (q_ia el123 rfl rfl (by omega) (mget (f := eSample) hxi) (q_fa _ fd122_0 rfl rfl (by decide) (q_ld _ ag3 rfl rfl (q_mv _ rfl (q_mv _ rfl (q_ia el123 rfl rfl (by omega) (mget (f := eSample) (hy (by have h : ((k : Nat) : Int) < ((b.map eSample).length : Int) := of_decide_eq_true hb57; rw [List.length_map] at h; omega))) (
            q_fa _ fd122_0 rfl rfl (by decide) (q_ld _ ag3 rfl rfl (q_bin _ _ _ rfl rfl rfl (run_nil ⟨rfl, rfl, rfl, rfl⟩)))))))))))) (
          run_nil (h11 _ ?_))))))))
        refine ok_cond rfl (fun c12 => ?_) (fun c12 => ?_)
        · simp only [List.length_map, Bool.and_eq_true, decide_eq_true_eq] at c12
          have hk : k < b.length := by omega
          refine ok_last fun K13 h13 => ok_region rfl (
            q_mv _ rfl (q_add rfl rfl (by show -9223372036854775808 ≤ (k : Int) + 1 ∧ (k : Int) + 1 ≤ 9223372036854775807; omega) (q_as _ rfl (run_nil (h13 _ ⟨k + 1, ⟨by rw [da, drop_cons (hy hk)]; exact mg_eq c12.2, by omega, by omega⟩, le_sub ⟨rfl, rfl, rfl, rfl, rfl, trivial⟩ ⟨rfl, trivial⟩⟩)))))
        · refine ok_skip ⟨k, ⟨?_, Nat.le_refl _, j3⟩, le_sub ⟨rfl, rfl, rfl, rfl, rfl, trivial⟩ ⟨rfl, trivial⟩⟩
          rw [Bool.and_eq_false_iff] at c12
          simp only [List.length_map, decide_eq_false_iff_not] at c12
          rw [da]
          rcases Nat.lt_or_ge k b.length with hk | hk
          · rw [drop_cons (hy hk)]
            exact mg_lt (by omega)
          · rw [List.drop_of_length_le hk, mg_nil, mg_nil]
      · obtain ⟨m1, m2, m3⟩ := J
        refine ok_seq fun K14 h14 => ?_
        refine ok_region rfl (q_mo _ rfl (q_mv _ rfl (q_mv _ rfl (q_ia el123 rfl rfl (by omega) (mget (f := eSample) hxi) (q_lds _ ag122 rfl sz122 (q_lit1 _ (eSample x) el123 ze122 (by decide) (by decide) rfl (.inl ⟨_, rfl⟩) rfl (
          q_app (q := [eSample x]) _ el123 ze122 rfl by122 rfl rfl rfl rfl rfl (by simp) (by intro s hs; simp at hs; subst hs; exact .inl ⟨_, rfl⟩) (by rw [List.length_map]; show q.length + 1 ≤ maxLen; unfold maxLen; omega) (by rw [List.length_map]; show (q.length + 1) * 16 ≤ _; omega) (q_ao _ rfl (run_nil (h14 _ ?_))))))))))
        refine ok_last fun K15 h15 => ok_region rfl (
          q_mv _ rfl (q_add rfl rfl (by omega) (q_as _ rfl (run_nil (h15 _ ⟨(i + 1, v, q ++ [x]), by simp only; omega, ⟨by simp only; rw [List.append_assoc, List.singleton_append, ← m1]; exact j1, by simp only; omega, m3, by simp only [List.length_append, List.length_cons, List.length_nil]; omega⟩, by simp only; rw [List.map_append]; exact le_rek 5 66 ⟨rfl, rfl, rfl, rfl, rfl, trivial⟩ ⟨rfl, trivial⟩ rfl rfl rfl rfl ⟨rfl, trivial⟩⟩)))))
    · simp only [List.length_map, Bool.or_eq_true, Bool.or_eq_false_iff, Bool.and_eq_false_iff, decide_eq_true_eq, decide_eq_false_iff_not] at c8 c10
      have hk : k < b.length := by omega
      have hyk := hy hk
      have m1 : mg (a.drop i) (b.drop k) = y :: mg (a.drop i) (b.drop (k + 1)) := by
        rw [drop_cons hyk]
        rcases Nat.lt_or_ge i a.length with hi | hi
        · rw [drop_cons (hx hi)]
          exact mg_gt (by omega)
        · rw [List.drop_of_length_le hi, mg_nil0, mg_nil0]
      refine ok_seq fun K16 h16 => ?_
      refine ok_region rfl (q_mo _ rfl (q_mv _ rfl (q_mv _ rfl (q_ia el123 rfl rfl (by omega) (mget (f := eSample) hyk) (q_lds _ ag122 rfl sz122 (q_lit1 _ (eSample y) el123 ze122 (by decide) (by decide) rfl (.inl ⟨_, rfl⟩) rfl (
        q_app (q := [eSample y]) _ el123 ze122 rfl by122 rfl rfl rfl rfl rfl (by simp) (by intro s hs; simp at hs; subst hs; exact .inl ⟨_, rfl⟩) (by rw [List.length_map]; show q.length + 1 ≤ maxLen; unfold maxLen; omega) (by rw [List.length_map]; show (q.length + 1) * 16 ≤ _; omega) (q_ao _ rfl (run_nil (h16 _ ?_))))))))))
      refine ok_last fun K17 h17 => ok_region rfl (
        q_mv _ rfl (q_add rfl rfl (by show -9223372036854775808 ≤ (k : Int) + 1 ∧ (k : Int) + 1 ≤ 9223372036854775807; omega) (q_as _ rfl (run_nil (h17 _ ⟨(i, k + 1, q ++ [y]), by simp only; omega, ⟨by simp only; rw [List.append_assoc, List.singleton_append, ← m1]; exact j1, j2, by simp only; omega, by simp only [List.length_append, List.length_cons, List.length_nil]; omega⟩, by simp only; rw [List.map_append]; exact le_rek 5 75 ⟨rfl, rfl, rfl, rfl, rfl, trivial⟩ ⟨rfl, trivial⟩ rfl rfl rfl rfl ⟨rfl, trivial⟩⟩)))))
  · simp only [List.length_map, Bool.or_eq_false_iff, decide_eq_false_iff_not] at c8
    rw [List.drop_of_length_le (by omega : a.length ≤ i), List.drop_of_length_le (by omega : b.length ≤ k), mg_nil, List.append_nil] at j1
    refine ok_exit (h5 _ ?_)
    refine ok_seq fun K18 h18 => ok_region rfl (q_mo _ rfl (q_ao _ rfl (run_nil (h18 _ ?_))))
    rw [j1]
    obtain ⟨g1, g2, g3⟩ := gd_flatL (rs := (mg a b).map eSample) (fun r hr => by obtain ⟨y, _, rfl⟩ := List.mem_map.1 hr; rfl)
    refine ok_treed (k := 5) (n := 2) (T := 122) (rs := (mg a b).map eSample) (ss := (mg a b).map eSample) rfl rfl g1 g2 (fun r hr b hb => (g3 r hr b hb).elim) (fun Z v hZ => ?_)
    exact ok_ret ⟨_, ⟨_, _, rfl, rfl, rfl⟩, .tr Z 2 _ v, fun b hb => (hZ b (zn_tr hb)).elim id fun h => h.elim⟩
end Go.Ring

/- Samples joined, of two at one time the greater: program and reference. No condition beyond the sizes. -/
set_option maxRecDepth 100000
set_option linter.unusedVariables false
set_option linter.unusedSimpArgs false
namespace Go.Ring
open Go Go.RowKit Go.Eager Go.Abs Go.Proofs
def lowS (p : Int) : List Sample → Nat
  | [] => 0
  | t :: r => if t.time < p then lowS p r + 1 else 0
theorem lowS_eq (p : Int) : ∀ (S : List Sample) (k : Nat), k ≤ S.length → (∀ i x, i < k → S[i]? = some x → x.time < p) → (∀ x, S[k]? = some x → ¬ x.time < p) → lowS p S = k
  | [], k, h, _, _ => by simp at h; subst h; rfl
  | t :: r, 0, _, _, h2 => by have := h2 t rfl; unfold lowS; rw [if_neg this]
  | t :: r, k + 1, h, h1, h2 => by
    have := h1 0 t (by omega) rfl
    unfold lowS
    rw [if_pos this, lowS_eq p r k (by simpa using h) (fun i x hi hx => h1 (i + 1) x (by omega) hx) (fun x hx => h2 x hx)]
theorem f257_ok (t : Sample) (p : Int) : PFn Tryz.prog 257 [eSample t, int p] (int (cmpI t.time p)) := by
  refine fn_ok' (n := 9) Tryz.func257 rfl rfl rfl (Nat.le_of_ble_eq_true rfl) rfl fun w0 O => ?_
  refine ok_seq fun K1 h1 => ok_region rfl (q_boxs _ rfl (Nat.zero_lt_succ _) (q_as _ rfl (run_nil (h1 _ ?_))))
  refine ok_seq fun K2 h2 => ok_region rfl (q_fa _ fd122_0 rfl rfl (by decide) (q_ld _ ag3 rfl rfl (q_mv _ rfl (q_call (f157_c t.time p) cl157 rfl rfl (q_as _ rfl (run_nil (h2 _ ?_)))))))
  refine ok_ret ⟨_, rfl, ?_⟩
  rfl
def fndS (p : Int) (S : List Sample) : Bool := match S[lowS p S]? with | some t => decide (cmpI t.time p = 0) | none => false
theorem f256_ok (S : List Sample) (hl1 : S.length ≤ 1048576) (hs : S.Pairwise fun a b => a.time < b.time) (p : Int) : PFn Tryz.prog 256 [eSampleS S, int p, fw 257] (.tup [int (lowS p S), bool (fndS p S)]) := by
  have hs' : ∀ (i j : Nat) (x y : Sample), i < j → S[i]? = some x → S[j]? = some y → x.time < y.1 := by
    intro i j x y hij hx hy
    obtain ⟨hi, rfl⟩ := List.getElem?_eq_some_iff.1 hx
    obtain ⟨hj, rfl⟩ := List.getElem?_eq_some_iff.1 hy
    exact List.pairwise_iff_getElem.1 hs i j hi hj hij
  refine fn_ok' (n := 49) Tryz.func256 rfl rfl rfl (Nat.le_of_ble_eq_true rfl) rfl fun w0 O => ?_
  refine ok_seq fun K1 h1 => ok_region rfl (q_as _ rfl (q_as _ rfl (run_nil (h1 _ ?_))))
  refine ok_seq fun K2 h2 => ok_region rfl (q_mv _ rfl (q_len eS123 rfl (q_as _ rfl (run_nil (h2 _ ?_)))))
  rw [List.length_map]
  refine ok_seq fun K3 h3 => ok_region rfl (q_mv _ rfl (q_as _ rfl (q_as _ rfl (run_nil (h3 _ ?_)))))
  refine ok_seq fun K4 h4 => ?_
  refine ok_block ?_
  refine ok_loop (fun (s : Nat × Nat) => ⟨[(0, .sv (eSampleS S)), (1, .sv (int p)), (2, .sv (fw 257)), (8, .sv (int S.length)), (9, .sv (int s.1)), (10, .sv (int s.2))], []⟩) (fun s => s.1 ≤ s.2 ∧ s.2 ≤ S.length ∧ (∀ i x, i < s.1 → S[i]? = some x → x.time < p) ∧ (∀ i x, s.2 ≤ i → S[i]? = some x → ¬ x.time < p)) (fun s => s.2 - s.1) (0, S.length) ⟨Nat.zero_le _, Nat.le_refl _, fun i x h => by simp only at h; omega, fun i x h hx => by have := slt hx; simp only at h; omega⟩ (le_same ⟨rfl, rfl, rfl, rfl, rfl, rfl, trivial⟩) (fun s J => ?_)
  obtain ⟨lo, hi⟩ := s
  obtain ⟨j1, j2, j3, j4⟩ := J
  simp only at j1 j2 j3 j4
  refine ok_seq fun K5 h5 => ?_
  refine ok_seq fun K6 h6 => ok_region rfl (q_mv _ rfl (q_mv _ rfl (q_bin _ _ _ rfl rfl rfl (run_nil (h6 _ ?_)))))
  refine ok_cond rfl (fun c7 => ?_) (fun c7 => ?_)
  · refine ok_skip (h5 _ ?_)
    have c := of_decide_eq_true c7
    obtain ⟨mid, hmid, hm1, hm2⟩ : ∃ mid : Nat, ((lo : Int) + hi) / 2 = mid ∧ lo ≤ mid ∧ mid < hi := ⟨(lo + hi) / 2, by omega, by omega, by omega⟩
    obtain ⟨u, hu⟩ := sget (l := S) (i := mid) (by omega)
    refine ok_block ?_
    refine ok_seq fun K8 h8 => ok_region rfl (q_mv _ rfl (q_mv _ rfl (q_add rfl rfl (by omega) (q_cv aS3 ik172 rfl (IntWalk.u64_in _ (by omega)) (q_bin (.int .u64 ((lo : Int) + hi)) (.int .u64 1) (.int .u64 (mid : Int)) rfl rfl (shr1w hmid) (q_cv aS172 ik3 rfl (IntWalk.i64_in _ (by omega)) (q_as _ rfl (run_nil (h8 _ ?_)))))))))
    refine ok_seq fun K9 h9 => ok_region rfl (q_mv _ rfl (q_mv _ rfl (q_mv _ rfl (q_ia el123 rfl rfl (by omega) (mget (f := eSample) hu) (q_lds _ ag122 rfl sz122 (q_mv _ rfl (q_callv (f257_ok u p) cl257 rfl rfl rfl (q_bin _ _ _ rfl rfl rfl (run_nil (h9 _ ?_))))))))))
    refine ok_cond rfl (fun c10 => ?_) (fun c10 => ?_)
    · have d := cmpI_neg.1 (of_decide_eq_true c10)
      refine ok_last fun K20 h20 => ok_region rfl (q_mv _ rfl (q_add rfl rfl (by omega) (q_as _ rfl (run_nil (h20 _ ⟨(mid + 1, hi), by simp only; omega, ⟨by simp only; omega, j2, ?_, j4⟩, le_same ⟨rfl, rfl, rfl, rfl, rfl, rfl, trivial⟩⟩)))))
      intro i x hi hx
      rcases Nat.lt_or_ge i mid with h | h
      · have := hs' i mid x u h hx hu; omega
      · simp only at hi; obtain rfl : i = mid := by omega
        rw [hu] at hx; cases hx; exact d
    · have d : ¬ u.time < p := fun h => of_decide_eq_false c10 (cmpI_neg.2 h)
      refine ok_last fun K20 h20 => ok_region rfl (q_mv _ rfl (q_as _ rfl (run_nil (h20 _ ⟨(lo, mid), by simp only; omega, ⟨hm1, by simp only; omega, j3, ?_⟩, le_same ⟨rfl, rfl, rfl, rfl, rfl, rfl, trivial⟩⟩))))
      intro i x hi hx d'
      simp only at hi
      rcases Nat.lt_or_ge mid i with h | h
      · have := hs' mid i u x h hu hx; omega
      · obtain rfl : i = mid := by omega
        rw [hu] at hx; cases hx; exact d d'
  · refine ok_exit (h4 _ ?_)
    have c := of_decide_eq_false c7
    obtain rfl : lo = hi := by omega
    have e := lowS_eq p S lo j2 j3 (fun x hx => j4 lo x (Nat.le_refl _) hx)
    obtain ⟨v, hv⟩ : ∃ v : Sample, lo < S.length → S[lo]? = some v := by
      rcases Nat.lt_or_ge lo S.length with h | h
      · obtain ⟨v, hv⟩ := sget h; exact ⟨v, fun _ => hv⟩
      · exact ⟨⟨0, 0⟩, fun h' => by omega⟩
    refine ok_seq fun K11 h11 => ?_
    refine ok_region rfl (q_mv _ rfl (q_mv _ rfl (q_mv _ rfl (q_bin _ _ _ rfl rfl rfl (q_mv _ rfl (q_and 8 8 rfl rfl rfl rfl rfl (fun hb48 =>
        q_mv _ rfl (q_mv _ rfl (q_mv _ rfl (q_ia el123 rfl rfl (by omega) (mget (f := eSample) (hv (by have := of_decide_eq_true hb48; omega))) (q_lds _ ag122 rfl sz122 (q_mv _ rfl (q_callv (f257_ok v p) cl257 rfl rfl rfl (q_bin _ _ _ rfl rfl rfl (run_nil ⟨rfl, rfl, rfl, rfl⟩))))))))) (
      q_as _ rfl (q_as _ rfl (run_nil (h11 _ ?_))))))))))
    refine ok_ret ⟨_, rfl, ?_⟩
    have : (decide ((lo : Int) < S.length) && decide (cmpI v.time p = 0)) = fndS p S := by
      unfold fndS
      rw [e]
      rcases Nat.lt_or_ge lo S.length with h | h
      · rw [hv h, decide_eq_true (by omega)]; rfl
      · rw [List.getElem?_eq_none h, decide_eq_false (by omega)]; rfl
    rw [← this, e]; rfl


theorem f217_ok (S : List Sample) (hl1 : S.length ≤ 1048576) (hs : SrtS S) (p : Int) : PFn Tryz.prog 217 [eSampleS S, int p] (.tup [int (lowS p S), bool (fndS p S)]) := by
  refine fn_ok' (n := 11) Tryz.func217 rfl rfl rfl (Nat.le_of_ble_eq_true rfl) rfl fun w0 O => ?_
  refine ok_seq fun K1 h1 => ok_region rfl (q_as _ rfl (q_as _ rfl (run_nil (h1 _ ?_))))
  refine ok_seq fun K2 h2 => ok_region rfl (q_mv _ rfl (q_mv _ rfl (q_call (f256_ok S hl1 hs p) cl256 rfl rfl (q_ext _ rfl rfl (q_ext _ rfl rfl (q_as _ rfl (q_as _ rfl (run_nil (h2 _ ?_)))))))))
  exact ok_ret ⟨_, rfl, rfl⟩
theorem vat_app {t : Int} : ∀ (a b : List Sample), vat t (a ++ b) = (vat t a).or (vat t b)
  | [], b => by simp [vat]
  | x :: a, b => by
    simp only [List.cons_append, vat]
    split
    · simp
    · exact vat_app a b
theorem vat_no {t : Int} : ∀ {l : List Sample}, (∀ x ∈ l, x.time ≠ t) → vat t l = none
  | [], _ => rfl
  | s :: l, h => by
    unfold vat
    rw [if_neg (h s (List.mem_cons_self ..))]
    exact vat_no fun x hx => h x (List.mem_cons_of_mem _ hx)
theorem vat_take {t : Int} {b : List Sample} {k : Nat} {s : Sample} (h : b[k]? = some s) : vat t (b.take (k + 1)) = (vat t (b.take k)).or (if s.time = t then some s.value else none) := by
  rw [List.take_add_one, h, Option.toList_some, vat_app]
  simp only [vat]
theorem srt_get {l : List Sample} (h : SrtS l) {i j : Nat} {x y : Sample} (hij : i < j) (hx : l[i]? = some x) (hy : l[j]? = some y) : x.time < y.time := by
  obtain ⟨hi, rfl⟩ := List.getElem?_eq_some_iff.1 hx
  obtain ⟨hj, rfl⟩ := List.getElem?_eq_some_iff.1 hy
  exact List.pairwise_iff_getElem.1 h i j hi hj hij
theorem gB_step {b : List Sample} (sb : SrtS b) {k : Nat} {s : Sample} (h : b[k]? = some s) (x : Sample) : gB (b.take (k + 1)) x = if x.time = s.time then ⟨x.time, if x.value < s.value then s.value else x.value⟩ else gB (b.take k) x := by
  unfold gB
  rw [vat_take h]
  by_cases e : x.time = s.time
  · have e0 : vat x.time (b.take k) = none := vat_no fun y hy e2 => by
      obtain ⟨j, hj⟩ := List.getElem?_of_mem hy
      have hjl := slt hj
      rw [List.length_take] at hjl
      rw [List.getElem?_take, if_pos (by omega)] at hj
      have := srt_get sb (show j < k by omega) hj h
      omega
    rw [e0, if_pos e.symm, if_pos e]
    rfl
  · rw [if_neg (fun e2 => e e2.symm), if_neg e, Option.or_none]
theorem gB_same {b : List Sample} (sb : SrtS b) {k : Nat} {s : Sample} (h : b[k]? = some s) {x : Sample} (e : x.time = s.time) : gB (b.take k) x = x := by
  unfold gB
  rw [vat_no (t := x.time) (l := b.take k) (fun y hy e2 => by
    obtain ⟨j, hj⟩ := List.getElem?_of_mem hy
    have hjl := slt hj
    rw [List.length_take] at hjl
    rw [List.getElem?_take, if_pos (by omega)] at hj
    have := srt_get sb (show j < k by omega) hj h
    omega)]
theorem gr_at {a b : List Sample} (sa : SrtS a) (sb : SrtS b) {k : Nat} {s : Sample} (h : b[k]? = some s) :
    ∃ (i : Nat) (x : Sample), (mg a b)[i]? = some x ∧ x.time = s.time ∧ ((mg a b).map (gB (b.take k)))[i]? = some x ∧ lowS s.time ((mg a b).map (gB (b.take k))) = i ∧ fndS s.time ((mg a b).map (gB (b.take k))) = true ∧
      ((mg a b).map (gB (b.take k))).set i ⟨x.time, if x.value < s.value then s.value else x.value⟩ = (mg a b).map (gB (b.take (k + 1))) := by
  have hM := mg_srt sa sb
  have hv : vat s.time b ≠ none := by
    obtain ⟨h1, h2⟩ : vat s.time (b.take (k + 1)) = some s.value ∧ True := by
      rw [vat_take h, if_pos rfl, vat_no (l := b.take k) (fun y hy e2 => by
        obtain ⟨j, hj⟩ := List.getElem?_of_mem hy
        have hjl := slt hj
        rw [List.length_take] at hjl
        rw [List.getElem?_take, if_pos (by omega)] at hj
        have := srt_get sb (show j < k by omega) hj h
        omega)]
      exact ⟨rfl, trivial⟩
    have e := vat_app (t := s.time) (b.take (k + 1)) (b.drop (k + 1))
    rw [List.take_append_drop, h1] at e
    rw [e]; simp
  obtain ⟨x, hx, hxt⟩ : ∃ x ∈ mg a b, x.time = s.time := by
    have e := vat_mg (t := s.time) sa sb
    cases hq : vat s.time (mg a b) with
    | none =>
      rw [hq] at e
      cases ha : vat s.time a with
      | none => rw [ha] at e; simp at e; exact absurd e.symm hv
      | some v => rw [ha] at e; simp at e
    | some v => obtain ⟨x, hx, h1, _⟩ := vat_get hq; exact ⟨x, hx, h1⟩
  obtain ⟨i, hi⟩ := List.getElem?_of_mem hx
  have hgi : ((mg a b).map (gB (b.take k)))[i]? = some x := by rw [List.getElem?_map, hi, Option.map_some, gB_same sb h hxt]
  have hlow : lowS s.time ((mg a b).map (gB (b.take k))) = i := by
    refine lowS_eq _ _ i (by have := slt hgi; omega) (fun j y hj hy => ?_) (fun y hy => ?_)
    · rw [List.getElem?_map] at hy
      cases hq : (mg a b)[j]? with
      | none => rw [hq] at hy; simp at hy
      | some z =>
        rw [hq] at hy; simp at hy; subst hy
        rw [gB_time]
        have := srt_get hM hj hq hi
        omega
    · rw [hgi] at hy; cases hy; omega
  refine ⟨i, x, hi, hxt, hgi, hlow, ?_, ?_⟩
  · unfold fndS
    rw [hlow, hgi]
    simp [cmpI, hxt]
  · refine List.ext_getElem? fun j => ?_
    rw [List.getElem?_set]
    by_cases e : i = j
    · subst e
      rw [if_pos rfl, if_pos (slt hgi), List.getElem?_map, hi, Option.map_some, gB_step sb h, if_pos hxt]
    · rw [if_neg e, List.getElem?_map, List.getElem?_map]
      cases hq : (mg a b)[j]? with
      | none => rfl
      | some z =>
        have hne : ¬ (z.time = s.time) := fun e2 => by
          rcases Nat.lt_or_gt_of_ne e with c | c
          · have := srt_get hM c hi hq; omega
          · have := srt_get hM c hq hi; omega
        rw [Option.map_some, Option.map_some, gB_step sb h, if_neg hne]
theorem gB_nil (x : Sample) : gB [] x = x := rfl
theorem otr_flat {α : Type} {f : α → SV} {Z : Nat → Prop} {rs : List SV} {l : List α} (h : Otr Z rs (l.map f)) (hf : ∀ x, flatV (f x) = true) : rs = l.map f := by
  refine List.ext_getElem? fun i => ?_
  cases hq : rs[i]? with
  | none =>
    have : ¬ i < rs.length := fun hlt => by rw [List.getElem?_eq_getElem hlt] at hq; cases hq
    rw [h.len] at this
    exact (List.getElem?_eq_none (by omega)).symm
  | some r =>
    have hlt := slt hq
    rw [h.len, List.length_map] at hlt
    obtain ⟨x, hx⟩ := sget (l := l) hlt
    have hs := mget (f := f) hx
    rw [hs, flat_eq (hf x) (h.gd i r _ hq hs)]
theorem flat_sample (x : Sample) : flatV (eSample x) = true := rfl
theorem mg_empty {a b : List Sample} (h : b ≠ []) : mg a b ≠ [] := fun e => mg_ne (a := a) (fun h0 => h (List.eq_nil_of_length_eq_zero h0)) (by rw [e]; rfl)
theorem f164_t (a b : List Sample) (hl : a.length + b.length ≤ 1048576) (sa : SrtS a) (sb : SrtS b) : PFnT Tryz.prog 164 [eSampleS a, eSampleS b] (eSampleS (grM a b)) := by
  refine fnp_ok (n := 41) Tryz.func164 rfl rfl rfl (Nat.le_of_ble_eq_true rfl) rfl fun w0 O => ?_
  have hml := mg_len a b
  refine ok_seq fun K1 h1 => ok_region rfl (q_as _ rfl (run_nil (h1 _ ?_)))
  refine ok_seq fun K2 h2 => ?_
  refine ok_region rfl (q_mv _ rfl (q_mv _ rfl (q_callg [1] (f216_t a b (by omega) (by omega)) cl216 ⟨.inl rfl, .inl rfl, trivial⟩ (fun r hr hz ha => ?_))))
  obtain ⟨Z0, v0, rfl⟩ := gd_sl_inv hr
  refine q_as _ rfl (run_nil (h2 _ ?_))
  refine Ok.le (le_sub (t' := [(1, .av (fun q => Zn q (.tr Z0 (eSampleS (mg a b)) v0)) (eSampleS b)), (5, .sv (.tr Z0 (eSampleS (mg a b)) v0))]) (h' := []) ⟨rfl, rfl, trivial⟩ trivial) ?_
  by_cases hb : b = []
  · subst hb
    have e : grM a [] = mg a [] := by unfold grM; exact (List.map_congr_left fun x _ => gB_nil x).trans (List.map_id _)
    rw [e]
    refine Ok.le le_unav ?_
    refine ok_seq fun K4 h4 => ?_
    refine ok_seq fun K3 h3 => ok_region rfl (q_mv _ rfl (q_len eS123 rfl (q_mv _ rfl (run_nil (h3 _ ?_)))))
    refine ok_block ?_
    refine ok_loop (fun (k : Nat) => ⟨[(5, .sv (.tr Z0 (eSampleS (mg a [])) v0)), (14, .sv (int 0)), (15, .sv (int 0))], []⟩) (fun k => True) (fun k => k) 0 trivial (le_sub ⟨rfl, rfl, rfl, trivial⟩ trivial) (fun k J => ?_)
    refine ok_seq fun K5 h5 => ok_region rfl (q_bin _ _ _ rfl rfl rfl (run_nil (h5 _ ?_)))
    refine ok_seq fun K6 h6 => ?_
    refine ok_cond rfl (fun c7 => ?_) (fun c7 => ?_)
    · exact absurd c7 (by simp)
    · refine ok_exit (h4 _ ?_)
      refine ok_seq fun K8 h8 => ok_region rfl (q_mv _ rfl (q_as _ rfl (run_nil (h8 _ ?_))))
      exact ok_ret ⟨_, ⟨_, _, rfl, rfl, rfl⟩, .tr _ _ _ _, hz⟩
  · have hne : (mg a b).map eSample ≠ [] := fun h => mg_empty (a := a) hb (List.map_eq_nil_iff.1 h)
    refine ok_otr 5 100 rfl hne (fun q hq => .inl (hz q (.tr _ _ _ hq))) rfl rfl ⟨fun q hq => .tr _ _ _ hq, trivial⟩ trivial (fun T rs hO => ?_)
    have hrs := otr_flat hO flat_sample
    subst hrs
    refine Ok.le le_unav ?_
    refine ok_seq fun K4 h4 => ?_
    refine ok_seq fun K3 h3 => ok_region rfl (q_mv _ rfl (q_len eS123 rfl (q_mv _ rfl (run_nil (h3 _ ?_)))))
    rw [List.length_map]
    refine ok_block ?_
    refine ok_loop (fun (k : Nat) => ⟨[(5, .own 100), (13, .sv (eSampleS b)), (14, .sv (int b.length)), (15, .sv (int k))], [(100, .row 2 T (((mg a b).map (gB (b.take k))).map eSample))]⟩) (fun k => True) (fun k => b.length - k) 0 trivial (le_sub ⟨rfl, rfl, rfl, rfl, trivial⟩ ⟨by rw [List.take_zero, show (mg a b).map (gB []) = mg a b from (List.map_congr_left fun x _ => gB_nil x).trans (List.map_id _)]; rfl, trivial⟩) (fun k J => ?_)
    refine ok_seq fun K5 h5 => ok_region rfl (q_bin _ _ _ rfl rfl rfl (run_nil (h5 _ ?_)))
    refine ok_seq fun K6 h6 => ?_
    refine ok_cond rfl (fun c7 => ?_) (fun c7 => ?_)
    · refine ok_skip (h6 _ ?_)
      have hk : k < b.length := by simpa using c7
      obtain ⟨s, hs⟩ := sget hk
      obtain ⟨i, x, g1, g2, g3, g4, g5, g6⟩ := gr_at sa sb hs
      have gS : SrtS ((mg a b).map (gB (b.take k))) := map_srt (mg_srt sa sb)
      have gL : ((mg a b).map (gB (b.take k))).length ≤ 1048576 := by rw [List.length_map]; omega
      generalize (mg a b).map (gB (b.take k)) = M at *
      have hil := slt g3
      refine ok_seq fun K8 h8 => ?_
      refine ok_block ?_
      refine ok_seq fun K9 h9 => ok_region rfl (q_ia el123 rfl rfl (by omega) (mget (f := eSample) hs) (q_lds _ ag122 rfl sz122 (q_alloc _ ze122 rfl rfl rfl rfl (q_sts _ rfl rfl rfl sz122 (Nat.le_of_ble_eq_true rfl) rfl (run_nil (h9 _ ?_))))))
      refine ok_seq fun K10 h10 => ?_
      refine ok_region rfl (q_mo _ rfl (q_fap fd122_0 rfl (by decide) (q_ldb (.sv (int s.time)) ag3 rfl rfl rfl (q_call (f217_ok M gL gS s.time) cl217 rfl rfl (q_mv _ rfl (q_ext _ rfl rfl (q_ext _ rfl rfl (q_as _ rfl (q_as _ rfl (run_nil (h10 _ ?_)))))))))))
      rw [g4, g5]
      refine ok_seq fun K11 h11 => ok_region rfl (q_mv _ rfl (run_nil (h11 _ ?_)))
      refine ok_cond rfl (fun c12 => ?_) (fun c12 => ?_)
      · refine ok_last fun K13 h13 => ok_region_i (by kernel_rfl) (by kernel_rfl) rfl (
          q_mo _ rfl (q_mv _ rfl (q_mo _ rfl (q_mv _ rfl (q_iao el123 rfl rfl rfl (by omega) (by rw [List.length_map]; exact hil) (q_fae fd122_1 rfl (by decide) (q_ldef (int x.value) ag3 rfl rfl (mget (f := eSample) g3) rfl (q_fap fd122_1 rfl (by decide) (q_ldb (.sv (int s.value)) ag3 rfl rfl rfl (
          q_max rfl rfl (q_iao el123 rfl rfl rfl (by omega) (by rw [List.length_map]; exact hil) (q_fae fd122_1 rfl (by decide) (q_stef sz3 rfl rfl (mget (f := eSample) g3) (by show 1 < 2; omega) rfl rfl rfl (run_nil (h13 _ (h8 _ ?_))))))))))))))))
        refine ok_last fun K14 h14 => ok_region rfl (q_add rfl rfl (by omega) (q_mv _ rfl (run_nil (h14 _ ⟨k + 1, by omega, trivial, le_sub ⟨rfl, rfl, rfl, rfl, trivial⟩ ⟨?_, trivial⟩⟩))))
        rw [← g6, List.map_set]
        rfl
      · exact absurd c12 (by simp)
    · rw [List.take_of_length_le (by have : ¬ ((k : Int) < b.length) := by simpa using c7
                                     omega)]
      refine ok_exit (h4 _ ?_)
      refine ok_seq fun K15 h15 => ok_region rfl (q_mo _ rfl (q_ao _ rfl (run_nil (h15 _ ?_))))
      obtain ⟨f1, f2, f3⟩ := gd_flatL (rs := (grM a b).map eSample) (fun r hr => by obtain ⟨x, _, rfl⟩ := List.mem_map.1 hr; exact flat_sample x)
      refine ok_treed (k := 100) (n := 2) (T := T) (rs := (grM a b).map eSample) (ss := (grM a b).map eSample) rfl rfl f1 f2 (fun r hr b hb => (f3 r hr b hb).elim) (fun Z v hZ => ?_)
      exact ok_ret ⟨_, ⟨_, _, rfl, rfl, rfl⟩, .tr Z 2 _ v, fun b hb => (hZ b (zn_tr hb)).elim id fun h => h.elim⟩
end Go.Ring

/- Samples joined: the reference. No condition beyond the sizes. -/
set_option maxRecDepth 100000
set_option linter.unusedVariables false
set_option linter.unusedSimpArgs false
namespace Go.Ring
open Go Go.RowKit Go.Eager Go.Abs Go.Proofs
theorem cut0 (t : Int) : ∀ l : List Sample, vat t l = ((cutF t t l)[0]?).map (·.value)
  | [] => rfl
  | s :: l => by
    unfold cutF
    rw [List.filter_cons]
    unfold vat
    by_cases h : s.time = t
    · subst h; simp
    · rw [if_neg h, if_neg (by simp; omega)]
      exact cut0 t l
theorem le_gd {Γ : Ctx} {t : List (Nat × LV)} {h : List (Nat × Ent)} {r s : SV} (k : Nat) (hk : t.lookup k = some (.sv r)) (g : Gd r s) : Le Γ ⟨(k, .sv s) :: t, h⟩ ⟨t, h⟩ := by
  rintro a w ⟨ρ, I⟩
  refine ⟨ρ, I.dfr, I.size, I.frm, fun t' lv hl => ?_, I.ent, I.new, I.sep, I.out, I.inn⟩
  rw [List.lookup_cons] at hl
  cases hq : (t' == k) with
  | true =>
    simp only [hq, Option.some.injEq] at hl
    subst hl
    have e : t' = k := by simpa using hq
    subst e
    exact g.rep (I.tmp t' _ hk)
  | false => simp only [hq] at hl; exact I.tmp t' lv hl
def raK (b M : List Sample) (k : Nat) : List Sample := (M.take k).map (gB b) ++ M.drop k
theorem raK_zero (b M : List Sample) : raK b M 0 = M := by simp [raK]
theorem raK_end (b M : List Sample) {k : Nat} (h : M.length ≤ k) : raK b M k = M.map (gB b) := by unfold raK; rw [List.take_of_length_le h, List.drop_of_length_le h, List.append_nil]
theorem raK_len (b M : List Sample) (k : Nat) : (raK b M k).length = M.length := by
  unfold raK
  rw [List.length_append, List.length_map, List.length_take, List.length_drop]
  omega
theorem raK_at {b M : List Sample} {k : Nat} {s : Sample} (h : M[k]? = some s) : (raK b M k)[k]? = some s := by
  have hk := slt h
  unfold raK
  rw [List.getElem?_append_right (by rw [List.length_map, List.length_take]; omega), List.length_map, List.length_take, show k - min k M.length = 0 by omega, List.getElem?_drop, Nat.add_zero]
  exact h
theorem raK_step {b M : List Sample} {k : Nat} {s : Sample} (h : M[k]? = some s) : raK b M (k + 1) = (raK b M k).set k (gB b s) := by
  have hk := slt h
  unfold raK
  rw [List.take_add_one, h, Option.toList_some, List.map_append, drop_cons h, List.set_append_right _ _ (by rw [List.length_map, List.length_take]; omega), List.length_map, List.length_take, show k - min k M.length = 0 by omega, List.set_cons_zero]
  simp
theorem set_same {α : Type} {l : List α} {k : Nat} {s : α} (h : l[k]? = some s) : l.set k s = l := by
  refine List.ext_getElem? fun j => ?_
  rw [List.getElem?_set]
  split
  · rename_i e; subst e; rw [if_pos (slt h), h]
  · rfl
theorem f152_t (a b : List Sample) (hl : a.length + b.length ≤ 1048576) (sa : SrtS a) (sb : SrtS b) : PFnT Tryz.prog 152 [eSampleS a, eSampleS b] (eSampleS (grM a b)) := by
  refine fnp_ok (n := 47) Tryz.func152 rfl rfl rfl (Nat.le_of_ble_eq_true rfl) rfl fun w0 O => ?_
  have hml := mg_len a b
  refine ok_seq fun K1 h1 => ok_region rfl (q_as _ rfl (run_nil (h1 _ ?_)))
  refine ok_seq fun K2 h2 => ?_
  refine ok_region rfl (q_mv _ rfl (q_mv _ rfl (q_callg [1] (f206_t a b (by omega) (by omega)) cl206 ⟨.inl rfl, .inl rfl, trivial⟩ (fun r hr hz ha => ?_))))
  obtain ⟨Z0, v0, rfl⟩ := gd_sl_inv hr
  refine q_as _ rfl (run_nil (h2 _ ?_))
  refine Ok.le (le_sub (t' := [(1, .av (fun q => Zn q (.tr Z0 (eSampleS (mg a b)) v0)) (eSampleS b)), (5, .sv (.tr Z0 (eSampleS (mg a b)) v0))]) (h' := []) ⟨rfl, rfl, trivial⟩ trivial) ?_
  have eg : grM a b = (mg a b).map (gB b) := rfl
  rw [eg]
  generalize mg a b = M at *
  by_cases hM : M = []
  · subst hM
    refine Ok.le le_unav ?_
    refine ok_seq fun K4 h4 => ?_
    refine ok_seq fun K3 h3 => ok_region rfl (q_mv _ rfl (run_le (le_gd 12 rfl (.tr _ _ _ _)) (q_len eS123 rfl (q_mv _ rfl (run_nil (h3 _ ?_))))))
    refine ok_block ?_
    refine ok_loop (fun (k : Nat) => ⟨[(5, .sv (.tr Z0 (eSampleS []) v0)), (13, .sv (int 0)), (14, .sv (int 0))], []⟩) (fun k => True) (fun k => k) 0 trivial (le_sub ⟨rfl, rfl, rfl, trivial⟩ trivial) (fun k J => ?_)
    refine ok_seq fun K5 h5 => ok_region rfl (q_bin _ _ _ rfl rfl rfl (run_nil (h5 _ ?_)))
    refine ok_seq fun K6 h6 => ?_
    refine ok_cond rfl (fun c7 => ?_) (fun c7 => ?_)
    · exact absurd c7 (by simp)
    · refine ok_exit (h4 _ ?_)
      refine ok_seq fun K8 h8 => ok_region rfl (q_mv _ rfl (q_as _ rfl (run_nil (h8 _ ?_))))
      exact ok_ret ⟨_, ⟨_, _, rfl, rfl, rfl⟩, .tr _ _ _ _, hz⟩
  · have hne : M.map eSample ≠ [] := fun h => hM (List.map_eq_nil_iff.1 h)
    refine ok_otr 5 100 rfl hne (fun q hq => .inl (hz q (.tr _ _ _ hq))) rfl rfl ⟨fun q hq => .tr _ _ _ hq, trivial⟩ trivial (fun T rs hO => ?_)
    have hrs := otr_flat hO flat_sample
    subst hrs
    refine Ok.le le_unav ?_
    refine ok_seq fun K4 h4 => ?_
    refine ok_seq fun K3 h3 => ok_region rfl (q_mo _ rfl (q_leno eS123 rfl rfl (q_mv _ rfl (run_nil (h3 _ ?_)))))
    rw [List.length_map]
    refine ok_block ?_
    refine ok_loop (fun (k : Nat) => ⟨[(1, .sv (eSampleS b)), (5, .own 100), (12, .own 100), (13, .sv (int M.length)), (14, .sv (int k))], [(100, .row 2 T ((raK b M k).map eSample))]⟩) (fun k => True) (fun k => M.length - k) 0 trivial (le_sub ⟨rfl, rfl, rfl, rfl, rfl, trivial⟩ ⟨by rw [raK_zero]; rfl, trivial⟩) (fun k J => ?_)
    refine ok_seq fun K5 h5 => ok_region rfl (q_bin _ _ _ rfl rfl rfl (run_nil (h5 _ ?_)))
    refine ok_seq fun K6 h6 => ?_
    refine ok_cond rfl (fun c7 => ?_) (fun c7 => ?_)
    · refine ok_skip (h6 _ ?_)
      have hk : k < M.length := by simpa using c7
      obtain ⟨s, hs⟩ := sget hk
      have hat := raK_at (b := b) hs
      have hst := raK_step (b := b) hs
      have hul := raK_len b M k
      have hlt : k < ((raK b M k).map eSample).length := by rw [List.length_map]; omega
      have hg : gB b s = match ((cutF s.time s.time b)[0]?).map (·.value) with | some v => ⟨s.time, if s.value < v then v else s.value⟩ | none => s := by unfold gB; rw [cut0]; cases (cutF s.time s.time b)[0]? <;> rfl
      have hcl := cutF_len s.time s.time b
      obtain ⟨x0, hx0⟩ := fst0 (cutF s.time s.time b)
      refine ok_seq_join (fun (L : List Sample) => ⟨[(1, .sv (eSampleS b)), (5, .own 100), (12, .own 100), (13, .sv (int M.length)), (14, .sv (int k))], [(100, .row 2 T (L.map eSample))]⟩) (fun L => L = raK b M (k + 1)) ?_ (fun L hL => ?_)
      · refine ok_block ?_
        refine ok_seq fun K9 h9 => ok_region rfl (q_mv _ rfl (q_iao el123 rfl rfl rfl (by omega) hlt (q_ldes ag122 rfl rfl (mget (f := eSample) hat) sz122 (q_alloc _ ze122 rfl rfl rfl rfl (q_as _ rfl (q_sts _ rfl rfl rfl sz122 (Nat.le_of_ble_eq_true rfl) rfl (run_nil (h9 _ ?_))))))))
        refine ok_seq fun K10 h10 => ok_region rfl (q_mv _ rfl (q_fap fd122_0 rfl (by decide) (q_ldb (.sv (int s.time)) ag3 rfl rfl rfl (q_fap fd122_0 rfl (by decide) (q_ldb (.sv (int s.time)) ag3 rfl rfl rfl (q_call (f118_ok b (by omega) s.time s.time) cl118 rfl rfl (q_as _ rfl (run_nil (h10 _ ?_)))))))))
        refine ok_seq fun K11 h11 => ?_
        refine ok_region_i (by kernel_rfl) (by kernel_rfl) rfl (
          q_mv _ rfl (q_len eS123 rfl (q_bin _ _ _ rfl rfl rfl (q_mv _ rfl (q_and 7 7 rfl rfl rfl rfl rfl (fun hb =>
            q_mv _ rfl (q_ia el123 rfl rfl (by omega) (mget (f := eSample) (i := 0) (hx0 (by have := of_decide_eq_true hb; rw [List.length_map] at this; omega))) (q_fa _ fd122_1 rfl rfl (by decide) (q_ld (int x0.value) ag3 rfl rfl (q_fap fd122_1 rfl (by decide) (q_ldb (.sv (int s.value)) ag3 rfl rfl rfl (q_bin _ _ _ rfl rfl rfl (run_nil ⟨rfl, rfl, rfl, rfl⟩)))))))) (
          run_nil (h11 _ ?_)))))))
        rw [List.length_map]
        refine ok_cond rfl (fun c12 => ?_) (fun c12 => ?_)
        · simp only [Bool.and_eq_true, decide_eq_true_eq] at c12
          have h0 := hx0 (by omega)
          rw [h0] at hg
          have hg' : gB b s = ⟨s.time, x0.value⟩ := by rw [hg]; simp [c12.2]
          rw [hg'] at hst
          refine ok_last fun K13 h13 => ok_region rfl (
            q_mo _ rfl (q_mv _ rfl (q_mv _ rfl (q_ia el123 rfl rfl (by omega) (mget (f := eSample) (i := 0) h0) (q_fa _ fd122_1 rfl rfl (by decide) (q_ld (int x0.value) ag3 rfl rfl (
            q_iao el123 rfl rfl rfl (by omega) hlt (q_fae fd122_1 rfl (by decide) (q_stef sz3 rfl rfl (mget (f := eSample) hat) (by show 1 < 2; omega) rfl rfl rfl (run_nil (h13 _ ⟨_, hst.symm, le_sub ⟨rfl, rfl, rfl, rfl, rfl, trivial⟩ ⟨by rw [List.map_set]; rfl, trivial⟩⟩)))))))))))
        · have hsame : gB b s = s := by
            rw [hg]
            cases hq : (cutF s.time s.time b)[0]? with
            | none => rfl
            | some y =>
              have h0 := hx0 (slt hq)
              rw [hq] at h0; cases h0
              have hlen : (0 : Int) < ((cutF s.time s.time b).length : Int) := by have := slt hq; omega
              have h2 : ¬ s.value < x0.value := fun h => by
                have : (decide ((0 : Int) < ((cutF s.time s.time b).length : Int)) && decide (s.value < x0.value)) = true := by simp only [Bool.and_eq_true, decide_eq_true_eq]; exact ⟨hlen, h⟩
                rw [c12] at this; cases this
              show (⟨s.time, if s.value < x0.value then x0.value else s.value⟩ : Sample) = s
              rw [if_neg h2]
          rw [hsame, set_same hat] at hst
          exact ok_skip ⟨_, hst.symm, le_sub ⟨rfl, rfl, rfl, rfl, rfl, trivial⟩ ⟨rfl, trivial⟩⟩
      · subst hL
        refine ok_last fun K14 h14 => ok_region rfl (q_add rfl rfl (by omega) (q_mv _ rfl (run_nil (h14 _ ⟨k + 1, by omega, trivial, le_sub ⟨rfl, rfl, rfl, rfl, rfl, trivial⟩ ⟨rfl, trivial⟩⟩))))
    · rw [raK_end b M (by have : ¬ ((k : Int) < M.length) := by simpa using c7
                          omega)]
      refine ok_exit (h4 _ ?_)
      refine ok_seq fun K15 h15 => ok_region rfl (q_mo _ rfl (q_ao _ rfl (run_nil (h15 _ ?_))))
      obtain ⟨f1, f2, f3⟩ := gd_flatL (rs := (M.map (gB b)).map eSample) (fun r hr => by obtain ⟨x, _, rfl⟩ := List.mem_map.1 hr; exact flat_sample x)
      refine ok_treed (k := 100) (n := 2) (T := T) (rs := (M.map (gB b)).map eSample) (ss := (M.map (gB b)).map eSample) rfl rfl f1 f2 (fun r hr b hb => (f3 r hr b hb).elim) (fun Z v hZ => ?_)
      exact ok_ret ⟨_, ⟨_, _, rfl, rfl, rfl⟩, .tr Z 2 _ v, fun b hb => (hZ b (zn_tr hb)).elim id fun h => h.elim⟩
end Go.Ring

/- The library's slices.Insert of one series: this program's own. No condition. -/
set_option maxRecDepth 100000
set_option linter.unusedVariables false
namespace Go.Ring
open Go Go.RowKit Go.Eager Go.Abs Go.Proofs
def insRen : Go.Shelf.Ren := ⟨fun | 22 => 165 | 29 => 218 | 30 => 219 | n => n, fun | 24 => 63 | 9 => 125 | n => n, fun x => x⟩
theorem insL165 : InsL Tryz.prog insRen 2 48 (.agg #[.slice none 0 0, .slice none 0 0]) := {
  mixed := by kernel_rfl
  f22 := ⟨Tryz.f165.name, Tryz.f165.targs, Tryz.func165.trans (congrArg some (by kernel_rfl))⟩
  f29 := ⟨Tryz.f218, Tryz.func218, by kernel_rfl, by kernel_rfl, by kernel_rfl, by kernel_rfl⟩
  t3 := Tryz.underlying3
  a3 := Tryz.isAgg3
  t4 := Tryz.underlying4
  a4 := Tryz.isAgg4
  z9 := Tryz.sizeOf125
  t24 := Tryz.underlying63
  a24 := Tryz.isAgg63
  i9 := by kernel_rfl
  zs := rfl }
theorem ins165 : InsC Tryz.prog 165 2 125 48 := insC_of insL165 (by omega)
end Go.Ring

/- Series joined: the program. No condition beyond the sizes. -/
set_option maxRecDepth 100000
set_option linter.unusedVariables false
set_option linter.unusedSimpArgs false
namespace Go.Ring
open Go Go.RowKit Go.Eager Go.Abs Go.Proofs
def Room (a b : List Series) : Prop := a.length + b.length ≤ 1048576 ∧ ∃ A B : Nat, (∀ s ∈ a, s.samples.length ≤ A) ∧ (∀ s ∈ b, s.samples.length ≤ B) ∧ A + B ≤ 1048576
theorem room_wt {a b : List Series} (h : wt a + wt b ≤ 1048576) : Room a b :=
  ⟨by have := wt_len a; have := wt_len b; omega, wt a, wt b, fun s hs => by have := wt_mem hs; omega, fun s hs => by have := wt_mem hs; omega, h⟩
theorem Room.ssa {a b : List Series} (h : Room a b) (ha : LbOk a) : a.length ≤ 1048576 ∧ ∀ y ∈ a, SSeries y := by
  obtain ⟨h1, A, B, h2, h3, h4⟩ := h
  exact ⟨by omega, fun y hy => ⟨ha y hy, by have := h2 y hy; omega⟩⟩
theorem Room.lb {a b : List Series} (h : Room a b) : b.length ≤ 1048576 := by have := h.1; omega
theorem lk_self {l : List Series} {x : Series} (hs : SrtL l) (hx : x ∈ l) : lk x.labels l = some x.samples := by
  induction l with
  | nil => simp at hx
  | cons y l ih =>
    obtain ⟨h1, h2⟩ := List.pairwise_cons.1 hs
    unfold lk
    rcases List.mem_cons.1 hx with rfl | hx
    · rw [if_pos rfl]
    · rw [if_neg (fun e => by have := h1 x hx; rw [e, cmpLs_self] at this; omega)]
      exact ih h2 hx
theorem jn_len : ∀ (b a : List Series), (jn a b).length ≤ a.length + b.length
  | [], a => Nat.le_refl _
  | u :: b, a => by
    have h1 := jn_len b (insJ a u)
    have h2 : (insJ a u).length ≤ a.length + 1 := by
      cases hf : fnd u.labels a with
      | true => obtain ⟨x, hx, _⟩ := fnd_get hf; rw [insJ_len_fnd hf hx]; omega
      | false => rw [insJ_len_new hf]; omega
    show (jn (insJ a u) b).length ≤ _
    simp only [List.length_cons]
    omega
theorem accJ_inv {a b : List Series} (na : Nice a) (nb : Nice b) (hw : Room a b) {k : Nat} {u : Series} (hu : b[k]? = some u) :
    Nice (jn a (b.take k)) ∧ (jn a (b.take k)).length + 1 ≤ 1048576 ∧ (∀ x ∈ jn a (b.take k), x.samples.length ≤ 1048576) ∧ (∀ x ∈ jn a (b.take k), x.labels = u.labels → x.samples.length + u.samples.length ≤ 1048576) ∧ u.samples.length ≤ 1048576 := by
  obtain ⟨h1, A, B, h2, h3, h4⟩ := hw
  have nk : Nice (b.take k) := ⟨List.Pairwise.sublist (List.take_sublist k b) nb.s, fun y hy => nb.m y (List.mem_of_mem_take hy), fun y hy => nb.b y (List.mem_of_mem_take hy)⟩
  have nj := na.jn nk
  have hk := slt hu
  have h5 := jn_len (b.take k) a
  rw [List.length_take] at h5
  have hbu := h3 u (smem hu)
  have key : ∀ x ∈ jn a (b.take k), x.samples.length ≤ A + B ∧ (lk x.labels (b.take k) = none → x.samples.length ≤ A) := fun x hx => by
    have e := lk_jn (t := x.labels) na.s nk.s
    rw [lk_self nj.s hx] at e
    cases p : lk x.labels a with
    | none =>
      cases q : lk x.labels (b.take k) with
      | none => rw [p, q] at e; cases e
      | some w =>
        rw [p, q] at e; cases e
        obtain ⟨y, hy, _, hw⟩ := lk_mem q
        have := h3 y (List.mem_of_mem_take hy)
        rw [hw] at this
        exact ⟨by omega, fun h => by cases h⟩
    | some v =>
      obtain ⟨z, hz, _, hv⟩ := lk_mem p
      have h6 := h2 z hz
      rw [hv] at h6
      cases q : lk x.labels (b.take k) with
      | none => rw [p, q] at e; simp only [op2, Option.some.injEq] at e; rw [e]; exact ⟨by omega, fun _ => by omega⟩
      | some w =>
        rw [p, q] at e
        simp only [op2, Option.some.injEq] at e
        obtain ⟨y, hy, _, hw⟩ := lk_mem q
        have h7 := h3 y (List.mem_of_mem_take hy)
        rw [hw] at h7
        have h8 := grM_len v w
        rw [e]
        exact ⟨by omega, fun h => by cases h⟩
  refine ⟨nj, by omega, fun x hx => by have := (key x hx).1; omega, fun x hx hl => ?_, by omega⟩
  have hnone : lk x.labels (b.take k) = none := lk_none fun s hs e => by
    obtain ⟨i, hi⟩ := List.getElem?_of_mem hs
    have hik : i < k := by have := slt hi; rw [List.length_take] at this; omega
    rw [List.getElem?_take_of_lt hik] at hi
    have := srtL_iff.1 nb.s i k s u hik hi hu
    rw [e, hl, cmpLs_self] at this
    omega
  have := (key x hx).2 hnone
  omega
theorem cps_mg {w0 : World} {rs : List SV} {acc : List Series} {p : Nat} {x : Series} {q : List Sample} (J : Cps w0 rs (acc.map eSeries)) (hx : acc[p]? = some x) {Z0 Z1 : Nat → Prop} {v0 v1 : Value} (hr : rs[p]? = some (.agg [.tr Z0 (eLabelS x.labels) v0, .tr Z1 (eSampleS x.samples) v1]))
    {Z3 : Nat → Prop} {v3 : Value} (hz : ∀ b, Z3 b → w0.heap.size ≤ b) (ha : ∀ y ∈ rs, ∀ b, Zn b y → ¬ Z3 b) :
    Cps w0 (rs.set p (.agg ([.tr Z0 (eLabelS x.labels) v0, .tr Z1 (eSampleS x.samples) v1].set 1 (.tr Z3 (eSampleS q) v3)))) ((acc.set p ⟨x.labels, q⟩).map eSeries) := by
  have e : (acc.set p ⟨x.labels, q⟩).map eSeries = (acc.map eSeries).set p (eSeries ⟨x.labels, q⟩) := by rw [List.map_set]
  have hmem := List.mem_of_getElem? hr
  have hz0 : ∀ b, Z0 b → Zn b (.agg [.tr Z0 (eLabelS x.labels) v0, .tr Z1 (eSampleS x.samples) v1]) := fun b h => .agg _ _ (List.mem_cons_self ..) (.tr Z0 _ v0 h)
  rw [e]
  refine J.set (gc_Series ⟨x.labels, q⟩ fun b h h' => ha _ hmem b (hz0 b h) h') (fun j y hj hy b hb hb' => ?_) (fun b hb => ?_)
  · simp only [List.set_cons_succ, List.set_cons_zero, znA_cons, znI_raw, znI_tr, znA_nil, or_false, false_or] at hb'
    rcases hb' with h | h
    · exact hj (J.ap j p b _ _ hy hr hb (hz0 b h))
    · exact ha y (List.mem_of_getElem? hy) b hb h
  · simp only [List.set_cons_succ, List.set_cons_zero, znA_cons, znI_raw, znI_tr, znA_nil, or_false, false_or] at hb
    rcases hb with h | h
    · exact J.nw _ hmem b (hz0 b h)
    · exact hz b h
theorem cps_agg {w0 : World} {rs : List SV} {l : List Series} (J : Cps w0 rs (l.map eSeries)) : ∀ q ∈ rs, (∃ c, q = .agg c) ∨ q.one = true := fun q hq => by
  obtain ⟨i, hi⟩ := List.getElem?_of_mem hq
  obtain ⟨x, hx⟩ := sget (l := l) (i := i) (by have := slt hi; have h2 := J.len; rw [List.length_map] at h2; omega)
  obtain ⟨Z0, v0, Z1, v1, rfl, _⟩ := gi_Series (J.gd i q _ hi (mget (f := eSeries) hx))
  exact .inl ⟨_, rfl⟩
theorem f88_t (a b : List Series) (na : Nice a) (nb : Nice b) (hw : Room a b) : PFnT Tryz.prog 88 [eSeriesS a, eSeriesS b] (eSeriesS (jn a b)) := by
  refine fnp_ok (n := 51) Tryz.func88 rfl rfl rfl (Nat.le_of_ble_eq_true rfl) rfl fun w0 O => ?_
  have hbl := hw.lb
  have ha := na.b
  have hb := nb.b
  refine ok_seq fun K1 h1 => ok_region rfl (q_as _ rfl (run_nil (h1 _ ?_)))
  refine ok_seq fun K2 h2 => ok_region rfl (q_mv _ rfl (q_callot (f133_o a (hw.ssa ha)) cl133 ⟨.inl rfl, trivial⟩ rfl rfl (fun rs0 hC0 hA0 => q_ao _ rfl (run_nil (h2 _ ?_)))))
  refine ok_seq fun K3 h3 => ?_
  refine ok_seq fun K4 h4 => ok_region rfl (q_mv _ rfl (q_len eS63 rfl (q_mv _ rfl (run_nil (h4 _ ?_)))))
  rw [List.length_map]
  refine ok_block ?_
  refine ok_loop (fun (s : Nat × List SV) => ⟨[(5, .own 5), (12, .sv (eSeriesS b)), (13, .sv (int b.length)), (14, .sv (int s.1))], [(5, .row 2 125 s.2)]⟩) (fun s => Cps w0 s.2 ((jn a (b.take s.1)).map eSeries)) (fun s => b.length - s.1) (0, rs0) hC0 (le_rek 5 11 ⟨rfl, rfl, rfl, rfl, trivial⟩ ⟨rfl, trivial⟩ rfl rfl rfl rfl ⟨rfl, trivial⟩) (fun s J => ?_)
  obtain ⟨k, rs⟩ := s
  simp only at J
  refine ok_seq fun K5 h5 => ok_region rfl (q_bin _ _ _ rfl rfl rfl (run_nil (h5 _ ?_)))
  refine ok_seq fun K6 h6 => ?_
  refine ok_cond rfl (fun c7 => ?_) (fun c7 => ?_)
  · refine ok_skip (h6 _ ?_)
    have hk : k < b.length := by simpa using c7
    obtain ⟨u, hu⟩ := sget hk
    obtain ⟨n1, i3, i4, i5, hus⟩ := accJ_inv na nb hw hu
    have nu := hb u (smem hu)
    have hst := jn_step (a := a) hu
    have hsu := nb.m u (smem hu)
    generalize hacc : jn a (b.take k) = acc at *
    have i1 := srtL_iff.1 n1.s
    have i2 := n1.b
    have hss : acc.length ≤ 1048576 ∧ ∀ y ∈ acc, SSeries y := ⟨by omega, fun y hy => ⟨i2 y hy, i4 y hy⟩⟩
    have hrl : rs.length = acc.length := by rw [J.len, List.length_map]
    have hp := lowI_le u.labels acc
    have hpp : ((lowI u.labels acc : Nat) : Int).toNat = lowI u.labels acc := rfl
    refine ok_seq_join (fun (rs' : List SV) => ⟨[(5, .own 5), (12, .sv (eSeriesS b)), (13, .sv (int b.length)), (14, .sv (int k))], [(5, .row 2 125 rs')]⟩) (fun rs' => Cps w0 rs' ((insJ acc u).map eSeries)) ?_ (fun rs' J => ?_)
    · refine ok_block ?_
      refine ok_seq fun K8 h8 => ok_region rfl (q_ia el63 rfl rfl (by omega) (mget (f := eSeries) hu) (q_lds _ ag125 rfl sz125 (q_alloc _ ze125 rfl rfl rfl rfl (q_sts _ rfl rfl rfl sz125 (Nat.le_of_ble_eq_true rfl) rfl (run_nil (h8 _ ?_))))))
      refine ok_seq fun K9 h9 => ?_
      refine ok_region rfl (q_mo _ rfl (q_fap fd125_0 rfl (by decide) (q_ldb (.sv (eLabelS u.labels)) ag78 rfl rfl rfl (q_call (PFn.row1 (rs := rs) (f163_ok acc hss u.labels nu i1) J.len J.gd) cl163 rfl rfl (q_mv _ rfl (q_ext _ rfl rfl (q_ext _ rfl rfl (q_as _ rfl (
        q_as _ rfl (run_nil (h9 _ ?_)))))))))))
      refine ok_seq fun K10 h10 => ok_region rfl (q_mv _ rfl (run_nil (h10 _ ?_)))
      refine ok_cond rfl (fun c11 => ?_) (fun c11 => ?_)
      · obtain ⟨x, hx, hx0⟩ := fnd_get c11
        have hlt := slt hx
        obtain ⟨r, hr⟩ := sget (l := rs) (i := lowI u.labels acc) (by omega)
        obtain ⟨Z0, v0, Z1, v1, rfl, d01⟩ := gi_Series (J.gd _ r _ hr (mget (f := eSeries) hx))
        have hsx := n1.m x (smem hx)
        have hgl := i5 x (smem hx) ((cmpLs_zero _ _).1 hx0)
        refine ok_last fun K12 h12 => ok_region_i (by kernel_rfl) (by kernel_rfl) rfl (
          q_mo _ rfl (q_mv _ rfl (q_mo _ rfl (q_mv _ rfl (q_iao el63 rfl rfl rfl (by omega) (by show lowI u.labels acc < rs.length; omega) (q_fae fd125_1 rfl (by decide) (q_ldef (.tr Z1 (eSampleS x.samples) v1) ag123 rfl rfl hr rfl (q_fap fd125_1 rfl (by decide) (
          q_ldb (.sv (eSampleS u.samples)) ag123 rfl rfl rfl (q_callg [] (f164_t x.samples u.samples hgl hsx hsu) cl164 ⟨.inr (.inl ⟨_, rfl, .tr _ _ _ _⟩), .inl rfl, trivial⟩ (fun r3 hr3 hz3 ha3 => ?_)))))))))))
        obtain ⟨Z3, v3, rfl⟩ := gd_sl_inv hr3
        have hfin := cps_mg (q := grM x.samples u.samples) (v3 := v3) J hx hr (fun b h => hz3 b (.tr Z3 _ v3 h)) (fun y hy b hb hb' => ha3.2 5 2 125 _ y b rfl hy hb (.tr Z3 _ v3 hb'))
        rw [← insJ_fnd c11 hx] at hfin
        refine q_iao el63 rfl rfl rfl (by omega) (by show lowI u.labels acc < rs.length; omega) (q_fae fd125_1 rfl (by decide) (q_stef sz123 rfl rfl hr (by show 1 < 2; omega) rfl rfl rfl (run_nil (h12 _ ⟨_, hfin, le_sub ⟨rfl, rfl, rfl, rfl, trivial⟩ ⟨rfl, trivial⟩⟩))))
      · have hnew := insJ_new c11
        refine ok_last fun K13 h13 => ok_region_d [0, 0, 0, 1, 3, 0, 1, 3, 2, 3, 2, 0] #[[], [], [], [2], [2, 3], [], [5], [2, 3, 4, 5, 6], [2, 3, 4, 5, 6, 7], [2, 3, 4, 5, 6, 7, 8], [0, 1, 2, 3, 4, 5, 6, 7, 8, 9], [0, 1, 2, 3, 4, 5, 6, 7, 8, 9, 10]] [0, 1, 2, 3, 5, 6, 4, 7, 8, 9, 10, 11] (by kernel_rfl) (by kernel_rfl) rfl rfl (
          q_mo _ rfl (q_mv _ rfl (q_fap fd125_0 rfl (by decide) (q_ldb (.sv (eLabelS u.labels)) ag78 rfl rfl rfl (q_fap fd125_1 rfl (by decide) (q_ldb (.sv (eSampleS u.samples)) ag123 rfl rfl rfl (q_callr (f166_t u.labels nu.1) cl166 rfl (fun r0 hr0 hz0 ha0 => ?_))))))))
        obtain ⟨Z0, v0, rfl⟩ := gd_sl_inv hr0
        refine q_callr (f167_t u.samples hus) cl167 rfl (fun r1 hr1 hz1 ha1 => ?_)
        obtain ⟨Z1, v1, rfl⟩ := gd_sl_inv hr1
        have d01 : ∀ b, Z0 b → ¬ Z1 b := fun b h0 h1 => ha1.1 42 _ b rfl (.tr Z0 _ v0 h0) (.tr Z1 _ v1 h1)
        have hn : ∀ b, Zn b (.agg [.tr Z0 (eLabelS u.labels) v0, .tr Z1 (eSampleS u.samples) v1]) → w0.heap.size ≤ b := fun b hb => by
          simp only [znA_cons, znI_raw, znI_tr, znA_nil, or_false, false_or] at hb
          rcases hb with h | h
          · exact hz0 b (.tr Z0 _ v0 h)
          · exact hz1 b (.tr Z1 _ v1 h)
        have hfin := J.insAt (i := lowI u.labels acc) (by omega) (gc_Series u d01) (fun y hy b hb hb' => by
          simp only [znA_cons, znI_raw, znI_tr, znA_nil, or_false, false_or] at hb'
          rcases hb' with h | h
          · exact ha0.2 5 2 125 _ y b rfl hy hb (.tr Z0 _ v0 h)
          · exact ha1.2 5 2 125 _ y b rfl hy hb (.tr Z1 _ v1 h)) hn
        rw [← insAt_map eSeries, ← hnew] at hfin
        refine (q_bld _ (bl125 u) rfl rfl rfl (q_lito1 _ _ el63 ze125 (by decide) (by decide) rfl rfl rfl (.inl ⟨_, rfl⟩) rfl (
          q_ins (k := 5) (k2 := 47) (r := rs) (p := lowI u.labels acc) ins165 cl165 rfl rfl rfl rfl rfl (by decide) (by omega) (cps_agg J) (.inl ⟨_, rfl⟩) (by show (rs.length + 1) * 48 ≤ 140737488355328; omega) (by show rs.length + 1 ≤ maxLen; unfold maxLen; omega) rfl rfl (q_ao _ rfl (run_nil (h13 _ ⟨_, hfin, le_rek 5 48 ⟨rfl, rfl, rfl, rfl, trivial⟩ ⟨rfl, trivial⟩ rfl rfl rfl rfl ⟨rfl, trivial⟩⟩))))))
    · refine ok_last fun K14 h14 => ok_region rfl (
        q_add rfl rfl (by omega) (q_mv _ rfl (run_nil (h14 _ ⟨(k + 1, rs'), by simp only; omega, by simp only; rw [hst]; exact J, le_sub ⟨rfl, rfl, rfl, rfl, trivial⟩ ⟨rfl, trivial⟩⟩))))
  · rw [List.take_of_length_le (by have : ¬ ((k : Int) < b.length) := by simpa using c7
                                   omega)] at J
    refine ok_exit (h3 _ ?_)
    refine ok_seq fun K15 h15 => ok_region rfl (q_mo _ rfl (q_ao _ rfl (run_nil (h15 _ ?_))))
    refine ok_treed (k := 5) (n := 2) (T := 125) (rs := rs) (ss := (jn a b).map eSeries) rfl J.len J.gd J.ap (fun r hr b hb => .inl (J.nw r hr b hb)) (fun Z v hZ => ?_)
    exact ok_ret ⟨_, ⟨_, _, rfl, rfl, rfl⟩, .tr Z 2 _ v, fun b hb => (hZ b (zn_tr hb)).elim id fun h => h.elim⟩
end Go.Ring

/- Series joined: the reference. No condition beyond the sizes. -/
set_option maxRecDepth 100000
set_option linter.unusedVariables false
set_option linter.unusedSimpArgs false
namespace Go.Ring
open Go Go.RowKit Go.Eager Go.Abs Go.Proofs
@[reducible] def zSer : SV := .agg ([Value.slice none 0 0, Value.slice none 0 0].map .raw)
theorem bz125 : Tryz.prog.built 125 [] = some [Value.slice none 0 0, Value.slice none 0 0].toArray := by kernel_rfl
theorem built125a (p0 : Option Addr) (n0 c0 : Nat) : Tryz.prog.built 125 [(0, .slice p0 n0 c0)] = some #[.slice p0 n0 c0, .slice none 0 0] := by kernel_rfl
theorem bz125a (x : List Label) {Z0 : Nat → Prop} {v0 : Value} : BLz Tryz.prog 125 [.tr Z0 (eLabelS x) v0] [.slice none 0 0] := by
  intro vs hv
  match vs, hv with
  | [w0], hv =>
    obtain ⟨h0, -⟩ := hv
    obtain ⟨rfl, p0, n0, c0, e0⟩ := h0
    rw [e0]
    exact built125a p0 n0 c0
theorem set_insAt {α : Type} (l : List α) (i : Nat) (x y : α) (hi : i ≤ l.length) : (Go.Abs.insAt l i x).set i y = Go.Abs.insAt l i y := by
  refine List.ext_getElem? fun j => ?_
  rw [List.getElem?_set, insAt_get _ _ _ hi, insAt_get _ _ _ hi, insAt_len _ _ _ hi]
  by_cases h : i = j
  · subst h; rw [if_pos rfl, if_pos (by omega), if_neg (by omega), if_pos rfl]
  · rw [if_neg h, if_neg (fun e : j = i => h e.symm), if_neg (fun e : j = i => h e.symm)]
theorem f126_t (a b : List Series) (na : Nice a) (nb : Nice b) (hw : Room a b) : PFnT Tryz.prog 126 [eSeriesS a, eSeriesS b] (eSeriesS (jn a b)) := by
  refine fnp_ok (n := 60) Tryz.func126 rfl rfl rfl (Nat.le_of_ble_eq_true rfl) rfl fun w0 O => ?_
  have hbl := hw.lb
  have ha := na.b
  have hb := nb.b
  refine ok_seq fun K1 h1 => ok_region rfl (q_as _ rfl (run_nil (h1 _ ?_)))
  refine ok_seq fun K2 h2 => ok_region rfl (q_mv _ rfl (q_callot (f124_o a (hw.ssa ha)) cl124 ⟨.inl rfl, trivial⟩ rfl rfl (fun rs0 hC0 hA0 => q_ao _ rfl (run_nil (h2 _ ?_)))))
  refine ok_seq fun K3 h3 => ?_
  refine ok_seq fun K4 h4 => ok_region rfl (q_mv _ rfl (q_len eS63 rfl (q_mv _ rfl (run_nil (h4 _ ?_)))))
  rw [List.length_map]
  refine ok_block ?_
  refine ok_loop (fun (s : Nat × List SV) => ⟨[(5, .own 5), (12, .sv (eSeriesS b)), (13, .sv (int b.length)), (14, .sv (int s.1))], [(5, .row 2 125 s.2)]⟩) (fun s => Cps w0 s.2 ((jn a (b.take s.1)).map eSeries)) (fun s => b.length - s.1) (0, rs0) hC0 (le_rek 5 11 ⟨rfl, rfl, rfl, rfl, trivial⟩ ⟨rfl, trivial⟩ rfl rfl rfl rfl ⟨rfl, trivial⟩) (fun s J => ?_)
  obtain ⟨k, rs⟩ := s
  simp only at J
  refine ok_seq fun K5 h5 => ok_region rfl (q_bin _ _ _ rfl rfl rfl (run_nil (h5 _ ?_)))
  refine ok_seq fun K6 h6 => ?_
  refine ok_cond rfl (fun c7 => ?_) (fun c7 => ?_)
  · refine ok_skip (h6 _ ?_)
    have hk : k < b.length := by simpa using c7
    obtain ⟨u, hu⟩ := sget hk
    obtain ⟨n1, i3, i4, i5, hus⟩ := accJ_inv na nb hw hu
    have nu := hb u (smem hu)
    have hst := jn_step (a := a) hu
    have hsu := nb.m u (smem hu)
    generalize hacc : jn a (b.take k) = acc at *
    have i1 := srtL_iff.1 n1.s
    have i2 := n1.b
    have hss : acc.length ≤ 1048576 ∧ ∀ y ∈ acc, SSeries y := ⟨by omega, fun y hy => ⟨i2 y hy, i4 y hy⟩⟩
    have hrl : rs.length = acc.length := by rw [J.len, List.length_map]
    have hp := lowI_le u.labels acc
    refine ok_seq_join (fun (rs' : List SV) => ⟨[(5, .own 5), (12, .sv (eSeriesS b)), (13, .sv (int b.length)), (14, .sv (int k))], [(5, .row 2 125 rs')]⟩) (fun rs' => Cps w0 rs' ((insJ acc u).map eSeries)) ?_ (fun rs' J => ?_)
    · refine ok_block ?_
      refine ok_seq fun K8 h8 => ok_region rfl (q_ia el63 rfl rfl (by omega) (mget (f := eSeries) hu) (q_lds _ ag125 rfl sz125 (q_alloc _ ze125 rfl rfl rfl rfl (q_sts _ rfl rfl rfl sz125 (Nat.le_of_ble_eq_true rfl) rfl (run_nil (h8 _ ?_))))))
      refine ok_seq fun K9 h9 => ?_
      refine ok_region rfl (q_mo _ rfl (q_fap fd125_0 rfl (by decide) (q_ldb (.sv (eLabelS u.labels)) ag78 rfl rfl rfl (q_call (PFn.row1 (rs := rs) (f117_ok acc hss u.labels nu) J.len J.gd) cl117 rfl rfl (q_mv _ rfl (q_ext _ rfl rfl (q_ext _ rfl rfl (q_as _ rfl (
        q_as _ rfl (run_nil (h9 _ ?_)))))))))))
      refine ok_seq_join (fun (s : List SV × List Series) => ⟨[(5, .own 5), (7, .ptr 7 0), (8, .sv (int (lowI u.labels acc))), (12, .sv (eSeriesS b)), (13, .sv (int b.length)), (14, .sv (int k))], [(5, .row 2 125 s.1), (7, .box [.sv (eLabelS u.labels), .sv (eSampleS u.samples)])]⟩)
        (fun s => Cps w0 s.1 (s.2.map eSeries) ∧ ∃ x, s.2[lowI u.labels acc]? = some x ∧ SrtS x.samples ∧ x.samples.length + u.samples.length ≤ 1048576 ∧ s.2.length ≤ 1048577 ∧ insJ acc u = s.2.set (lowI u.labels acc) ⟨x.labels, grM x.samples u.samples⟩) ?_ (fun s Js => ?_)
      · refine ok_seq fun K11 h11 => ok_region rfl (q_mv _ rfl (q_un _ _ rfl rfl (run_nil (h11 _ ?_))))
        refine ok_cond rfl (fun c11 => ?_) (fun c11 => ?_)
        · have c11' : fnd u.labels acc = false := by simpa using c11
          have hnew := insJ_new c11'
          refine ok_seq fun K14 h14 => ?_
          refine ok_region rfl (q_mo _ rfl (q_bldr [] [.slice none 0 0, .slice none 0 0] rfl bz125 rfl (q_lit1 _ zSer el63 ze125 (by decide) (by decide) rfl (.inl ⟨_, rfl⟩) rfl (q_app (q := [zSer]) _ el63 ze125 rfl by125 rfl rfl rfl rfl rfl (by simp) (by intro s hs; simp at hs; subst hs; exact .inl ⟨_, rfl⟩) (by show rs.length + 1 ≤ maxLen; unfold maxLen; omega) (by show (rs.length + 1) * 48 ≤ _; omega) (
            q_ao _ rfl (run_nil (h14 _ ?_)))))))
          have hl1 : (rs ++ [zSer]).length = rs.length + 1 := by simp
          refine ok_seq fun K15 h15 => ?_
          refine ok_region_i (by kernel_rfl) (by kernel_rfl) rfl (
            q_mo _ rfl (q_mv _ rfl (q_add rfl rfl (by omega) (q_slo el63 rfl rfl (by show 0 < (rs ++ [zSer]).length; omega) rfl (by omega) (by show ((lowI u.labels acc : Nat) : Int) + 1 ≤ ((rs ++ [zSer]).length : Int); omega) (q_mo _ rfl (q_mv _ rfl (
            q_slo el63 rfl rfl (by show 0 < (rs ++ [zSer]).length; omega) rfl (by omega) (by show ((lowI u.labels acc : Nat) : Int) ≤ ((rs ++ [zSer]).length : Int); omega) (q_copyn el63 rfl rfl rfl (by show lowI u.labels acc + 1 ≤ (rs ++ [zSer]).length; omega) (by show lowI u.labels acc ≤ (rs ++ [zSer]).length; omega) (fun q hq => by
              rcases List.mem_append.1 hq with h | h
              · exact cps_agg J q h
              · simp at h; subst h; exact .inl ⟨_, rfl⟩) (run_nil (h15 _ ?_))))))))))
          have hl2 : (cpy (rs ++ [zSer]) (lowI u.labels acc + 1) (lowI u.labels acc)).length = rs.length + 1 := by rw [cpy_len _ _ _ (by omega), hl1]
          obtain ⟨old, hold⟩ := sget (l := cpy (rs ++ [zSer]) (lowI u.labels acc + 1) (lowI u.labels acc)) (i := lowI u.labels acc) (by omega)
          refine ok_last fun K16 h16 => ok_region rfl (
            q_mo _ rfl (q_mv _ rfl (q_fap fd125_0 rfl (by decide) (q_ldb (.sv (eLabelS u.labels)) ag78 rfl rfl rfl (q_callr (f153_t u.labels nu.1) cl153 rfl (fun r0 hr0 hz0 ha0 => ?_))))))
          obtain ⟨Z0, v0, rfl⟩ := gd_sl_inv hr0
          have hn : ∀ b, Zn b (.agg [.tr Z0 (eLabelS u.labels) v0, .tr (fun _ => False) (eSampleS []) (.slice none 0 0)]) → w0.heap.size ≤ b := fun b hb => by
            simp only [znA_cons, znI_raw, znI_tr, znA_nil, or_false, false_or] at hb
            exact hz0 b (.tr Z0 _ v0 hb)
          have hmem : ∀ y ∈ rs, y ∈ cpy (rs ++ [zSer]) (lowI u.labels acc + 1) (lowI u.labels acc) := fun y hy => by
            obtain ⟨j, hj⟩ := List.getElem?_of_mem hy
            have hjl := slt hj
            have hm : (((rs ++ [zSer]).drop (lowI u.labels acc)).take ((rs ++ [zSer]).length - (lowI u.labels acc + 1))).length = rs.length - lowI u.labels acc := by rw [List.length_take, List.length_drop, hl1]; omega
            by_cases h1 : j < lowI u.labels acc
            · refine List.mem_of_getElem? (i := j) ?_
              rw [cpy_get _ _ _ (by omega), if_neg (by omega), List.getElem?_append_left hjl]; exact hj
            · refine List.mem_of_getElem? (i := j + 1) ?_
              rw [cpy_get _ _ _ (by omega), hm, if_pos ⟨by omega, by omega⟩, show lowI u.labels acc + (j + 1 - (lowI u.labels acc + 1)) = j by omega, List.getElem?_append_left hjl]; exact hj
          have hfin := J.insAt (i := lowI u.labels acc) (by omega) (gc_Series ⟨u.labels, []⟩ (v0 := v0) (Z1 := fun _ => False) (v1 := .slice none 0 0) fun b _ h => h) (fun y hy b hb hb' => by
            simp only [znA_cons, znI_raw, znI_tr, znA_nil, or_false, false_or] at hb'
            exact ha0.2 30 2 125 _ y b rfl (hmem y hy) hb (.tr Z0 _ v0 hb')) hn
          rw [← insAt_map eSeries, ← cpy_ins rs (lowI u.labels acc) zSer _ (by omega)] at hfin
          refine (q_bldz [.tr Z0 (eLabelS u.labels) v0] [.tr (fun _ => False) (.sl 2 []) (.slice none 0 0)] (bz125a u.labels) ⟨nil_tr 2, trivial⟩ rfl rfl rfl (q_iao el63 rfl rfl rfl (by omega) (by show lowI u.labels acc < (cpy (rs ++ [zSer]) (lowI u.labels acc + 1) (lowI u.labels acc)).length; omega) (q_ste sz125 rfl rfl hold rfl (.inl ⟨_, rfl⟩) rfl (run_nil (h16 _ ⟨(_, Go.Abs.insAt acc (lowI u.labels acc) ⟨u.labels, []⟩), ⟨hfin, ⟨u.labels, []⟩, ?_, ?_, ?_, ?_, ?_⟩, le_rek 5 30 ⟨rfl, rfl, rfl, rfl, rfl, rfl, trivial⟩ ⟨rfl, rfl, trivial⟩ rfl rfl rfl rfl ⟨rfl, rfl, trivial⟩⟩)))))
          · show (Go.Abs.insAt acc (lowI u.labels acc) _)[lowI u.labels acc]? = _
            rw [insAt_get _ _ _ hp, if_neg (by omega), if_pos rfl]
          · exact List.Pairwise.nil
          · show ([] : List Sample).length + _ ≤ _; simp; omega
          · show (Go.Abs.insAt acc (lowI u.labels acc) _).length ≤ _; rw [insAt_len _ _ _ hp]; omega
          · show _ = (Go.Abs.insAt acc (lowI u.labels acc) _).set _ _
            rw [hnew, set_insAt _ _ _ _ hp, grM_nil hsu]
        · have c11' : fnd u.labels acc = true := by simpa using c11
          obtain ⟨x, hx, hx0⟩ := fnd_get c11'
          exact ok_skip ⟨(rs, acc), ⟨J, x, hx, n1.m x (smem hx), i5 x (smem hx) ((cmpLs_zero _ _).1 hx0), by show acc.length ≤ _; omega, insJ_fnd c11' hx⟩, le_sub ⟨rfl, rfl, rfl, rfl, rfl, rfl, trivial⟩ ⟨rfl, rfl, trivial⟩⟩
      · obtain ⟨rs2, acc2⟩ := s
        obtain ⟨J2, x, hx, hsx, hgl, hal, he⟩ := Js
        simp only at J2 hx he hal
        have hrl2 : rs2.length = acc2.length := by rw [J2.len, List.length_map]
        have hlt := slt hx
        obtain ⟨r, hr⟩ := sget (l := rs2) (i := lowI u.labels acc) (by omega)
        obtain ⟨Z0, v0, Z1, v1, rfl, d01⟩ := gi_Series (J2.gd _ r _ hr (mget (f := eSeries) hx))
        refine ok_last fun K12 h12 => ok_region_i (by kernel_rfl) (by kernel_rfl) rfl (
          q_mo _ rfl (q_mv _ rfl (q_mo _ rfl (q_mv _ rfl (q_iao el63 rfl rfl rfl (by omega) (by show lowI u.labels acc < rs2.length; omega) (q_fae fd125_1 rfl (by decide) (q_ldef (.tr Z1 (eSampleS x.samples) v1) ag123 rfl rfl hr rfl (q_fap fd125_1 rfl (by decide) (
          q_ldb (.sv (eSampleS u.samples)) ag123 rfl rfl rfl (q_callg [] (f152_t x.samples u.samples hgl hsx hsu) cl152 ⟨.inr (.inl ⟨_, rfl, .tr _ _ _ _⟩), .inl rfl, trivial⟩ (fun r3 hr3 hz3 ha3 => ?_)))))))))))
        obtain ⟨Z3, v3, rfl⟩ := gd_sl_inv hr3
        have hfin := cps_mg (q := grM x.samples u.samples) (v3 := v3) J2 hx hr (fun b h => hz3 b (.tr Z3 _ v3 h)) (fun y hy b hb hb' => ha3.2 5 2 125 _ y b rfl hy hb (.tr Z3 _ v3 hb'))
        rw [← he] at hfin
        refine q_iao el63 rfl rfl rfl (by omega) (by show lowI u.labels acc < rs2.length; omega) (q_fae fd125_1 rfl (by decide) (q_stef sz123 rfl rfl hr (by show 1 < 2; omega) rfl rfl rfl (run_nil (h12 _ ⟨_, hfin, le_sub ⟨rfl, rfl, rfl, rfl, trivial⟩ ⟨rfl, trivial⟩⟩))))
    · refine ok_last fun K17 h17 => ok_region rfl (
        q_add rfl rfl (by omega) (q_mv _ rfl (run_nil (h17 _ ⟨(k + 1, rs'), by simp only; omega, by simp only; rw [hst]; exact J, le_sub ⟨rfl, rfl, rfl, rfl, trivial⟩ ⟨rfl, trivial⟩⟩))))
  · rw [List.take_of_length_le (by have : ¬ ((k : Int) < b.length) := by simpa using c7
                                   omega)] at J
    refine ok_exit (h3 _ ?_)
    refine ok_seq fun K15 h15 => ok_region rfl (q_mo _ rfl (q_ao _ rfl (run_nil (h15 _ ?_))))
    refine ok_treed (k := 5) (n := 2) (T := 125) (rs := rs) (ss := (jn a b).map eSeries) rfl J.len J.gd J.ap (fun r hr b hb => .inl (J.nw r hr b hb)) (fun Z v hZ => ?_)
    exact ok_ret ⟨_, ⟨_, _, rfl, rfl, rfl⟩, .tr Z 2 _ v, fun b hb => (hZ b (zn_tr hb)).elim id fun h => h.elim⟩
end Go.Ring
