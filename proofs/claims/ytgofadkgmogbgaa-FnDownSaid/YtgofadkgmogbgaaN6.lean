/- The reference's windows: how many there are. No condition beyond the sizes. -/
import Derived.Test.YtgofadkgmogbgaaN5
set_option maxRecDepth 100000
set_option linter.unusedVariables false
set_option linter.unusedSimpArgs false
namespace Go.Ring
open Go Go.RowKit Go.Eager Go.Abs Go.Proofs
theorem f164_ok (x : List Sample) (hx : x.length ≤ 1048576) : PFn Try.prog 164 [eSampleS x] (eSampleS (liveF x)) := by
  refine fn_ok' (n := 21) Try.func164 rfl rfl rfl (Nat.le_of_ble_eq_true rfl) rfl fun w0 O => ?_
  refine ok_seq fun K1 h1 => ok_region rfl (q_as _ rfl (run_nil (h1 _ ?_))); clear h1 K1
  refine ok_seq fun K2 h2 => ok_region rfl (q_an (n := 2) 135 (by decide) rfl rfl rfl (run_nil (h2 _ ?_))); clear h2 K2
  refine ok_seq fun K3 h3 => ?_
  refine ok_seq fun K4 h4 => ok_region rfl (q_mv (eSampleS x) rfl (q_len eS32 rfl (q_mv _ rfl (run_nil (h4 _ ?_))))); clear h4 K4
  rw [List.length_map]
  refine ok_block ?_
  refine ok_loop (fun (s : Nat × List Sample) => ⟨[(3, .own 3), (6, .sv (eSampleS x)), (7, .sv (int x.length)), (8, .sv (int s.1))], [(3, .row 2 135 (s.2.map eSample))]⟩) (fun s => s.2 ++ (x.drop s.1).filter liveB = x.filter liveB ∧ s.2.length ≤ s.1) (fun s => x.length - s.1) (0, []) ⟨rfl, Nat.le_refl _⟩ (le_sub ⟨rfl, rfl, rfl, rfl, trivial⟩ ⟨rfl, trivial⟩) (fun s J => ?_)
  obtain ⟨k, q⟩ := s
  obtain ⟨j1, j2⟩ := J
  simp only at j1 j2
  refine ok_seq fun K5 h5 => ok_region rfl (q_bin _ _ _ rfl rfl rfl (run_nil (h5 _ ?_))); clear h5 K5
  refine ok_seq fun K6 h6 => ?_
  refine ok_cond rfl (fun c7 => ?_) (fun c7 => ?_)
  · have hk : k < x.length := by simpa using c7
    obtain ⟨u, hu⟩ := sget hk
    rw [filt_drop hu] at j1
    refine ok_skip (h6 _ ?_)
    refine ok_seq_join (fun (q' : List Sample) => ⟨[(3, .own 3), (6, .sv (eSampleS x)), (7, .sv (int x.length)), (8, .sv (int k))], [(3, .row 2 135 (q'.map eSample))]⟩) (fun q' => q' ++ (x.drop (k + 1)).filter liveB = x.filter liveB ∧ q'.length ≤ k + 1) ?_ (fun q' J => ?_)
    · refine ok_block ?_
      refine ok_seq fun K8 h8 => ok_region rfl (q_ia el32 rfl rfl (by omega) (mget (f := eSample) hu) (q_lds _ ag135 rfl sz135 (q_alloc _ ze135 rfl rfl rfl rfl (q_sts _ rfl rfl rfl sz135 (Nat.le_of_ble_eq_true rfl) rfl (run_nil (h8 _ ?_)))))); clear h8 K8
      refine ok_seq fun K9 h9 => ok_region rfl (q_fap fd135_1 rfl (by decide) (q_ldb _ ag3 rfl rfl rfl (q_bin _ _ _ rfl rfl rfl (run_nil (h9 _ ?_))))); clear h9 K9
      refine ok_cond rfl (fun c10 => ?_) (fun c10 => ?_)
      · rw [if_pos (show liveB u = true from c10)] at j1
        refine ok_last fun K11 h11 => ok_region rfl (q_mo _ rfl (q_ldbs ag135 rfl rfl sz135 rfl rfl (q_lit1 _ _ el32 ze135 (by decide) (by decide) rfl (.inl ⟨_, rfl⟩) rfl (q_app _ el32 ze135 rfl by135 rfl rfl rfl rfl rfl (by simp) (by intro s hs; simp at hs; subst hs; exact .inl ⟨_, rfl⟩) (by rw [List.length_map]; show q.length + 1 ≤ maxLen; unfold maxLen; omega) (by rw [List.length_map]; show (q.length + 1) * _ ≤ _; omega) (q_ao _ rfl (run_nil (h11 _ ⟨q ++ [u], ⟨by rw [List.append_assoc]; exact j1, by rw [List.length_append]; simp; omega⟩, by rw [List.map_append]; exact le_rek 3 18 ⟨rfl, rfl, rfl, rfl, trivial⟩ ⟨rfl, trivial⟩ rfl rfl rfl rfl ⟨rfl, trivial⟩⟩)))))))
      · rw [if_neg (by rw [show liveB u = false from c10]; simp)] at j1
        exact ok_skip ⟨q, ⟨j1, by omega⟩, le_sub ⟨rfl, rfl, rfl, rfl, trivial⟩ ⟨rfl, trivial⟩⟩
    · refine ok_last fun K12 h12 => ok_region rfl (q_add rfl rfl (by omega) (q_mv _ rfl (run_nil (h12 _ ⟨(k + 1, q'), by simp only; omega, J, le_sub ⟨rfl, rfl, rfl, rfl, trivial⟩ ⟨rfl, trivial⟩⟩))))
  · rw [List.drop_of_length_le (by have : ¬ ((k : Int) < x.length) := by simpa using c7
                                   omega)] at j1
    have j3 : q = x.filter liveB := by rw [← j1]; simp
    refine ok_exit (h3 _ ?_)
    refine Ok.le (Le.trans (le_fz (n := 2) (T := 135) (l := q.map eSample) 3 rfl) (le_sub (t' := [(3, .own 3)]) (h' := [(3, .row 2 135 (q.map eSample))]) ⟨rfl, trivial⟩ ⟨rfl, trivial⟩)) ?_
    refine ok_seq fun K13 h13 => ok_region rfl (q_mv (eSampleS q) rfl (q_as _ rfl (run_nil (h13 _ ?_)))); clear h13 K13
    exact ok_ret ⟨_, rfl, by rw [j3]; rfl⟩
@[reducible] def cellA (a : Agg) : Ent := .box [.sv (int a.time), .sv (int a.count), .sv (int a.sum), .sv (int a.mn), .sv (int a.mx), .sv (int a.first), .sv (int a.last), .sv (int a.rise)]
theorem built41b (t c v1 v2 v3 v4 : Int) : Try.prog.built 41 [(0, .int .i64 t), (1, .int .i64 c), (3, .int .i64 v1), (4, .int .i64 v2), (5, .int .i64 v3), (6, .int .i64 v4)] = some (List.toArray [.int .i64 t, .int .i64 c, .int .i64 0, .int .i64 v1, .int .i64 v2, .int .i64 v3, .int .i64 v4, .int .i64 0]) := by kernel_rfl
theorem f166_r (l : List Sample) (hl0 : l ≠ []) (hl : l.length ≤ 1048576) (t : Int) : PFnR Try.prog 166 [eSampleS l, int t] (fun r => ∃ a : Agg, r = eAgg a) := by
  have hpos : 0 < l.length := List.length_pos_iff.2 hl0
  obtain ⟨x, hx⟩ := sget hpos
  have hzl : l.length - 1 < l.length := by omega
  obtain ⟨z, hz⟩ := sget hzl
  have hz' : (l.map eSample)[((l.length : Int) - 1).toNat]? = some (eSample z) := by
    rw [show ((l.length : Int) - 1).toNat = l.length - 1 by omega, List.getElem?_map, hz]; rfl
  refine fnp_ok (n := 77) Try.func166 rfl rfl rfl (Nat.le_of_ble_eq_true rfl) rfl fun w0 O => ?_
  refine ok_seq fun K1 h1 => ok_region rfl (q_alloc _ ze41 rfl rfl rfl rfl (run_nil (h1 _ ?_))); clear h1 K1
  refine ok_seq_join (fun (a : Agg) => ⟨[(0, .sv (eSampleS l)), (4, .ptr 4 0), (5, .ptr 5 0)], [(4, cellA ⟨0, 0, 0, 0, 0, 0, 0, 0⟩), (5, cellA a)]⟩) (fun _ => True) ?_ (fun a0 _ => ?_)
  · refine ok_last fun K2 h2 => ok_region_t (.fork [0, 1, 2, 3, 4, 5, 6, 7, 8, 9, 10, 11, 12, 13, 14, 15, 16, 17, 18, 19, 20, 21] 22 (.leaf [23, 24]) 23 (.leaf [22, 24])) (by kernel_rfl) (by kernel_rfl) rfl ?_
    refine runT_fork ?_
    refine q_mv (int t) rfl (q_mv (eSampleS l) rfl (q_len eS32 rfl (q_mv (eSampleS l) rfl (q_ia el32 rfl rfl (by omega) (mget (f := eSample) hx) (q_fa _ fd135_1 rfl rfl (by decide) (q_ld _ ag3 rfl rfl (q_mv (eSampleS l) rfl (q_ia el32 rfl rfl (by omega) (mget (f := eSample) hx) (
      q_fa _ fd135_1 rfl rfl (by decide) (q_ld _ ag3 rfl rfl (q_mv (eSampleS l) rfl (q_ia el32 rfl rfl (by omega) (mget (f := eSample) hx) (q_fa _ fd135_1 rfl rfl (by decide) (q_ld _ ag3 rfl rfl (q_mv (eSampleS l) rfl (
      q_mv (eSampleS l) rfl (q_len eS32 rfl ?_)))))))))))))))))
    rw [List.length_map]
    refine q_sub rfl rfl (by omega) (q_ia el32 rfl rfl (by omega) hz' (q_fa _ fd135_1 rfl rfl (by decide) (q_ld _ ag3 rfl rfl (run_nil ⟨?_, ?_⟩))))
    · exact q_bldr [(0, .int .i64 t), (1, .int .i64 l.length), (3, .int .i64 x.value), (4, .int .i64 x.value), (5, .int .i64 x.value), (6, .int .i64 z.value)] _ rfl (built41b _ _ _ _ _ _) rfl (run_nil (runT_leaf (q_alloc _ ze41 rfl rfl rfl rfl (q_sts [int t, int l.length, int 0, int x.value, int x.value, int x.value, int z.value, int 0] rfl rfl rfl sz41 (Nat.le_of_ble_eq_true rfl) rfl (run_nil (h2 _ ⟨⟨t, l.length, 0, x.value, x.value, x.value, z.value, 0⟩, trivial, le_sub ⟨rfl, rfl, rfl, trivial⟩ ⟨rfl, rfl, trivial⟩⟩) )))))
    · exact q_alloc _ ze41 rfl rfl rfl rfl (run_nil (runT_leaf (q_bldr [(0, .int .i64 t), (1, .int .i64 l.length), (3, .int .i64 x.value), (4, .int .i64 x.value), (5, .int .i64 x.value), (6, .int .i64 z.value)] _ rfl (built41b _ _ _ _ _ _) rfl (q_sts [int t, int l.length, int 0, int x.value, int x.value, int x.value, int z.value, int 0] rfl rfl rfl sz41 (Nat.le_of_ble_eq_true rfl) rfl (run_nil (h2 _ ⟨⟨t, l.length, 0, x.value, x.value, x.value, z.value, 0⟩, trivial, le_sub ⟨rfl, rfl, rfl, trivial⟩ ⟨rfl, rfl, trivial⟩⟩) )))))
  refine ok_seq fun K3 h3 => ?_
  refine ok_seq fun K4 h4 => ok_region rfl (q_mv (eSampleS l) rfl (q_len eS32 rfl (q_mv _ rfl (run_nil (h4 _ ?_))))); clear h4 K4
  rw [List.length_map]
  refine ok_block ?_
  refine ok_loop (fun (s : Nat × Agg) => ⟨[(0, .sv (eSampleS l)), (4, .ptr 4 0), (5, .ptr 5 0), (31, .sv (eSampleS l)), (32, .sv (int l.length)), (33, .sv (int s.1))], [(4, cellA ⟨0, 0, 0, 0, 0, 0, 0, 0⟩), (5, cellA s.2)]⟩) (fun _ => True) (fun s => l.length - s.1) (0, a0) trivial (le_sub ⟨rfl, rfl, rfl, rfl, rfl, rfl, trivial⟩ ⟨rfl, rfl, trivial⟩) (fun s J => ?_)
  obtain ⟨k, a⟩ := s
  refine ok_seq fun K5 h5 => ok_region rfl (q_bin _ _ _ rfl rfl rfl (run_nil (h5 _ ?_))); clear h5 K5
  refine ok_seq fun K6 h6 => ?_
  refine ok_cond rfl (fun c7 => ?_) (fun c7 => ?_)
  · refine ok_skip (h6 _ ?_)
    have hk : k < l.length := by simpa using c7
    obtain ⟨u, hu⟩ := sget hk
    obtain ⟨p, hp⟩ := prev hk
    refine ok_seq_join (fun (a : Agg) => ⟨[(0, .sv (eSampleS l)), (4, .ptr 4 0), (5, .ptr 5 0), (31, .sv (eSampleS l)), (32, .sv (int l.length)), (33, .sv (int k))], [(4, cellA ⟨0, 0, 0, 0, 0, 0, 0, 0⟩), (5, cellA a)]⟩) (fun _ => True) ?_ (fun a _ => ?_)
    · refine ok_block ?_
      refine ok_seq fun K8 h8 => ok_region rfl (q_mv _ rfl (q_ia el32 rfl rfl (by omega) (mget (f := eSample) hu) (q_lds _ ag135 rfl sz135 (q_alloc _ ze135 rfl rfl rfl rfl (q_as _ rfl (q_sts _ rfl rfl rfl sz135 (Nat.le_of_ble_eq_true rfl) rfl (run_nil (h8 _ ?_)))))))); clear h8 K8
      refine ok_seq fun K9 h9 => ok_region rfl (q_fap fd41_2 rfl (by decide) (q_ldb (.sv (int a.sum)) ag3 rfl rfl rfl (q_fap fd135_1 rfl (by decide) (q_ldb _ ag3 rfl rfl rfl (q_bin _ _ _ rfl rfl rfl (q_fap fd41_2 rfl (by decide) (
        q_st _ sz3 rfl rfl (Nat.le_of_ble_eq_true rfl) rfl ⟨_, rfl, rfl⟩ rfl (run_nil (h9 _ ?_))))))))); clear h9 K9
      refine ok_seq_join (fun (a : Agg) => ⟨[(0, .sv (eSampleS l)), (4, .ptr 4 0), (5, .ptr 5 0), (6, .sv (int k)), (7, .ptr 7 0), (31, .sv (eSampleS l)), (32, .sv (int l.length)), (33, .sv (int k))], [(4, cellA ⟨0, 0, 0, 0, 0, 0, 0, 0⟩), (5, cellA a), (7, .box [.sv (int u.time), .sv (int u.value)])]⟩) (fun _ => True) ?_ (fun a _ => ?_)
      · refine ok_seq fun K10 h10 => ok_region rfl (q_fap fd135_1 rfl (by decide) (q_ldb _ ag3 rfl rfl rfl (q_fap fd41_3 rfl (by decide) (q_ldb (.sv (int a.mn)) ag3 rfl rfl rfl (q_bin _ _ _ rfl rfl rfl (run_nil (h10 _ ?_))))))); clear h10 K10
        refine ok_cond rfl (fun c11 => ?_) (fun c11 => ?_)
        · exact ok_last fun K12 h12 => ok_region rfl (
            q_fap fd135_1 rfl (by decide) (q_ldb _ ag3 rfl rfl rfl (q_fap fd41_3 rfl (by decide) (q_st _ sz3 rfl rfl (Nat.le_of_ble_eq_true rfl) rfl ⟨_, rfl, rfl⟩ rfl (run_nil (h12 _ (⟨{ a with sum := w64 (a.sum + u.value), mn := u.value }, trivial, le_sub ⟨rfl, rfl, rfl, rfl, rfl, rfl, rfl, rfl, trivial⟩ ⟨rfl, rfl, rfl, trivial⟩⟩)))))))
        · exact ok_skip (⟨{ a with sum := w64 (a.sum + u.value) }, trivial, le_sub ⟨rfl, rfl, rfl, rfl, rfl, rfl, rfl, rfl, trivial⟩ ⟨rfl, rfl, rfl, trivial⟩⟩)
      · refine ok_seq_join (fun (a : Agg) => ⟨[(0, .sv (eSampleS l)), (4, .ptr 4 0), (5, .ptr 5 0), (6, .sv (int k)), (7, .ptr 7 0), (31, .sv (eSampleS l)), (32, .sv (int l.length)), (33, .sv (int k))], [(4, cellA ⟨0, 0, 0, 0, 0, 0, 0, 0⟩), (5, cellA a), (7, .box [.sv (int u.time), .sv (int u.value)])]⟩) (fun _ => True) ?_ (fun a _ => ?_)
        · refine ok_seq fun K13 h13 => ok_region rfl (q_fap fd135_1 rfl (by decide) (q_ldb _ ag3 rfl rfl rfl (q_fap fd41_4 rfl (by decide) (q_ldb (.sv (int a.mx)) ag3 rfl rfl rfl (q_bin _ _ _ rfl rfl rfl (run_nil (h13 _ ?_))))))); clear h13 K13
          refine ok_cond rfl (fun c14 => ?_) (fun c14 => ?_)
          · exact ok_last fun K15 h15 => ok_region rfl (
              q_fap fd135_1 rfl (by decide) (q_ldb _ ag3 rfl rfl rfl (q_fap fd41_4 rfl (by decide) (q_st _ sz3 rfl rfl (Nat.le_of_ble_eq_true rfl) rfl ⟨_, rfl, rfl⟩ rfl (run_nil (h15 _ (⟨{ a with mx := u.value }, trivial, le_sub ⟨rfl, rfl, rfl, rfl, rfl, rfl, rfl, rfl, trivial⟩ ⟨rfl, rfl, rfl, trivial⟩⟩)))))))
          · exact ok_skip (⟨a, trivial, le_sub ⟨rfl, rfl, rfl, rfl, rfl, rfl, rfl, rfl, trivial⟩ ⟨rfl, rfl, rfl, trivial⟩⟩)
        · refine ok_seq fun K16 h16 => ok_region rfl (q_mv (int k) rfl (q_bin _ _ _ rfl rfl rfl (run_nil (h16 _ ?_)))); clear h16 K16
          refine ok_cond rfl (fun c17 => ?_) (fun c17 => ?_)
          · have hk0 : 0 < k := by have := of_decide_eq_true (p := (0 : Int) < k) c17; omega
            exact ok_last fun K18 h18 => ok_region_i (by kernel_rfl) (by kernel_rfl) rfl (
              q_fap fd41_7 rfl (by decide) (q_ldb (.sv (int a.rise)) ag3 rfl rfl rfl (q_mv (eSampleS l) rfl (q_mv (int k) rfl (q_sub rfl rfl (by omega) (q_ia el32 rfl rfl (by omega) (pget (f := eSample) hp hk0) (q_fa _ fd135_1 rfl rfl (by decide) (
              q_ld _ ag3 rfl rfl (q_fap fd135_1 rfl (by decide) (q_ldb _ ag3 rfl rfl rfl (q_call (f215_ok p.value u.value) cl215 rfl rfl (q_bin _ _ _ rfl rfl rfl (q_fap fd41_7 rfl (by decide) (
              q_st _ sz3 rfl rfl (Nat.le_of_ble_eq_true rfl) rfl ⟨_, rfl, rfl⟩ rfl (run_nil (h18 _ (⟨{ a with rise := w64 (a.rise + rOv p.value u.value) }, trivial, le_sub ⟨rfl, rfl, rfl, rfl, rfl, rfl, trivial⟩ ⟨rfl, rfl, trivial⟩⟩) ))))))))))))))))
          · exact ok_skip (⟨a, trivial, le_sub ⟨rfl, rfl, rfl, rfl, rfl, rfl, trivial⟩ ⟨rfl, rfl, trivial⟩⟩)
    · exact ok_last fun K19 h19 => ok_region rfl (
        q_add rfl rfl (by omega) (q_mv _ rfl (run_nil (h19 _ (⟨(k + 1, a), by simp only; omega, trivial, le_sub ⟨rfl, rfl, rfl, rfl, rfl, rfl, trivial⟩ ⟨rfl, rfl, trivial⟩⟩)))))
  · refine ok_exit (h3 _ ?_)
    refine ok_seq fun K20 h20 => ok_region rfl (q_ldbs (r := [int a.time, int a.count, int a.sum, int a.mn, int a.mx, int a.first, int a.last, int a.rise]) ag41 rfl rfl sz41 rfl rfl (q_sts [int a.time, int a.count, int a.sum, int a.mn, int a.mx, int a.first, int a.last, int a.rise] rfl rfl rfl sz41 (Nat.le_of_ble_eq_true rfl) rfl (run_nil (h20 _ ?_)))); clear h20 K20
    refine ok_ret ⟨_, ⟨_, _, res_cells (l := [int a.time, int a.count, int a.sum, int a.mn, int a.mx, int a.first, int a.last, int a.rise]) rfl rfl ag41 sz41 rfl, rfl, rfl⟩, ⟨a, rfl⟩, fun b hb => ?_⟩
    have hb : Zn b (eAgg a) := hb
    obtain ⟨s, hs, h⟩ := zn_agg hb
    simp only [List.mem_cons, List.not_mem_nil, or_false] at hs
    rcases hs with rfl | rfl | rfl | rfl | rfl | rfl | rfl | rfl <;> exact (zn_raw h).elim
end Go.Ring
