/- Drawn samples and a drawn width: what bounds them. No condition beyond the lengths. -/
import Derived.Test.YtgofadkgmogbgaaN8
set_option maxRecDepth 100000
set_option linter.unusedVariables false
set_option linter.unusedSimpArgs false
namespace Go.Ring
open Go Go.RowKit Go.Eager Go.Abs Go.Proofs
theorem bl135 (x y : Int) : Try.prog.built 135 [(0, .int .i64 x), (1, .int .i64 y)] = some (List.toArray [.int .i64 x, .int .i64 y]) := by kernel_rfl
theorem bl135a (x : Int) : Try.prog.built 135 [(0, .int .i64 x)] = some (List.toArray [.int .i64 x, .int .i64 0]) := by kernel_rfl
theorem f75_ok (code : List UInt8) (hc : code.length ≤ 1048576) : ∃ n : Int, 0 ≤ n ∧ n ≤ 100 ∧ PFn Try.prog 75 [eCode code, int 10, int 100] (int n) := by
  by_cases h : (code.length : Int) / 10 > 100
  · refine ⟨100, by omega, by omega, ?_⟩
    refine fn_ok' (n := 17) Try.func75 rfl rfl rfl (Nat.le_of_ble_eq_true rfl) rfl fun w0 O => ?_
    refine ok_seq fun K1 h1 => ok_region rfl (q_as _ rfl (run_nil (h1 _ ?_))); clear h1 K1
    refine ok_seq fun K2 h2 => ok_region rfl (q_mv (eCode code) rfl (q_len eS22 rfl ?_))
    rw [List.length_map]
    refine q_mv (int 10) rfl (q_div rfl rfl (by omega) (q_as _ rfl (run_nil (h2 _ ?_)))); clear h2 K2
    refine ok_seq fun K3 h3 => ?_
    refine ok_seq fun K4 h4 => ok_region rfl (q_mv (int ((code.length : Int) / 10)) rfl (q_mv (int 100) rfl (q_bin _ _ _ rfl rfl rfl (run_nil (h4 _ ?_))))); clear h4 K4
    refine ok_cond rfl (fun c5 => ?_) (fun c5 => absurd (of_decide_eq_false (p := (100 : Int) < (code.length : Int) / 10) c5) (by omega))
    refine ok_seq fun K6 h6 => ok_region rfl (q_mv (int 100) rfl (q_as _ rfl (run_nil (h6 _ ?_))))
    exact ok_ret ⟨_, rfl, rfl⟩
  · refine ⟨(code.length : Int) / 10, by omega, by omega, ?_⟩
    refine fn_ok' (n := 17) Try.func75 rfl rfl rfl (Nat.le_of_ble_eq_true rfl) rfl fun w0 O => ?_
    refine ok_seq fun K1 h1 => ok_region rfl (q_as _ rfl (run_nil (h1 _ ?_))); clear h1 K1
    refine ok_seq fun K2 h2 => ok_region rfl (q_mv (eCode code) rfl (q_len eS22 rfl ?_))
    rw [List.length_map]
    refine q_mv (int 10) rfl (q_div rfl rfl (by omega) (q_as _ rfl (run_nil (h2 _ ?_)))); clear h2 K2
    refine ok_seq fun K3 h3 => ?_
    refine ok_seq fun K4 h4 => ok_region rfl (q_mv (int ((code.length : Int) / 10)) rfl (q_mv (int 100) rfl (q_bin _ _ _ rfl rfl rfl (run_nil (h4 _ ?_))))); clear h4 K4
    refine ok_cond rfl (fun c5 => absurd (of_decide_eq_true (p := (100 : Int) < (code.length : Int) / 10) c5) (by omega)) (fun c5 => ?_)
    refine ok_skip (h3 _ ?_)
    refine ok_seq fun K7 h7 => ok_region rfl (q_mv (int ((code.length : Int) / 10)) rfl (q_as _ rfl (run_nil (h7 _ ?_)))); clear h7 K7
    exact ok_ret ⟨_, rfl, rfl⟩
/-- A row of samples of its own, under the name k. -/
def DrS (code : List UInt8) (at_ m : Int) (k N : Nat) : LV → List (Nat × Ent) → Prop := fun r h' => ∃ (l : List Sample) (a' seed' : Int), r = .own k ∧ l.length ≤ N ∧ at_ ≤ a' ∧ a' ≤ at_ + m ∧ CurOk code a' seed' ∧ h' = [(k, .row 2 135 (l.map eSample)), (1000, curB code a' seed')]
theorem f73_ok (code : List UInt8) (a seed : Int) (hc : CurOk code a seed) (ha : a ≤ 500000000000000) (t0 N0 : Int) (hN : 1 ≤ N0 ∧ N0 ≤ 1000) : PFnB Try.prog 73 [.ptr 1000 0, .sv (int t0), .sv (int N0)] [(1000, curB code a seed)] [1000] (DrS code a 100000 7 1000) := by
  refine fnb_ok (n := 55) Try.func73 rfl rfl rfl (Nat.le_of_ble_eq_true rfl) rfl rfl fun w0 O M ρ => ?_
  refine ok_seq fun K1 h1 => ok_region rfl (q_as _ rfl (run_nil (h1 _ ?_))); clear h1 K1
  refine ok_seq fun K1 h1 => ok_region rfl (q_an (n := 2) 135 (by decide) rfl rfl rfl (run_nil (h1 _ ?_))); clear h1 K1
  refine ok_seq fun K1 h1 => ok_region rfl (q_mv (int t0) rfl (q_as _ rfl (run_nil (h1 _ ?_)))); clear h1 K1
  refine ok_seq fun K1 h1 => ok_region rfl (q_mp 1000 0 rfl (q_dr (sa := [int 100]) 1000 (f74_ok code a seed hc (by omega) 100 (by omega)) cl74 rfl rfl rfl rfl rfl (fun s a1 seed1 hs hb1 hb2 hc1 => ?_)))
  obtain ⟨v0, rfl, -, -⟩ := hs
  refine q_as _ rfl (run_nil (h1 _ ?_)); clear h1 K1
  refine ok_seq fun K1 h1 => ok_region rfl (q_mp 1000 0 rfl (q_dr (sa := [int 15]) 1000 (f74_ok code a1 seed1 hc1 (by omega) 15 (by omega)) cl74 rfl rfl rfl rfl rfl (fun s a2 seed2 hs hd1 hd2 hc2 => ?_)))
  obtain ⟨s0, rfl, -, -⟩ := hs
  refine q_bin _ _ _ rfl rfl rfl (q_as _ rfl (run_nil (h1 _ ?_))); clear h1 K1
  refine ok_seq fun K3 h3 => ?_
  refine ok_seq fun K4 h4 => ok_region rfl (q_mp 1000 0 rfl (q_mv (int N0) rfl (q_dr (sa := [int N0]) 1000 (f74_ok code a2 seed2 hc2 (by omega) N0 (by omega)) cl74 rfl rfl rfl rfl rfl (fun s a3 seed3 hs he1 he2 hc3 => ?_))))
  obtain ⟨n0, rfl, hn0, hn1⟩ := hs
  refine q_as _ rfl (run_nil (h4 _ ?_)); clear h4 K4
  obtain ⟨n, rfl⟩ : ∃ n : Nat, n0 = n := ⟨n0.toNat, by omega⟩
  have hn1 := hn1 hN.1
  have hn : n ≤ 1000 := by omega
  refine ok_block ?_
  refine ok_loop (fun (v : Nat × List Sample × Int × Int × Int × Int × Int) => ⟨[(0, .ptr 1000 0), (7, .own 7), (8, .sv (int v.2.2.1)), (9, .sv (int v.2.2.2.1)), (10, .sv (int v.2.2.2.2.1)), (11, .sv (int v.1))], [(7, .row 2 135 (v.2.1.map eSample)), (1000, curB code v.2.2.2.2.2.1 v.2.2.2.2.2.2)]⟩)
    (fun v => v.1 + v.2.1.length ≤ n ∧ a ≤ v.2.2.2.2.2.1 ∧ v.2.2.2.2.2.1 + 40 * v.1 ≤ a + 10 + 40 * n ∧ CurOk code v.2.2.2.2.2.1 v.2.2.2.2.2.2) (fun v => v.1) (n, [], t0, v0, _, a3, seed3) ⟨by simp, by simp only; omega, by simp only; omega, hc3⟩ (le_sub ⟨rfl, rfl, rfl, rfl, rfl, rfl, trivial⟩ ⟨rfl, rfl, trivial⟩) (fun v J => ?_)
  obtain ⟨k, q, tm, vl, st, a4, seed4⟩ := v
  obtain ⟨j1, j2, j3, j4⟩ := J
  simp only at j1 j2 j3 j4
  refine ok_seq fun K5 h5 => ?_
  refine ok_seq fun K6 h6 => ok_region rfl (q_mv (int k) rfl (q_bin _ _ _ rfl rfl rfl (run_nil (h6 _ ?_)))); clear h6 K6
  refine ok_cond rfl (fun c7 => ?_) (fun c7 => ?_)
  · have hk0 : 0 < k := by have := of_decide_eq_true (p := (0 : Int) < k) c7; omega
    refine ok_skip (h5 _ ?_)
    refine ok_seq fun K8 h8 => ?_
    refine ok_block ?_
    refine ok_seq fun K12 h12 => ok_region rfl (q_mp 1000 0 rfl (q_mv (int vl) rfl (q_dr (sa := [int vl]) 1000 (f158_ok code a4 seed4 j4 (by omega) vl) cl158 rfl rfl rfl rfl rfl (fun s a5 seed5 hs hf1 hf2 hc5 => ?_))))
    obtain ⟨vn, rfl⟩ := hs
    refine q_as _ rfl (run_nil (h12 _ ?_)); clear h12 K12
    have hql : q.length ≤ 1048576 := by omega
    refine ok_seq fun K13 h13 => ok_region rfl (q_mo 7 rfl (q_mv (int tm) rfl (q_mv (int vn) rfl (q_bldr [(0, .int .i64 tm), (1, .int .i64 vn)] _ rfl (bl135 _ _) rfl (q_lit1 _ _ el32 ze135 (by decide) (by decide) rfl (.inl ⟨_, rfl⟩) rfl (q_app (q := [eSample ⟨tm, vn⟩]) _ el32 ze135 rfl by135 rfl rfl rfl rfl rfl (by simp) (by intro s hs; simp at hs; subst hs; exact .inl ⟨_, rfl⟩) (by rw [List.length_map]; show q.length + 1 ≤ maxLen; unfold maxLen; omega) (by rw [List.length_map]; show (q.length + 1) * _ ≤ _; omega) (
      q_ao _ rfl (run_nil (h13 _ ?_)) )))))))
    clear h13 K13
    refine Ok.le (σ' := ⟨[(0, .ptr 1000 0), (7, .own 7), (8, .sv (int tm)), (9, .sv (int vn)), (10, .sv (int st)), (11, .sv (int k))], [(7, .row 2 135 ((q ++ [(⟨tm, vn⟩ : Sample)]).map eSample)), (1000, curB code a5 seed5)]⟩) (by
      rw [List.map_append]
      exact le_rek 7 33 ⟨rfl, rfl, rfl, rfl, rfl, rfl, trivial⟩ ⟨rfl, rfl, trivial⟩ rfl rfl rfl rfl ⟨rfl, rfl, trivial⟩) ?_
    refine ok_seq_join (fun (v : Int × Int × Int) => ⟨[(0, .ptr 1000 0), (7, .own 7), (8, .sv (int tm)), (9, .sv (int vn)), (10, .sv (int v.1)), (11, .sv (int k))], [(7, .row 2 135 ((q ++ [(⟨tm, vn⟩ : Sample)]).map eSample)), (1000, curB code v.2.1 v.2.2)]⟩) (fun v => a4 ≤ v.2.1 ∧ v.2.1 ≤ a4 + 40 ∧ CurOk code v.2.1 v.2.2) ?_ (fun v J => ?_)
    · refine ok_seq fun K14 h14 => ok_region rfl (q_mp 1000 0 rfl (q_dr (sa := [int 12]) 1000 (f74_ok code a5 seed5 hc5 (by omega) 12 (by omega)) cl74 rfl rfl rfl rfl rfl (fun s a6 seed6 hs hg1 hg2 hc6 => ?_)))
      obtain ⟨x, rfl, -, -⟩ := hs
      refine run_nil (h14 _ ?_); clear h14 K14
      refine ok_block ?_
      refine ok_seq fun K15 h15 => ok_region rfl (q_bin _ _ _ rfl rfl rfl (q_as _ rfl (run_nil (h15 _ ?_)))); clear h15 K15
      refine ok_cond rfl (fun c16 => ?_) (fun c16 => ?_)
      · refine ok_last fun K17 h17 => ok_region rfl (q_mp 1000 0 rfl (q_dr (sa := [int 400]) 1000 (f74_ok code a6 seed6 hc6 (by omega) 400 (by omega)) cl74 rfl rfl rfl rfl rfl (fun s a7 seed7 hs hg3 hg4 hc7 => ?_)))
        obtain ⟨y, rfl, -, -⟩ := hs
        exact q_bin _ _ _ rfl rfl rfl (q_as _ rfl (run_nil (h17 _ ⟨(_, a7, seed7), ⟨by simp only; omega, by simp only; omega, hc7⟩, le_sub ⟨rfl, rfl, rfl, rfl, rfl, rfl, trivial⟩ ⟨rfl, rfl, trivial⟩⟩)))
      · refine ok_seq fun K18 h18 => ok_region rfl (q_bin _ _ _ rfl rfl rfl (q_as _ rfl (run_nil (h18 _ ?_)))); clear h18 K18
        refine ok_cond rfl (fun c19 => ?_) (fun c19 => ?_)
        · refine ok_last fun K20 h20 => ok_region rfl (q_mp 1000 0 rfl (q_dr (sa := [int 5000]) 1000 (f74_ok code a6 seed6 hc6 (by omega) 5000 (by omega)) cl74 rfl rfl rfl rfl rfl (fun s a7 seed7 hs hg3 hg4 hc7 => ?_)))
          obtain ⟨y, rfl, -, -⟩ := hs
          exact q_bin _ _ _ rfl rfl rfl (q_as _ rfl (run_nil (h20 _ ⟨(_, a7, seed7), ⟨by simp only; omega, by simp only; omega, hc7⟩, le_sub ⟨rfl, rfl, rfl, rfl, rfl, rfl, trivial⟩ ⟨rfl, rfl, trivial⟩⟩)))
        · refine ok_seq fun K21 h21 => ok_region rfl (q_bin _ _ _ rfl rfl rfl (q_as _ rfl (run_nil (h21 _ ?_)))); clear h21 K21
          refine ok_cond rfl (fun c22 => ?_) (fun c22 => ?_)
          · refine ok_last fun K23 h23 => ok_region rfl (q_mp 1000 0 rfl (q_dr (sa := [int 30]) 1000 (f74_ok code a6 seed6 hc6 (by omega) 30 (by omega)) cl74 rfl rfl rfl rfl rfl (fun s a7 seed7 hs hg3 hg4 hc7 => ?_)))
            obtain ⟨y, rfl, -, -⟩ := hs
            exact q_bin _ _ _ rfl rfl rfl (q_as _ rfl (run_nil (h23 _ ⟨(_, a7, seed7), ⟨by simp only; omega, by simp only; omega, hc7⟩, le_sub ⟨rfl, rfl, rfl, rfl, rfl, rfl, trivial⟩ ⟨rfl, rfl, trivial⟩⟩)))
          · exact ok_skip ⟨(st, a6, seed6), ⟨by simp only; omega, by simp only; omega, hc6⟩, le_sub ⟨rfl, rfl, rfl, rfl, rfl, rfl, trivial⟩ ⟨rfl, rfl, trivial⟩⟩
    · obtain ⟨st2, a6, seed6⟩ := v
      obtain ⟨i1, i2, i3⟩ := J
      simp only at i1 i2 i3
      refine ok_last fun K24 h24 => ok_region rfl (
        q_mv (int tm) rfl (q_mv (int st2) rfl (q_bin _ _ _ rfl rfl rfl (q_as _ rfl (run_nil (h24 _ (h8 _ ?_)))))))
      refine ok_last fun K25 h25 => ok_region rfl (
        q_mv (int k) rfl (q_sub rfl rfl (by omega) (q_as _ rfl (run_nil (h25 _ (⟨(k - 1, q ++ [⟨tm, vn⟩], IntKind.i64.wrap (tm + st2), vn, st2, a6, seed6), by simp only; omega, ⟨by simp; omega, by simp only; omega, by simp only; omega, i3⟩, ?_⟩))))))
      rw [show (k : Int) - 1 = ((k - 1 : Nat) : Int) by omega]
      exact le_sub ⟨rfl, rfl, rfl, rfl, rfl, rfl, trivial⟩ ⟨rfl, rfl, trivial⟩
  · refine ok_exit (h3 _ ?_)
    refine ok_seq fun K26 h26 => ok_region rfl (q_mo 7 rfl (q_ao 7 rfl (run_nil (h26 _ ?_)))); clear h26 K26
    refine Ok.le (σ' := ⟨[(6, .own 7)], [(7, .row 2 135 (q.map eSample)), (1000, curB code a4 seed4)]⟩) (le_sub ⟨rfl, trivial⟩ ⟨rfl, rfl, trivial⟩) ?_
    exact ok_ret ⟨_, _, ⟨_, _, rfl, rfl, rfl⟩, rfl, q, a4, seed4, rfl, by omega, j2, by omega, j4, rfl⟩
theorem set_len {α : Type} (l : List α) (i : Nat) (x : α) {N : Nat} (h : l.length ≤ N) : (l.set i x).length ≤ N := by rw [List.length_set]; exact h
theorem f72_ok (code : List UInt8) (a seed : Int) (hc : CurOk code a seed) (ha : a ≤ 600000000000000) (l : List Sample) (hl : l.length ≤ 1000) : PFnB Try.prog 72 [.ptr 1000 0, .own 1001] [(1001, .row 2 135 (l.map eSample)), (1000, curB code a seed)] [1000] (DrS code a 10 1001 2000) := by
  refine fnb_ok (n := 36) Try.func72 rfl rfl rfl (Nat.le_of_ble_eq_true rfl) rfl rfl fun w0 O M ρ => ?_
  refine ok_seq fun K1 h1 => ok_region rfl (q_as _ rfl (run_nil (h1 _ ?_))); clear h1 K1
  refine ok_seq_join (fun (s : List Sample × Int × Int) => ⟨[(1, .own 1001)], [(1001, .row 2 135 (s.1.map eSample)), (1000, curB code s.2.1 s.2.2)]⟩) (fun s => s.1.length ≤ 2000 ∧ a ≤ s.2.1 ∧ s.2.1 ≤ a + 10 ∧ CurOk code s.2.1 s.2.2) ?_ (fun s J => ?_)
  · refine ok_seq fun K2 h2 => ok_region rfl (q_mp 1000 0 rfl (q_dr (sa := [int 20]) 1000 (f74_ok code a seed hc (by omega) 20 (by omega)) cl74 rfl rfl rfl rfl rfl (fun s a1 seed1 hs hb1 hb2 hc1 => ?_)))
    obtain ⟨x, rfl, -, -⟩ := hs
    refine run_nil (h2 _ ?_); clear h2 K2
    refine ok_block ?_
    refine ok_seq fun K3 h3 => ok_region rfl (q_bin _ _ _ rfl rfl rfl (q_as _ rfl (run_nil (h3 _ ?_)))); clear h3 K3
    refine ok_cond rfl (fun c4 => ?_) (fun c4 => ?_)
    · refine ok_seq fun K5 h5 => ok_region rfl (q_mo 1001 rfl (q_leno eS32 rfl rfl (q_bin _ _ _ rfl rfl rfl (run_nil (h5 _ ?_))))); clear h5 K5
      rw [List.length_map]
      refine ok_cond rfl (fun c6 => ?_) (fun c6 => ?_)
      · have h1 : 1 < l.length := by have := of_decide_eq_true (p := (1 : Int) < l.length) c6; omega
        obtain ⟨y0, hy0⟩ := sget (show 0 < l.length by omega)
        obtain ⟨y1, hy1⟩ := sget h1
        refine ok_last fun K7 h7 => ok_region rfl (q_mo 1001 rfl (q_mo 1001 rfl (q_iao el32 rfl rfl rfl (by omega) (by rw [List.length_map]; show 0 < l.length; omega) (q_fae fd135_0 rfl (by decide) (q_ldef (cs := [int y0.time, int y0.value]) (int y0.time) ag3 rfl rfl (mget (f := eSample) hy0) rfl (q_iao el32 rfl rfl rfl (by omega) (by rw [List.length_map]; show 1 < l.length; omega) (q_fae fd135_0 rfl (by decide) (q_stef (cs := [int y1.time, int y1.value]) sz3 rfl rfl (mget (f := eSample) hy1) (Nat.le_of_ble_eq_true rfl) rfl rfl rfl (run_nil (h7 _ ?_) )))))))))
        refine ⟨(l.set 1 ⟨y0.time, y1.value⟩, a1, seed1), ⟨set_len _ _ _ (by omega), by simp only; omega, by simp only; omega, hc1⟩, ?_⟩
        rw [List.map_set]
        exact le_sub ⟨rfl, trivial⟩ ⟨rfl, rfl, trivial⟩
      · exact ok_skip ⟨(l, a1, seed1), ⟨by simp only; omega, by simp only; omega, by simp only; omega, hc1⟩, le_sub ⟨rfl, trivial⟩ ⟨rfl, rfl, trivial⟩⟩
    · refine ok_seq fun K8 h8 => ok_region rfl (q_bin _ _ _ rfl rfl rfl (q_as _ rfl (run_nil (h8 _ ?_)))); clear h8 K8
      refine ok_cond rfl (fun c9 => ?_) (fun c9 => ?_)
      · refine ok_last fun K10 h10 => ok_region rfl (q_mo 1001 rfl (q_mp 1000 0 rfl (q_dr (sa := [int 1000000000000, int 1000000000001]) 1000 (f98_ok code a1 seed1 hc1 (by omega) _ _) cl98 rfl rfl rfl rfl rfl (fun s a2 seed2 hs hd1 hd2 hc2 => ?_))))
        obtain ⟨y, rfl⟩ := hs
        refine q_bldr [(0, .int .i64 y)] _ rfl (bl135a _) rfl (q_lit1 _ _ el32 ze135 (by decide) (by decide) rfl (.inl ⟨_, rfl⟩) rfl (q_app (q := [eSample ⟨y, 0⟩]) _ el32 ze135 rfl by135 rfl rfl rfl rfl rfl (by simp) (by intro s hs; simp at hs; subst hs; exact .inl ⟨_, rfl⟩) (by rw [List.length_map]; show l.length + 1 ≤ maxLen; unfold maxLen; omega) (by rw [List.length_map]; show (l.length + 1) * _ ≤ _; omega) (q_ao _ rfl (run_nil (h10 _ ?_)))))
        refine ⟨(l ++ [⟨y, 0⟩], a2, seed2), ⟨by simp; omega, by simp only; omega, by simp only; omega, hc2⟩, ?_⟩
        rw [List.map_append]
        exact le_rek 1001 26 ⟨rfl, trivial⟩ ⟨rfl, rfl, trivial⟩ rfl rfl rfl rfl ⟨rfl, rfl, trivial⟩
      · refine ok_seq fun K11 h11 => ok_region rfl (q_bin _ _ _ rfl rfl rfl (q_as _ rfl (run_nil (h11 _ ?_)))); clear h11 K11
        refine ok_cond rfl (fun c12 => ?_) (fun c12 => ?_)
        · refine ok_seq fun K13 h13 => ok_region rfl (q_mo 1001 rfl (q_leno eS32 rfl rfl (q_bin _ _ _ rfl rfl rfl (run_nil (h13 _ ?_))))); clear h13 K13
          rw [List.length_map]
          refine ok_cond rfl (fun c14 => ?_) (fun c14 => ?_)
          · have h1 : 0 < l.length := by have := of_decide_eq_true (p := (0 : Int) < l.length) c14; omega
            obtain ⟨y0, hy0⟩ := sget h1
            refine ok_last fun K15 h15 => ok_region rfl (q_mo 1001 rfl (q_iao el32 rfl rfl rfl (by omega) (by rw [List.length_map]; show 0 < l.length; omega) (q_fae fd135_0 rfl (by decide) (q_stef (cs := [int y0.time, int y0.value]) (s' := int (-1)) sz3 rfl rfl (mget (f := eSample) hy0) (Nat.le_of_ble_eq_true rfl) rfl rfl rfl (run_nil (h15 _ ?_) )))))
            refine ⟨(l.set 0 ⟨-1, y0.value⟩, a1, seed1), ⟨set_len _ _ _ (by omega), by simp only; omega, by simp only; omega, hc1⟩, ?_⟩
            rw [List.map_set]
            exact le_sub ⟨rfl, trivial⟩ ⟨rfl, rfl, trivial⟩
          · exact ok_skip ⟨(l, a1, seed1), ⟨by simp only; omega, by simp only; omega, by simp only; omega, hc1⟩, le_sub ⟨rfl, trivial⟩ ⟨rfl, rfl, trivial⟩⟩
        · exact ok_skip ⟨(l, a1, seed1), ⟨by simp only; omega, by simp only; omega, by simp only; omega, hc1⟩, le_sub ⟨rfl, trivial⟩ ⟨rfl, rfl, trivial⟩⟩
  · obtain ⟨l2, a2, seed2⟩ := s
    obtain ⟨i1, i2, i3, i4⟩ := J
    simp only at i1 i2 i3 i4
    refine ok_seq fun K40 h40 => ok_region rfl (q_mo 1001 rfl (q_ao 1001 rfl (run_nil (h40 _ ?_))))
    exact ok_ret ⟨_, _, ⟨_, _, rfl, rfl, rfl⟩, rfl, l2, a2, seed2, rfl, i1, i2, i3, i4, rfl⟩
theorem f16_r (code : List UInt8) (hc : code.length ≤ 1048576) : PFnR Try.prog 16 [eCode code] (fun r => ∃ (l : List Sample) (x : Int), r = .tup [eSampleS l, int x] ∧ l.length ≤ 2000) := by
  obtain ⟨n, hn0, hn1, h75⟩ := f75_ok code hc
  refine fnp_ok (n := 21) Try.func16 rfl rfl rfl (Nat.le_of_ble_eq_true rfl) rfl fun w0 O => ?_
  refine ok_seq fun K1 h1 => ok_region rfl (q_as _ rfl (q_as _ rfl (run_nil (h1 _ ?_)))); clear h1 K1
  refine ok_seq fun K1 h1 => ok_region rfl (q_mv (eCode code) rfl (q_bldz [eCode code] [int 0, .raw (.int .u64 0)] (bz115 code) ⟨raw_z _ _, raw_z _ _, trivial⟩ rfl rfl rfl (q_boxo (cells := [.sv (eCode code), .sv (int 0), .sv (.raw (.int .u64 0))]) _ rfl (.inl ⟨_, rfl⟩) rfl rfl rfl (q_ap 8 0 rfl (run_nil (h1 _ ?_))))))
  clear h1 K1
  have hc0 : CurOk code 0 0 := ⟨hc, by omega, by omega, by omega⟩
  refine Ok.le (σ' := ⟨[(0, .sv (eCode code)), (4, .ptr 8 0)], [(8, curB code 0 0)]⟩) (le_sub ⟨rfl, rfl, trivial⟩ ⟨rfl, trivial⟩) ?_
  refine ok_seq fun K1 h1 => ok_region rfl (q_mp 8 0 rfl (q_mp 8 0 rfl (q_mp 8 0 rfl (q_dr (sa := [int 30]) 8 (f74_ok code 0 0 hc0 (by omega) 30 (by omega)) cl74 rfl rfl rfl rfl rfl (fun s a1 seed1 hs hb1 hb2 hc1 => ?_)))))
  obtain ⟨t0, rfl, -, -⟩ := hs
  refine q_mv (eCode code) rfl (q_call h75 cl75 rfl rfl (q_add rfl rfl (by omega) ?_))
  refine q_callb [(1000, 8), (7, 16)] (f73_ok code a1 seed1 hc1 (by omega) t0 (30 + n) (by omega)) cl73 rfl rfl ⟨⟨rfl, rfl⟩, trivial⟩ rfl ⟨.inl rfl, .inr rfl, trivial⟩ (fun r h' hR => ?_)
  obtain ⟨l, a2, seed2, rfl, hl, hd1, hd2, hc2, rfl⟩ := hR
  refine ⟨rfl, rfl, ?_⟩
  refine q_callb [(1000, 8), (1001, 16)] (f72_ok code a2 seed2 hc2 (by omega) l hl) cl72 rfl rfl ⟨⟨rfl, rfl⟩, ⟨rfl, rfl⟩, trivial⟩ rfl ⟨.inl rfl, .inr rfl, trivial⟩ (fun r h' hR => ?_)
  obtain ⟨l2, a3, seed3, rfl, hl2, he1, he2, hc3, rfl⟩ := hR
  refine ⟨rfl, rfl, ?_⟩
  refine q_ao 16 rfl (run_nil (h1 _ ?_)); clear h1 K1
  refine Ok.le (Le.trans (le_fz (n := 2) (T := 135) (l := l2.map eSample) 16 rfl) (le_sub (t' := [(4, .ptr 8 0), (5, .own 16)]) (h' := [(16, .row 2 135 (l2.map eSample)), (8, curB code a3 seed3)]) ⟨rfl, rfl, trivial⟩ ⟨rfl, rfl, trivial⟩)) ?_
  refine Ok.le (σ' := ⟨[(4, .ptr 8 0), (5, .sv (eSampleS l2))], [(8, curB code a3 seed3)]⟩) (le_sub ⟨rfl, rfl, trivial⟩ ⟨rfl, trivial⟩) ?_
  refine ok_seq fun K1 h1 => ok_region rfl (q_mv (eSampleS l2) rfl (q_mp 8 0 rfl (q_dr (sa := []) 8 (f76_ok code a3 seed3 hc3 (by omega)) cl76 rfl rfl rfl rfl rfl (fun s a4 seed4 hs hf1 hf2 hc4 => ?_))))
  obtain ⟨x, rfl⟩ := hs
  refine q_as (eSampleS l2) rfl (q_as (int x) rfl (run_nil (h1 _ ?_))); clear h1 K1
  refine ok_ret ⟨_, ⟨_, _, rfl, ⟨_, _, rfl, rfl, rfl⟩, rfl⟩, ⟨l2, x, rfl, hl2⟩, fun b hb => ?_⟩
  have hb : Zn b (.tup [eSampleS l2, int x]) := hb
  obtain ⟨s, hs, h⟩ := zn_tup hb
  simp only [List.mem_cons, List.not_mem_nil, or_false] at hs
  rcases hs with rfl | rfl
  · exact (zn_sl h).elim
  · exact (zn_raw h).elim
end Go.Ring
