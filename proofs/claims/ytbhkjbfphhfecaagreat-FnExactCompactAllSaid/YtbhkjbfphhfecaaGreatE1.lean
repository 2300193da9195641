/- What lies in a span, picked, laid together: the program. No condition beyond the sizes. -/
import Derived.Test.YtbhkjbfphhfecaaGreatB10
import Derived.Test.YtbhkjbfphhfecaaGreatEg3
import Derived.KernelRfl
set_option maxRecDepth 100000
set_option linter.unusedVariables false
set_option linter.unusedSimpArgs false
namespace Go.Ring
open Go Go.RowKit Go.Eager Go.Abs Go.Proofs
theorem f156_ok (l : List Block) (hl : l.length ≤ 1048576) (p : Block → Bool) (g : Nat) (cs : List SV) (hg : Calb Tryz.prog g) (hp : ∀ u ∈ l, PFn Tryz.prog g ([eBlock u] ++ cs) (bool (p u))) : PFn Tryz.prog 156 [eBlockS l, .clo g cs] (int (fstI p l 0)) := by
  refine fn_ok' (n := 19) Tryz.func156 rfl rfl rfl (Nat.le_of_ble_eq_true rfl) rfl fun w0 O => ?_
  refine ok_seq fun K1 h1 => ok_region rfl (q_as _ rfl (run_nil (h1 _ ?_))); clear h1 K1
  refine ok_seq fun K2 h2 => ?_
  refine ok_seq fun K3 h3 => ok_region rfl (q_mv _ rfl (q_len eS53 rfl (q_mv _ rfl (run_nil (h3 _ ?_))))); clear h3 K3
  refine ok_block ?_
  refine ok_loop (fun (k : Nat) => ⟨[(0, .sv (eBlockS l)), (1, .sv (.clo g cs)), (7, .sv (int l.length)), (8, .sv (int k))], []⟩) (fun k => k ≤ l.length ∧ fstI p l 0 = fstI p (l.drop k) k) (fun k => l.length - k) 0 ⟨by simp, rfl⟩ (le_same ⟨rfl, rfl, by simp; rfl, rfl, trivial⟩) (fun k J => ?_)
  refine ok_seq fun K4 h4 => ok_region rfl (q_bin _ _ _ rfl rfl rfl (run_nil (h4 _ ?_))); clear h4 K4
  refine ok_seq fun K5 h5 => ?_
  refine ok_cond rfl (fun c6 => ?_) (fun c6 => ?_)
  · refine ok_skip (h5 _ ?_)
    have hk : k < l.length := by simpa using c6
    obtain ⟨u, hu⟩ := sget hk
    have hj := J.2
    rw [drop_cons hu] at hj
    simp only [fstI] at hj
    refine ok_seq fun K7 h7 => ?_
    refine ok_block ?_
    refine ok_seq fun K8 h8 => ok_region rfl (q_mv _ rfl (q_as _ rfl (run_nil (h8 _ ?_)))); clear h8 K8
    refine ok_seq fun K9 h9 => ok_region rfl (q_mv _ rfl (q_mv _ rfl (q_mv _ rfl (q_ia el53 rfl rfl (by omega) (mget (f := eBlock) hu) (q_lds _ ag34 rfl sz34 (q_callcp (hp u (smem hu)) hg rfl ⟨.inl rfl, trivial⟩ (run_nil (h9 _ ?_)))))))); clear h9 K9
    refine ok_cond rfl (fun c10 => ?_) (fun c10 => ?_)
    · refine ok_seq fun K11 h11 => ?_
      refine ok_region rfl (q_mv _ rfl (q_as _ rfl (run_nil (h11 _ ?_))))
      clear h11 K11
      refine ok_ret ⟨_, rfl, ?_⟩
      rw [hj, if_pos c10]; rfl
    · refine ok_skip (h7 _ ?_)
      refine ok_last fun K12 h12 => ok_region rfl (
        q_add rfl rfl (by omega) (q_mv _ rfl (run_nil (h12 _ ⟨k + 1, by omega, ⟨hk, by rw [hj, if_neg (by rw [c10]; simp)]⟩, le_same ⟨rfl, rfl, rfl, rfl, trivial⟩⟩))))
  · refine ok_exit (h2 _ ?_)
    have hk : k = l.length := by have : ¬ k < l.length := by simpa using c6
                                 omega
    refine ok_seq fun K13 h13 => ok_region rfl (q_as _ rfl (run_nil (h13 _ ?_))); clear h13 K13
    refine ok_ret ⟨_, rfl, ?_⟩
    have := J.2
    rw [hk, List.drop_length] at this
    rw [this]; rfl
theorem f96_ok (l : List Block) (hl : l.length ≤ 1048576) (p : Block → Bool) (g : Nat) (cs : List SV) (hg : Calb Tryz.prog g) (hp : ∀ u ∈ l, PFn Tryz.prog g ([eBlock u] ++ cs) (bool (p u))) : PFn Tryz.prog 96 [eBlockS l, .clo g cs] (bool (l.any p)) := by
  refine fn_ok' (n := 9) Tryz.func96 rfl rfl rfl (Nat.le_of_ble_eq_true rfl) rfl fun w0 O => ?_
  refine ok_seq fun K1 h1 => ok_region rfl (q_as _ rfl (run_nil (h1 _ ?_))); clear h1 K1
  refine ok_seq fun K2 h2 => ok_region rfl (q_mv _ rfl (q_mv _ rfl (q_call (f156_ok l hl p g cs hg hp) cl156 rfl rfl (q_bin _ _ _ rfl rfl rfl (q_as _ rfl (run_nil (h2 _ ?_))))))); clear h2 K2
  refine ok_ret ⟨_, rfl, ?_⟩
  rw [← fstI_any]; rfl
theorem f97_ok (b : Block) (L : Int) : PFn Tryz.prog 97 ([eBlock b] ++ [.ptr (int L)]) (bool (decide (L ≤ b.level))) := by
  refine fn_ok' (n := 8) Tryz.func97 rfl rfl rfl (Nat.le_of_ble_eq_true rfl) rfl fun w0 O => ?_
  refine ok_seq fun K1 h1 => ok_region rfl (q_boxs _ rfl (Nat.zero_lt_succ _) (q_as _ rfl (run_nil (h1 _ ?_)))); clear h1 K1
  refine ok_seq fun K2 h2 => ok_region rfl (q_fa _ fd34_2 rfl rfl (by decide) (q_ld _ ag3 rfl rfl (q_ld _ ag3 rfl rfl (q_bin _ _ _ rfl rfl rfl (q_as _ rfl (run_nil (h2 _ ?_))))))); clear h2 K2
  exact ok_ret ⟨_, rfl, rfl⟩
theorem f94_t (l : List Block) (hl : l.length ≤ 1048576) (a e : Int) : PFnT Tryz.prog 94 [eBlockS l, int a, int e] (ints (ixF (fun x => decide (a ≤ x.from_) && decide (x.to ≤ e)) l 0)) := by
  refine fnp_ok (n := 33) Tryz.func94 rfl rfl rfl (Nat.le_of_ble_eq_true rfl) rfl fun w0 O => ?_
  refine ok_seq fun K1 h1 => ok_region rfl (q_as _ rfl (run_nil (h1 _ ?_))); clear h1 K1
  refine ok_seq fun K2 h2 => ok_region rfl (q_an (n := 1) 3 (by decide) rfl rfl rfl (run_nil (h2 _ ?_))); clear h2 K2
  refine ok_seq fun K3 h3 => ?_
  refine ok_seq fun K4 h4 => ok_region rfl (q_mv _ rfl (q_len eS53 rfl (q_mv _ rfl (run_nil (h4 _ ?_))))); clear h4 K4
  rw [List.length_map]
  refine ok_block ?_
  generalize hP : (fun x : Block => decide (a ≤ x.from_) && decide (x.to ≤ e)) = P
  refine ok_loop (fun (s : Nat × List Int) => ⟨[(1, .sv (int a)), (2, .sv (int e)), (7, .own 7), (10, .sv (eBlockS l)), (11, .sv (int l.length)), (12, .sv (int s.1))], [(7, .row 1 3 (s.2.map int))]⟩) (fun s => s.2 ++ ixF P (l.drop s.1) s.1 = ixF P l 0 ∧ s.2.length ≤ s.1) (fun s => l.length - s.1) (0, []) ⟨rfl, Nat.le_refl _⟩ (le_sub ⟨rfl, rfl, rfl, rfl, rfl, rfl, trivial⟩ ⟨rfl, trivial⟩) (fun s J => ?_)
  obtain ⟨k, o⟩ := s
  obtain ⟨j1, j2⟩ := J
  simp only at j1 j2
  refine ok_seq fun K5 h5 => ok_region rfl (q_bin _ _ _ rfl rfl rfl (run_nil (h5 _ ?_))); clear h5 K5
  refine ok_seq fun K6 h6 => ?_
  refine ok_cond rfl (fun c7 => ?_) (fun c7 => ?_)
  · refine ok_skip (h6 _ ?_)
    have hk : k < l.length := by simpa using c7
    obtain ⟨u, hu⟩ := sget hk
    rw [ixF_step P hu] at j1
    refine ok_seq_join (fun (o' : List Int) => ⟨[(1, .sv (int a)), (2, .sv (int e)), (7, .own 7), (10, .sv (eBlockS l)), (11, .sv (int l.length)), (12, .sv (int k))], [(7, .row 1 3 (o'.map int))]⟩) (fun o' => o' ++ ixF P (l.drop (k + 1)) (k + 1) = ixF P l 0 ∧ o'.length ≤ k + 1) ?_ (fun o' J => ?_)
    · refine ok_block ?_
      refine ok_seq fun K8 h8 => ok_region rfl (q_mv _ rfl (q_ia el53 rfl rfl (by omega) (mget (f := eBlock) hu) (q_lds _ ag34 rfl sz34 (q_alloc _ ze34 rfl rfl rfl rfl (q_as _ rfl (q_sts _ rfl rfl rfl sz34 (Nat.le_of_ble_eq_true rfl) rfl (run_nil (h8 _ ?_)))))))); clear h8 K8
      refine ok_seq fun K9 h9 => ?_
      refine ok_region rfl (q_fap fd34_0 rfl (by decide) (q_ldb (.sv (int u.from_)) ag3 rfl rfl rfl (q_mv _ rfl (q_bin _ _ _ rfl rfl rfl (q_mv _ rfl (q_and 4 4 rfl rfl rfl rfl rfl (fun hb26 =>
          q_fap fd34_1 rfl (by decide) (q_ldb (.sv (int u.to)) ag3 rfl rfl rfl (q_mv _ rfl (q_bin _ _ _ rfl rfl rfl (run_nil ⟨rfl, rfl, rfl, rfl⟩))))) (
        run_nil (h9 _ ?_))))))))
      clear h9 K9
      refine ok_cond rfl (fun c10 => ?_) (fun c10 => ?_)
      · have hp : P u = true := by rw [← hP]; exact c10
        rw [if_pos hp] at j1
        refine ok_last fun K11 h11 => ok_region rfl (
          q_mo _ rfl (q_mv _ rfl (q_lit1 _ (int (k : Int)) el29 ze3 (by decide) (by decide) rfl (.inr rfl) rfl (q_app _ el29 ze3 rfl by3 rfl rfl rfl rfl rfl (by simp) (by intro s hs; simp at hs; subst hs; exact .inr rfl) (by rw [List.length_map]; show o.length + 1 ≤ maxLen; unfold maxLen; omega) (by rw [List.length_map]; show (o.length + 1) * 8 ≤ _; omega) (
          q_ao _ rfl (run_nil (h11 _ (⟨o ++ [(k : Int)], ⟨by rw [List.append_assoc]; exact j1, by rw [List.length_append]; simp; omega⟩, by rw [List.map_append]; exact le_rek 7 30 ⟨rfl, rfl, rfl, rfl, rfl, rfl, trivial⟩ ⟨rfl, trivial⟩ rfl rfl rfl rfl ⟨rfl, trivial⟩⟩))))))))
      · have hp : ¬ P u = true := by rw [← hP]; exact fun c => by have c2 : (decide (a ≤ u.from_) && decide (u.to ≤ e)) = true := c; rw [c10] at c2; cases c2
        rw [if_neg hp, List.nil_append] at j1
        exact ok_skip (⟨o, ⟨j1, by omega⟩, le_sub ⟨rfl, rfl, rfl, rfl, rfl, rfl, trivial⟩ ⟨rfl, trivial⟩⟩)
    · obtain ⟨i1, i2⟩ := J
      refine ok_last fun K12 h12 => ok_region rfl (
        q_add rfl rfl (by omega) (q_mv _ rfl (run_nil (h12 _ (⟨(k + 1, o'), by simp only; omega, ⟨i1, i2⟩, le_sub ⟨rfl, rfl, rfl, rfl, rfl, rfl, trivial⟩ ⟨rfl, trivial⟩⟩)))))
  · rw [List.drop_of_length_le (by have : ¬ ((k : Int) < l.length) := by simpa using c7
                                   omega)] at j1
    have j3 : o = ixF P l 0 := by rw [← j1]; simp [ixF]
    subst j3
    refine ok_exit (h3 _ ?_)
    refine ok_seq fun K13 h13 => ok_region rfl (q_mo _ rfl (q_ao _ rfl (run_nil (h13 _ ?_)))); clear h13 K13
    obtain ⟨g1, g2, g3⟩ := gd_flatL (rs := (ixF P l 0).map int) (fun r hr => by obtain ⟨y, _, rfl⟩ := List.mem_map.1 hr; rfl)
    refine ok_treed (k := 7) (n := 1) (T := 3) (rs := (ixF P l 0).map int) (ss := (ixF P l 0).map int) rfl rfl g1 g2 (fun r hr b hb => (g3 r hr b hb).elim) (fun Z v hZ => ?_)
    exact ok_ret ⟨_, ⟨_, _, rfl, rfl, rfl⟩, by subst hP; exact .tr Z 1 _ v, fun b hb => (hZ b (zn_tr hb)).elim id fun h => h.elim⟩
theorem f95_ok (l : List Block) (is : List Int) (hn : is.length ≤ 1048576) (hi : ∀ i ∈ is, 0 ≤ i ∧ i < l.length) : PFn Tryz.prog 95 [eBlockS l, ints is] (eBlockS (is.filterMap fun i => l[i.toNat]?)) := by
  refine fn_ok' (n := 23) Tryz.func95 rfl rfl rfl (Nat.le_of_ble_eq_true rfl) rfl fun w0 O => ?_
  refine ok_seq fun K1 h1 => ok_region rfl (q_as _ rfl (run_nil (h1 _ ?_))); clear h1 K1
  refine ok_seq fun K2 h2 => ok_region rfl (q_an (n := 5) 34 (by decide) rfl rfl rfl (run_nil (h2 _ ?_))); clear h2 K2
  refine ok_seq fun K3 h3 => ?_
  refine ok_seq fun K4 h4 => ok_region rfl (q_mv _ rfl (q_len eS29 rfl (q_mv _ rfl (run_nil (h4 _ ?_))))); clear h4 K4
  rw [List.length_map]
  refine ok_block ?_
  refine ok_loop (fun (s : Nat × List Block) => ⟨[(0, .sv (eBlockS l)), (5, .own 5), (8, .sv (ints is)), (9, .sv (int is.length)), (10, .sv (int s.1))], [(5, .row 5 34 (s.2.map eBlock))]⟩) (fun s => s.2 ++ (is.drop s.1).filterMap (fun i => l[i.toNat]?) = is.filterMap (fun i => l[i.toNat]?) ∧ s.2.length ≤ s.1) (fun s => is.length - s.1) (0, []) ⟨rfl, Nat.le_refl _⟩ (le_sub ⟨rfl, rfl, rfl, rfl, rfl, trivial⟩ ⟨rfl, trivial⟩) (fun s J => ?_)
  obtain ⟨k, o⟩ := s
  obtain ⟨j1, j2⟩ := J
  simp only at j1 j2
  refine ok_seq fun K5 h5 => ok_region rfl (q_bin _ _ _ rfl rfl rfl (run_nil (h5 _ ?_))); clear h5 K5
  refine ok_seq fun K6 h6 => ?_
  refine ok_cond rfl (fun c7 => ?_) (fun c7 => ?_)
  · refine ok_skip (h6 _ ?_)
    have hk : k < is.length := by simpa using c7
    obtain ⟨i, hki⟩ := sget hk
    obtain ⟨i1, i2⟩ := hi i (smem hki)
    obtain ⟨u, hu⟩ := sget (l := l) (i := i.toNat) (by omega)
    rw [fm_step (fun i : Int => l[i.toNat]?) hki, hu] at j1
    refine ok_seq fun K8 h8 => ?_
    refine ok_block ?_
    refine ok_seq fun K9 h9 => ok_region rfl (q_ia el29 rfl rfl (by omega) (mget (f := int) hki) (q_ld _ ag3 rfl rfl (q_as _ rfl (run_nil (h9 _ ?_))))); clear h9 K9
    refine ok_last fun K10 h10 => ok_region rfl (
      q_mo _ rfl (q_mv _ rfl (q_mv _ rfl (q_ia el53 rfl rfl i1 (mget (f := eBlock) hu) (q_lds _ ag34 rfl sz34 (q_lit1 _ _ el53 ze34 (by decide) (by decide) rfl (.inl ⟨_, rfl⟩) rfl (
      q_app (q := [eBlock u]) _ el53 ze34 rfl by34 rfl rfl rfl rfl rfl (by simp) (by intro s hs; simp at hs; subst hs; exact .inl ⟨_, rfl⟩) (by rw [List.length_map]; show o.length + 1 ≤ maxLen; unfold maxLen; omega) (by rw [List.length_map]; show (o.length + 1) * 72 ≤ _; omega) (q_ao _ rfl (run_nil (h10 _ (h8 _ ?_)))))))))))
    refine ok_last fun K11 h11 => ok_region rfl (
      q_add rfl rfl (by omega) (q_mv _ rfl (run_nil (h11 _ ⟨(k + 1, o ++ [u]), by simp only; omega, ⟨by rw [List.append_assoc]; exact j1, by rw [List.length_append]; simp; omega⟩, by simp only; rw [List.map_append]; exact le_rek 5 20 ⟨rfl, rfl, rfl, rfl, rfl, trivial⟩ ⟨rfl, trivial⟩ rfl rfl rfl rfl ⟨rfl, trivial⟩⟩))))
  · rw [List.drop_of_length_le (by have : ¬ ((k : Int) < is.length) := by simpa using c7
                                   omega)] at j1
    have j3 : o = is.filterMap (fun i => l[i.toNat]?) := by rw [← j1]; simp
    refine ok_exit (h3 _ ?_)
    refine ok_seq fun K12 h12 => ok_region rfl (q_mo _ rfl (q_ao _ rfl (run_nil (h12 _ ?_)))); clear h12 K12
    exact ok_ret ⟨_, rfl, by rw [← j3]; rfl⟩
theorem bz34g (a b c : Int) (x : List Series) {Z : Nat → Prop} {v : Value} : BLz Tryz.prog 34 [int a, int b, int c, .tr Z (eSeriesS x) v] [.slice none 0 0] := by
  intro vs hv
  match vs, hv with
  | [u0, u1, u2, u3], hv =>
    obtain ⟨e0, e1, e2, e3, -⟩ := hv
    obtain ⟨rfl, p0, n0, c0, e3⟩ := e3
    rw [e0, e1, e2, e3]
    have key : ∀ (x0 x1 x2 : Int) (p0 : Option Addr) (n0 c0 : Nat), Tryz.prog.built 34 [(0, .int .i64 x0), (1, .int .i64 x1), (2, .int .i64 x2), (3, .slice p0 n0 c0)] = some #[.int .i64 x0, .int .i64 x1, .int .i64 x2, .slice p0 n0 c0, .slice none 0 0] := by intro x0 x1 x2 p0 n0 c0; kernel_rfl
    exact key a b c p0 n0 c0
/-- A block, new, and a truth. -/
def BkR (b : Block) (t : Bool) (r : SV) : Prop := ∃ rb, r = .tup [rb, bool t] ∧ Gd rb (eBlock b)
theorem mrgB_at {l : List Block} (h : ∀ b ∈ l, SBlock b) (hw : wtB l ≤ 1048576) {k : Nat} {b : Block} (hb : l[k]? = some b) :
    Srt (mrgB (l.take k)) ∧ LbOk (mrgB (l.take k)) ∧ LbOk (standL b) ∧ wt (mrgB (l.take k)) + wt (standL b) ≤ 1048576 := by
  obtain ⟨h1, h2, h3⟩ := mrgB_inv (l := l.take k) fun b hb => h b (List.mem_of_mem_take hb)
  refine ⟨h1, h2, standL_lb (ss_lb (h b (smem hb)).1.2), ?_⟩
  have e1 : wtB (l.take (k + 1)) = wtB (l.take k) + wt b.series := sumF_take _ hb
  have e2 : wtB (l.take (k + 1)) ≤ wtB l := sumF_take_le _ l (k + 1)
  have e4 := standL_wt b
  omega
theorem mrgBk_S {l : List Block} (h : ∀ b ∈ l, SBlock b) (hw : wtB l ≤ 1048576) (a e L : Int) : SBlock ⟨a, e, L, mrgB l, []⟩ := by
  obtain ⟨h1, h2, h3⟩ := mrgB_inv h
  exact ⟨lb_ss h2 (by show wt (mrgB l) ≤ 1048576; omega), by simp, by simp⟩
theorem f98_t (l : List Block) (hl : l.length ≤ 1048576 ∧ ∀ y ∈ l, SBlock y) (hw : wtB l ≤ 1048576) (a e L : Int) : PFnR Tryz.prog 98 [eBlockS l, int a, int e, int L] (BkR ⟨a, e, L, mrgB l, []⟩ (pB (BlockOk ⟨a, e, L, mrgB l, []⟩))) := by
  refine fnp_ok (n := 33) Tryz.func98 rfl rfl rfl (Nat.le_of_ble_eq_true rfl) rfl fun w0 O => ?_
  have hll := hl.1
  refine ok_seq fun K1 h1 => ok_region rfl (q_alloc _ ze34 rfl rfl rfl rfl (q_as _ rfl (run_nil (h1 _ ?_)))); clear h1 K1
  refine ok_seq fun K2 h2 => ok_region rfl (q_as _ rfl (run_nil (h2 _ ?_))); clear h2 K2
  refine ok_nilT 2 ?_
  refine ok_seq fun K3 h3 => ?_
  refine ok_seq fun K4 h4 => ok_region rfl (q_mv _ rfl (q_len eS53 rfl (q_mv _ rfl (run_nil (h4 _ ?_))))); clear h4 K4
  rw [List.length_map]
  refine ok_block ?_
  refine ok_loop (fun (s : Nat × SV) => ⟨[(1, .sv (int a)), (2, .sv (int e)), (3, .sv (int L)), (8, .ptr 8 0), (10, .sv s.2), (14, .sv (eBlockS l)), (15, .sv (int l.length)), (16, .sv (int s.1))], [(8, .box [.sv (int 0), .sv (int 0), .sv (int 0), .sv (.raw (.slice none 0 0)), .sv (.raw (.slice none 0 0))])]⟩) (fun s => Gd s.2 (eSeriesS (mrgB (l.take s.1))) ∧ ∀ b, Zn b s.2 → w0.heap.size ≤ b) (fun s => l.length - s.1) (0, .tr (fun _ => False) (.sl 2 []) (.slice none 0 0)) ⟨.tr _ _ _ _, fun b hb => (zn_tr hb).elim⟩ (le_sub ⟨rfl, rfl, rfl, rfl, rfl, rfl, rfl, rfl, trivial⟩ ⟨rfl, trivial⟩) (fun s J => ?_)
  obtain ⟨k, r⟩ := s
  obtain ⟨jg, jz⟩ := J
  simp only at jg jz
  refine ok_seq fun K5 h5 => ok_region rfl (q_bin _ _ _ rfl rfl rfl (run_nil (h5 _ ?_))); clear h5 K5
  refine ok_seq fun K6 h6 => ?_
  refine ok_cond rfl (fun c7 => ?_) (fun c7 => ?_)
  · refine ok_skip (h6 _ ?_)
    have hkk : k < l.length := by simpa using c7
    obtain ⟨b, hb⟩ := sget hkk
    have nb := hl.2 b (smem hb)
    obtain ⟨b1, b2, b3, b4⟩ := mrgB_at hl.2 hw hb
    have hst := mrgB_step hb
    refine ok_seq fun K8 h8 => ?_
    refine ok_block ?_
    refine ok_seq fun K9 h9 => ok_region rfl (q_ia el53 rfl rfl (by omega) (mget (f := eBlock) hb) (q_lds _ ag34 rfl sz34 (q_alloc _ ze34 rfl rfl rfl rfl (q_sts _ rfl rfl rfl sz34 (Nat.le_of_ble_eq_true rfl) rfl (run_nil (h9 _ ?_)))))); clear h9 K9
    refine ok_last fun K10 h10 => ok_region rfl (
      q_mv r rfl (q_ldbs (r := [int b.from_, int b.to, int b.level, eSeriesS b.series, eStoneS b.stones]) ag34 rfl rfl sz34 rfl rfl (q_call (f70_ok b nb) cl70 rfl rfl (q_callg [] (f89_t _ _ b2 b3 b1 b4) cl89 ⟨.inr (.inl ⟨_, rfl, jg⟩), .inl rfl, trivial⟩ (fun r2 hr2 hz2 ha2 => ?_)))))
    rw [← hst] at hr2
    refine q_as _ rfl (run_nil (h10 _ (h8 _ ?_)))
    refine ok_last fun K11 h11 => ok_region rfl (
      q_add rfl rfl (by omega) (q_mv _ rfl (run_nil (h11 _ ⟨(k + 1, r2), by simp only; omega, ⟨hr2, hz2⟩, le_sub ⟨rfl, rfl, rfl, rfl, rfl, rfl, rfl, rfl, trivial⟩ ⟨rfl, trivial⟩⟩))))
  · rw [List.take_of_length_le (by have : ¬ ((k : Int) < l.length) := by simpa using c7
                                   omega)] at jg
    obtain ⟨Z, v, rfl⟩ := gd_sl_inv jg
    have hgb := gc_Block (v3 := v) (v4 := .slice none 0 0) ⟨a, e, L, mrgB l, []⟩ (Z3 := Z) (Z4 := fun _ => False) (fun b _ h => h)
    refine ok_exit (h3 _ ?_)
    refine ok_seq fun K12 h12 => ok_region rfl (q_mv _ rfl (q_mv _ rfl (q_mv _ rfl (q_mv (.tr Z (eSeriesS (mrgB l)) v) rfl (q_bldz [int a, int e, int L, .tr Z (eSeriesS (mrgB l)) v] [.tr (fun _ => False) (.sl 3 []) (.slice none 0 0)] (bz34g _ _ _ _) ⟨nil_tr 3, trivial⟩ rfl rfl rfl (q_alloc _ ze34 rfl rfl rfl rfl (q_sts _ rfl rfl rfl sz34 (Nat.le_of_ble_eq_true rfl) rfl (run_nil (h12 _ ?_))))))))); clear h12 K12
    refine ok_seq fun K13 h13 => ?_
    refine ok_region_i (by kernel_rfl) (by kernel_rfl) rfl (
      q_ldbs ag34 rfl rfl sz34 rfl rfl (q_ldbs ag34 rfl rfl sz34 rfl rfl (q_callp (f61_ok ⟨a, e, L, mrgB l, []⟩ (mrgBk_S hl.2 hw a e L)) cl61 ⟨.inr (.inl ⟨_, rfl, hgb⟩), trivial⟩ (q_sts _ rfl rfl rfl sz34 (Nat.le_of_ble_eq_true rfl) rfl (
      q_as _ rfl (run_nil (h13 _ ?_)))))))
    clear h13 K13
    refine ok_ret ⟨_, ⟨_, _, res_cells (l := [int a, int e, int L, .tr Z (eSeriesS (mrgB l)) v, .tr (fun _ => False) (.sl 3 []) (.slice none 0 0)]) rfl rfl ag34 sz34 rfl, ⟨_, _, rfl, rfl, rfl⟩, rfl⟩, ⟨_, rfl, hgb⟩, fun b hb => ?_⟩
    simp only [tupSV, znT_cons, znT_nil, znA_cons, znI_raw, znI_tr, znA_nil, or_false, false_or] at hb
    exact jz b (.tr Z _ v hb)
end Go.Ring
