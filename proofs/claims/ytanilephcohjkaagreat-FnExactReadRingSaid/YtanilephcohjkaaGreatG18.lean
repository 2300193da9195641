/- What can be read: the reference, the program, the law. No condition. -/
import Derived.Test.YtanilephcohjkaaGreatG17
namespace Go.Ring
open Go Go.RowKit Go.Eager Go.Abs Go.Proofs
set_option maxRecDepth 100000
set_option linter.unusedVariables false
set_option linter.unusedSimpArgs false
theorem mem_tks {r : Ring} {t : Tok} {k : Nat} (h : t ∈ pre r k) : t ∈ tks r := by
  rcases Nat.lt_or_ge k r.nodes.length with hk | hk
  · unfold pre at h
    unfold tks
    have e : r.nodes = r.nodes.take k ++ r.nodes.drop k := (List.take_append_drop k r.nodes).symm
    rw [e]
    have H : ∀ (a b : List RingNode) (i : Nat), t ∈ tksF a i → t ∈ tksF (a ++ b) i := by
      intro a
      induction a with
      | nil => intro b i h; simp [tksF] at h
      | cons x a ih =>
        intro b i h
        simp only [List.cons_append, tksF] at h ⊢
        rcases List.mem_append.1 h with h | h
        · exact List.mem_append_left _ h
        · exact List.mem_append_right _ (ih b (i + 1) h)
    exact H _ _ 0 h
  · rw [pre_end hk] at h; exact h
theorem atT_step {l : List Tok} {P : Tok → Prop} {k : Nat} {x : Tok} (J : ∀ i y, i < k → l[i]? = some y → P y) (hx : l[k]? = some x) (h : P x) : ∀ i y, i < k + 1 → l[i]? = some y → P y := by
  intro i y hi hy
  rcases Nat.lt_or_ge i k with h1 | h1
  · exact J i y h1 hy
  · obtain rfl : i = k := by omega
    rw [hx] at hy; cases hy; exact h
theorem f97_ok (r : Ring) (hr : SRing r) (hg : GoodR r) : PFn Tryz.prog 97 [eRing r] (bool (pB (0 < r.nodes.length ∧ ReadR r))) := by
  have c1 := hg.1
  have c2 := hg.2.1
  have hn20 := hg.2.2.1
  refine fn_ok' (n := 56) Tryz.func97 rfl rfl rfl (Nat.le_of_ble_eq_true rfl) rfl fun w0 O => ?_
  refine ok_seq fun K1 h1 => ok_region rfl (q_boxs _ rfl (Nat.zero_lt_succ _) (q_as _ rfl (run_nil (h1 _ ?_)))); clear h1 K1
  refine ok_seq fun K2 h2 => ?_
  refine ok_seq fun K3 h3 => ok_region rfl (q_fa _ fd31_1 rfl rfl (by decide) (q_ld _ ag29 rfl rfl (q_len eS29 rfl (q_bin _ _ _ rfl rfl rfl (run_nil (h3 _ ?_)))))); clear h3 K3
  rw [List.length_map]
  refine ok_cond rfl (fun c4 => ?_) (fun c4 => ?_)
  · refine ok_seq fun K5 h5 => ?_
    refine ok_region rfl (q_as _ rfl (run_nil (h5 _ ?_)))
    clear h5 K5
    refine ok_ret ⟨_, rfl, ?_⟩
    have h := of_decide_eq_true c4
    rw [pB_false (fun h' => by have := h'.1; omega)]; rfl
  · have h0 : 0 < r.nodes.length := by have := of_decide_eq_false c4; omega
    refine ok_skip (h2 _ ?_)
    refine ok_seq fun K6 h6 => ?_
    refine ok_seq fun K7 h7 => ok_region rfl (q_fa _ fd31_1 rfl rfl (by decide) (q_ld _ ag29 rfl rfl (q_len eS29 rfl (q_mv _ rfl (run_nil (h7 _ ?_)))))); clear h7 K7
    rw [List.length_map]
    refine ok_block ?_
    refine ok_loop (fun (k : Nat) => ⟨[(1, .sv (.ptr (eRing r))), (15, .sv (eRingNodeS r.nodes)), (16, .sv (int r.nodes.length)), (17, .sv (int k))], []⟩) (fun k => ∀ t ∈ pre r k, needI r ≤ upL r (ownL r t.1)) (fun k => r.nodes.length - k) 0 (fun t ht => by rw [pre_zero'] at ht; simp at ht) (le_same ⟨rfl, rfl, rfl, rfl, trivial⟩) (fun k J => ?_)
    refine ok_seq fun K8 h8 => ok_region rfl (q_bin _ _ _ rfl rfl rfl (run_nil (h8 _ ?_))); clear h8 K8
    refine ok_seq fun K9 h9 => ?_
    refine ok_cond rfl (fun c10 => ?_) (fun c10 => ?_)
    · have hk : k < r.nodes.length := by simpa using c10
      obtain ⟨u, hu⟩ := sget hk
      have hN := (hg.2.2.2 k u hu).1
      refine ok_skip (h9 _ ?_)
      refine ok_seq fun K11 h11 => ?_
      refine ok_block ?_
      refine ok_seq fun K12 h12 => ok_region rfl (q_ia el29 rfl rfl (by omega) (mget hu) (q_lds _ ag45 rfl sz45 (q_alloc _ ze45 rfl rfl rfl rfl (q_sts _ rfl rfl rfl sz45 (Nat.le_of_ble_eq_true rfl) rfl (run_nil (h12 _ ?_)))))); clear h12 K12
      refine ok_seq fun K13 h13 => ok_region rfl (q_fap fd45_2 rfl (by decide) (q_ldb _ ag40 rfl rfl rfl (q_len eS40 rfl (q_mv _ rfl (run_nil (h13 _ ?_)))))); clear h13 K13
      rw [List.length_map]
      refine ok_block ?_
      refine ok_loop (fun (j : Nat) => ⟨[(1, .sv (.ptr (eRing r))), (15, .sv (eRingNodeS r.nodes)), (16, .sv (int r.nodes.length)), (17, .sv (int k)), (22, .sv (ints u.toks)), (23, .sv (int u.toks.length)), (24, .sv (int j))], []⟩) (fun j => ∀ t ∈ pre r k ++ (u.toks.take j).map (fun t => (t, k)), needI r ≤ upL r (ownL r t.1)) (fun j => u.toks.length - j) 0 (by rw [List.take_zero, List.map_nil, List.append_nil]; exact J) (le_sub ⟨rfl, rfl, rfl, rfl, rfl, rfl, rfl, trivial⟩ trivial) (fun j J' => ?_)
      refine ok_seq fun K14 h14 => ok_region rfl (q_bin _ _ _ rfl rfl rfl (run_nil (h14 _ ?_))); clear h14 K14
      refine ok_seq fun K15 h15 => ?_
      refine ok_cond rfl (fun c16 => ?_) (fun c16 => ?_)
      · have hj : j < u.toks.length := by simpa using c16
        obtain ⟨x, hx⟩ := sget hj
        have hxr := hN.2.2.2.2.2.2 x (smem hx)
        have htl : u.toks.length ≤ 16 := hN.2.2.2.2.1
        have hol := own_len hg x
        have hxin : (x, k) ∈ tks r := by
          have h1 : (x, k) ∈ pre r (k + 1) := by rw [pre_snoc hu]; exact List.mem_append_right _ (List.mem_map.2 ⟨x, smem hx, rfl⟩)
          exact mem_tks h1
        refine ok_skip (h15 _ ?_)
        refine ok_seq fun K17 h17 => ?_
        refine ok_block ?_
        refine ok_seq fun K18 h18 => ok_region rfl (q_ia (s := int x) el40 rfl rfl (by omega) (mget (f := int) hx) (q_ld _ ag3 rfl rfl (q_as _ rfl (run_nil (h18 _ ?_))))); clear h18 K18
        refine ok_seq fun K19 h19 => ok_region rfl (q_as _ rfl (run_nil (h19 _ ?_))); clear h19 K19
        refine ok_seq fun K20 h20 => ?_
        refine ok_seq fun K21 h21 => ok_region rfl (q_lds _ ag31 rfl sz31 (q_mv _ rfl (q_call (f79_ok r hr hg x hxr.1 hxr.2) cl79 rfl rfl (q_len eS40 rfl (q_mv _ rfl (run_nil (h21 _ ?_))))))); clear h21 K21
        simp only [List.length_map]
        refine ok_block ?_
        refine ok_loop (fun (i : Nat) => ⟨[(1, .sv (.ptr (eRing r))), (7, .sv (int (upK r (ownL r x) i))), (15, .sv (eRingNodeS r.nodes)), (16, .sv (int r.nodes.length)), (17, .sv (int k)), (22, .sv (ints u.toks)), (23, .sv (int u.toks.length)), (24, .sv (int j)), (30, .sv (intsN (ownL r x))), (31, .sv (int (ownL r x).length)), (32, .sv (int i))], []⟩) (fun i => i ≤ (ownL r x).length) (fun i => (ownL r x).length - i) 0 (Nat.zero_le _) (le_sub ⟨rfl, rfl, rfl, rfl, rfl, rfl, rfl, rfl, rfl, rfl, rfl, trivial⟩ trivial) (fun i Ji => ?_)
        refine ok_seq fun K22 h22 => ok_region rfl (q_bin _ _ _ rfl rfl rfl (run_nil (h22 _ ?_))); clear h22 K22
        refine ok_seq fun K23 h23 => ?_
        refine ok_cond rfl (fun c24 => ?_) (fun c24 => ?_)
        · have hi : i < (ownL r x).length := by simpa using c24
          obtain ⟨y, hy⟩ := sget hi
          have hyl := own_lt hg (smem hy)
          obtain ⟨m, hm⟩ := sget hyl
          have hst := upK_step hy hm
          have hup := upK_le r (ownL r x) i
          refine ok_skip (h23 _ ?_)
          refine ok_seq_join (fun (v : Int) => ⟨[(1, .sv (.ptr (eRing r))), (7, .sv (int v)), (15, .sv (eRingNodeS r.nodes)), (16, .sv (int r.nodes.length)), (17, .sv (int k)), (22, .sv (ints u.toks)), (23, .sv (int u.toks.length)), (24, .sv (int j)), (30, .sv (intsN (ownL r x))), (31, .sv (int (ownL r x).length)), (32, .sv (int i))], []⟩) (fun v => v = upK r (ownL r x) (i + 1)) ?_ (fun v Jv => ?_)
          · refine ok_block ?_
            refine ok_seq fun K25 h25 => ok_region rfl (q_ia (s := int (y : Int)) el40 rfl rfl (by omega) (ngetI hy) (q_ld _ ag3 rfl rfl (q_as _ rfl (run_nil (h25 _ ?_))))); clear h25 K25
            refine ok_seq fun K26 h26 => ok_region rfl (q_fa _ fd31_1 rfl rfl (by decide) (q_ld _ ag29 rfl rfl (q_mv _ rfl (q_ia el29 rfl rfl (by omega) (mget hm) (q_fa _ fd45_1 rfl rfl (by decide) (q_ld _ ag3 rfl rfl (q_bin _ _ _ rfl rfl rfl (run_nil (h26 _ ?_))))))))); clear h26 K26
            refine ok_cond rfl (fun c27 => ?_) (fun c27 => ?_)
            · have hne : ¬ m.st = 2 := by simpa using c27
              rw [if_neg hne] at hst
              refine ok_last fun K28 h28 => ok_region rfl (
                q_mv _ rfl (q_add rfl rfl (by omega) (q_as _ rfl (run_nil (h28 _ (⟨_, hst.symm, le_same ⟨rfl, rfl, rfl, rfl, rfl, rfl, rfl, rfl, rfl, rfl, rfl, trivial⟩⟩))))))
            · have hne : m.st = 2 := by simpa using c27
              rw [if_pos hne, Int.add_zero] at hst
              refine ok_skip (⟨_, hst.symm, le_same ⟨rfl, rfl, rfl, rfl, rfl, rfl, rfl, rfl, rfl, rfl, rfl, trivial⟩⟩)
          · rw [Jv]
            refine ok_last fun K29 h29 => ok_region rfl (
              q_add rfl rfl (by omega) (q_mv _ rfl (run_nil (h29 _ (⟨i + 1, by omega, hi, le_same ⟨rfl, rfl, rfl, rfl, rfl, rfl, rfl, rfl, rfl, rfl, rfl, trivial⟩⟩)))))
        · have hi : (ownL r x).length ≤ i := by simpa using c24
          rw [upK_all hi]
          refine ok_exit (h20 _ ?_)
          refine ok_seq fun K30 h30 => ?_
          refine ok_region_i (by kernel_rfl) (by kernel_rfl) rfl (
            q_mv _ rfl (q_fa _ fd31_0 rfl rfl (by decide) (q_ld _ ag3 rfl rfl (q_lds _ ag31 rfl sz31 (q_call (f116_ok r hg) cl116 rfl rfl (q_sub rfl rfl (by omega) (q_add rfl rfl (by omega) (
            q_bin _ _ _ rfl rfl rfl (run_nil (h30 _ ?_))))))))))
          clear h30 K30
          refine ok_cond rfl (fun c31 => ?_) (fun c31 => ?_)
          · refine ok_seq fun K32 h32 => ?_
            refine ok_region rfl (q_as _ rfl (run_nil (h32 _ ?_)))
            clear h32 K32
            refine ok_ret ⟨_, rfl, ?_⟩
            have h := of_decide_eq_true c31
            rw [pB_false (fun h' => by have := h'.2 (x, k) hxin; unfold needI at this; simp only at this; omega)]; rfl
          · have h : needI r ≤ upL r (ownL r x) := by have := of_decide_eq_false c31; unfold needI; omega
            refine ok_skip (h17 _ ?_)
            refine ok_last fun K33 h33 => ok_region rfl (
              q_add rfl rfl (by omega) (q_mv _ rfl (run_nil (h33 _ (⟨j + 1, by omega, ?_, le_sub ⟨rfl, rfl, rfl, rfl, rfl, rfl, rfl, trivial⟩ trivial⟩)))))
            intro t ht
            rw [List.take_add_one, hx, Option.toList_some, List.map_append, ← List.append_assoc] at ht
            rcases List.mem_append.1 ht with ht | ht
            · exact J' t ht
            · simp only [List.map_cons, List.map_nil, List.mem_cons, List.not_mem_nil, or_false] at ht
              rw [ht]; exact h
      · rw [List.take_of_length_le (by simpa using c16), ← pre_snoc hu] at J'
        refine ok_exit (h11 _ ?_)
        refine ok_last fun K34 h34 => ok_region rfl (
          q_add rfl rfl (by omega) (q_mv _ rfl (run_nil (h34 _ (⟨k + 1, by omega, J', le_sub ⟨rfl, rfl, rfl, rfl, trivial⟩ trivial⟩)))))
    · rw [pre_end (by simpa using c10)] at J
      refine ok_exit (h6 _ ?_)
      refine ok_seq fun K35 h35 => ok_region rfl (q_as _ rfl (run_nil (h35 _ ?_))); clear h35 K35
      refine ok_ret ⟨_, rfl, ?_⟩
      rw [pB_true ⟨h0, J⟩]; rfl
theorem f101_ok (r : Ring) (hr : SRing r) : PFn Tryz.prog 101 [eRing r] (bool (pB (CanR r))) := by
  refine fn_ok' (n := 59) Tryz.func101 rfl rfl rfl (Nat.le_of_ble_eq_true rfl) rfl fun w0 O => ?_
  refine ok_seq fun K1 h1 => ok_region rfl (q_boxs _ rfl (Nat.zero_lt_succ _) (q_as _ rfl (run_nil (h1 _ ?_)))); clear h1 K1
  refine ok_seq fun K2 h2 => ?_
  refine ok_seq fun K3 h3 => ?_
  refine ok_region rfl (q_lds _ ag31 rfl sz31 (q_call (f129_ok r hr) cl129 rfl rfl (q_un _ _ rfl rfl (q_mv _ rfl (q_or (b2 := decide ((r.nodes.length : Int) = 0)) 4 4 rfl rfl rfl rfl rfl (fun hb18 =>
      q_fa _ fd31_1 rfl rfl (by decide) (q_ld _ ag29 rfl rfl (q_len eS29 rfl (q_bin _ _ _ rfl rfl rfl (run_nil ⟨rfl, rfl, rfl, by rw [List.length_map]; rfl⟩))))) (
    run_nil (h3 _ ?_)))))))
  clear h3 K3
  refine ok_cond rfl (fun c4 => ?_) (fun c4 => ?_)
  · refine ok_seq fun K5 h5 => ?_
    refine ok_region rfl (q_as _ rfl (run_nil (h5 _ ?_)))
    clear h5 K5
    refine ok_ret ⟨_, rfl, ?_⟩
    have hn : ¬ CanR r := by
      rintro ⟨d1, d2, _⟩
      rw [pB_true d1] at c4
      simp at c4
      rw [c4] at d2; simp at d2
    rw [pB_false hn]; rfl
  · have c4' : pB (GoodR r) = true ∧ ¬ (r.nodes.length : Int) = 0 := by
      simpa using c4
    have hg := of_pB c4'.1
    have h0 : 0 < r.nodes.length := by have := c4'.2; omega
    have c1 := hg.1
    have c2 := hg.2.1
    have hd := tks_distinct hg
    have hlt := sortT_lt hd
    have hSl : (sortT (tks r)).length ≤ 320 := by rw [(sortT_perm (tks r)).length_eq]; exact tks_len hg
    refine ok_skip (h2 _ ?_)
    refine ok_seq fun K6 h6 => ok_region rfl (q_lds _ ag31 rfl sz31 (q_call (f83_ok r hr hg h0) cl83 rfl rfl (q_as _ rfl (run_nil (h6 _ ?_))))); clear h6 K6
    refine ok_seq fun K7 h7 => ?_
    refine ok_region rfl (q_fa _ fd31_0 rfl rfl (by decide) (q_ld _ ag3 rfl rfl (q_fa _ fd31_0 rfl rfl (by decide) (q_ld _ ag3 rfl rfl (q_div rfl rfl (by omega) (q_add rfl rfl (by omega) (
      q_sub rfl rfl (by omega) (q_add rfl rfl (by omega) (q_as _ rfl (run_nil (h7 _ ?_)))))))))))
    clear h7 K7
    refine ok_seq fun K8 h8 => ?_
    refine ok_seq fun K9 h9 => ok_region rfl (q_mv _ rfl (q_len eS117 rfl (q_mv _ rfl (run_nil (h9 _ ?_))))); clear h9 K9
    rw [rowT_len]
    refine ok_block ?_
    refine ok_loop (fun (k : Nat) => ⟨[(1, .sv (.ptr (eRing r))), (3, .sv (.sl 2 (rowT (sortT (tks r))))), (4, .sv (int (needI r))), (29, .sv (.sl 2 (rowT (sortT (tks r))))), (30, .sv (int (sortT (tks r)).length)), (31, .sv (int k))], []⟩) (fun k => ∀ i t, i < k → (sortT (tks r))[i]? = some t → needI r ≤ upL r (ownL r t.1)) (fun k => (sortT (tks r)).length - k) 0 (fun i t h => by omega) (le_sub ⟨rfl, rfl, rfl, rfl, rfl, rfl, trivial⟩ trivial) (fun k J => ?_)
    refine ok_seq fun K10 h10 => ok_region rfl (q_bin _ _ _ rfl rfl rfl (run_nil (h10 _ ?_))); clear h10 K10
    refine ok_seq fun K11 h11 => ?_
    refine ok_cond rfl (fun c12 => ?_) (fun c12 => ?_)
    · have hk : k < (sortT (tks r)).length := by simpa using c12
      obtain ⟨u, hu⟩ := sget hk
      have hol := own_len hg u.1
      refine ok_skip (h11 _ ?_)
      refine ok_seq fun K13 h13 => ?_
      refine ok_block ?_
      refine ok_seq fun K14 h14 => ok_region rfl (q_ia el117 rfl rfl (by omega) (tget hu) (q_lds _ ag183 rfl sz183 (q_alloc _ ze183 rfl rfl rfl rfl (q_sts _ rfl rfl rfl sz183 (Nat.le_of_ble_eq_true rfl) rfl (run_nil (h14 _ ?_)))))); clear h14 K14
      refine ok_seq fun K15 h15 => ok_region rfl (q_as _ rfl (run_nil (h15 _ ?_))); clear h15 K15
      refine ok_seq fun K16 h16 => ?_
      refine ok_seq fun K17 h17 => ok_region rfl (q_lds _ ag31 rfl sz31 (q_mv _ rfl (q_fap fd183_0 rfl (by decide) (q_ldb _ ag3 rfl rfl rfl (q_call (f86_ok r (sortT (tks r)) (by omega) hlt u.1) cl86 rfl rfl (q_len eS40 rfl (q_mv _ rfl (run_nil (h17 _ ?_))))))))); clear h17 K17
      have hown : pickG r.copies (cyc (sortT (tks r)) (lowT u.1 (sortT (tks r)))) [] = ownL r u.1 := rfl
      rw [hown]
      simp only [List.length_map]
      refine ok_block ?_
      refine ok_loop (fun (i : Nat) => ⟨[(1, .sv (.ptr (eRing r))), (3, .sv (.sl 2 (rowT (sortT (tks r))))), (4, .sv (int (needI r))), (7, .sv (int (upK r (ownL r u.1) i))), (29, .sv (.sl 2 (rowT (sortT (tks r))))), (30, .sv (int (sortT (tks r)).length)), (31, .sv (int k)), (39, .sv (intsN (ownL r u.1))), (40, .sv (int (ownL r u.1).length)), (41, .sv (int i))], []⟩) (fun i => i ≤ (ownL r u.1).length) (fun i => (ownL r u.1).length - i) 0 (Nat.zero_le _) (le_sub ⟨rfl, rfl, rfl, rfl, rfl, rfl, rfl, rfl, rfl, rfl, trivial⟩ trivial) (fun i Ji => ?_)
      refine ok_seq fun K18 h18 => ok_region rfl (q_bin _ _ _ rfl rfl rfl (run_nil (h18 _ ?_))); clear h18 K18
      refine ok_seq fun K19 h19 => ?_
      refine ok_cond rfl (fun c20 => ?_) (fun c20 => ?_)
      · have hi : i < (ownL r u.1).length := by simpa using c20
        obtain ⟨y, hy⟩ := sget hi
        have hyl := own_lt hg (smem hy)
        obtain ⟨m, hm⟩ := sget hyl
        have hst := upK_step hy hm
        have hup := upK_le r (ownL r u.1) i
        refine ok_skip (h19 _ ?_)
        refine ok_seq_join (fun (v : Int) => ⟨[(1, .sv (.ptr (eRing r))), (3, .sv (.sl 2 (rowT (sortT (tks r))))), (4, .sv (int (needI r))), (7, .sv (int v)), (29, .sv (.sl 2 (rowT (sortT (tks r))))), (30, .sv (int (sortT (tks r)).length)), (31, .sv (int k)), (39, .sv (intsN (ownL r u.1))), (40, .sv (int (ownL r u.1).length)), (41, .sv (int i))], []⟩) (fun v => v = upK r (ownL r u.1) (i + 1)) ?_ (fun v Jv => ?_)
        · refine ok_block ?_
          refine ok_seq fun K21 h21 => ok_region rfl (q_ia (s := int (y : Int)) el40 rfl rfl (by omega) (ngetI hy) (q_ld _ ag3 rfl rfl (q_as _ rfl (run_nil (h21 _ ?_))))); clear h21 K21
          refine ok_seq fun K22 h22 => ok_region rfl (q_fa _ fd31_1 rfl rfl (by decide) (q_ld _ ag29 rfl rfl (q_mv _ rfl (q_ia el29 rfl rfl (by omega) (mget hm) (q_fa _ fd45_1 rfl rfl (by decide) (q_ld _ ag3 rfl rfl (q_bin _ _ _ rfl rfl rfl (run_nil (h22 _ ?_))))))))); clear h22 K22
          refine ok_cond rfl (fun c23 => ?_) (fun c23 => ?_)
          · have hne : ¬ m.st = 2 := by simpa using c23
            rw [if_neg hne] at hst
            refine ok_last fun K24 h24 => ok_region rfl (
              q_mv _ rfl (q_add rfl rfl (by omega) (q_as _ rfl (run_nil (h24 _ (⟨_, hst.symm, le_same ⟨rfl, rfl, rfl, rfl, rfl, rfl, rfl, rfl, rfl, rfl, trivial⟩⟩))))))
          · have hne : m.st = 2 := by simpa using c23
            rw [if_pos hne, Int.add_zero] at hst
            refine ok_skip (⟨_, hst.symm, le_same ⟨rfl, rfl, rfl, rfl, rfl, rfl, rfl, rfl, rfl, rfl, trivial⟩⟩)
        · rw [Jv]
          refine ok_last fun K25 h25 => ok_region rfl (
            q_add rfl rfl (by omega) (q_mv _ rfl (run_nil (h25 _ (⟨i + 1, by omega, hi, le_same ⟨rfl, rfl, rfl, rfl, rfl, rfl, rfl, rfl, rfl, rfl, trivial⟩⟩)))))
      · have hi : (ownL r u.1).length ≤ i := by simpa using c20
        rw [upK_all hi]
        refine ok_exit (h16 _ ?_)
        refine ok_seq fun K26 h26 => ok_region rfl (q_mv _ rfl (q_mv _ rfl (q_bin _ _ _ rfl rfl rfl (run_nil (h26 _ ?_))))); clear h26 K26
        refine ok_cond rfl (fun c27 => ?_) (fun c27 => ?_)
        · refine ok_seq fun K28 h28 => ?_
          refine ok_region rfl (q_as _ rfl (run_nil (h28 _ ?_)))
          clear h28 K28
          refine ok_ret ⟨_, rfl, ?_⟩
          have h := of_decide_eq_true c27
          have hin : u ∈ tks r := (sortT_perm _).mem_iff.1 (smem hu)
          rw [pB_false (fun h' => by have := h'.2.2 u hin; omega)]; rfl
        · have h : needI r ≤ upL r (ownL r u.1) := by have := of_decide_eq_false c27; omega
          refine ok_skip (h13 _ ?_)
          refine ok_last fun K29 h29 => ok_region rfl (
            q_add rfl rfl (by omega) (q_mv _ rfl (run_nil (h29 _ (⟨k + 1, by omega, atT_step J hu h, le_sub ⟨rfl, rfl, rfl, rfl, rfl, rfl, trivial⟩ trivial⟩)))))
    · refine ok_exit (h8 _ ?_)
      refine ok_seq fun K30 h30 => ok_region rfl (q_as _ rfl (run_nil (h30 _ ?_))); clear h30 K30
      refine ok_ret ⟨_, rfl, ?_⟩
      have hR : ReadR r := by
        intro t ht
        obtain ⟨i, hi⟩ := List.getElem?_of_mem ((sortT_perm _).mem_iff.2 ht)
        exact J i t (by have := slt hi; have : ¬ ((k : Int) < (sortT (tks r)).length) := by simpa using c12
                        omega) hi
      rw [pB_true ⟨hg, h0, hR⟩]; rfl

end Go.Ring
