/- A part of the proof. No condition. -/
import Derived.Test.YtanilephcohjkaaGreatG3
namespace Go.Ring
open Go Go.RowKit Go.Eager Go.Abs Go.Proofs
set_option maxRecDepth 100000
set_option linter.unusedVariables false
set_option linter.unusedSimpArgs false
theorem f125_ok (xs : List Int) (x : Int) (hx : xs.length ≤ 1048576) : PFn Tryz.prog 125 [ints xs, int x] (bool (decide (x ∈ xs))) := by
  refine fn_ok' (n := 17) Tryz.func125 rfl rfl rfl (Nat.le_of_ble_eq_true rfl) rfl fun w0 O => ?_
  refine ok_seq fun K0 h0 => ok_region rfl (q_as _ rfl (run_nil (h0 _ ?_))); clear h0 K0
  refine ok_seq fun K1 h1 => ?_
  refine ok_seq fun K2 h2 => ok_region rfl (q_mv _ rfl (q_len eS40 rfl (q_mv _ rfl (run_nil (h2 _ ?_))))); clear h2 K2
  rw [List.length_map]
  refine ok_block ?_
  refine ok_loop (fun (k : Nat) => ⟨[(0, .sv (ints xs)), (1, .sv (int x)), (7, .sv (ints xs)), (8, .sv (int xs.length)), (9, .sv (int k))], []⟩) (fun k => x ∉ xs.take k) (fun k => xs.length - k) 0 (by simp) (le_same ⟨rfl, rfl, rfl, rfl, rfl, trivial⟩) (fun k J => ?_)
  refine ok_seq fun K3 h3 => ok_region rfl (q_bin _ _ _ rfl rfl rfl (run_nil (h3 _ ?_))); clear h3 K3
  refine ok_seq fun K4 h4 => ok_cond rfl (fun c1 => ok_skip (h4 _ ?_)) (fun c1 => ok_exit (h1 _ ?_)) <;> clear h4 K4
  · have hk : k < xs.length := by simpa using c1
    refine ok_seq fun K5 h5 => ok_block ?_
    refine ok_seq fun K6 h6 => ok_region rfl (q_ia (s := int (xs.getD k 0)) el40 rfl rfl (by omega) (iget (iget' hk)) (q_ld _ ag3 rfl rfl (q_as _ rfl (run_nil (h6 _ ?_))))); clear h6 K6
    refine ok_seq fun K6 h6 => ok_region rfl (q_mv _ rfl (q_mv _ rfl (q_bin _ _ _ rfl rfl rfl (run_nil (h6 _ ?_))))); clear h6 K6
    refine ok_cond rfl (fun c2 => ?_) (fun c2 => ok_skip (h5 _ ?_))
    · refine ok_seq fun K6 h6 => ok_region rfl (q_as _ rfl (run_nil (h6 _ ?_))); clear h6 K6
      refine ok_ret ⟨_, rfl, ?_⟩
      have : x ∈ xs := by rw [← of_decide_eq_true c2]; exact List.mem_of_getElem? (iget' hk)
      simp [tupSV, this]
    · clear h5 K5
      refine ok_region rfl (q_add rfl rfl (by omega) (q_mv _ rfl (run_nil ?_)))
      have hne := of_decide_eq_false c2
      refine ⟨k + 1, by omega, ?_, le_same ⟨rfl, rfl, rfl, rfl, rfl, trivial⟩⟩
      rw [List.take_add_one, iget' hk, List.mem_append, not_or]
      exact ⟨J, by simpa using Ne.symm hne⟩
  · refine ok_seq fun K6 h6 => ok_region rfl (q_as _ rfl (run_nil (h6 _ ?_))); clear h6 K6
    refine ok_ret ⟨_, rfl, ?_⟩
    have hk : xs.length ≤ k := by simpa using c1
    rw [List.take_of_length_le hk] at J
    simp [tupSV, J]
theorem f68_ok (r : Ring) (hr : SRing r) : PFn Tryz.prog 68 [eRing r] (bool (pB (GoodR r))) := by
  obtain ⟨hr1, hr2⟩ := hr
  have hsm : ∀ {i : Nat} {n : RingNode}, r.nodes[i]? = some n → SRingNode n := fun h => hr2 _ (List.mem_of_getElem? h)
  have hl : (r.nodes.map eRingNode).length = r.nodes.length := by simp
  refine fn_ok' (n := 74) Tryz.func68 rfl rfl rfl (Nat.le_of_ble_eq_true rfl) rfl fun w0 O => ?_
  refine ok_seq fun K1 h1 => ok_region rfl (q_boxs _ rfl (Nat.zero_lt_succ _) (q_as _ rfl (run_nil (h1 _ ?_)))); clear h1 K1
  refine ok_seq fun K2 h2 => ?_
  refine ok_seq fun K3 h3 => ?_
  refine ok_region rfl (q_fa _ fd31_0 rfl rfl (by decide) (q_ld _ ag3 rfl rfl (q_bin _ _ _ rfl rfl rfl (q_mv _ rfl (q_or 3 3 rfl rfl rfl rfl rfl (fun hb16 =>
      q_fa _ fd31_0 rfl rfl (by decide) (q_ld _ ag3 rfl rfl (q_bin _ _ _ rfl rfl rfl (run_nil ⟨rfl, rfl, rfl, rfl⟩)))) (
    q_mv _ rfl (q_or 4 4 rfl rfl rfl rfl rfl (fun hb22 =>
      q_fa _ fd31_1 rfl rfl (by decide) (q_ld _ ag29 rfl rfl (q_len eS29 rfl (q_bin _ _ _ rfl rfl rfl (run_nil ⟨rfl, rfl, rfl, rfl⟩))))) (
    run_nil (h3 _ ?_)))))))))
  clear h3 K3
  refine ok_cond rfl (fun c4 => ?_) (fun c4 => ?_)
  · refine ok_seq fun K5 h5 => ok_region rfl (q_as _ rfl (run_nil (h5 _ ?_)))
    refine ok_ret ⟨_, rfl, ?_⟩
    rw [pB_false]; · rfl
    rintro ⟨a1, a2, a3, _⟩
    simp only [Bool.or_eq_true, decide_eq_true_eq, hl] at c4
    omega
  · refine ok_skip (h2 _ ?_)
    simp only [Bool.or_eq_false_iff, decide_eq_false_iff_not, hl] at c4
    obtain ⟨⟨a1, a2⟩, a3⟩ := c4
    refine ok_seq fun K6 h6 => ?_
    refine ok_seq fun K7 h7 => ok_region rfl (q_fa _ fd31_1 rfl rfl (by decide) (q_ld _ ag29 rfl rfl (q_len eS29 rfl (q_mv _ rfl (run_nil (h7 _ ?_)))))); clear h7 K7
    rw [hl]
    refine ok_block ?_
    refine ok_loop (fun (k : Nat) => ⟨[(1, .sv (.ptr (eRing r))), (24, .sv (.sl 3 (r.nodes.map eRingNode))), (25, .sv (int r.nodes.length)), (26, .sv (int k))], []⟩) (fun k => ∀ i n, i < k → r.nodes[i]? = some n → At r i n) (fun k => r.nodes.length - k) 0 (fun i n h => by omega) (le_same ⟨rfl, rfl, rfl, rfl, trivial⟩) (fun k J => ?_)
    refine ok_seq fun K8 h8 => ok_region rfl (q_bin _ _ _ rfl rfl rfl (run_nil (h8 _ ?_))); clear h8 K8
    refine ok_seq fun K9 h9 => ?_
    refine ok_cond rfl (fun c10 => ?_) (fun c10 => ?_)
    · refine ok_skip (h9 _ ?_)
      have hk : k < r.nodes.length := by simpa using c10
      obtain ⟨n, hn⟩ : ∃ n, r.nodes[k]? = some n := ⟨_, List.getElem?_eq_getElem hk⟩
      obtain ⟨p, hp⟩ : ∃ p, 0 < k → r.nodes[k - 1]? = some p := ⟨r.nodes[k - 1]'(by omega), fun _ => List.getElem?_eq_getElem (by omega)⟩
      refine ok_seq fun K11 h11 => ?_
      refine ok_block ?_
      refine ok_seq fun K12 h12 => ok_region rfl (q_mv _ rfl (q_ia el29 rfl rfl (by omega) (mget hn) (q_lds _ ag45 rfl sz45 (q_alloc _ ze45 rfl rfl rfl rfl (q_as _ rfl (q_sts _ rfl rfl rfl sz45 (Nat.le_of_ble_eq_true rfl) rfl (run_nil (h12 _ ?_)))))))); clear h12 K12
      refine ok_seq fun K13 h13 => ?_
      refine ok_seq fun K14 h14 => ?_
      have hsn := hsm hn
      refine ok_region_i (by kernel_rfl) (by kernel_rfl) rfl (
        q_ldbs ag45 rfl rfl sz45 rfl rfl (q_call (f141_ok n hsn) cl141 rfl rfl (q_un _ _ rfl rfl (q_mv _ rfl (q_or 15 4 rfl rfl rfl rfl rfl (fun hb50 =>
          q_mv _ rfl (q_bin _ _ _ rfl rfl rfl (q_mv _ rfl (q_and 11 11 rfl rfl rfl rfl rfl (fun hb49 =>
            q_fa _ fd31_1 rfl rfl (by decide) (q_ld _ ag29 rfl rfl (q_mv _ rfl (q_sub rfl rfl (by omega) (q_ia (s := eRingNode p) el29 rfl rfl (by have := of_decide_eq_true hb49; omega) (by rw [show ((k : Int) - 1).toNat = k - 1 by omega]; exact mget (hp (by have := of_decide_eq_true hb49; omega))) (q_fa _ fd45_0 rfl rfl (by decide) (
            q_ld _ ag9 rfl rfl (q_fap fd45_0 rfl (by decide) (q_ldb _ ag9 rfl rfl rfl (q_call (f66_ok p.id n.id (hsm (hp (by have := of_decide_eq_true hb49; omega))).1 hsn.1) cl66 rfl rfl (q_bin _ _ _ rfl rfl rfl (run_nil ⟨rfl, rfl, rfl, rfl⟩)))))))))))) (
          run_nil ⟨rfl, rfl, rfl, rfl⟩))))) (
        run_nil (h14 _ ?_)))))))
      clear h14 K14
      refine ok_cond rfl (fun c15 => ?_) (fun c15 => ?_)
      · refine ok_seq fun K16 h16 => ok_region rfl (q_as _ rfl (run_nil (h16 _ ?_)))
        refine ok_ret ⟨_, rfl, ?_⟩
        rw [pB_false]; · rfl
        rintro ⟨_, _, _, a4⟩
        obtain ⟨b1, b2, b3⟩ := a4 k n hn
        rw [pB_true b1] at c15
        simp only [Bool.not_true, Bool.false_or, Bool.and_eq_true, decide_eq_true_eq] at c15
        have := b2 p (by omega) (hp (by omega))
        omega
      · refine ok_skip (h13 _ ?_)
        simp only [Bool.or_eq_false_iff, Bool.not_eq_false', Bool.and_eq_false_iff, decide_eq_false_iff_not] at c15
        obtain ⟨b1, b2⟩ := c15
        have b1' : NodeOk n := by simpa [pB] using b1
        have b2' : ∀ q, 0 < k → r.nodes[k - 1]? = some q → cmpT q.id.data.toList n.id.data.toList < 0 := by
          intro q h0 hq
          rw [hp h0] at hq
          cases hq
          omega
        have e : ((r.nodes.map eRingNode).drop (0 : Int).toNat).take ((k : Int) - 0).toNat = (r.nodes.take k).map eRingNode := by simp [List.map_take]
        have e2 : (((r.nodes.take k).map eRingNode).length : Int) = k := by simp; omega
        refine ok_seq fun K17 h17 => ?_
        refine ok_region rfl (q_fa _ fd31_1 rfl rfl (by decide) (q_ld _ ag29 rfl rfl (q_mv _ rfl (q_sl _ _ el29 rfl (.inl ⟨rfl, rfl⟩) (.inr ⟨_, _, rfl, rfl⟩) (by omega) (by omega) (by rw [hl]; omega) (
          q_len eS29 rfl (q_mv _ rfl (run_nil (h17 _ ?_))))))))
        clear h17 K17
        rw [e, e2]
        refine ok_block ?_
        refine ok_loop (fun (j : Nat) => ⟨[(1, .sv (.ptr (eRing r))), (4, .ptr 4 0), (24, .sv (.sl 3 (r.nodes.map eRingNode))), (25, .sv (int r.nodes.length)), (26, .sv (int k)), (54, .sv (.sl 3 ((r.nodes.take k).map eRingNode))), (55, .sv (int k)), (56, .sv (int j))], [(4, .box [.sv (str n.id), .sv (int n.st), .sv (ints n.toks)])]⟩)
          (fun j => ∀ i q, i < j → r.nodes[i]? = some q → ∀ t ∈ n.toks, t ∉ q.toks) (fun j => k - j) 0 (fun i q h => by omega) (le_sub ⟨rfl, rfl, rfl, rfl, rfl, rfl, rfl, rfl, trivial⟩ ⟨rfl, trivial⟩) (fun j J2 => ?_)
        refine ok_seq fun K18 h18 => ok_region rfl (q_bin _ _ _ rfl rfl rfl (run_nil (h18 _ ?_))); clear h18 K18
        refine ok_seq fun K19 h19 => ?_
        refine ok_cond rfl (fun c20 => ?_) (fun c20 => ?_)
        · refine ok_skip (h19 _ ?_)
          have hj : j < k := by simpa using c20
          obtain ⟨q, hq⟩ : ∃ q, r.nodes[j]? = some q := ⟨_, List.getElem?_eq_getElem (by omega)⟩
          have hq' : (r.nodes.take k)[j]? = some q := by rw [List.getElem?_take, if_pos hj]; exact hq
          have hsq := hsm hq
          have hlt : (n.toks.map int).length = n.toks.length := by simp
          refine ok_seq fun K21 h21 => ?_
          refine ok_block ?_
          refine ok_seq fun K22 h22 => ok_region rfl (q_ia el29 rfl rfl (by omega) (mget hq') (q_lds _ ag45 rfl sz45 (q_alloc _ ze45 rfl rfl rfl rfl (q_sts _ rfl rfl rfl sz45 (Nat.le_of_ble_eq_true rfl) rfl (run_nil (h22 _ ?_)))))); clear h22 K22
          refine ok_seq fun K23 h23 => ok_region rfl (q_fap fd45_2 rfl (by decide) (q_ldb _ ag40 rfl rfl rfl (q_len eS40 rfl (q_mv _ rfl (run_nil (h23 _ ?_)))))); clear h23 K23
          rw [hlt]
          refine ok_block ?_
          refine ok_loop (fun (m : Nat) => ⟨[(1, .sv (.ptr (eRing r))), (4, .ptr 4 0), (6, .ptr 6 0), (24, .sv (.sl 3 (r.nodes.map eRingNode))), (25, .sv (int r.nodes.length)), (26, .sv (int k)), (54, .sv (.sl 3 ((r.nodes.take k).map eRingNode))), (55, .sv (int k)), (56, .sv (int j)), (61, .sv (ints n.toks)), (62, .sv (int n.toks.length)), (63, .sv (int m))], [(4, .box [.sv (str n.id), .sv (int n.st), .sv (ints n.toks)]), (6, .box [.sv (str q.id), .sv (int q.st), .sv (ints q.toks)])]⟩)
            (fun m => ∀ i, i < m → i < n.toks.length → n.toks.getD i 0 ∉ q.toks) (fun m => n.toks.length - m) 0 (fun i h => by omega) (le_sub ⟨rfl, rfl, rfl, rfl, rfl, rfl, rfl, rfl, rfl, rfl, rfl, rfl, trivial⟩ ⟨rfl, rfl, trivial⟩) (fun m J3 => ?_)
          refine ok_seq fun K24 h24 => ok_region rfl (q_bin _ _ _ rfl rfl rfl (run_nil (h24 _ ?_))); clear h24 K24
          refine ok_seq fun K25 h25 => ?_
          refine ok_cond rfl (fun c26 => ?_) (fun c26 => ?_)
          · refine ok_skip (h25 _ ?_)
            have hm : m < n.toks.length := by simpa using c26
            have hnt := hsn.2
            refine ok_seq fun K27 h27 => ?_
            refine ok_block ?_
            refine ok_seq fun K28 h28 => ok_region rfl (q_ia (s := int (n.toks.getD m 0)) el40 rfl rfl (by omega) (iget (iget' hm)) (q_ld _ ag3 rfl rfl (q_as _ rfl (run_nil (h28 _ ?_))))); clear h28 K28
            refine ok_seq fun K29 h29 => ok_region rfl (q_fap fd45_2 rfl (by decide) (q_ldb _ ag40 rfl rfl rfl (q_mv _ rfl (q_call (f125_ok q.toks (n.toks.getD m 0) hsq.2) cl125 rfl rfl (run_nil (h29 _ ?_)))))); clear h29 K29
            refine ok_cond rfl (fun c30 => ?_) (fun c30 => ?_)
            · refine ok_seq fun K31 h31 => ok_region rfl (q_as _ rfl (run_nil (h31 _ ?_)))
              refine ok_ret ⟨_, rfl, ?_⟩
              rw [pB_false]; · rfl
              rintro ⟨_, _, _, a4⟩
              exact (a4 k n hn).2.2 j q hj hq _ (List.mem_of_getElem? (iget' hm)) (of_decide_eq_true c30)
            · refine ok_skip (h27 _ ?_)
              refine ok_region rfl (q_add rfl rfl (by omega) (q_mv _ rfl (run_nil (⟨m + 1, by omega, fun i h1 h2 => ?_, le_sub ⟨rfl, rfl, rfl, rfl, rfl, rfl, rfl, rfl, rfl, rfl, rfl, rfl, trivial⟩ ⟨rfl, rfl, trivial⟩⟩))))
              rcases Nat.lt_or_ge i m with h | h
              · exact J3 i h h2
              · obtain rfl : i = m := by omega
                exact of_decide_eq_false c30
          · refine ok_exit (h21 _ ?_)
            have hm : n.toks.length ≤ m := by simpa using c26
            refine ok_region rfl (q_add rfl rfl (by omega) (q_mv _ rfl (run_nil (⟨j + 1, by omega, fun i q' h1 hq1 t ht => ?_, le_sub ⟨rfl, rfl, rfl, rfl, rfl, rfl, rfl, rfl, trivial⟩ ⟨rfl, trivial⟩⟩))))
            rcases Nat.lt_or_ge i j with h | h
            · exact J2 i q' h hq1 t ht
            · obtain rfl : i = j := by omega
              rw [hq] at hq1; cases hq1
              obtain ⟨x, hx⟩ := List.getElem?_of_mem ht
              have hxl := (List.getElem?_eq_some_iff.1 hx).1
              have e3 : n.toks.getD x 0 = t := by rw [List.getD_eq_getElem?_getD, hx]; rfl
              rw [← e3]; exact J3 x (by omega) hxl
        · refine ok_exit (h11 _ ?_)
          have hj : k ≤ j := by simpa using c20
          refine ok_region rfl (q_add rfl rfl (by omega) (q_mv _ rfl (run_nil (⟨k + 1, by omega, fun i n' h1 hn' => ?_, le_sub ⟨rfl, rfl, rfl, rfl, trivial⟩ trivial⟩))))
          rcases Nat.lt_or_ge i k with h | h
          · exact J i n' h hn'
          · obtain rfl : i = k := by omega
            rw [hn] at hn'; cases hn'
            exact ⟨b1', b2', fun i q h1 hq => J2 i q (by omega) hq⟩
    · refine ok_exit (h6 _ ?_)
      have hk : r.nodes.length ≤ k := by simpa using c10
      refine ok_seq fun K32 h32 => ok_region rfl (q_as _ rfl (run_nil (h32 _ ?_))); clear h32 K32
      refine ok_ret ⟨_, rfl, ?_⟩
      rw [pB_true]; · rfl
      exact ⟨by omega, by omega, by omega, fun i n hn => J i n (by have := (List.getElem?_eq_some_iff.1 hn).1; omega) hn⟩
end Go.Ring
