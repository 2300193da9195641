/- A part of the proof. No condition. -/
import Derived.Test.YtanilephcohjkaaGreatG4
namespace Go.Ring
open Go Go.RowKit Go.Eager Go.Abs Go.Proofs
set_option maxRecDepth 100000
set_option linter.unusedVariables false
set_option linter.unusedSimpArgs false
theorem ris_lt {xs : List Int} (h : Ris xs) {i j : Nat} (hij : i < j) (hj : j < xs.length) : xs.getD i 0 < xs.getD j 0 := by
  have h1 := ris_le h (j - 1) i (by omega) (by omega)
  have h2 := h j (by omega) hj
  omega
theorem lookup_snoc (q x : Int) (v : Value) : ∀ es : List (Int × Value), (es ++ [(x, v)]).lookup q = match es.lookup q with | some u => some u | none => if q = x then some v else none
  | [] => by
    simp only [List.nil_append, List.lookup_cons, List.lookup_nil]
    by_cases h : q = x
    · subst h; simp
    · have : (q == x) = false := by simpa using h
      simp [this, h]
  | (y, u) :: es => by
    simp only [List.cons_append, List.lookup_cons, lookup_snoc q x v es]
    split <;> rfl
/-- The map says just what is in S. -/
def MapIs (es : List (Int × Value)) (S : Int → Prop) : Prop := ∀ q, es.lookup q = if pB (S q) = true then some (.bool true) else none
theorem MapIs.get {es : List (Int × Value)} {S : Int → Prop} (h : MapIs es S) (q : Int) : (es.lookup q).getD (.bool false) = .bool (pB (S q)) := by
  rw [h q]; cases pB (S q) <;> rfl
theorem MapIs.none {es : List (Int × Value)} {S : Int → Prop} (h : MapIs es S) {q : Int} (hq : pB (S q) = false) : es.lookup q = none := by
  rw [h q, hq]; rfl
theorem MapIs.put {es : List (Int × Value)} {S : Int → Prop} (h : MapIs es S) (x : Int) : MapIs (es ++ [(x, .bool true)]) (fun q => S q ∨ q = x) := by
  intro q
  rw [lookup_snoc, h q]
  by_cases h1 : S q
  · rw [pB_true h1, pB_true (Or.inl h1)]; rfl
  · rw [pB_false h1]
    by_cases h2 : q = x
    · rw [pB_true (Or.inr h2)]; simp [h2]
    · rw [pB_false (fun h => h.elim h1 h2)]; simp [h2]
theorem MapIs.to {es : List (Int × Value)} {S S' : Int → Prop} (h : MapIs es S) (hs : ∀ q, S q ↔ S' q) : MapIs es S' := by
  intro q
  rw [h q, show pB (S q) = pB (S' q) by unfold pB; rw [decide_eq_decide]; exact hs q]
def Sn (r : Ring) (k : Nat) (q : Int) : Prop := ∃ i n, i < k ∧ r.nodes[i]? = some n ∧ q ∈ n.toks
theorem f129_ok (r : Ring) (hr : SRing r) : PFn Tryz.prog 129 [eRing r] (bool (pB (GoodR r))) := by
  obtain ⟨hr1, hr2⟩ := hr
  have hsm : ∀ {i : Nat} {n : RingNode}, r.nodes[i]? = some n → SRingNode n := fun h => hr2 _ (List.mem_of_getElem? h)
  have hl : (r.nodes.map eRingNode).length = r.nodes.length := by simp
  refine fn_ok' (n := 101) Tryz.func129 rfl rfl rfl (Nat.le_of_ble_eq_true rfl) rfl fun w0 O => ?_
  refine ok_seq fun K1 h1 => ok_region rfl (q_boxs _ rfl (Nat.zero_lt_succ _) (q_as _ rfl (run_nil (h1 _ ?_)))); clear h1 K1
  refine ok_seq fun K2 h2 => ?_
  refine ok_seq fun K3 h3 => ?_
  refine ok_region rfl (q_fa _ fd31_0 rfl rfl (by decide) (q_ld _ ag3 rfl rfl (q_bin _ _ _ rfl rfl rfl (q_mv _ rfl (q_or 3 3 rfl rfl rfl rfl rfl (fun hb15 =>
      q_fa _ fd31_0 rfl rfl (by decide) (q_ld _ ag3 rfl rfl (q_bin _ _ _ rfl rfl rfl (run_nil ⟨rfl, rfl, rfl, rfl⟩)))) (
    q_mv _ rfl (q_or 4 4 rfl rfl rfl rfl rfl (fun hb21 =>
      q_fa _ fd31_1 rfl rfl (by decide) (q_ld _ ag29 rfl rfl (q_len eS29 rfl (q_bin _ _ _ rfl rfl rfl (run_nil ⟨rfl, rfl, rfl, rfl⟩))))) (
    run_nil (h3 _ ?_)))))))))
  clear h3 K3
  refine ok_cond rfl (fun c4 => ?_) (fun c4 => ?_)
  · refine ok_seq fun K5 h5 => ok_region rfl (q_as _ rfl (run_nil (h5 _ ?_)))
    refine ok_ret ⟨_, rfl, ?_⟩
    rw [pB_false]; · rfl
    rintro ⟨a1, a2, a3, _⟩
    simp only [Bool.or_eq_true, decide_eq_true_eq, hl] at c4
    omega
  · refine ok_skip (h2 _ ?_)
    simp only [Bool.or_eq_false_iff, decide_eq_false_iff_not, hl] at c4
    obtain ⟨⟨a1, a2⟩, a3⟩ := c4
    refine ok_seq fun K6 h6 => ok_region rfl (q_mmap mp209 rfl rfl (q_ao _ rfl (run_nil (h6 _ ?_)))); clear h6 K6
    refine ok_seq fun K7 h7 => ?_
    refine ok_seq fun K8 h8 => ok_region rfl (q_fa _ fd31_1 rfl rfl (by decide) (q_ld _ ag29 rfl rfl (q_len eS29 rfl (q_mv _ rfl (run_nil (h8 _ ?_)))))); clear h8 K8
    rw [hl]
    refine ok_block ?_
    refine ok_loop (fun (s : Nat × List (Int × Value)) => ⟨[(1, .sv (.ptr (eRing r))), (3, .own 22), (24, .sv (.sl 3 (r.nodes.map eRingNode))), (25, .sv (int r.nodes.length)), (26, .sv (int s.1))], [(22, .map .i64 s.2)]⟩)
      (fun s => (∀ i n, i < s.1 → r.nodes[i]? = some n → At r i n) ∧ MapIs s.2 (Sn r s.1)) (fun s => r.nodes.length - s.1) (0, []) ⟨fun i n h => by simp at h, fun q => by rw [pB_false (fun ⟨i, n, h, _⟩ => by simp at h)]; rfl⟩ (le_sub ⟨rfl, rfl, rfl, rfl, rfl, trivial⟩ ⟨rfl, trivial⟩) (fun s J => ?_)
    obtain ⟨k, es⟩ := s
    obtain ⟨J, JM⟩ := J
    simp only at J JM
    refine ok_seq fun K9 h9 => ok_region rfl (q_bin _ _ _ rfl rfl rfl (run_nil (h9 _ ?_))); clear h9 K9
    refine ok_seq fun K10 h10 => ?_
    refine ok_cond rfl (fun c11 => ?_) (fun c11 => ?_)
    · refine ok_skip (h10 _ ?_)
      have hk : k < r.nodes.length := by simpa using c11
      obtain ⟨n, hn⟩ : ∃ n, r.nodes[k]? = some n := ⟨_, List.getElem?_eq_getElem hk⟩
      obtain ⟨p, hp⟩ : ∃ p, 0 < k → r.nodes[k - 1]? = some p := ⟨r.nodes[k - 1]'(by omega), fun _ => List.getElem?_eq_getElem (by omega)⟩
      have hsn := hsm hn
      have hlt : (n.toks.map int).length = n.toks.length := by simp
      refine ok_seq fun K12 h12 => ?_
      refine ok_block ?_
      refine ok_seq fun K13 h13 => ok_region rfl (q_mv _ rfl (q_ia el29 rfl rfl (by omega) (mget hn) (q_lds _ ag45 rfl sz45 (q_alloc _ ze45 rfl rfl rfl rfl (q_as _ rfl (q_sts _ rfl rfl rfl sz45 (Nat.le_of_ble_eq_true rfl) rfl (run_nil (h13 _ ?_)))))))); clear h13 K13
      refine ok_seq fun K14 h14 => ?_
      refine ok_seq fun K15 h15 => ?_
      refine ok_region_i (by kernel_rfl) (by kernel_rfl) rfl (
        q_fap fd45_0 rfl (by decide) (q_ldb _ ag9 rfl rfl rfl (q_call (f195_ok n.id hsn.1) cl195 rfl rfl (q_un _ _ rfl rfl (q_mv _ rfl (q_or 14 4 rfl rfl rfl rfl rfl (fun hb50 =>
          q_mv _ rfl (q_bin _ _ _ rfl rfl rfl (q_mv _ rfl (q_and 10 10 rfl rfl rfl rfl rfl (fun hb49 =>
            q_fa _ fd31_1 rfl rfl (by decide) (q_ld _ ag29 rfl rfl (q_mv _ rfl (q_sub rfl rfl (by omega) (q_ia (s := eRingNode p) el29 rfl rfl (by have := of_decide_eq_true hb49; omega) (by rw [show ((k : Int) - 1).toNat = k - 1 by omega]; exact mget (hp (by have := of_decide_eq_true hb49; omega))) (q_fa _ fd45_0 rfl rfl (by decide) (
            q_ld _ ag9 rfl rfl (q_fap fd45_0 rfl (by decide) (q_ldb _ ag9 rfl rfl rfl (q_bin _ _ _ rfl rfl rfl (run_nil ⟨rfl, rfl, rfl, rfl⟩))))))))))) (
          run_nil ⟨rfl, rfl, rfl, rfl⟩))))) (
        q_mv _ rfl (q_or 3 3 rfl rfl rfl rfl rfl (fun hb55 =>
          q_fap fd45_1 rfl (by decide) (q_ldb _ ag3 rfl rfl rfl (q_bin _ _ _ rfl rfl rfl (run_nil ⟨rfl, rfl, rfl, rfl⟩)))) (
        q_mv _ rfl (q_or 3 3 rfl rfl rfl rfl rfl (fun hb60 =>
          q_fap fd45_1 rfl (by decide) (q_ldb _ ag3 rfl rfl rfl (q_bin _ _ _ rfl rfl rfl (run_nil ⟨rfl, rfl, rfl, rfl⟩)))) (
        q_mv _ rfl (q_or 4 4 rfl rfl rfl rfl rfl (fun hb66 =>
          q_fap fd45_2 rfl (by decide) (q_ldb _ ag40 rfl rfl rfl (q_len eS40 rfl (q_bin _ _ _ rfl rfl rfl (run_nil ⟨rfl, rfl, rfl, rfl⟩))))) (
        q_mv _ rfl (q_or 4 4 rfl rfl rfl rfl rfl (fun hb72 =>
          q_fap fd45_2 rfl (by decide) (q_ldb _ ag40 rfl rfl rfl (q_len eS40 rfl (q_bin _ _ _ rfl rfl rfl (run_nil ⟨rfl, rfl, rfl, rfl⟩))))) (
        q_mv _ rfl (q_or 4 4 rfl rfl rfl rfl rfl (fun hb78 =>
          q_fap fd45_2 rfl (by decide) (q_ldb _ ag40 rfl rfl rfl (q_call (f196_ok n.toks hsn.2) cl196 rfl rfl (q_un _ _ rfl rfl (run_nil ⟨rfl, rfl, rfl, rfl⟩))))) (
        run_nil (h15 _ ?_))))))))))))))))))
      clear h15 K15
      rw [hlt, cmpT_less]
      refine ok_cond rfl (fun c16 => ?_) (fun c16 => ?_)
      · refine ok_seq fun K17 h17 => ok_region rfl (q_as _ rfl (run_nil (h17 _ ?_)))
        refine ok_ret ⟨_, rfl, ?_⟩
        rw [pB_false]; · rfl
        rintro ⟨_, _, _, a4⟩
        obtain ⟨⟨b1, b2, b3, b4, b5, b6, b7⟩, b8, b9⟩ := a4 k n hn
        rw [b1, risB_true b6] at c16
        simp only [Bool.not_true, Bool.false_or, Bool.or_false, Bool.or_eq_true, Bool.and_eq_true, decide_eq_true_eq, Bool.not_eq_true', decide_eq_false_iff_not] at c16
        rcases c16 with (((⟨c, d⟩ | c) | c) | c) | c
        · exact d (b8 p (by omega) (hp (by omega)))
        all_goals omega
      · refine ok_skip (h14 _ ?_)
        simp only [Bool.or_eq_false_iff, Bool.not_eq_false', Bool.and_eq_false_iff, decide_eq_false_iff_not, decide_eq_true_eq] at c16
        obtain ⟨⟨⟨⟨⟨⟨b1, b8⟩, b2⟩, b3⟩, b4⟩, b5⟩, b6⟩ := c16
        have b6' : Ris n.toks := by simpa [risB] using b6
        have b8' : ∀ q, 0 < k → r.nodes[k - 1]? = some q → cmpT q.id.data.toList n.id.data.toList < 0 := by
          intro q h0 hq
          rw [hp h0] at hq
          cases hq
          rcases b8 with b8 | b8
          · omega
          · exact b8
        refine ok_seq fun K18 h18 => ok_region rfl (q_fap fd45_2 rfl (by decide) (q_ldb _ ag40 rfl rfl rfl (q_len eS40 rfl (q_mv _ rfl (run_nil (h18 _ ?_)))))); clear h18 K18
        rw [hlt]
        refine ok_block ?_
        refine ok_loop (fun (s : Nat × List (Int × Value)) => ⟨[(1, .sv (.ptr (eRing r))), (3, .own 22), (24, .sv (.sl 3 (r.nodes.map eRingNode))), (25, .sv (int r.nodes.length)), (26, .sv (int k)), (80, .sv (ints n.toks)), (81, .sv (int n.toks.length)), (82, .sv (int s.1))], [(22, .map .i64 s.2)]⟩)
          (fun s => (∀ i, i < s.1 → i < n.toks.length → 0 ≤ n.toks.getD i 0 ∧ n.toks.getD i 0 < 2147483648 ∧ ¬ Sn r k (n.toks.getD i 0)) ∧ MapIs s.2 (fun q => Sn r k q ∨ ∃ i, i < s.1 ∧ i < n.toks.length ∧ q = n.toks.getD i 0)) (fun s => n.toks.length - s.1) (0, es)
          ⟨fun i h => by simp at h, JM.to fun q => ⟨.inl, fun h => h.elim id fun ⟨i, h, _⟩ => by simp at h⟩⟩ (le_sub ⟨rfl, rfl, rfl, rfl, rfl, rfl, rfl, rfl, trivial⟩ ⟨rfl, trivial⟩) (fun s J2 => ?_)
        obtain ⟨m, es2⟩ := s
        obtain ⟨J2, JM2⟩ := J2
        simp only at J2 JM2
        refine ok_seq fun K19 h19 => ok_region rfl (q_bin _ _ _ rfl rfl rfl (run_nil (h19 _ ?_))); clear h19 K19
        refine ok_seq fun K20 h20 => ?_
        refine ok_cond rfl (fun c21 => ?_) (fun c21 => ?_)
        · refine ok_skip (h20 _ ?_)
          have hm : m < n.toks.length := by simpa using c21
          have hnt := hsn.2
          refine ok_seq fun K22 h22 => ?_
          refine ok_block ?_
          refine ok_seq fun K23 h23 => ok_region rfl (q_ia (s := int (n.toks.getD m 0)) el40 rfl rfl (by omega) (iget (iget' hm)) (q_ld _ ag3 rfl rfl (q_as _ rfl (run_nil (h23 _ ?_))))); clear h23 K23
          refine ok_seq fun K24 h24 => ?_
          refine ok_seq fun K25 h25 => ?_
          refine ok_region rfl (q_mv _ rfl (q_bin _ _ _ rfl rfl rfl (q_mv _ rfl (q_or 2 2 rfl rfl rfl rfl rfl (fun hb91 =>
              q_mv _ rfl (q_bin _ _ _ rfl rfl rfl (run_nil ⟨rfl, rfl, rfl, rfl⟩))) (
            q_mv _ rfl (q_or 3 3 rfl rfl rfl rfl rfl (fun hb96 =>
              q_mo _ rfl (q_mv _ rfl (q_mget _ _ mp209 ze4 rfl rfl rfl (JM2.get _) (run_nil ⟨rfl, rfl, rfl, rfl⟩)))) (
            run_nil (h25 _ ?_))))))))
          clear h25 K25
          refine ok_cond rfl (fun c26 => ?_) (fun c26 => ?_)
          · refine ok_seq fun K27 h27 => ok_region rfl (q_as _ rfl (run_nil (h27 _ ?_)))
            refine ok_ret ⟨_, rfl, ?_⟩
            rw [pB_false]; · rfl
            rintro ⟨_, _, _, a4⟩
            obtain ⟨⟨_, _, _, _, _, _, d7⟩, _, d9⟩ := a4 k n hn
            have hmem := List.mem_of_getElem? (iget' hm)
            have := d7 _ hmem
            simp only [Bool.or_eq_true, decide_eq_true_eq, pB] at c26
            rcases c26 with (c | c) | (⟨i, q, h1, h2, h3⟩ | ⟨i, h1, h2, h3⟩)
            · omega
            · omega
            · exact d9 i q h1 h2 _ hmem h3
            · have := ris_lt b6' h1 hm; omega
          · refine ok_skip (h24 _ ?_)
            simp only [Bool.or_eq_false_iff, decide_eq_false_iff_not] at c26
            obtain ⟨⟨e1, e2⟩, e3⟩ := c26
            have e3' : ¬ (Sn r k (n.toks.getD m 0) ∨ ∃ i, i < m ∧ i < n.toks.length ∧ n.toks.getD m 0 = n.toks.getD i 0) := by simpa [pB] using e3
            refine ok_last fun K30 h30 => ok_region rfl (q_mo _ rfl (q_mv _ rfl (q_mput _ mp209 rfl rfl rfl rfl (JM2.none e3) (run_nil (h30 _ (h22 _ ?_))))))
            refine ok_region rfl (q_add rfl rfl (by omega) (q_mv _ rfl (run_nil (⟨(m + 1, es2 ++ [(n.toks.getD m 0, .bool true)]), by simp only; omega, ⟨fun i h1 h2 => ?_, ?_⟩, le_sub ⟨rfl, rfl, rfl, rfl, rfl, rfl, rfl, rfl, trivial⟩ ⟨rfl, trivial⟩⟩))))
            · simp only at h1
              rcases Nat.lt_or_ge i m with h | h
              · exact J2 i h h2
              · obtain rfl : i = m := by omega
                exact ⟨by omega, by omega, fun h => e3' (.inl h)⟩
            · refine (JM2.put _).to fun q => ⟨?_, ?_⟩
              · rintro ((h | ⟨i, h1, h2, h3⟩) | rfl)
                · exact .inl h
                · exact .inr ⟨i, by simp only; omega, h2, h3⟩
                · exact .inr ⟨m, by simp only; omega, hm, rfl⟩
              · rintro (h | ⟨i, h1, h2, h3⟩)
                · exact .inl (.inl h)
                · simp only at h1
                  rcases Nat.lt_or_ge i m with h | h
                  · exact .inl (.inr ⟨i, h, h2, h3⟩)
                  · obtain rfl : i = m := by omega
                    exact .inr h3
        · refine ok_exit (h12 _ ?_)
          have hm : n.toks.length ≤ m := by simpa using c21
          have mem : ∀ t ∈ n.toks, ∃ i, i < n.toks.length ∧ t = n.toks.getD i 0 := by
            intro t ht
            obtain ⟨x, hx⟩ := List.getElem?_of_mem ht
            exact ⟨x, (List.getElem?_eq_some_iff.1 hx).1, by rw [List.getD_eq_getElem?_getD, hx]; rfl⟩
          refine ok_region rfl (q_add rfl rfl (by omega) (q_mv _ rfl (run_nil (⟨(k + 1, es2), by simp only; omega, ⟨fun i n' h1 hn' => ?_, ?_⟩, le_sub ⟨rfl, rfl, rfl, rfl, rfl, trivial⟩ ⟨rfl, trivial⟩⟩))))
          · simp only at h1
            rcases Nat.lt_or_ge i k with h | h
            · exact J i n' h hn'
            · obtain rfl : i = k := by omega
              rw [hn] at hn'; cases hn'
              refine ⟨⟨b1, by omega, by omega, by omega, by omega, b6', fun t ht => ?_⟩, b8', fun j q h1 hq t ht htq => ?_⟩
              · obtain ⟨x, hx, rfl⟩ := mem t ht
                have := J2 x (by omega) hx
                exact ⟨this.1, this.2.1⟩
              · obtain ⟨x, hx, rfl⟩ := mem t ht
                exact (J2 x (by omega) hx).2.2 ⟨j, q, h1, hq, htq⟩
          · refine JM2.to fun q => ⟨?_, ?_⟩
            · rintro (⟨i, p', h1, h2, h3⟩ | ⟨i, h1, h2, rfl⟩)
              · exact ⟨i, p', by simp only; omega, h2, h3⟩
              · exact ⟨k, n, by simp only; omega, hn, List.mem_of_getElem? (iget' h2)⟩
            · rintro ⟨i, p', h1, h2, h3⟩
              simp only at h1
              rcases Nat.lt_or_ge i k with h | h
              · exact .inl ⟨i, p', h, h2, h3⟩
              · obtain rfl : i = k := by omega
                rw [hn] at h2; cases h2
                obtain ⟨x, hx, rfl⟩ := mem q h3
                exact .inr ⟨x, by omega, hx, rfl⟩
    · refine ok_exit (h7 _ ?_)
      have hk : r.nodes.length ≤ k := by simpa using c11
      refine ok_seq fun K28 h28 => ok_region rfl (q_as _ rfl (run_nil (h28 _ ?_))); clear h28 K28
      refine ok_ret ⟨_, rfl, ?_⟩
      rw [pB_true]; · rfl
      exact ⟨by omega, by omega, by omega, fun i n hn => J i n (by have := (List.getElem?_eq_some_iff.1 hn).1; omega) hn⟩
end Go.Ring
