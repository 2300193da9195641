/- Spans of samples, rising: the reference walked. No condition beyond the lengths. -/
import Derived.Test.YtbhkjbfphhfecaaGreatC2
set_option maxRecDepth 100000
set_option linter.unusedVariables false
set_option linter.unusedSimpArgs false
namespace Go.Ring
open Go Go.RowKit Go.Eager Go.Abs Go.Proofs
theorem span_le {base t : Int} (hb : 1 ≤ base ∧ base ≤ 1000000) (ht : 0 ≤ t ∧ t ≤ 1000000000000) : 0 ≤ t / base ∧ t / base ≤ 1000000000000 ∧ 0 ≤ (t / base + 1) * base ∧ (t / base + 1) * base ≤ 1000001000000 := by
  have h1 : 0 ≤ t / base := Int.ediv_nonneg ht.1 (by omega)
  have h2 : t / base ≤ t := Int.ediv_le_self _ ht.1
  have h3 := Int.ediv_mul_le t (b := base) (by omega)
  have h4 : 0 ≤ t / base * base := Int.mul_nonneg h1 (by omega)
  rw [Int.add_mul, Int.one_mul]
  omega
/-- The spans told, or that there are too many. -/
def spR (base en : Int) (l : List Series) : List Int × Bool := if (spL base en l).length ≤ 100 then (spL base en l, true) else ([], false)
theorem f162_ok (l : List Series) (hl : l.length ≤ 1048576 ∧ ∀ y ∈ l, SSeries y) (base en : Int) (hb : 1 ≤ base ∧ base ≤ 1000000) (ht : ∀ s ∈ l, ∀ x ∈ s.samples, 0 ≤ x.time ∧ x.time ≤ 1000000000000) :
    PFn Tryz.prog 162 [eSeriesS l, int base, int en] (.tup [ints (spR base en l).1, bool (spR base en l).2]) := by
  have hll := hl.1
  refine fnr_ok (n := 79) Tryz.func162 rfl rfl rfl (Nat.le_of_ble_eq_true rfl) rfl fun w0 O => ?_
  refine ok_seq fun K1 h1 => ok_region rfl (q_as _ rfl (q_as _ rfl (run_nil (h1 _ ?_)))); clear h1 K1
  refine ok_seq fun K2 h2 => ok_region rfl (q_an (n := 1) 3 (by decide) rfl rfl rfl (run_nil (h2 _ ?_))); clear h2 K2
  refine ok_seq fun K3 h3 => ?_
  refine ok_seq fun K4 h4 => ok_region rfl (q_mv _ rfl (q_len eS31 rfl (q_mv _ rfl (run_nil (h4 _ ?_))))); clear h4 K4
  rw [List.length_map]
  refine ok_block ?_
  refine ok_loop (fun (v : Nat × List Int) => ⟨[(1, .sv (int base)), (2, .sv (int en)), (8, .own 8), (15, .sv (eSeriesS l)), (16, .sv (int l.length)), (17, .sv (int v.1))], [(8, .row 1 3 (v.2.map int))]⟩) (fun v => (l.drop v.1).foldl (stpS base en) v.2 = spL base en l ∧ Up v.2 ∧ v.2.length ≤ 100) (fun v => l.length - v.1) (0, []) ⟨rfl, List.Pairwise.nil, by simp⟩ (le_sub ⟨rfl, rfl, rfl, rfl, rfl, rfl, trivial⟩ ⟨rfl, trivial⟩) (fun v J => ?_)
  obtain ⟨k, q⟩ := v
  obtain ⟨j1, j2, j3⟩ := J
  simp only at j1 j2 j3
  refine ok_seq fun K5 h5 => ok_region rfl (q_bin _ _ _ rfl rfl rfl (run_nil (h5 _ ?_))); clear h5 K5
  refine ok_seq fun K6 h6 => ?_
  refine ok_cond rfl (fun c7 => ?_) (fun c7 => ?_)
  · refine ok_skip (h6 _ ?_)
    have hk : k < l.length := by simpa using c7
    obtain ⟨u, hu⟩ := sget hk
    have nu := (hl.2 u (smem hu)).2
    have tu := ht u (smem hu)
    rw [drop_cons hu, List.foldl_cons] at j1
    refine ok_seq fun K8 h8 => ?_
    refine ok_block ?_
    refine ok_seq fun K9 h9 => ok_region rfl (q_ia el31 rfl rfl (by omega) (mget (f := eSeries) hu) (q_lds _ ag83 rfl sz83 (q_alloc _ ze83 rfl rfl rfl rfl (q_sts _ rfl rfl rfl sz83 (Nat.le_of_ble_eq_true rfl) rfl (run_nil (h9 _ ?_)))))); clear h9 K9
    refine ok_seq fun K10 h10 => ok_region rfl (q_fap fd83_1 rfl (by decide) (q_ldb (.sv (eSampleS u.samples)) ag81 rfl rfl rfl (q_len eS81 rfl (q_mv _ rfl (run_nil (h10 _ ?_)))))); clear h10 K10
    rw [List.length_map]
    refine ok_block ?_
    refine ok_loop (fun (v : Nat × List Int) => ⟨[(1, .sv (int base)), (2, .sv (int en)), (8, .own 8), (15, .sv (eSeriesS l)), (16, .sv (int l.length)), (17, .sv (int k)), (22, .sv (eSampleS u.samples)), (23, .sv (int u.samples.length)), (24, .sv (int v.1))], [(8, .row 1 3 (v.2.map int))]⟩) (fun v => (l.drop (k + 1)).foldl (stpS base en) ((u.samples.drop v.1).foldl (stp1 base en) v.2) = spL base en l ∧ Up v.2 ∧ v.2.length ≤ 100) (fun v => u.samples.length - v.1) (0, q) ⟨j1, j2, j3⟩ (le_sub ⟨rfl, rfl, rfl, rfl, rfl, rfl, rfl, rfl, rfl, trivial⟩ ⟨rfl, trivial⟩) (fun v J => ?_)
    clear j1 j2 j3
    obtain ⟨m, q⟩ := v
    obtain ⟨j1, j2, j3⟩ := J
    simp only at j1 j2 j3
    refine ok_seq fun K11 h11 => ok_region rfl (q_bin _ _ _ rfl rfl rfl (run_nil (h11 _ ?_))); clear h11 K11
    refine ok_seq fun K12 h12 => ?_
    refine ok_cond rfl (fun c13 => ?_) (fun c13 => ?_)
    · refine ok_skip (h12 _ ?_)
      have hm : m < u.samples.length := by simpa using c13
      obtain ⟨x, hx⟩ := sget hm
      have tx := tu x (smem hx)
      obtain ⟨b1, b2, b3, b4⟩ := span_le hb tx
      rw [drop_cons hx, List.foldl_cons] at j1
      refine ok_seq_join (fun (q' : List Int) => ⟨[(1, .sv (int base)), (2, .sv (int en)), (8, .own 8), (15, .sv (eSeriesS l)), (16, .sv (int l.length)), (17, .sv (int k)), (22, .sv (eSampleS u.samples)), (23, .sv (int u.samples.length)), (24, .sv (int m))], [(8, .row 1 3 (q'.map int))]⟩) (fun q' => (l.drop (k + 1)).foldl (stpS base en) ((u.samples.drop (m + 1)).foldl (stp1 base en) q') = spL base en l ∧ Up q' ∧ q'.length ≤ 100) ?_ (fun q' J => ?_)
      · refine ok_block ?_
        refine ok_seq fun K14 h14 => ok_region rfl (q_ia el81 rfl rfl (by omega) (mget (f := eSample) hx) (q_lds _ ag128 rfl sz128 (q_alloc _ ze128 rfl rfl rfl rfl (q_sts _ rfl rfl rfl sz128 (Nat.le_of_ble_eq_true rfl) rfl (run_nil (h14 _ ?_)))))); clear h14 K14
        refine ok_seq fun K15 h15 => ok_region rfl (q_fap fd128_0 rfl (by decide) (q_ldb (.sv (int x.time)) ag3 rfl rfl rfl (q_mv _ rfl (q_div rfl rfl (by omega) (q_as _ rfl (run_nil (h15 _ ?_))))))); clear h15 K15
        refine Ok.le (σ' := ⟨[(1, .sv (int base)), (2, .sv (int en)), (8, .own 8), (13, .sv (int (x.time / base))), (15, .sv (eSeriesS l)), (16, .sv (int l.length)), (17, .sv (int k)), (22, .sv (eSampleS u.samples)), (23, .sv (int u.samples.length)), (24, .sv (int m))], [(8, .row 1 3 (q.map int))]⟩) (le_sub ⟨rfl, rfl, rfl, rfl, rfl, rfl, rfl, rfl, rfl, rfl, trivial⟩ ⟨rfl, trivial⟩) ?_
        refine ok_seq fun K16 h16 => ?_
        refine ok_seq fun K17 h17 => ?_
        refine ok_region rfl (q_mv _ rfl (q_add rfl rfl (by omega) (q_mv _ rfl (q_mul rfl rfl (by omega) (q_mv _ rfl (q_bin _ _ _ rfl rfl rfl (q_mv _ rfl (q_or (b2 := decide (x.time / base ∈ q)) 3 3 rfl rfl rfl rfl rfl (fun hb42 =>
            q_mo _ rfl (q_mv _ rfl (q_callb [(1000, 8)] (f200_b q (x.time / base) (by omega)) cl200 rfl rfl ⟨⟨rfl, rfl⟩, trivial⟩ rfl ⟨.inl rfl, trivial⟩ (fun r h' hR => by
              obtain ⟨rfl, rfl⟩ := hR
              exact ⟨rfl, rfl, run_nil ⟨rfl, rfl, rfl, rfl⟩⟩)))) (
          run_nil (h17 _ ?_))))))))))
        clear h17 K17
        refine ok_cond rfl (fun c18 => ?_) (fun c18 => ?_)
        · have e : stp1 base en q x = q := by
            unfold stp1
            split
            · rename_i hle
              rw [Bool.or_eq_true, decide_eq_true_eq, decide_eq_true_eq] at c18
              exact insS_has j2 (c18.resolve_left (by omega))
            · rfl
          rw [e] at j1
          exact ok_exit ⟨q, ⟨j1, j2, j3⟩, le_sub ⟨rfl, rfl, rfl, rfl, rfl, rfl, rfl, rfl, rfl, trivial⟩ ⟨rfl, trivial⟩⟩
        · rw [Bool.or_eq_false_iff, decide_eq_false_iff_not, decide_eq_false_iff_not] at c18
          have e : stp1 base en q x = insS (x.time / base) q := by unfold stp1; rw [if_pos (by omega)]
          rw [e] at j1
          generalize hat : x.time / base = at_ at *
          refine ok_skip (h16 _ ?_)
          refine ok_seq fun K19 h19 => ok_region rfl (q_mo _ rfl (q_leno eS29 rfl rfl (q_as _ rfl (run_nil (h19 _ ?_))))); clear h19 K19
          rw [List.length_map]
          refine ok_seq fun K20 h20 => ?_
          refine ok_block ?_
          refine ok_loop (fun (p : Nat) => ⟨[(1, .sv (int base)), (2, .sv (int en)), (8, .own 8), (13, .sv (int at_)), (14, .sv (int p)), (15, .sv (eSeriesS l)), (16, .sv (int l.length)), (17, .sv (int k)), (22, .sv (eSampleS u.samples)), (23, .sv (int u.samples.length)), (24, .sv (int m))], [(8, .row 1 3 (q.map int))]⟩) (fun p => p ≤ q.length ∧ ∀ i y, p ≤ i → q[i]? = some y → at_ < y) (fun p => p) q.length ⟨Nat.le_refl _, fun i y hi hy => absurd (List.getElem?_eq_some_iff.1 hy).1 (by omega)⟩ (le_sub ⟨rfl, rfl, rfl, rfl, rfl, rfl, rfl, rfl, rfl, rfl, rfl, trivial⟩ ⟨rfl, trivial⟩) (fun p J => ?_)
          obtain ⟨p1, p2⟩ := J
          obtain ⟨y, hy⟩ : ∃ y, 0 < p → q[p - 1]? = some y := by
            by_cases h : 0 < p
            · obtain ⟨y, hy⟩ := sget (l := q) (i := p - 1) (by omega); exact ⟨y, fun _ => hy⟩
            · exact ⟨0, fun h' => (h h').elim⟩
          refine ok_seq fun K21 h21 => ?_
          refine ok_seq fun K22 h22 => ?_
          refine ok_region rfl (q_mv _ rfl (q_bin _ _ _ rfl rfl rfl (q_mv _ rfl (q_and (b2 := decide (at_ < y)) 7 7 rfl rfl rfl rfl rfl (fun hb55 => by
              have hp0 : (0 : Int) < p := by simpa using hb55
              have e1 : ((p : Int) - 1).toNat = p - 1 := by omega
              exact q_mo _ rfl (q_mv _ rfl (q_sub rfl rfl (by omega) (q_iao el29 rfl rfl rfl (by omega) (by rw [List.length_map]; omega) (q_lde (int y) ag3 rfl rfl (by rw [e1]; exact mget (f := int) (hy (by omega))) rfl (q_mv _ rfl (q_bin _ _ _ rfl rfl rfl (run_nil ⟨rfl, rfl, rfl, rfl⟩)))))))) (
            run_nil (h22 _ ?_))))))
          clear h22 K22
          refine ok_cond rfl (fun c23 => ?_) (fun c23 => ?_)
          · simp only [Bool.and_eq_true, decide_eq_true_eq] at c23
            refine ok_skip (h21 _ ?_)
            refine ok_block ?_
            refine ok_last fun K24 h24 => ok_region rfl (
              q_mv _ rfl (q_sub rfl rfl (by omega) (q_as _ rfl (run_nil (h24 _ (⟨p - 1, by omega, ⟨by omega, fun i z hq hz => ?_⟩, ?_⟩))))))
            · by_cases he : i = p - 1
              · subst he; rw [hy (by omega)] at hz; cases hz; exact c23.2
              · exact p2 i z (by omega) hz
            · rw [show (p : Int) - 1 = ((p - 1 : Nat) : Int) by omega]
              exact le_sub ⟨rfl, rfl, rfl, rfl, rfl, rfl, rfl, rfl, rfl, rfl, rfl, trivial⟩ ⟨rfl, trivial⟩
          · have hins : q.take p ++ at_ :: q.drop p = insS at_ q := insS_at j2 p1 p2 fun z hp hz => by
              rw [hy hp] at hz; cases hz
              simp only [Bool.and_eq_false_iff, decide_eq_false_iff_not] at c23
              have hne : y ≠ at_ := fun h => c18.2 (by rw [← h]; exact smem (hy hp))
              rcases c23 with c | c <;> omega
            refine ok_exit (h20 _ ?_)
            refine ok_seq fun K25 h25 => ?_
            refine ok_region rfl (q_mo _ rfl (q_lit1 _ (int 0) el29 ze3 (by decide) (by decide) rfl (.inr rfl) rfl (q_app _ el29 ze3 rfl by3 rfl rfl rfl rfl rfl (by simp) (by intro s hs; simp at hs; subst hs; exact .inr rfl) (by rw [List.length_map]; show _ + 1 ≤ maxLen; unfold maxLen; omega) (by rw [List.length_map]; show (_ + 1) * 8 ≤ _; omega) (
              q_ao _ rfl (run_nil (h25 _ ?_))))))
            clear h25 K25
            refine ok_seq fun K26 h26 => ?_
            refine ok_region_i (by kernel_rfl) (by kernel_rfl) rfl (
              q_mo _ rfl (q_mv _ rfl (q_add rfl rfl (by omega) (q_slo el29 rfl rfl (by simp) rfl (by omega) (by simp; omega) (q_mo _ rfl (q_mv _ rfl (
              q_slo el29 rfl rfl (by simp) rfl (by omega) (by simp; omega) (q_copyo el29 rfl rfl rfl (by simp; omega) (by simp; omega) (by intro s hs; simp at hs; rcases hs with ⟨a, _, rfl⟩ | rfl <;> rfl) (run_nil (h26 _ ?_))))))))))
            clear h26 K26
            have hcl : (cpy (q.map int ++ [int 0]) ((p : Int) + 1).toNat (p : Int).toNat).length = q.length + 1 := by rw [cpy_len _ _ _ (by simp; omega)]; simp
            obtain ⟨s0, hs0⟩ := sget (l := cpy (q.map int ++ [int 0]) ((p : Int) + 1).toNat (p : Int).toNat) (i := (p : Int).toNat) (by rw [hcl]; omega)
            refine ok_seq fun K27 h27 => ok_region rfl (
              q_mo _ rfl (q_mv _ rfl (q_mv _ rfl (q_iao el29 rfl rfl rfl (by omega) (by rw [hcl]; omega) (q_ste sz3 rfl rfl hs0 rfl (.inr rfl) rfl (run_nil (h27 _ ?_)))))))
            clear h27 K27
            have e9 : (cpy (q.map int ++ [int 0]) ((p : Int) + 1).toNat (p : Int).toNat).set (p : Int).toNat (int at_) = (insS at_ q).map int := by
              rw [Int.toNat_natCast, show ((p : Int) + 1).toNat = p + 1 by omega, show q.map int ++ [int 0] = (q ++ [0]).map int by rw [List.map_append]; rfl, ← cpy_map, ← List.map_set, cpy_ins q p at_ p1, hins]
            rw [e9]
            refine ok_seq fun K28 h28 => ok_region rfl (q_mo _ rfl (q_leno eS29 rfl rfl (q_bin _ _ _ rfl rfl rfl (run_nil (h28 _ ?_))))); clear h28 K28
            rw [List.length_map]
            refine ok_cond rfl (fun c29 => ?_) (fun c29 => ?_)
            · have hbig : 100 < (insS at_ q).length := by have : (100 : Int) < ((insS at_ q).length : Nat) := by simpa using c29
                                                          omega
              have hno : ¬ (spL base en l).length ≤ 100 := by
                rw [← j1]
                have h1 := fold1_len base en (u.samples.drop (m + 1)) (insS at_ q)
                have h2 := foldS_len base en (l.drop (k + 1)) ((u.samples.drop (m + 1)).foldl (stp1 base en) (insS at_ q))
                omega
              refine ok_seq fun K30 h30 => ?_
              refine ok_region rfl (q_as _ rfl (q_as _ rfl (run_nil (h30 _ ?_))))
              clear h30 K30
              refine Ok.le (le_nil 1 6 rfl) (ok_ret ⟨_, ⟨_, _, rfl, ⟨_, _, rfl, rfl, rfl⟩, rfl⟩, ?_⟩)
              unfold spR
              rw [if_neg hno]; rfl
            · have hsm : (insS at_ q).length ≤ 100 := by have : ¬ (100 : Int) < ((insS at_ q).length : Nat) := by simpa using c29
                                                         omega
              exact ok_skip ⟨insS at_ q, ⟨j1, insS_up at_ j2, hsm⟩, le_rek 8 60 ⟨rfl, rfl, rfl, rfl, rfl, rfl, rfl, rfl, rfl, trivial⟩ ⟨rfl, trivial⟩ rfl rfl rfl rfl ⟨rfl, trivial⟩⟩
      · refine ok_last fun K31 h31 => ok_region rfl (
          q_add rfl rfl (by omega) (q_mv _ rfl (run_nil (h31 _ (⟨(m + 1, q'), by simp only; omega, J, le_sub ⟨rfl, rfl, rfl, rfl, rfl, rfl, rfl, rfl, rfl, trivial⟩ ⟨rfl, trivial⟩⟩)))))
    · rw [List.drop_of_length_le (by have : ¬ ((m : Int) < u.samples.length) := by simpa using c13
                                     omega), List.foldl_nil] at j1
      refine ok_exit (h8 _ ?_)
      refine ok_last fun K32 h32 => ok_region rfl (
        q_add rfl rfl (by omega) (q_mv _ rfl (run_nil (h32 _ (⟨(k + 1, q), by simp only; omega, ⟨j1, j2, j3⟩, le_sub ⟨rfl, rfl, rfl, rfl, rfl, rfl, trivial⟩ ⟨rfl, trivial⟩⟩)))))
  · rw [List.drop_of_length_le (by have : ¬ ((k : Int) < l.length) := by simpa using c7
                                   omega), List.foldl_nil] at j1
    refine ok_exit (h3 _ ?_)
    refine ok_seq fun K33 h33 => ok_region rfl (q_mo _ rfl (q_ao _ rfl (q_as _ rfl (run_nil (h33 _ ?_))))); clear h33 K33
    refine ok_ret ⟨_, ⟨_, _, rfl, ⟨_, _, rfl, rfl, rfl⟩, rfl⟩, ?_⟩
    unfold spR
    rw [← j1, if_pos j3]; rfl
end Go.Ring
