/- What is to be compacted next: the reference. No condition beyond the sizes. -/
import Derived.Test.YtbhkjbfphhfecaaGreatE3
set_option maxRecDepth 100000
set_option linter.unusedVariables false
set_option linter.unusedSimpArgs false
namespace Go.Ring
open Go Go.RowKit Go.Eager Go.Abs Go.Proofs
/-- All that lies in a block's span begins in it. -/
theorem in_from {x : Block} {A W q : Int} (hW : 0 < W) (hA : A = q * W) (h : inI A W x = true) (hx : x.from_ < x.to) : x.from_ / W * W = A := by
  unfold inI at h
  simp only [Bool.and_eq_true, decide_eq_true_eq] at h
  have h1 : q ≤ x.from_ / W := (Int.le_ediv_iff_mul_le hW).2 (by omega)
  have h2 : x.from_ / W < q + 1 := (Int.ediv_lt_iff_lt_mul hW).2 (by rw [Int.add_mul, Int.one_mul]; omega)
  have h3 : x.from_ / W = q := by omega
  rw [h3, hA]
theorem all_any (n : Int) : ∀ l : List Block, l.all (fun x => decide (x.level < n)) = !(l.any fun x => decide (n ≤ x.level))
  | [] => rfl
  | x :: l => by
    rw [List.all_cons, List.any_cons, all_any n l]
    by_cases h : x.level < n
    · have h2 : ¬ n ≤ x.level := by omega
      simp [h, h2]
    · have h2 : n ≤ x.level := by omega
      simp [h, h2]
theorem filter_congr2 {p q : Block → Bool} {l : List Block} (h : ∀ x ∈ l, p x = q x) : l.filter p = l.filter q := List.filter_congr h
theorem f92_ok (base : Int) (l : List Block) (hl : l.length ≤ 1048576 ∧ ∀ y ∈ l, SBlock y) (hw : wtB l ≤ 1048576) (hsh : ShelfOk base l) : PFn Tryz.prog 92 [int base, eBlockS l] (ints ((planO base l).getD [])) := by
  refine fn_ok' (n := 110) Tryz.func92 rfl rfl rfl (Nat.le_of_ble_eq_true rfl) rfl fun w0 O => ?_
  have hll := hl.1
  have hb0 : 1 ≤ base ∧ base ≤ 1000000 := ⟨hsh.1, hsh.2.1⟩
  have hkb := shelf_blocks hsh
  refine ok_seq fun K1 h1 => ok_region rfl (q_as _ rfl (run_nil (h1 _ ?_))); clear h1 K1
  refine ok_seq fun K2 h2 => ?_
  refine ok_seq fun K3 h3 => ok_region rfl (q_as _ rfl (run_nil (h3 _ ?_))); clear h3 K3
  refine ok_block ?_
  refine ok_loop (fun (n : Nat) => ⟨[(0, .sv (int base)), (1, .sv (eBlockS l)), (5, .sv (int (n : Int)))], []⟩) (fun n => 2 ≤ n ∧ n ≤ 5 ∧ ∀ m : Nat, 2 ≤ m → m < n → planL base m l = none) (fun n => 5 - n) 2 ⟨by omega, by omega, fun m h1 h2 => by omega⟩ (le_same ⟨rfl, rfl, rfl, trivial⟩) (fun n J => ?_)
  obtain ⟨n2, n5, hprev⟩ := J
  refine ok_seq fun K4 h4 => ?_
  refine ok_seq fun K5 h5 => ok_region rfl (q_mv _ rfl (q_bin _ _ _ rfl rfl rfl (run_nil (h5 _ ?_)))); clear h5 K5
  refine ok_cond rfl (fun c6 => ?_) (fun c6 => ?_)
  · refine ok_skip (h4 _ ?_)
    have n4 : n ≤ 4 := by have := of_decide_eq_true (p := (n : Int) ≤ 4) c6; omega
    have hnL : 2 ≤ (n : Int) ∧ (n : Int) ≤ 4 := by omega
    obtain ⟨w1, w2⟩ := wid_ok (L := (n : Int)) hb0 (by omega)
    generalize hW : widI base (n : Int) = W at *
    refine ok_seq fun K7 h7 => ?_
    refine ok_block ?_
    refine ok_seq fun K8 h8 => ok_region rfl (q_mv _ rfl (q_mv _ rfl (q_call (show PFn Tryz.prog 146 [int base, int (n : Int)] (int W) from by rw [← hW]; exact f146_ok base n) cl146 rfl rfl (q_as _ rfl (run_nil (h8 _ ?_)))))); clear h8 K8
    refine ok_seq fun K9 h9 => ok_region rfl (q_mv _ rfl (q_len eS53 rfl (q_mv _ rfl (run_nil (h9 _ ?_))))); clear h9 K9
    rw [List.length_map]
    refine ok_block ?_
    refine ok_loop (fun (k : Nat) => ⟨[(0, .sv (int base)), (1, .sv (eBlockS l)), (5, .sv (int (n : Int))), (6, .sv (int W)), (24, .sv (eBlockS l)), (25, .sv (int l.length)), (26, .sv (int k))], []⟩) (fun k => (l.take k).findSome? (tryB base n l) = none) (fun k => l.length - k) 0 (by simp) (le_same ⟨rfl, rfl, rfl, rfl, rfl, rfl, rfl, trivial⟩) (fun k j1 => ?_)
    refine ok_seq fun K10 h10 => ok_region rfl (q_bin _ _ _ rfl rfl rfl (run_nil (h10 _ ?_))); clear h10 K10
    refine ok_seq fun K11 h11 => ?_
    refine ok_cond rfl (fun c12 => ?_) (fun c12 => ?_)
    · refine ok_skip (h11 _ ?_)
      have hk : k < l.length := by simpa using c12
      obtain ⟨b, hb⟩ := sget hk
      have hbm := smem hb
      have kb := hkb b hbm
      have t1 : 0 ≤ b.from_ := kb.1.1
      have t2 : b.from_ ≤ 1000000000000 := kb.1.2
      have d1 : 0 ≤ b.from_ / W * W := Int.mul_nonneg (Int.ediv_nonneg t1 (by omega)) (by omega)
      have d2 : b.from_ / W * W ≤ b.from_ := Int.ediv_mul_le b.from_ (Int.ne_of_gt w1)
      obtain ⟨y, hy⟩ := sget (l := l) (i := l.length - 1) (by omega)
      have hyl : lastF l = y.from_ := by unfold lastF; rw [hy]
      have hln : l.length ≠ 0 := by omega
      have hstep : ∀ q, tryB base n l b = q → (l.take (k + 1)).findSome? (tryB base n l) = q := fun q hq => by rw [find_step hb j1, hq]
      have heq : b.level = (n : Int) - 1 → ∀ x ∈ l, inM (b.from_ / W * W) W x = inI (b.from_ / W * W) W x := fun hlv x hx => by
        have := in_eq hsh hnL hbm hlv hx
        rw [hW] at this
        exact this
      have hself : b.level = (n : Int) - 1 → inI (b.from_ / W * W) W b = true := fun hlv => by
        have := in_self hsh hnL hbm hlv
        rw [hW] at this
        exact this
      have hAq : b.from_ / W * W = (b.from_ / W) * W := rfl
      generalize hq0 : b.from_ / W = q0 at *
      generalize hA : q0 * W = A at *
      refine ok_seq_join (fun (v : Unit) => ⟨[(0, .sv (int base)), (1, .sv (eBlockS l)), (5, .sv (int (n : Int))), (6, .sv (int W)), (24, .sv (eBlockS l)), (25, .sv (int l.length)), (26, .sv (int k))], []⟩) (fun v => tryB base n l b = none) ?_ (fun v J => ?_)
      · refine ok_block ?_
        refine ok_seq fun K13 h13 => ok_region rfl (q_ia el53 rfl rfl (by omega) (mget (f := eBlock) hb) (q_lds _ ag34 rfl sz34 (q_alloc _ ze34 rfl rfl rfl rfl (q_sts _ rfl rfl rfl sz34 (Nat.le_of_ble_eq_true rfl) rfl (run_nil (h13 _ ?_)))))); clear h13 K13
        refine ok_seq fun K14 h14 => ?_
        refine ok_seq fun K15 h15 => ok_region rfl (q_fap fd34_2 rfl (by decide) (q_ldb (.sv (int b.level)) ag3 rfl rfl rfl (q_mv _ rfl (q_sub rfl rfl (by omega) (q_bin _ _ _ rfl rfl rfl (run_nil (h15 _ ?_))))))); clear h15 K15
        refine ok_cond rfl (fun c16 => ?_) (fun c16 => ?_)
        · refine ok_exit ⟨(), ?_, le_sub ⟨rfl, rfl, rfl, rfl, rfl, rfl, rfl, trivial⟩ trivial⟩
          unfold tryB
          rw [if_neg]
          rintro ⟨h, _⟩
          simp [h] at c16
        · have lv : b.level = (n : Int) - 1 := by
            have := c16
            simp only [decide_eq_false_iff_not] at this
            omega
          refine ok_skip (h14 _ ?_)
          refine ok_seq fun K17 h17 => ok_region rfl (q_fap fd34_0 rfl (by decide) (q_ldb (.sv (int b.from_)) ag3 rfl rfl rfl (q_mv _ rfl (q_div rfl rfl (by omega) (q_mv _ rfl (q_mul rfl rfl (by rw [hq0, hA]; omega) (q_as _ rfl (run_nil (h17 _ ?_))))))))); clear h17 K17
          rw [hq0, hA]
          refine ok_seq fun K18 h18 => ?_
          refine ok_seq fun K19 h19 => ?_
          refine ok_region rfl (q_mv _ rfl (q_mv _ rfl (q_len eS53 rfl (q_sub rfl rfl (by rw [List.length_map]; omega) (q_ia el53 rfl rfl (by rw [List.length_map]; omega) (lget (f := eBlock) hy hln) (q_fa _ fd34_0 rfl rfl (by decide) (q_ld (int y.from_) ag3 rfl rfl (q_mv _ rfl (
            q_mv _ rfl (q_add rfl rfl (by omega) (q_bin _ _ _ rfl rfl rfl (run_nil (h19 _ ?_)))))))))))))
          clear h19 K19
          refine ok_cond rfl (fun c20 => ?_) (fun c20 => ?_)
          · refine ok_exit ⟨(), ?_, le_sub ⟨rfl, rfl, rfl, rfl, rfl, rfl, rfl, trivial⟩ trivial⟩
            unfold tryB
            rw [if_neg]
            rintro ⟨_, h, _⟩
            rw [hW, hq0, hA, hyl] at h
            have := of_decide_eq_true (p := y.from_ < A + W) c20
            omega
          · have lst : ¬ y.from_ < A + W := of_decide_eq_false (p := y.from_ < A + W) c20
            have hEq := heq lv
            have hxs := ixF_len (inM A W) l 0
            have hfl : l.filter (inM A W) = l.filter (inI A W) := filter_congr2 hEq
            have hix : ixF (inM A W) l 0 = ixF (inI A W) l 0 := ixF_congr l 0 hEq
            have hS := filter_S hl (inM A W)
            have hwf := Nat.le_trans (wtB_filter (inM A W) l) hw
            refine ok_skip (h18 _ ?_)
            refine ok_seq fun K21 h21 => ok_region rfl (q_an (n := 1) 3 (by decide) rfl rfl rfl (run_nil (h21 _ ?_))); clear h21 K21
            refine ok_seq fun K22 h22 => ok_region rfl (q_an (n := 5) 34 (by decide) rfl rfl rfl (run_nil (h22 _ ?_))); clear h22 K22
            refine ok_seq fun K23 h23 => ok_region rfl (q_as _ rfl (run_nil (h23 _ ?_))); clear h23 K23
            refine ok_seq fun K24 h24 => ?_
            refine ok_seq fun K25 h25 => ok_region rfl (q_mv _ rfl (q_len eS53 rfl (q_mv _ rfl (run_nil (h25 _ ?_))))); clear h25 K25
            rw [List.length_map]
            refine ok_block ?_
            refine ok_loop (fun (s : Nat × List Int × List Block × Bool) => ⟨[(0, .sv (int base)), (1, .sv (eBlockS l)), (5, .sv (int (n : Int))), (6, .sv (int W)), (9, .sv (int A)), (10, .own 10), (11, .own 11), (12, .sv (bool s.2.2.2)), (24, .sv (eBlockS l)), (25, .sv (int l.length)), (26, .sv (int k)), (52, .sv (eBlockS l)), (53, .sv (int l.length)), (54, .sv (int s.1))], [(10, .row 1 3 (s.2.1.map int)), (11, .row 5 34 (s.2.2.1.map eBlock))]⟩)
              (fun s => s.2.1 ++ ixF (inM A W) (l.drop s.1) s.1 = ixF (inM A W) l 0 ∧ s.2.2.1 ++ (l.drop s.1).filter (inM A W) = l.filter (inM A W) ∧ (s.2.2.2 && ((l.drop s.1).filter (inM A W)).all fun x => decide (x.level < (n : Int))) = (l.filter (inM A W)).all (fun x => decide (x.level < (n : Int))) ∧ s.2.1.length ≤ s.1 ∧ s.2.2.1.length ≤ s.1) (fun s => l.length - s.1) (0, [], [], true) ⟨rfl, rfl, by simp, Nat.le_refl _, Nat.le_refl _⟩ (le_sub ⟨rfl, rfl, rfl, rfl, rfl, rfl, rfl, rfl, rfl, rfl, rfl, rfl, rfl, rfl, trivial⟩ ⟨rfl, rfl, trivial⟩) (fun s J => ?_)
            obtain ⟨j, o, p, ok⟩ := s
            obtain ⟨i1, i2, i3, i4, i5⟩ := J
            simp only at i1 i2 i3 i4 i5
            refine ok_seq fun K26 h26 => ok_region rfl (q_bin _ _ _ rfl rfl rfl (run_nil (h26 _ ?_))); clear h26 K26
            refine ok_seq fun K27 h27 => ?_
            refine ok_cond rfl (fun c28 => ?_) (fun c28 => ?_)
            · refine ok_skip (h27 _ ?_)
              have hj : j < l.length := by simpa using c28
              obtain ⟨u, hu⟩ := sget hj
              have ku := hkb u (smem hu)
              rw [ixF_step _ hu] at i1
              rw [drop_cons hu, List.filter_cons] at i2 i3
              refine ok_seq_join (fun (v : List Int × List Block × Bool) => ⟨[(0, .sv (int base)), (1, .sv (eBlockS l)), (5, .sv (int (n : Int))), (6, .sv (int W)), (9, .sv (int A)), (10, .own 10), (11, .own 11), (12, .sv (bool v.2.2)), (24, .sv (eBlockS l)), (25, .sv (int l.length)), (26, .sv (int k)), (52, .sv (eBlockS l)), (53, .sv (int l.length)), (54, .sv (int j))], [(10, .row 1 3 (v.1.map int)), (11, .row 5 34 (v.2.1.map eBlock))]⟩)
                (fun v => v.1 ++ ixF (inM A W) (l.drop (j + 1)) (j + 1) = ixF (inM A W) l 0 ∧ v.2.1 ++ (l.drop (j + 1)).filter (inM A W) = l.filter (inM A W) ∧ (v.2.2 && ((l.drop (j + 1)).filter (inM A W)).all fun x => decide (x.level < (n : Int))) = (l.filter (inM A W)).all (fun x => decide (x.level < (n : Int))) ∧ v.1.length ≤ j + 1 ∧ v.2.1.length ≤ j + 1) ?_ (fun v J => ?_)
              · refine ok_block ?_
                refine ok_seq fun K29 h29 => ok_region rfl (q_mv _ rfl (q_ia el53 rfl rfl (by omega) (mget (f := eBlock) hu) (q_lds _ ag34 rfl sz34 (q_alloc _ ze34 rfl rfl rfl rfl (q_as _ rfl (q_sts _ rfl rfl rfl sz34 (Nat.le_of_ble_eq_true rfl) rfl (run_nil (h29 _ ?_)))))))); clear h29 K29
                refine ok_seq fun K30 h30 => ?_
                refine ok_region rfl (q_fap fd34_0 rfl (by decide) (q_ldb (.sv (int u.from_)) ag3 rfl rfl rfl (q_mv _ rfl (q_bin _ _ _ rfl rfl rfl (q_mv _ rfl (q_and 6 6 rfl rfl rfl rfl rfl (fun hb70 =>
                    q_fap fd34_0 rfl (by decide) (q_ldb (.sv (int u.from_)) ag3 rfl rfl rfl (q_mv _ rfl (q_mv _ rfl (q_add rfl rfl (by omega) (q_bin _ _ _ rfl rfl rfl (run_nil ⟨rfl, rfl, rfl, rfl⟩))))))) (
                  q_mv _ rfl (q_or 10 6 rfl rfl rfl rfl rfl (fun hb82 =>
                    q_fap fd34_0 rfl (by decide) (q_ldb (.sv (int u.from_)) ag3 rfl rfl rfl (q_mv _ rfl (q_bin _ _ _ rfl rfl rfl (q_mv _ rfl (q_and 4 4 rfl rfl rfl rfl rfl (fun hb81 =>
                      q_fap fd34_1 rfl (by decide) (q_ldb (.sv (int u.to)) ag3 rfl rfl rfl (q_mv _ rfl (q_bin _ _ _ rfl rfl rfl (run_nil ⟨rfl, rfl, rfl, rfl⟩))))) (
                    run_nil ⟨rfl, rfl, rfl, rfl⟩))))))) (
                  run_nil (h30 _ ?_))))))))))
                clear h30 K30
                refine ok_cond rfl (fun c31 => ?_) (fun c31 => ?_)
                · have hm : inM A W u = true := c31
                  rw [if_pos hm] at i1 i2 i3
                  refine ok_seq fun K32 h32 => ?_
                  refine ok_region rfl (q_mo _ rfl (q_mv _ rfl (q_lit1 _ (int (j : Int)) el29 ze3 (by decide) (by decide) rfl (.inr rfl) rfl (q_app _ el29 ze3 rfl by3 rfl rfl rfl rfl rfl (by simp) (by intro s hs; simp at hs; subst hs; exact .inr rfl) (by rw [List.length_map]; show o.length + 1 ≤ maxLen; unfold maxLen; omega) (by rw [List.length_map]; show (o.length + 1) * 8 ≤ _; omega) (
                    q_ao _ rfl (run_nil (h32 _ ?_)))))))
                  clear h32 K32
                  refine ok_seq fun K33 h33 => ?_
                  refine ok_region rfl (q_mo _ rfl (q_ldbs (r := [int u.from_, int u.to, int u.level, eSeriesS u.series, eStoneS u.stones]) ag34 rfl rfl sz34 rfl rfl (q_lit1 _ (eBlock u) el53 ze34 (by decide) (by decide) rfl (.inl ⟨_, rfl⟩) rfl (q_app (q := [eBlock u]) _ el53 ze34 rfl by34 rfl rfl rfl rfl rfl (by simp) (by intro s hs; simp at hs; subst hs; exact .inl ⟨_, rfl⟩) (by rw [List.length_map]; show p.length + 1 ≤ maxLen; unfold maxLen; omega) (by rw [List.length_map]; show (p.length + 1) * 72 ≤ _; omega) (
                    q_ao _ rfl (run_nil (h33 _ ?_)))))))
                  clear h33 K33
                  refine Ok.le (le_rek (t' := [(0, .sv (int base)), (1, .sv (eBlockS l)), (5, .sv (int (n : Int))), (6, .sv (int W)), (9, .sv (int A)), (10, .own 10), (11, .own 90), (12, .sv (bool ok)), (14, .ptr 14 0), (24, .sv (eBlockS l)), (25, .sv (int l.length)), (26, .sv (int k)), (52, .sv (eBlockS l)), (53, .sv (int l.length)), (54, .sv (int j))]) (h' := [(10, .row 1 3 (o.map int ++ [int (j : Int)])), (90, .row 5 34 (p.map eBlock ++ [eBlock u])), (14, .box [.sv (int u.from_), .sv (int u.to), .sv (int u.level), .sv (eSeriesS u.series), .sv (eStoneS u.stones)])]) 10 86 ⟨rfl, rfl, rfl, rfl, rfl, rfl, rfl, rfl, rfl, rfl, rfl, rfl, rfl, rfl, rfl, trivial⟩ ⟨rfl, rfl, rfl, trivial⟩ rfl rfl rfl rfl ⟨rfl, rfl, rfl, trivial⟩) ?_
                  refine Ok.le (le_rek (t' := [(0, .sv (int base)), (1, .sv (eBlockS l)), (5, .sv (int (n : Int))), (6, .sv (int W)), (9, .sv (int A)), (10, .own 10), (11, .own 11), (12, .sv (bool ok)), (14, .ptr 14 0), (24, .sv (eBlockS l)), (25, .sv (int l.length)), (26, .sv (int k)), (52, .sv (eBlockS l)), (53, .sv (int l.length)), (54, .sv (int j))]) (h' := [(10, .row 1 3 (o.map int ++ [int (j : Int)])), (11, .row 5 34 (p.map eBlock ++ [eBlock u])), (14, .box [.sv (int u.from_), .sv (int u.to), .sv (int u.level), .sv (eSeriesS u.series), .sv (eStoneS u.stones)])]) 11 90 ⟨rfl, rfl, rfl, rfl, rfl, rfl, rfl, rfl, rfl, rfl, rfl, rfl, rfl, rfl, rfl, trivial⟩ ⟨rfl, rfl, rfl, trivial⟩ rfl rfl rfl rfl ⟨rfl, rfl, rfl, trivial⟩) ?_
                  refine ok_last fun K34 h34 => ok_region rfl (
                    q_mv _ rfl (q_mv _ rfl (q_and 4 4 rfl rfl rfl rfl rfl (fun hb97 =>
                      q_fap fd34_2 rfl (by decide) (q_ldb (.sv (int u.level)) ag3 rfl rfl rfl (q_mv _ rfl (q_bin _ _ _ rfl rfl rfl (run_nil ⟨rfl, rfl, rfl, rfl⟩))))) (
                    q_as _ rfl (run_nil (h34 _ ⟨(o ++ [(j : Int)], p ++ [u], ok && decide (u.level < (n : Int))), ⟨by simp only; rw [List.append_assoc]; exact i1, by simp only; rw [List.append_assoc]; exact i2, by simp only; rw [List.all_cons, ← Bool.and_assoc] at i3; exact i3, by simp only [List.length_append, List.length_cons, List.length_nil]; omega, by simp only [List.length_append, List.length_cons, List.length_nil]; omega⟩, by simp only [List.map_append]; exact le_sub ⟨rfl, rfl, rfl, rfl, rfl, rfl, rfl, rfl, rfl, rfl, rfl, rfl, rfl, rfl, trivial⟩ ⟨rfl, rfl, trivial⟩⟩))))))
                · have hm : ¬ inM A W u = true := by
                    intro c
                    have c2 : (decide (A ≤ u.from_) && decide (u.from_ < A + W) || decide (u.from_ < A) && decide (A < u.to)) = true := c
                    have c3 : (decide (A ≤ u.from_) && decide (u.from_ < A + W) || decide (u.from_ < A) && decide (A < u.to)) = false := c31
                    rw [c3] at c2
                    cases c2
                  rw [if_neg hm] at i1 i2 i3
                  rw [List.nil_append] at i1
                  exact ok_skip ⟨(o, p, ok), ⟨i1, i2, i3, by simp only; omega, by simp only; omega⟩, le_sub ⟨rfl, rfl, rfl, rfl, rfl, rfl, rfl, rfl, rfl, rfl, rfl, rfl, rfl, rfl, trivial⟩ ⟨rfl, rfl, trivial⟩⟩
              · obtain ⟨o', p', ok'⟩ := v
                refine ok_last fun K35 h35 => ok_region rfl (
                  q_add rfl rfl (by omega) (q_mv _ rfl (run_nil (h35 _ ⟨(j + 1, o', p', ok'), by simp only; omega, J, le_sub ⟨rfl, rfl, rfl, rfl, rfl, rfl, rfl, rfl, rfl, rfl, rfl, rfl, rfl, rfl, trivial⟩ ⟨rfl, rfl, trivial⟩⟩))))
            · have hjl : l.length ≤ j := by have : ¬ ((j : Int) < l.length) := by simpa using c28
                                            omega
              rw [List.drop_of_length_le hjl] at i1 i2 i3
              have e1 : o = ixF (inM A W) l 0 := by rw [← i1]; simp [ixF]
              have e2 : p = l.filter (inM A W) := by rw [← i2]; simp
              have e3 : ok = !((l.filter (inI A W)).any fun x => decide ((n : Int) ≤ x.level)) := by
                rw [← hfl, ← all_any, ← i3]; simp
              subst e1 e2
              refine ok_exit (h24 _ ?_)
              refine Ok.le (le_fz (n := 5) (T := 34) (l := (l.filter (inM A W)).map eBlock) 11 rfl) ?_
              refine Ok.le (le_fz (n := 1) (T := 3) (l := (ixF (inM A W) l 0).map int) 10 rfl) ?_
              refine ok_seq fun K36 h36 => ?_
              refine ok_seq fun K37 h37 => ok_region rfl (q_mv _ rfl (q_un _ _ rfl rfl (run_nil (h37 _ ?_)))); clear h37 K37
              refine ok_cond rfl (fun c38 => ?_) (fun c38 => ?_)
              · refine ok_exit ⟨(), ?_, le_sub ⟨rfl, rfl, rfl, rfl, rfl, rfl, rfl, trivial⟩ trivial⟩
                unfold tryB
                rw [if_neg]
                rintro ⟨_, _, h, _⟩
                rw [hW, hq0, hA] at h
                rw [h] at e3
                have : (!ok) = true := c38
                rw [e3] at this
                cases this
              · have hany : (l.filter (inI A W)).any (fun x => decide ((n : Int) ≤ x.level)) = false := by
                  have : (!ok) = false := c38
                  rw [e3] at this
                  simpa using this
                have hbf : b ∈ l.filter (inM A W) := by rw [hfl]; exact List.mem_filter.2 ⟨hbm, hself lv⟩
                have hlvl : ∀ z ∈ l.filter (inM A W), z.level ≤ (n : Int) - 1 := fun z hz => by
                  rw [hfl] at hz
                  have h2 := List.any_eq_false.1 hany z hz
                  simp only [decide_eq_true_eq] at h2
                  omega
                have hkf : ∀ z ∈ l.filter (inM A W), BlockOk z := fun z hz => hkb z (List.mem_filter.1 hz).1
                have hto : ∀ z ∈ l.filter (inM A W), z.to ≤ A + W := fun z hz => by
                  rw [hfl] at hz
                  have h2 := (List.mem_filter.1 hz).2
                  unfold inI at h2
                  simp only [Bool.and_eq_true, decide_eq_true_eq] at h2
                  exact h2.2
                have hfst : ∀ z, (l.filter (inM A W))[0]? = some z → z.from_ / W * W = A := fun z hz => by
                  have hzm := smem hz
                  have hzb := hkf z hzm
                  rw [hfl] at hzm
                  exact in_from w1 hA.symm (List.mem_filter.1 hzm).2 hzb.2.1
                have hpos : 0 < (l.filter (inM A W)).length := List.length_pos_iff.2 (List.ne_nil_of_mem hbf)
                refine ok_skip (h36 _ ?_)
                refine ok_seq fun K39 h39 => ?_
                refine ok_region rfl (q_mv _ rfl (q_mv (eBlockS (l.filter (inM A W))) rfl (q_call (f155_ok base (l.filter (inM A W)) hS hwf hkf hb0 n hnL hpos hlvl hbf lv A W hW hfst hto (by omega) (by omega)) cl155 rfl rfl (q_mv _ rfl (q_ext _ rfl rfl (q_ext _ rfl rfl (q_alloc _ ze34 rfl rfl rfl rfl (q_sts _ rfl rfl rfl sz34 (Nat.le_of_ble_eq_true rfl) rfl (
                  q_as _ rfl (run_nil (h39 _ ?_)))))))))))
                clear h39 K39
                refine ok_seq fun K40 h40 => ok_region rfl (q_mv _ rfl (run_nil (h40 _ ?_))); clear h40 K40
                refine ok_cond rfl (fun c41 => ?_) (fun c41 => ?_)
                · have hhit : tryB base n l b = some (ixF (inI A W) l 0) := by
                    unfold tryB
                    rw [hW, hq0, hA, if_pos ⟨lv, by rw [hyl]; omega, hany, by rw [← hfl]; exact c41⟩]
                  have hplan : (planO base l).getD [] = ixF (inM A W) l 0 := by
                    rw [planO_hit ⟨n2, n4⟩ hprev (find_hit hb j1 hhit), hix]; rfl
                  refine ok_seq fun K42 h42 => ?_
                  refine ok_region rfl (q_mv (ints (ixF (inM A W) l 0)) rfl (q_as _ rfl (run_nil (h42 _ ?_))))
                  clear h42 K42
                  refine ok_ret ⟨_, rfl, ?_⟩
                  rw [hplan]; rfl
                · refine ok_skip ⟨(), ?_, le_sub ⟨rfl, rfl, rfl, rfl, rfl, rfl, rfl, trivial⟩ trivial⟩
                  unfold tryB
                  rw [if_neg]
                  rintro ⟨_, _, _, h⟩
                  rw [hW, hq0, hA, ← hfl] at h
                  have : pB (BlockOk (mrgBk A W n (l.filter (inM A W)))) = false := c41
                  rw [this] at h
                  cases h
      · refine ok_last fun K43 h43 => ok_region rfl (
          q_add rfl rfl (by omega) (q_mv _ rfl (run_nil (h43 _ ⟨k + 1, by omega, hstep _ J, le_sub ⟨rfl, rfl, rfl, rfl, rfl, rfl, rfl, trivial⟩ trivial⟩))))
    · rw [List.take_of_length_le (by have : ¬ ((k : Int) < l.length) := by simpa using c12
                                     omega)] at j1
      have hnone : planL base n l = none := j1
      refine ok_exit (h7 _ ?_)
      refine ok_last fun K44 h44 => ok_region rfl (
        q_mv _ rfl (q_add rfl rfl (by omega) (q_as _ rfl (run_nil (h44 _ ⟨n + 1, by omega, ⟨by omega, by omega, fun m m1 m2 => by
            rcases Nat.lt_or_ge m n with h | h
            · exact hprev m m1 h
            · obtain rfl : m = n := by omega
              exact hnone⟩, le_sub ⟨rfl, rfl, rfl, trivial⟩ trivial⟩)))))
  · have hn5 : n = 5 := by have := of_decide_eq_false (p := (n : Int) ≤ 4) c6; omega
    subst hn5
    refine ok_exit (h2 _ ?_)
    refine ok_seq fun K45 h45 => ok_region rfl (q_as _ rfl (run_nil (h45 _ ?_))); clear h45 K45
    refine Ok.le (le_nil 1 4 rfl) (ok_ret ⟨_, rfl, ?_⟩)
    rw [planO_none hprev]; rfl
end Go.Ring
