/- The law of samples brought down: step by step or at once; what is asked over a span of windows is what the samples say. No condition. -/
import Derived.Test.YtgofadkgmogbgaaM2
import Derived.Test.YtgofadkgmogbgaaN9
import Derived.Test.YtgofadkgmogbgaaEg3
set_option maxRecDepth 100000
set_option linter.unusedVariables false
set_option linter.unusedSimpArgs false
namespace Go.Ring
open Go Go.RowKit Go.Eager Go.Abs Go.Proofs
theorem ints41 : IntsT Try.prog 41 8 where
  under := by kernel_rfl
  held := by kernel_rfl
  guard := by kernel_rfl
  parts := by
    have e : (Try.prog.fieldsOf 41).toList = [{ name := "Time", type := 3, offset := 0, embedded := false, tag := "", pkgPath := "", byteOffset := 0 }, { name := "Count", type := 3, offset := 1, embedded := false, tag := "", pkgPath := "", byteOffset := 8 }, { name := "Sum", type := 3, offset := 2, embedded := false, tag := "", pkgPath := "", byteOffset := 16 }, { name := "Min", type := 3, offset := 3, embedded := false, tag := "", pkgPath := "", byteOffset := 24 }, { name := "Max", type := 3, offset := 4, embedded := false, tag := "", pkgPath := "", byteOffset := 32 }, { name := "First", type := 3, offset := 5, embedded := false, tag := "", pkgPath := "", byteOffset := 40 }, { name := "Last", type := 3, offset := 6, embedded := false, tag := "", pkgPath := "", byteOffset := 48 }, { name := "Rise", type := 3, offset := 7, embedded := false, tag := "", pkgPath := "", byteOffset := 56 }] := by kernel_rfl
    intro f hf
    rw [e] at hf
    simp only [List.mem_cons, List.not_mem_nil, or_false] at hf
    rcases hf with rfl | rfl | rfl | rfl | rfl | rfl | rfl | rfl <;> exact ⟨by decide, _, Try.underlying3⟩
theorem mul_in {a b A B : Int} (h1 : 0 ≤ a) (h2 : a ≤ A) (h3 : 0 ≤ b) (h4 : b ≤ B) : 0 ≤ a * b ∧ a * b ≤ A * B :=
  ⟨Int.mul_nonneg h1 h3, Int.mul_le_mul h2 h4 h3 (by omega)⟩
theorem f4_ok (a0 : List UInt8) (pa0 : LB a0.length) (a1 : List UInt8) (pa1 : LB a1.length) : PFn Try.prog 4 [eCode a0, eCode a1] (bool true) := by
  refine fn_ok' (n := 154) Try.func4 rfl rfl rfl (Nat.le_of_ble_eq_true rfl) rfl fun w0 O => ?_
  refine ok_seq fun K1 h1 => ok_region rfl (q_as _ rfl (run_nil (h1 _ ?_))); clear h1 K1
  refine ok_seq fun K2 h2 => ?_
  refine ok_seq fun K3 h3 => ?_
  refine ok_region rfl (q_mv (eCode a0) rfl (q_len eS22 rfl (q_bin _ _ _ rfl rfl rfl (q_mv _ rfl (q_or 3 3 rfl rfl rfl rfl rfl (fun hb26 =>
      q_mv (eCode a1) rfl (q_len eS22 rfl (q_bin _ _ _ rfl rfl rfl (run_nil ⟨rfl, rfl, rfl, rfl⟩)))) (
    run_nil (h3 _ ?_)))))))
  clear h3 K3
  simp only [List.length_map]
  refine ok_cond rfl (fun c4 => ?_) (fun c4 => ?_)
  · refine ok_seq fun K5 h5 => ok_region rfl (q_as _ rfl (run_nil (h5 _ ?_)))
    exact ok_ret ⟨_, rfl, rfl⟩
  simp only [Bool.or_eq_false_iff, decide_eq_false_iff_not] at c4
  have hl0 : a0.length ≤ 1048576 := by omega
  have hl1 : a1.length ≤ 1048576 := by omega
  have z0 := zB_in a1 0
  have z1 := zB_in a1 1
  have z2 := zB_in a1 2
  have z3 := zB_in a1 3
  have z4 := zB_in a1 4
  have hm1 : 0 ≤ zB a1 0 % (1 + zB a1 1) ∧ zB a1 0 % (1 + zB a1 1) < 1 + zB a1 1 := ⟨Int.emod_nonneg _ (by omega), Int.emod_lt_of_pos _ (by omega)⟩
  refine ok_skip (h2 _ ?_)
  refine ok_seq fun K6 h6 => ?_
  refine ok_region_d [0, 3, 0, 3, 0, 0, 0, 3, 0, 0, 0, 0, 0] #[[], [0], [], [0, 1, 2], [0, 1, 2, 3], [0, 1, 2, 3, 4], [], [0, 1, 2, 3, 6], [0, 1, 2, 3, 6, 7], [0, 1, 2, 3, 4, 5, 6, 7, 8], [0, 1, 2, 3, 4, 5, 6, 7, 8, 9], [0, 1, 2, 3, 4, 5, 6, 7, 8, 9, 10], [0, 1, 2, 3, 4, 5, 6, 7, 8, 9, 10, 11]] [0, 2, 6, 1, 3, 4, 5, 7, 8, 9, 10, 11, 12] (by kernel_rfl) (by kernel_rfl) rfl rfl (
    q_mv (eCode a1) rfl (q_mv (eCode a1) rfl (q_mv (eCode a1) rfl (q_call (f15_ok a1 hl1 0 (by omega)) cl15 rfl rfl (q_call (f15_ok a1 hl1 1 (by omega)) cl15 rfl rfl (q_add rfl rfl (by omega) (q_mod rfl rfl (by omega) (q_call (f15_ok a1 hl1 2 (by omega)) cl15 rfl rfl (
    q_mul rfl rfl (by omega) (q_add rfl rfl (by omega) (q_mod rfl rfl (by omega) (q_add rfl rfl (by omega) (q_as _ rfl (run_nil (h6 _ ?_)))))))))))))))
  clear h6 K6
  have htm : 1 ≤ 1 + (zB a1 0 % (1 + zB a1 1) + 3 * zB a1 2) % 1000 ∧ 1 + (zB a1 0 % (1 + zB a1 1) + 3 * zB a1 2) % 1000 ≤ 1000 := by omega
  generalize 1 + (zB a1 0 % (1 + zB a1 1) + 3 * zB a1 2) % 1000 = tm at htm
  refine ok_seq fun K7 h7 => ok_region rfl (q_mv (eCode a0) rfl (q_callr (f16_r a0 hl0) cl16 rfl (fun s hs hz ha => ?_)))
  obtain ⟨l, x, rfl, hl⟩ := hs
  refine q_mv _ rfl (q_ext _ rfl rfl (q_ext _ rfl rfl (q_as _ rfl (q_as _ rfl (run_nil (h7 _ ?_)))))); clear h7 K7
  refine Ok.le (σ' := ⟨[(1, .sv (eCode a1)), (5, .sv (int tm)), (6, .sv (eSampleS l)), (7, .sv (int x))], []⟩) (le_sub ⟨rfl, rfl, rfl, rfl, trivial⟩ trivial) ?_
  clear hz ha
  have hll : l.length ≤ 1048576 := by omega
  refine ok_seq fun K8 h8 => ?_
  refine ok_seq fun K9 h9 => ?_
  refine ok_region rfl (q_mv (eSampleS l) rfl (q_call (f17_ok l hll) cl17 rfl rfl (q_un _ _ rfl rfl (q_mv _ rfl (q_or 2 2 rfl rfl rfl rfl rfl (fun hb50 =>
      q_mv (int x) rfl (q_bin _ _ _ rfl rfl rfl (run_nil ⟨rfl, rfl, rfl, rfl⟩))) (
    q_mv _ rfl (q_or 2 2 rfl rfl rfl rfl rfl (fun hb54 =>
      q_mv (int x) rfl (q_bin _ _ _ rfl rfl rfl (run_nil ⟨rfl, rfl, rfl, rfl⟩))) (
    run_nil (h9 _ ?_)))))))))
  clear h9 K9
  refine ok_cond rfl (fun c10 => ?_) (fun c10 => ?_)
  · have e : downG l x = [] := by
      rw [downG, if_neg]
      rintro ⟨g1, g2⟩
      have g3 := res_in g2
      rw [g1] at c10
      have e1 : decide (x < 1) = false := decide_eq_false (by omega)
      have e2 : decide ((1000000 : Int) < x) = false := decide_eq_false (by omega)
      rw [e1, e2] at c10
      simp at c10
    refine ok_seq fun K11 h11 => ?_
    refine ok_region rfl (q_mv (eSampleS l) rfl (q_mv (int x) rfl (q_call (f18_ok l hll x) cl18 rfl rfl (q_len eS36 rfl (q_bin _ _ _ rfl rfl rfl (q_as _ rfl (run_nil (h11 _ ?_))))))))
    clear h11 K11
    rw [e]
    exact ok_ret ⟨_, rfl, rfl⟩
  simp only [Bool.or_eq_false_iff, Bool.not_eq_false', decide_eq_false_iff_not] at c10
  obtain ⟨⟨cg, cx1⟩, cx2⟩ := c10
  have hs := pB_spec.1 cg
  have hr : resB x = true := by
    simp only [resB, Bool.and_eq_true, decide_eq_true_eq]; omega
  have hr1 := res_in hr
  have eD : downG l x = downS l x := by rw [downG, if_pos ⟨cg, hr⟩]
  have hD := down_ok hs hr
  have hDl := down_len hs hr1.1
  have hover := fun (f t o : Int) (hf : ∃ j, f = x * j) (ht : ∃ j, t = x * j) => over_same l (r := x) hr1.1 hf ht o
  have htwo := fun (k : Int) (hk : 1 ≤ x * k) => down_two (liveF l) (r := x) hr1.1 hk
  have eDD : dS (liveF l) x = downS l x := rfl
  rw [eDD] at htwo
  refine ok_skip (h8 _ ?_)
  refine ok_seq fun K12 h12 => ok_region rfl (q_mv (eSampleS l) rfl (q_mv (int x) rfl (q_call (f18_ok l hll x) cl18 rfl rfl (q_as _ rfl (run_nil (h12 _ ?_)))))); clear h12 K12
  rw [eD]
  generalize downS l x = D at hD hDl hover htwo
  refine ok_seq fun K13 h13 => ?_
  refine ok_seq fun K14 h14 => ?_
  refine ok_region rfl (q_mv (eAggS D) rfl (q_mv (int x) rfl (q_call (f19_q D x hr hD) cl19 rfl rfl (q_un _ _ rfl rfl (q_mv _ rfl (q_or (b2 := decide ((D.length : Int) ≠ (dnN x (liveF l) : Nat))) 7 7 rfl rfl rfl rfl rfl (fun hb75 =>
      q_mv (eAggS D) rfl (q_len eS36 rfl (q_mv (eSampleS l) rfl (q_mv (int x) rfl (q_callr (f20_r l hs x hr) cl20 rfl (fun s hs' hz ha => ?_)))))) (
    run_nil (h14 _ ?_))))))))
  · obtain ⟨q, rfl, hq⟩ := hs'
    refine q_len eS36 rfl ?_
    simp only [List.length_map]
    rw [hq]
    exact q_bin _ _ _ rfl rfl rfl (run_nil ⟨rfl, rfl, rfl, rfl⟩)
  clear h14 K14
  refine ok_cond rfl (fun c15 => ?_) (fun c15 => ?_)
  · exfalso
    rw [hDl] at c15
    simp at c15
  refine ok_skip (h13 _ ?_)
  have hxt := mul_in (A := 1000000) (B := 1000) (show 0 ≤ x by omega) hr1.2 (show 0 ≤ tm by omega) htm.2
  have hxt1 : 1 ≤ x * tm := by
    have := Int.mul_le_mul hr1.1 htm.1 (by omega) (by omega)
    omega
  refine ok_seq_join (fun (_ : Unit) => ⟨[(1, .sv (eCode a1)), (6, .sv (eSampleS l)), (7, .sv (int x)), (8, .sv (eAggS D))], []⟩) (fun v => True) ?_ (fun v J => ?_)
  · refine ok_seq fun K17 h17 => ok_region rfl (q_mv (int x) rfl (q_mv (int tm) rfl (q_mul rfl rfl (by omega) (q_bin _ _ _ rfl rfl rfl (run_nil (h17 _ ?_)))))); clear h17 K17
    refine ok_cond rfl (fun c18 => ?_) (fun c18 => ?_)
    · have hrm : x * tm ≤ 1000000 := of_decide_eq_true c18
      have hrs : resB (x * tm) = true := by
        simp only [resB, Bool.and_eq_true, decide_eq_true_eq]; omega
      have e1 : downA D (x * tm) = downS l (x * tm) := htwo tm hxt1
      have e2 : downG l (x * tm) = downS l (x * tm) := by rw [downG, if_pos ⟨cg, hrs⟩]
      have hYl : (downS l (x * tm)).length ≤ 2000 := (down_ok hs hrs).1
      refine ok_seq fun K19 h19 => ok_region rfl (q_mv (eAggS D) rfl (q_mv (int x) rfl (q_mv (int tm) rfl (q_call (f21_q D x tm hr hD htm hrm) cl21 rfl rfl (q_as _ rfl (run_nil (h19 _ ?_))))))); clear h19 K19
      rw [e1]
      refine ok_seq fun K20 h20 => ok_region rfl (q_mv (eSampleS l) rfl (q_mv (int x) rfl (q_mv (int tm) rfl (q_mul rfl rfl (by omega) (q_call (f18_ok l hll (x * tm)) cl18 rfl rfl (q_as _ rfl (run_nil (h20 _ ?_)))))))); clear h20 K20
      rw [e2]
      generalize downS l (x * tm) = Y at hYl
      refine ok_seq fun K21 h21 => ?_
      refine ok_seq fun K22 h22 => ok_region rfl (q_mv (eAggS Y) rfl (q_len eS36 rfl (q_mv (eAggS Y) rfl (q_len eS36 rfl (q_bin _ _ _ rfl rfl rfl (run_nil (h22 _ ?_))))))); clear h22 K22
      refine ok_cond rfl (fun c23 => ?_) (fun c23 => ?_)
      · exfalso; simp at c23
      refine ok_skip (h21 _ ?_)
      refine ok_seq fun K25 h25 => ok_region rfl (q_mv (eAggS Y) rfl (q_len eS36 rfl (q_mv _ rfl (run_nil (h25 _ ?_))))); clear h25 K25
      rw [List.length_map]
      refine ok_block ?_
      refine ok_loop (fun (k : Nat) => ⟨[(1, .sv (eCode a1)), (6, .sv (eSampleS l)), (7, .sv (int x)), (8, .sv (eAggS D)), (9, .sv (eAggS Y)), (10, .sv (eAggS Y)), (95, .sv (int Y.length)), (96, .sv (int k))], []⟩) (fun k => True) (fun k => Y.length - k) 0 trivial (le_same ⟨rfl, rfl, rfl, rfl, rfl, rfl, rfl, rfl, trivial⟩) (fun k J => ?_)
      refine ok_seq fun K26 h26 => ok_region rfl (q_bin _ _ _ rfl rfl rfl (run_nil (h26 _ ?_))); clear h26 K26
      refine ok_seq fun K27 h27 => ?_
      refine ok_cond rfl (fun c28 => ?_) (fun c28 => ?_)
      · refine ok_skip (h27 _ ?_)
        have hk : k < Y.length := by simpa using c28
        obtain ⟨u, hu⟩ := sget hk
        refine ok_seq fun K29 h29 => ?_
        refine ok_block ?_
        refine ok_seq fun K30 h30 => ok_region rfl (q_mv (int k) rfl (q_as _ rfl (run_nil (h30 _ ?_)))); clear h30 K30
        refine ok_seq fun K31 h31 => ?_
        refine ok_region_i (by kernel_rfl) (by kernel_rfl) rfl (
          q_mv (eAggS Y) rfl (q_mv (int k) rfl (q_ia el36 rfl rfl (by omega) (mget (f := eAgg) hu) (q_lds _ ag41 rfl sz41 (q_mv (eAggS Y) rfl (q_mv (int k) rfl (q_ia el36 rfl rfl (by omega) (mget (f := eAgg) hu) (q_lds _ ag41 rfl sz41 (
          q_nei [u.time, u.count, u.sum, u.mn, u.mx, u.first, u.last, u.rise] ints41 rfl rfl (run_nil (h31 _ ?_)))))))))))
        clear h31 K31
        refine ok_cond rfl (fun c32 => absurd c32 (by decide)) (fun c32 => ?_)
        refine ok_skip (h29 _ ?_)
        exact ok_last fun K34 h34 => ok_region rfl (
          q_add rfl rfl (by omega) (q_mv _ rfl (run_nil (h34 _ (⟨k + 1, by omega, trivial, le_same ⟨rfl, rfl, rfl, rfl, rfl, rfl, rfl, rfl, trivial⟩⟩)))))
      · exact ok_exit (⟨(), trivial, le_same ⟨rfl, rfl, rfl, rfl, trivial⟩⟩)
    · exact ok_skip (⟨(), trivial, le_same ⟨rfl, rfl, rfl, rfl, trivial⟩⟩)
  · have hp3 : 0 ≤ zB a1 3 % 64 ∧ zB a1 3 % 64 ≤ 63 := by omega
    have hp4 : 0 ≤ zB a1 4 % 64 ∧ zB a1 4 % 64 ≤ 63 := by omega
    have hq3 := mul_in (A := 63) (B := 1000000) hp3.1 hp3.2 (show 0 ≤ x by omega) hr1.2
    have hq4 := mul_in (A := 63) (B := 1000000) hp4.1 hp4.2 (show 0 ≤ x by omega) hr1.2
    refine ok_seq fun K35 h35 => ok_region rfl (q_mv (eCode a1) rfl (q_call (f15_ok a1 hl1 3 (by omega)) cl15 rfl rfl (q_mod rfl rfl (by omega) (q_mv (int x) rfl (q_mul rfl rfl (by omega) (q_as _ rfl (run_nil (h35 _ ?_)))))))); clear h35 K35
    refine ok_seq fun K36 h36 => ok_region rfl (q_mv (int (zB a1 3 % 64 * x)) rfl (q_mv (eCode a1) rfl (q_call (f15_ok a1 hl1 4 (by omega)) cl15 rfl rfl (q_mod rfl rfl (by omega) (q_mv (int x) rfl (q_mul rfl rfl (by omega) (q_add rfl rfl (by omega) (q_as _ rfl (run_nil (h36 _ ?_)))))))))); clear h36 K36
    have hF : ∃ j, zB a1 3 % 64 * x = x * j := ⟨_, Int.mul_comm _ _⟩
    have hT : ∃ j, zB a1 3 % 64 * x + zB a1 4 % 64 * x = x * j := ⟨zB a1 3 % 64 + zB a1 4 % 64, by rw [Int.mul_add, Int.mul_comm x, Int.mul_comm x]⟩
    have hFT : zB a1 3 % 64 * x ≤ zB a1 3 % 64 * x + zB a1 4 % 64 * x := by omega
    have hF0 := hq3.1
    generalize zB a1 3 % 64 * x + zB a1 4 % 64 * x = T at hT hFT
    generalize zB a1 3 % 64 * x = F at hF hFT hF0
    have hF2 : F.tmod x = 0 := by obtain ⟨j, rfl⟩ := hF; exact Int.mul_tmod_right x j
    have hT2 : T.tmod x = 0 := by obtain ⟨j, rfl⟩ := hT; exact Int.mul_tmod_right x j
    have key : ∀ k : Nat, 1 ≤ k → k ≤ 8 → T ≤ 1000000000000 → sOvG l F T k = aOvG D F T k := by
      intro k k1 k8 hT3
      have g : gOv F T k = true := by
        simp only [gOv, Bool.and_eq_true, Bool.or_eq_true, decide_eq_true_eq, pB_spec]
        unfold TimeOk
        omega
      rw [sOvG, if_pos ⟨cg, g⟩, aOvG, if_pos g, hover F T k hF hT]
    refine ok_seq fun K37 h37 => ?_
    refine ok_seq fun K38 h38 => ok_region rfl (q_as (int (1 : Nat)) rfl (run_nil (h38 _ ?_))); clear h38 K38
    refine ok_block ?_
    refine ok_loop (fun (k : Nat) => ⟨[(6, .sv (eSampleS l)), (7, .sv (int x)), (8, .sv (eAggS D)), (12, .sv (int F)), (13, .sv (int T)), (14, .sv (int k))], []⟩) (fun k => 1 ≤ k ∧ k ≤ 9) (fun k => 9 - k) 1 (by omega) (le_same ⟨rfl, rfl, rfl, rfl, rfl, rfl, trivial⟩) (fun k J => ?_)
    refine ok_seq fun K39 h39 => ?_
    refine ok_seq fun K40 h40 => ok_region rfl (q_mv (int k) rfl (q_bin _ _ _ rfl rfl rfl (run_nil (h40 _ ?_)))); clear h40 K40
    refine ok_cond rfl (fun c41 => ?_) (fun c41 => ?_)
    · have hk8 : k ≤ 8 := by have := of_decide_eq_true (p := (k : Int) ≤ 8) c41; omega
      refine ok_skip (h39 _ ?_)
      refine ok_seq fun K42 h42 => ?_
      refine ok_block ?_
      refine ok_seq fun K43 h43 => ok_region rfl (q_mv (eSampleS l) rfl (q_mv (int F) rfl (q_mv (int T) rfl (q_mv (int k) rfl (q_call (f22_ok l hll F T k) cl22 rfl rfl (q_mv _ rfl (q_ext _ rfl rfl (q_ext _ rfl rfl (q_as _ rfl (q_as _ rfl (run_nil (h43 _ ?_)))))))))))); clear h43 K43
      refine ok_seq fun K44 h44 => ok_region rfl (q_mv (eAggS D) rfl (q_mv (int x) rfl (q_mv (int F) rfl (q_mv (int T) rfl (q_mv (int k) rfl (q_call (f23_q D x F T k hr hD hF2 hT2) cl23 rfl rfl (q_mv _ rfl (q_ext _ rfl rfl (q_ext _ rfl rfl (q_as _ rfl (q_as _ rfl (run_nil (h44 _ ?_))))))))))))); clear h44 K44
      have key := key k J.1 hk8
      generalize sOvG l F T k = A at key
      generalize aOvG D F T k = B at key
      refine ok_seq fun K45 h45 => ?_
      refine ok_region rfl (q_mv (int T) rfl (q_bin _ _ _ rfl rfl rfl (q_mv _ rfl (q_and 8 5 rfl rfl rfl rfl rfl (fun hb153 =>
          q_mv (bool A.2) rfl (q_mv (bool B.2) rfl (q_neb Try.underlying4 rfl rfl (q_mv _ rfl (q_or 3 3 rfl rfl rfl rfl rfl (fun hb152 =>
            q_mv (int A.1) rfl (q_mv (int B.1) rfl (q_bin _ _ _ rfl rfl rfl (run_nil ⟨rfl, rfl, rfl, rfl⟩)))) (
          run_nil ⟨rfl, rfl, rfl, rfl⟩)))))) (
        run_nil (h45 _ ?_))))))
      clear h45 K45
      refine ok_cond rfl (fun c46 => ?_) (fun c46 => ?_)
      · exfalso
        by_cases hT3 : T ≤ 1000000000000
        · rw [key hT3] at c46
          simp at c46
        · rw [decide_eq_false hT3] at c46
          simp at c46
      · refine ok_skip (h42 _ ?_)
        exact ok_last fun K48 h48 => ok_region rfl (
          q_mv (int k) rfl (q_add rfl rfl (by omega) (q_as _ rfl (run_nil (h48 _ (⟨k + 1, by omega, by omega, le_same ⟨rfl, rfl, rfl, rfl, rfl, rfl, trivial⟩⟩))))))
    · refine ok_exit (h37 _ ?_)
      refine ok_seq fun K49 h49 => ok_region rfl (q_as _ rfl (run_nil (h49 _ ?_))); clear h49 K49
      exact ok_ret ⟨_, rfl, rfl⟩
end Go.Ring
