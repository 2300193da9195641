/- A block that is as it should be. No condition. -/
import Derived.Test.YtbhkjbfphhfecaaGreatG9
namespace Go.Ring
open Go Go.RowKit Go.Eager Go.Abs Go.Proofs
set_option maxRecDepth 100000
set_option linter.unusedVariables false
set_option linter.unusedSimpArgs false
def StoneAt (b : Block) (i : Nat) (s : Stone) : Prop := LabelsOk s.labels ∧ fnd s.labels b.series = true ∧ b.from_ ≤ s.from_ ∧ s.to < b.to ∧ s.from_ ≤ s.to ∧ ∀ p, 0 < i → b.stones[i - 1]? = some p → cmpLs p.labels s.labels < 0 ∨ (cmpLs p.labels s.labels = 0 ∧ p.to + 1 < s.from_)
def InAt (b : Block) (x : Series) : Prop := (∀ s, x.samples[0]? = some s → b.from_ ≤ s.time) ∧ (∀ s, x.samples[x.samples.length - 1]? = some s → s.time < b.to)
def BlockOk (b : Block) : Prop := TimeOk b.from_ ∧ b.from_ < b.to ∧ b.to ≤ 1000000000001 ∧ 1 ≤ b.level ∧ b.level ≤ 9 ∧ SeriesOk b.series ∧ b.stones.length ≤ 100 ∧ (∀ (i : Nat) (x : Series), b.series[i]? = some x → InAt b x) ∧ ∀ i s, b.stones[i]? = some s → StoneAt b i s
theorem lget {α : Type} {f : α → SV} {l : List α} {x : α} (h : l[l.length - 1]? = some x) (h0 : l.length ≠ 0) : (l.map f)[(((l.map f).length : Int) - 1).toNat]? = some (f x) := by
  rw [List.length_map, show ((l.length : Int) - 1).toNat = l.length - 1 by omega]; exact mget h
theorem f55_ok (b : Block) (hb : SBlock b) : PFn Tryz.prog 55 [eBlock b] (bool (pB (BlockOk b))) := by
  obtain ⟨⟨hb1, hb2⟩, hb3, hb4⟩ := hb
  refine fn_ok' (n := 146) Tryz.func55 rfl rfl rfl (Nat.le_of_ble_eq_true rfl) rfl fun w0 O => ?_
  refine ok_seq fun K1 h1 => ok_region rfl (q_boxs _ rfl (Nat.zero_lt_succ _) (q_as _ rfl (run_nil (h1 _ ?_)))); clear h1 K1
  refine ok_seq fun K2 h2 => ?_
  refine ok_seq fun K3 h3 => ?_
  refine ok_region rfl (q_fa _ fd34_0 rfl rfl (by decide) (q_ld _ ag3 rfl rfl (q_call (f104_ok b.from_) cl104 rfl rfl (q_un _ _ rfl rfl (q_mv _ rfl (q_or 5 5 rfl rfl rfl rfl rfl (fun hb19 =>
      q_fa _ fd34_1 rfl rfl (by decide) (q_ld _ ag3 rfl rfl (q_fa _ fd34_0 rfl rfl (by decide) (q_ld _ ag3 rfl rfl (q_bin _ _ _ rfl rfl rfl (run_nil ⟨rfl, rfl, rfl, rfl⟩)))))) (
    q_mv _ rfl (q_or 3 3 rfl rfl rfl rfl rfl (fun hb24 =>
      q_fa _ fd34_1 rfl rfl (by decide) (q_ld _ ag3 rfl rfl (q_bin _ _ _ rfl rfl rfl (run_nil ⟨rfl, rfl, rfl, rfl⟩)))) (
    q_mv _ rfl (q_or 3 3 rfl rfl rfl rfl rfl (fun hb29 =>
      q_fa _ fd34_2 rfl rfl (by decide) (q_ld _ ag3 rfl rfl (q_bin _ _ _ rfl rfl rfl (run_nil ⟨rfl, rfl, rfl, rfl⟩)))) (
    q_mv _ rfl (q_or 3 3 rfl rfl rfl rfl rfl (fun hb34 =>
      q_fa _ fd34_2 rfl rfl (by decide) (q_ld _ ag3 rfl rfl (q_bin _ _ _ rfl rfl rfl (run_nil ⟨rfl, rfl, rfl, rfl⟩)))) (
    q_mv _ rfl (q_or 4 4 rfl rfl rfl rfl rfl (fun hb40 =>
      q_fa _ fd34_3 rfl rfl (by decide) (q_ld _ ag31 rfl rfl (q_call (f87_ok b.series ⟨hb1, hb2⟩) cl87 rfl rfl (q_un _ _ rfl rfl (run_nil ⟨rfl, rfl, rfl, rfl⟩))))) (
    q_mv _ rfl (q_or 4 4 rfl rfl rfl rfl rfl (fun hb46 =>
      q_fa _ fd34_4 rfl rfl (by decide) (q_ld _ ag32 rfl rfl (q_len eS32 rfl (q_bin _ _ _ rfl rfl rfl (run_nil ⟨rfl, rfl, rfl, rfl⟩))))) (
    run_nil (h3 _ ?_))))))))))))))))))
  clear h3 K3
  refine ok_cond rfl (fun c4 => ?_) (fun c4 => ?_)
  · refine ok_seq fun K5 h5 => ?_
    refine ok_region rfl (q_as _ rfl (run_nil (h5 _ ?_)))
    clear h5 K5
    refine ok_ret ⟨_, rfl, ?_⟩
    rw [pB_false]; · rfl
    rintro ⟨d1, d2, d3, d4, d5, d6, d7, _⟩
    rw [pB_true d1, pB_true d6] at c4
    simp only [Bool.not_true, Bool.false_or, Bool.or_false, Bool.or_eq_true, decide_eq_true_eq, List.length_map] at c4
    omega
  · refine ok_skip (h2 _ ?_)
    simp only [Bool.or_eq_false_iff, Bool.not_eq_false', decide_eq_false_iff_not, List.length_map] at c4
    obtain ⟨⟨⟨⟨⟨⟨d1, d2⟩, d3⟩, d4⟩, d5⟩, d6⟩, d7⟩ := c4
    have d6' := of_pB d6
    have d1' := of_pB d1
    have d1'' := d1'
    unfold TimeOk at d1''
    refine ok_seq fun K6 h6 => ?_
    refine ok_seq fun K7 h7 => ok_region rfl (q_fa _ fd34_3 rfl rfl (by decide) (q_ld _ ag31 rfl rfl (q_len eS31 rfl (q_mv _ rfl (run_nil (h7 _ ?_)))))); clear h7 K7
    simp only [List.length_map]
    refine ok_block ?_
    refine ok_loop (fun (k : Nat) => ⟨[(1, .sv (.ptr (eBlock b))), (48, .sv (eSeriesS b.series)), (49, .sv (int b.series.length)), (50, .sv (int k))], []⟩) (fun k => ∀ i x, i < k → b.series[i]? = some x → InAt b x) (fun k => b.series.length - k) 0 (fun i y h => by omega) (le_same ⟨rfl, rfl, rfl, rfl, trivial⟩) (fun k J => ?_)
    refine ok_seq fun K8 h8 => ok_region rfl (q_bin _ _ _ rfl rfl rfl (run_nil (h8 _ ?_))); clear h8 K8
    refine ok_seq fun K9 h9 => ?_
    refine ok_cond rfl (fun c10 => ?_) (fun c10 => ?_)
    · refine ok_skip (h9 _ ?_)
      have hk : k < b.series.length := by simpa using c10
      obtain ⟨u, hu⟩ := sget hk
      have h0 := (d6'.2 k u hu).2.2.2.1
      have nu := (hb2 u (smem hu)).2
      obtain ⟨f, hf⟩ := sget (l := u.samples) (i := 0) (by omega)
      obtain ⟨la, hla⟩ := sget (l := u.samples) (i := u.samples.length - 1) (by omega)
      refine ok_seq fun K11 h11 => ?_
      refine ok_block ?_
      refine ok_seq fun K12 h12 => ok_region rfl (q_ia el31 rfl rfl (by omega) (mget hu) (q_lds _ ag83 rfl sz83 (q_alloc _ ze83 rfl rfl rfl rfl (q_sts _ rfl rfl rfl sz83 (Nat.le_of_ble_eq_true rfl) rfl (run_nil (h12 _ ?_)))))); clear h12 K12
      refine ok_seq fun K13 h13 => ?_
      refine ok_region_i (by kernel_rfl) (by kernel_rfl) rfl (
        q_fap fd83_1 rfl (by decide) (q_ldb _ ag81 rfl rfl rfl (q_ia el81 rfl rfl (by omega) (mget hf) (q_fa _ fd128_0 rfl rfl (by decide) (q_ld _ ag3 rfl rfl (q_fa _ fd34_0 rfl rfl (by decide) (
        q_ld _ ag3 rfl rfl (q_bin _ _ _ rfl rfl rfl (q_mv _ rfl (q_or 12 12 rfl rfl rfl rfl rfl (fun hb75 =>
          q_fap fd83_1 rfl (by decide) (q_ldb _ ag81 rfl rfl rfl (q_fap fd83_1 rfl (by decide) (q_ldb _ ag81 rfl rfl rfl (q_len eS81 rfl (q_sub rfl rfl (by rw [List.length_map]; omega) (q_ia el81 rfl rfl (by rw [List.length_map]; omega) (lget hla h0) (
          q_fa _ fd128_0 rfl rfl (by decide) (q_ld _ ag3 rfl rfl (q_fa _ fd34_1 rfl rfl (by decide) (q_ld _ ag3 rfl rfl (q_bin _ _ _ rfl rfl rfl (run_nil ⟨rfl, rfl, rfl, rfl⟩))))))))))))) (
        run_nil (h13 _ ?_))))))))))))
      clear h13 K13
      refine ok_cond rfl (fun c14 => ?_) (fun c14 => ?_)
      · refine ok_seq fun K15 h15 => ?_
        refine ok_region rfl (q_as _ rfl (run_nil (h15 _ ?_)))
        clear h15 K15
        refine ok_ret ⟨_, rfl, ?_⟩
        rw [pB_false]; · rfl
        rintro h
        obtain ⟨e1, e2⟩ := h.2.2.2.2.2.2.2.1 k u hu
        have := e1 f hf
        have := e2 la hla
        simp only [Bool.or_eq_true, decide_eq_true_eq] at c14
        omega
      · refine ok_skip (h11 _ ?_)
        refine ok_region rfl (q_add rfl rfl (by omega) (q_mv _ rfl (run_nil (⟨k + 1, by omega, ?_, le_sub ⟨rfl, rfl, rfl, rfl, trivial⟩ trivial⟩))))
        refine at_step (P := fun _ x => InAt b x) J hu ⟨fun s hs => ?_, fun s hs => ?_⟩
        · rw [hf] at hs; cases hs
          simp only [Bool.or_eq_false_iff, decide_eq_false_iff_not] at c14
          omega
        · rw [hla] at hs; cases hs
          simp only [Bool.or_eq_false_iff, decide_eq_false_iff_not] at c14
          omega
    · refine ok_exit (h6 _ ?_)
      have dS := at_all (P := fun _ x => InAt b x) J (by simpa using c10)
      clear J
      refine ok_seq fun K16 h16 => ?_
      refine ok_seq fun K17 h17 => ok_region rfl (q_fa _ fd34_4 rfl rfl (by decide) (q_ld _ ag32 rfl rfl (q_len eS32 rfl (q_mv _ rfl (run_nil (h17 _ ?_)))))); clear h17 K17
      simp only [List.length_map]
      refine ok_block ?_
      refine ok_loop (fun (k : Nat) => ⟨[(1, .sv (.ptr (eBlock b))), (78, .sv (eStoneS b.stones)), (79, .sv (int b.stones.length)), (80, .sv (int k))], []⟩) (fun k => ∀ i s, i < k → b.stones[i]? = some s → StoneAt b i s) (fun k => b.stones.length - k) 0 (fun i y h => by omega) (le_same ⟨rfl, rfl, rfl, rfl, trivial⟩) (fun k J => ?_)
      refine ok_seq fun K18 h18 => ok_region rfl (q_bin _ _ _ rfl rfl rfl (run_nil (h18 _ ?_))); clear h18 K18
      refine ok_seq fun K19 h19 => ?_
      refine ok_cond rfl (fun c20 => ?_) (fun c20 => ?_)
      · refine ok_skip (h19 _ ?_)
        have hk : k < b.stones.length := by simpa using c20
        obtain ⟨u, hu⟩ := sget hk
        obtain ⟨p, hp⟩ := prev hk
        refine ok_seq_join (fun (_ : Unit) => ⟨[(1, .sv (.ptr (eBlock b))), (78, .sv (eStoneS b.stones)), (79, .sv (int b.stones.length)), (80, .sv (int k))], []⟩) (fun _ => StoneAt b k u) ?_ (fun _ hST => ?_)
        · refine ok_block ?_
          refine ok_seq fun K21 h21 => ok_region rfl (q_mv _ rfl (q_ia el32 rfl rfl (by omega) (mget hu) (q_lds _ ag103 rfl sz103 (q_alloc _ ze103 rfl rfl rfl rfl (q_as _ rfl (q_sts _ rfl rfl rfl sz103 (Nat.le_of_ble_eq_true rfl) rfl (run_nil (h21 _ ?_)))))))); clear h21 K21
          refine ok_seq fun K22 h22 => ?_
          refine ok_seq fun K23 h23 => ?_
          refine ok_region rfl (q_fap fd103_0 rfl (by decide) (q_ldb _ ag80 rfl rfl rfl (q_call (f112_ok u.labels (hb4 u (smem hu))) cl112 rfl rfl (q_un _ _ rfl rfl (q_mv _ rfl (q_or 6 6 rfl rfl rfl rfl rfl (fun hb96 =>
              q_fa _ fd34_3 rfl rfl (by decide) (q_ld _ ag31 rfl rfl (q_fap fd103_0 rfl (by decide) (q_ldb _ ag80 rfl rfl rfl (q_call (f113_ok b.series ⟨hb1, hb2⟩ u.labels (hb4 u (smem hu))) cl113 rfl rfl (q_un _ _ rfl rfl (run_nil ⟨rfl, rfl, rfl, rfl⟩))))))) (
            q_mv _ rfl (q_or 5 5 rfl rfl rfl rfl rfl (fun hb103 =>
              q_fap fd103_1 rfl (by decide) (q_ldb _ ag3 rfl rfl rfl (q_fa _ fd34_0 rfl rfl (by decide) (q_ld _ ag3 rfl rfl (q_bin _ _ _ rfl rfl rfl (run_nil ⟨rfl, rfl, rfl, rfl⟩)))))) (
            q_mv _ rfl (q_or 5 5 rfl rfl rfl rfl rfl (fun hb110 =>
              q_fap fd103_2 rfl (by decide) (q_ldb _ ag3 rfl rfl rfl (q_fa _ fd34_1 rfl rfl (by decide) (q_ld _ ag3 rfl rfl (q_bin _ _ _ rfl rfl rfl (run_nil ⟨rfl, rfl, rfl, rfl⟩)))))) (
            q_mv _ rfl (q_or 5 5 rfl rfl rfl rfl rfl (fun hb117 =>
              q_fap fd103_1 rfl (by decide) (q_ldb _ ag3 rfl rfl rfl (q_fap fd103_2 rfl (by decide) (q_ldb _ ag3 rfl rfl rfl (q_bin _ _ _ rfl rfl rfl (run_nil ⟨rfl, rfl, rfl, rfl⟩)))))) (
            run_nil (h23 _ ?_))))))))))))))
          clear h23 K23
          refine ok_cond rfl (fun c24 => ?_) (fun c24 => ?_)
          · refine ok_seq fun K25 h25 => ?_
            refine ok_region rfl (q_as _ rfl (run_nil (h25 _ ?_)))
            clear h25 K25
            refine ok_ret ⟨_, rfl, ?_⟩
            rw [pB_false]; · rfl
            rintro h
            obtain ⟨e1, e2, e3, e4, e5, e6⟩ := h.2.2.2.2.2.2.2.2 k u hu
            rw [pB_true e1, e2] at c24
            simp only [Bool.not_true, Bool.false_or, Bool.or_eq_true, decide_eq_true_eq] at c24
            omega
          · refine ok_skip (h22 _ ?_)
            simp only [Bool.or_eq_false_iff, Bool.not_eq_false', decide_eq_false_iff_not] at c24
            obtain ⟨⟨⟨⟨g1, g2⟩, g3⟩, g4⟩, g5⟩ := c24
            refine ok_seq fun K26 h26 => ?_
            refine ok_seq fun K27 h27 => ok_region rfl (q_mv _ rfl (q_bin _ _ _ rfl rfl rfl (run_nil (h27 _ ?_)))); clear h27 K27
            refine ok_cond rfl (fun c28 => ?_) (fun c28 => ?_)
            · refine ok_exit ⟨(), ⟨of_pB g1, g2, by omega, by omega, by omega, fun p' h0 _ => by have := of_decide_eq_true c28; omega⟩, le_sub ⟨rfl, rfl, rfl, rfl, trivial⟩ trivial⟩
            · refine ok_skip (h26 _ ?_)
              have hk0 := of_decide_eq_false c28
              have hp' := hp (by omega)
              have jp := J (k - 1) p (by omega) hp'
              obtain ⟨_, _, p3, p4, p5, _⟩ := jp
              refine ok_seq fun K29 h29 => ?_
              refine ok_region rfl (q_fa _ fd34_4 rfl rfl (by decide) (q_ld _ ag32 rfl rfl (q_mv _ rfl (q_sub rfl rfl (by omega) (q_ia el32 rfl rfl (by omega) (pget hp (by omega)) (q_lds _ ag103 rfl sz103 (q_alloc _ ze103 rfl rfl rfl rfl (
                q_sts _ rfl rfl rfl sz103 (Nat.le_of_ble_eq_true rfl) rfl (run_nil (h29 _ ?_))))))))))
              clear h29 K29
              refine ok_seq fun K30 h30 => ok_region rfl (q_fap fd103_0 rfl (by decide) (q_ldb _ ag80 rfl rfl rfl (q_fap fd103_0 rfl (by decide) (q_ldb _ ag80 rfl rfl rfl (q_call (f114_ok p.labels u.labels (hb4 p (smem hp')) (hb4 u (smem hu))) cl114 rfl rfl (q_as _ rfl (run_nil (h30 _ ?_)))))))); clear h30 K30
              refine ok_seq fun K31 h31 => ?_
              refine ok_region rfl (q_mv _ rfl (q_bin _ _ _ rfl rfl rfl (q_mv _ rfl (q_or 10 4 rfl rfl rfl rfl rfl (fun hb144 =>
                  q_mv _ rfl (q_bin _ _ _ rfl rfl rfl (q_mv _ rfl (q_and 6 6 rfl rfl rfl rfl rfl (fun hb143 =>
                    q_fap fd103_1 rfl (by decide) (q_ldb _ ag3 rfl rfl rfl (q_fap fd103_2 rfl (by decide) (q_ldb _ ag3 rfl rfl rfl (q_add rfl rfl (by omega) (q_bin _ _ _ rfl rfl rfl (run_nil ⟨rfl, rfl, rfl, rfl⟩))))))) (
                  run_nil ⟨rfl, rfl, rfl, rfl⟩))))) (
                run_nil (h31 _ ?_))))))
              clear h31 K31
              refine ok_cond rfl (fun c32 => ?_) (fun c32 => ?_)
              · refine ok_seq fun K33 h33 => ?_
                refine ok_region rfl (q_as _ rfl (run_nil (h33 _ ?_)))
                clear h33 K33
                refine ok_ret ⟨_, rfl, ?_⟩
                rw [pB_false]; · rfl
                rintro h
                have e6 := (h.2.2.2.2.2.2.2.2 k u hu).2.2.2.2.2 p (by omega) hp'
                simp only [Bool.or_eq_true, Bool.and_eq_true, decide_eq_true_eq] at c32
                omega
              · refine ok_skip ⟨(), ⟨of_pB g1, g2, by omega, by omega, by omega, fun p' h0 hp2 => ?_⟩, le_sub ⟨rfl, rfl, rfl, rfl, trivial⟩ trivial⟩
                rw [hp'] at hp2; cases hp2
                simp only [Bool.or_eq_false_iff, Bool.and_eq_false_iff, decide_eq_false_iff_not] at c32
                omega
        · refine ok_region rfl (q_add rfl rfl (by omega) (q_mv _ rfl (run_nil (⟨k + 1, by omega, at_step J hu hST, le_same ⟨rfl, rfl, rfl, rfl, trivial⟩⟩))))
      · refine ok_exit (h16 _ ?_)
        refine ok_seq fun K34 h34 => ok_region rfl (q_as _ rfl (run_nil (h34 _ ?_))); clear h34 K34
        refine ok_ret ⟨_, rfl, ?_⟩
        rw [pB_true ⟨d1', by omega, by omega, by omega, by omega, d6', by omega, dS, at_all J (by simpa using c20)⟩]; rfl
theorem f61_ok (b : Block) (hb : SBlock b) : PFn Tryz.prog 61 [eBlock b] (bool (pB (BlockOk b))) := by
  obtain ⟨⟨hb1, hb2⟩, hb3, hb4⟩ := hb
  refine fn_ok' (n := 150) Tryz.func61 rfl rfl rfl (Nat.le_of_ble_eq_true rfl) rfl fun w0 O => ?_
  refine ok_seq fun K1 h1 => ok_region rfl (q_boxs _ rfl (Nat.zero_lt_succ _) (q_as _ rfl (run_nil (h1 _ ?_)))); clear h1 K1
  refine ok_seq fun K2 h2 => ?_
  refine ok_seq fun K3 h3 => ?_
  refine ok_region rfl (q_fa _ fd34_0 rfl rfl (by decide) (q_ld _ ag3 rfl rfl (q_call (f107_ok b.from_) cl107 rfl rfl (q_un _ _ rfl rfl (q_mv _ rfl (q_or 5 5 rfl rfl rfl rfl rfl (fun hb21 =>
      q_fa _ fd34_1 rfl rfl (by decide) (q_ld _ ag3 rfl rfl (q_fa _ fd34_0 rfl rfl (by decide) (q_ld _ ag3 rfl rfl (q_bin _ _ _ rfl rfl rfl (run_nil ⟨rfl, rfl, rfl, rfl⟩)))))) (
    q_mv _ rfl (q_or 3 3 rfl rfl rfl rfl rfl (fun hb26 =>
      q_fa _ fd34_1 rfl rfl (by decide) (q_ld _ ag3 rfl rfl (q_bin _ _ _ rfl rfl rfl (run_nil ⟨rfl, rfl, rfl, rfl⟩)))) (
    q_mv _ rfl (q_or 3 3 rfl rfl rfl rfl rfl (fun hb31 =>
      q_fa _ fd34_2 rfl rfl (by decide) (q_ld _ ag3 rfl rfl (q_bin _ _ _ rfl rfl rfl (run_nil ⟨rfl, rfl, rfl, rfl⟩)))) (
    q_mv _ rfl (q_or 3 3 rfl rfl rfl rfl rfl (fun hb36 =>
      q_fa _ fd34_2 rfl rfl (by decide) (q_ld _ ag3 rfl rfl (q_bin _ _ _ rfl rfl rfl (run_nil ⟨rfl, rfl, rfl, rfl⟩)))) (
    q_mv _ rfl (q_or 4 4 rfl rfl rfl rfl rfl (fun hb42 =>
      q_fa _ fd34_3 rfl rfl (by decide) (q_ld _ ag31 rfl rfl (q_call (f90_ok b.series ⟨hb1, hb2⟩) cl90 rfl rfl (q_un _ _ rfl rfl (run_nil ⟨rfl, rfl, rfl, rfl⟩))))) (
    q_mv _ rfl (q_or 4 4 rfl rfl rfl rfl rfl (fun hb48 =>
      q_fa _ fd34_4 rfl rfl (by decide) (q_ld _ ag32 rfl rfl (q_len eS32 rfl (q_bin _ _ _ rfl rfl rfl (run_nil ⟨rfl, rfl, rfl, rfl⟩))))) (
    run_nil (h3 _ ?_))))))))))))))))))
  clear h3 K3
  refine ok_cond rfl (fun c4 => ?_) (fun c4 => ?_)
  · refine ok_seq fun K5 h5 => ?_
    refine ok_region rfl (q_as _ rfl (run_nil (h5 _ ?_)))
    clear h5 K5
    refine ok_ret ⟨_, rfl, ?_⟩
    rw [pB_false]; · rfl
    rintro ⟨d1, d2, d3, d4, d5, d6, d7, _⟩
    rw [pB_true d1, pB_true d6] at c4
    simp only [Bool.not_true, Bool.false_or, Bool.or_false, Bool.or_eq_true, decide_eq_true_eq, List.length_map] at c4
    omega
  · refine ok_skip (h2 _ ?_)
    simp only [Bool.or_eq_false_iff, Bool.not_eq_false', decide_eq_false_iff_not, List.length_map] at c4
    obtain ⟨⟨⟨⟨⟨⟨d1, d2⟩, d3⟩, d4⟩, d5⟩, d6⟩, d7⟩ := c4
    have d6' := of_pB d6
    have d1' := of_pB d1
    have d1'' := d1'
    unfold TimeOk at d1''
    refine ok_seq fun K6 h6 => ?_
    refine ok_seq fun K7 h7 => ok_region rfl (q_fa _ fd34_3 rfl rfl (by decide) (q_ld _ ag31 rfl rfl (q_len eS31 rfl (q_mv _ rfl (run_nil (h7 _ ?_)))))); clear h7 K7
    simp only [List.length_map]
    refine ok_block ?_
    refine ok_loop (fun (k : Nat) => ⟨[(1, .sv (.ptr (eBlock b))), (50, .sv (eSeriesS b.series)), (51, .sv (int b.series.length)), (52, .sv (int k))], []⟩) (fun k => ∀ i x, i < k → b.series[i]? = some x → InAt b x) (fun k => b.series.length - k) 0 (fun i y h => by omega) (le_same ⟨rfl, rfl, rfl, rfl, trivial⟩) (fun k J => ?_)
    refine ok_seq fun K8 h8 => ok_region rfl (q_bin _ _ _ rfl rfl rfl (run_nil (h8 _ ?_))); clear h8 K8
    refine ok_seq fun K9 h9 => ?_
    refine ok_cond rfl (fun c10 => ?_) (fun c10 => ?_)
    · refine ok_skip (h9 _ ?_)
      have hk : k < b.series.length := by simpa using c10
      obtain ⟨u, hu⟩ := sget hk
      have h0 := (d6'.2 k u hu).2.2.2.1
      have nu := (hb2 u (smem hu)).2
      obtain ⟨f, hf⟩ := sget (l := u.samples) (i := 0) (by omega)
      obtain ⟨la, hla⟩ := sget (l := u.samples) (i := u.samples.length - 1) (by omega)
      refine ok_seq fun K11 h11 => ?_
      refine ok_block ?_
      refine ok_seq fun K12 h12 => ok_region rfl (q_ia el31 rfl rfl (by omega) (mget hu) (q_lds _ ag83 rfl sz83 (q_alloc _ ze83 rfl rfl rfl rfl (q_sts _ rfl rfl rfl sz83 (Nat.le_of_ble_eq_true rfl) rfl (run_nil (h12 _ ?_)))))); clear h12 K12
      refine ok_seq fun K13 h13 => ?_
      refine ok_region_i (by kernel_rfl) (by kernel_rfl) rfl (
        q_fap fd83_1 rfl (by decide) (q_ldb _ ag81 rfl rfl rfl (q_ia el81 rfl rfl (by omega) (mget hf) (q_fa _ fd128_0 rfl rfl (by decide) (q_ld _ ag3 rfl rfl (q_fa _ fd34_0 rfl rfl (by decide) (
        q_ld _ ag3 rfl rfl (q_bin _ _ _ rfl rfl rfl (q_mv _ rfl (q_or 12 12 rfl rfl rfl rfl rfl (fun hb77 =>
          q_fap fd83_1 rfl (by decide) (q_ldb _ ag81 rfl rfl rfl (q_fap fd83_1 rfl (by decide) (q_ldb _ ag81 rfl rfl rfl (q_len eS81 rfl (q_sub rfl rfl (by rw [List.length_map]; omega) (q_ia el81 rfl rfl (by rw [List.length_map]; omega) (lget hla h0) (
          q_fa _ fd128_0 rfl rfl (by decide) (q_ld _ ag3 rfl rfl (q_fa _ fd34_1 rfl rfl (by decide) (q_ld _ ag3 rfl rfl (q_bin _ _ _ rfl rfl rfl (run_nil ⟨rfl, rfl, rfl, rfl⟩))))))))))))) (
        run_nil (h13 _ ?_))))))))))))
      clear h13 K13
      refine ok_cond rfl (fun c14 => ?_) (fun c14 => ?_)
      · refine ok_seq fun K15 h15 => ?_
        refine ok_region rfl (q_as _ rfl (run_nil (h15 _ ?_)))
        clear h15 K15
        refine ok_ret ⟨_, rfl, ?_⟩
        rw [pB_false]; · rfl
        rintro h
        obtain ⟨e1, e2⟩ := h.2.2.2.2.2.2.2.1 k u hu
        have := e1 f hf
        have := e2 la hla
        simp only [Bool.or_eq_true, decide_eq_true_eq] at c14
        omega
      · refine ok_skip (h11 _ ?_)
        refine ok_region rfl (q_add rfl rfl (by omega) (q_mv _ rfl (run_nil (⟨k + 1, by omega, ?_, le_sub ⟨rfl, rfl, rfl, rfl, trivial⟩ trivial⟩))))
        refine at_step (P := fun _ x => InAt b x) J hu ⟨fun s hs => ?_, fun s hs => ?_⟩
        · rw [hf] at hs; cases hs
          simp only [Bool.or_eq_false_iff, decide_eq_false_iff_not] at c14
          omega
        · rw [hla] at hs; cases hs
          simp only [Bool.or_eq_false_iff, decide_eq_false_iff_not] at c14
          omega
    · refine ok_exit (h6 _ ?_)
      have dS := at_all (P := fun _ x => InAt b x) J (by simpa using c10)
      clear J
      refine ok_seq fun K16 h16 => ?_
      refine ok_seq fun K17 h17 => ok_region rfl (q_fa _ fd34_4 rfl rfl (by decide) (q_ld _ ag32 rfl rfl (q_len eS32 rfl (q_mv _ rfl (run_nil (h17 _ ?_)))))); clear h17 K17
      simp only [List.length_map]
      refine ok_block ?_
      refine ok_loop (fun (k : Nat) => ⟨[(1, .sv (.ptr (eBlock b))), (80, .sv (eStoneS b.stones)), (81, .sv (int b.stones.length)), (82, .sv (int k))], []⟩) (fun k => ∀ i s, i < k → b.stones[i]? = some s → StoneAt b i s) (fun k => b.stones.length - k) 0 (fun i y h => by omega) (le_same ⟨rfl, rfl, rfl, rfl, trivial⟩) (fun k J => ?_)
      refine ok_seq fun K18 h18 => ok_region rfl (q_bin _ _ _ rfl rfl rfl (run_nil (h18 _ ?_))); clear h18 K18
      refine ok_seq fun K19 h19 => ?_
      refine ok_cond rfl (fun c20 => ?_) (fun c20 => ?_)
      · refine ok_skip (h19 _ ?_)
        have hk : k < b.stones.length := by simpa using c20
        obtain ⟨u, hu⟩ := sget hk
        obtain ⟨p, hp⟩ := prev hk
        refine ok_seq_join (fun (_ : Unit) => ⟨[(1, .sv (.ptr (eBlock b))), (80, .sv (eStoneS b.stones)), (81, .sv (int b.stones.length)), (82, .sv (int k))], []⟩) (fun _ => StoneAt b k u) ?_ (fun _ hST => ?_)
        · refine ok_block ?_
          refine ok_seq fun K21 h21 => ok_region rfl (q_mv _ rfl (q_ia el32 rfl rfl (by omega) (mget hu) (q_lds _ ag103 rfl sz103 (q_alloc _ ze103 rfl rfl rfl rfl (q_as _ rfl (q_sts _ rfl rfl rfl sz103 (Nat.le_of_ble_eq_true rfl) rfl (run_nil (h21 _ ?_)))))))); clear h21 K21
          refine ok_seq fun K22 h22 => ?_
          refine ok_seq fun K23 h23 => ?_
          refine ok_region rfl (q_fap fd103_0 rfl (by decide) (q_ldb _ ag80 rfl rfl rfl (q_call (f122_ok u.labels (hb4 u (smem hu))) cl122 rfl rfl (q_un _ _ rfl rfl (q_mv _ rfl (q_or 5 5 rfl rfl rfl rfl rfl (fun hb97 =>
              q_fap fd103_1 rfl (by decide) (q_ldb _ ag3 rfl rfl rfl (q_fa _ fd34_0 rfl rfl (by decide) (q_ld _ ag3 rfl rfl (q_bin _ _ _ rfl rfl rfl (run_nil ⟨rfl, rfl, rfl, rfl⟩)))))) (
            q_mv _ rfl (q_or 5 5 rfl rfl rfl rfl rfl (fun hb104 =>
              q_fap fd103_2 rfl (by decide) (q_ldb _ ag3 rfl rfl rfl (q_fa _ fd34_1 rfl rfl (by decide) (q_ld _ ag3 rfl rfl (q_bin _ _ _ rfl rfl rfl (run_nil ⟨rfl, rfl, rfl, rfl⟩)))))) (
            q_mv _ rfl (q_or 5 5 rfl rfl rfl rfl rfl (fun hb111 =>
              q_fap fd103_1 rfl (by decide) (q_ldb _ ag3 rfl rfl rfl (q_fap fd103_2 rfl (by decide) (q_ldb _ ag3 rfl rfl rfl (q_bin _ _ _ rfl rfl rfl (run_nil ⟨rfl, rfl, rfl, rfl⟩)))))) (
            run_nil (h23 _ ?_))))))))))))
          clear h23 K23
          refine ok_cond rfl (fun c24 => ?_) (fun c24 => ?_)
          · refine ok_seq fun K25 h25 => ?_
            refine ok_region rfl (q_as _ rfl (run_nil (h25 _ ?_)))
            clear h25 K25
            refine ok_ret ⟨_, rfl, ?_⟩
            rw [pB_false]; · rfl
            rintro h
            obtain ⟨e1, e2, e3, e4, e5, e6⟩ := h.2.2.2.2.2.2.2.2 k u hu
            rw [pB_true e1] at c24
            simp only [Bool.not_true, Bool.false_or, Bool.or_eq_true, decide_eq_true_eq] at c24
            omega
          · refine ok_skip (h22 _ ?_)
            simp only [Bool.or_eq_false_iff, Bool.not_eq_false', decide_eq_false_iff_not] at c24
            obtain ⟨⟨⟨g1, g3⟩, g4⟩, g5⟩ := c24
            refine ok_seq fun K26 h26 => ?_
            refine ok_seq fun K27 h27 => ?_
            refine ok_region rfl (q_fa _ fd34_3 rfl rfl (by decide) (q_ld _ ag31 rfl rfl (q_fap fd103_0 rfl (by decide) (q_ldb _ ag80 rfl rfl rfl (q_call (f123_ok b.series ⟨hb1, hb2⟩ u.labels (hb4 u (smem hu)) d6'.srt) cl123 rfl rfl (q_mv _ rfl (
              q_ext _ rfl rfl (q_ext _ rfl rfl (q_as _ rfl (q_as _ rfl (run_nil (h27 _ ?_))))))))))))
            clear h27 K27
            refine ok_seq fun K28 h28 => ok_region rfl (q_mv _ rfl (q_un _ _ rfl rfl (run_nil (h28 _ ?_)))); clear h28 K28
            refine ok_cond rfl (fun c29 => ?_) (fun c29 => ?_)
            · refine ok_seq fun K30 h30 => ?_
              refine ok_region rfl (q_as _ rfl (run_nil (h30 _ ?_)))
              clear h30 K30
              refine ok_ret ⟨_, rfl, ?_⟩
              rw [pB_false]; · rfl
              rintro h
              have := (h.2.2.2.2.2.2.2.2 k u hu).2.1
              rw [this] at c29
              cases c29
            · refine ok_skip (h26 _ ?_)
              refine ok_seq fun K31 h31 => ?_
              refine ok_seq fun K32 h32 => ok_region rfl (q_mv _ rfl (q_bin _ _ _ rfl rfl rfl (run_nil (h32 _ ?_)))); clear h32 K32
              refine ok_cond rfl (fun c33 => ?_) (fun c33 => ?_)
              · refine ok_exit ⟨(), ⟨of_pB g1, by simpa using c29, by omega, by omega, by omega, fun p' h0 _ => by have := of_decide_eq_true c33; omega⟩, le_sub ⟨rfl, rfl, rfl, rfl, trivial⟩ trivial⟩
              · refine ok_skip (h31 _ ?_)
                have hk0 := of_decide_eq_false c33
                have hp' := hp (by omega)
                have jp := J (k - 1) p (by omega) hp'
                obtain ⟨_, _, p3, p4, p5, _⟩ := jp
                refine ok_seq fun K34 h34 => ?_
                refine ok_region rfl (q_fa _ fd34_4 rfl rfl (by decide) (q_ld _ ag32 rfl rfl (q_mv _ rfl (q_sub rfl rfl (by omega) (q_ia el32 rfl rfl (by omega) (pget hp (by omega)) (q_lds _ ag103 rfl sz103 (q_alloc _ ze103 rfl rfl rfl rfl (
                  q_sts _ rfl rfl rfl sz103 (Nat.le_of_ble_eq_true rfl) rfl (run_nil (h34 _ ?_))))))))))
                clear h34 K34
                refine ok_seq fun K35 h35 => ok_region rfl (q_fap fd103_0 rfl (by decide) (q_ldb _ ag80 rfl rfl rfl (q_fap fd103_0 rfl (by decide) (q_ldb _ ag80 rfl rfl rfl (q_call (f82_ok p.labels u.labels (hb4 p (smem hp')) (hb4 u (smem hu))) cl82 rfl rfl (q_as _ rfl (run_nil (h35 _ ?_)))))))); clear h35 K35
                refine ok_seq fun K36 h36 => ?_
                refine ok_region rfl (q_mv _ rfl (q_bin _ _ _ rfl rfl rfl (q_mv _ rfl (q_or 10 4 rfl rfl rfl rfl rfl (fun hb148 =>
                    q_mv _ rfl (q_bin _ _ _ rfl rfl rfl (q_mv _ rfl (q_and 6 6 rfl rfl rfl rfl rfl (fun hb147 =>
                      q_fap fd103_1 rfl (by decide) (q_ldb _ ag3 rfl rfl rfl (q_fap fd103_2 rfl (by decide) (q_ldb _ ag3 rfl rfl rfl (q_add rfl rfl (by omega) (q_bin _ _ _ rfl rfl rfl (run_nil ⟨rfl, rfl, rfl, rfl⟩))))))) (
                    run_nil ⟨rfl, rfl, rfl, rfl⟩))))) (
                  run_nil (h36 _ ?_))))))
                clear h36 K36
                refine ok_cond rfl (fun c37 => ?_) (fun c37 => ?_)
                · refine ok_seq fun K38 h38 => ?_
                  refine ok_region rfl (q_as _ rfl (run_nil (h38 _ ?_)))
                  clear h38 K38
                  refine ok_ret ⟨_, rfl, ?_⟩
                  rw [pB_false]; · rfl
                  rintro h
                  have e6 := (h.2.2.2.2.2.2.2.2 k u hu).2.2.2.2.2 p (by omega) hp'
                  simp only [Bool.or_eq_true, Bool.and_eq_true, decide_eq_true_eq] at c37
                  omega
                · refine ok_skip ⟨(), ⟨of_pB g1, by simpa using c29, by omega, by omega, by omega, fun p' h0 hp2 => ?_⟩, le_sub ⟨rfl, rfl, rfl, rfl, trivial⟩ trivial⟩
                  rw [hp'] at hp2; cases hp2
                  simp only [Bool.or_eq_false_iff, Bool.and_eq_false_iff, decide_eq_false_iff_not] at c37
                  omega
        · refine ok_region rfl (q_add rfl rfl (by omega) (q_mv _ rfl (run_nil (⟨k + 1, by omega, at_step J hu hST, le_same ⟨rfl, rfl, rfl, rfl, trivial⟩⟩))))
      · refine ok_exit (h16 _ ?_)
        refine ok_seq fun K39 h39 => ok_region rfl (q_as _ rfl (run_nil (h39 _ ?_))); clear h39 K39
        refine ok_ret ⟨_, rfl, ?_⟩
        rw [pB_true ⟨d1', by omega, by omega, by omega, by omega, d6', by omega, dS, at_all J (by simpa using c20)⟩]; rfl
end Go.Ring
