/- The law of a head's cut. No condition. -/
import Derived.Test.YtbhkjbfphhfecaaGreatU1
import Derived.Test.YtbhkjbfphhfecaaGreatC5
import Derived.Test.YtbhkjbfphhfecaaGreatEg3
set_option maxRecDepth 100000
set_option linter.unusedVariables false
set_option linter.unusedSimpArgs false
namespace Go.Ring
open Go Go.RowKit Go.Eager Go.Abs Go.Proofs
theorem resK_S {h : Head} (hh : SHead h) (base en : Int) : SHead (resK h base en).1 ∧ ((resK h base en).2.length ≤ 100 ∧ ∀ y ∈ (resK h base en).2, SBlock y) := by
  unfold resK
  split
  · rename_i hc
    refine ⟨selL_S hh, by unfold blks; rw [List.length_map]; exact hc.2.2.2, fun y hy => ?_⟩
    obtain ⟨a, _, rfl⟩ := List.mem_map.1 hy
    exact ⟨selL_S hh, by simp [blkOf], by simp [blkOf]⟩
  · exact ⟨⟨by simp, by simp⟩, by simp, by simp⟩
theorem cBlock_le {b : Block} (hb : SBlock b) (hs : b.stones = []) : cBlock b ≤ 4398046511107 := by
  have h1 := cL_le (c := cSeries) (m := 4194304) b.series fun s hs => cSeries_le (hb.1.2 s hs)
  have h2 := hb.1.1
  show 1 + 1 + 1 + cL cSeries b.series + cL cStone b.stones ≤ _
  rw [hs]
  simp only [cL]
  omega
theorem resK_C {h : Head} (hh : SHead h) (base en : Int) : 1 + cmHead (resK h base en).1 + cL cBlock (resK h base en).2 ≤ 1152921504606846976 := by
  have hS := resK_S hh base en
  have h1 := cL_le (c := cSeries) (m := 4194304) (resK h base en).1.series fun s hs => cSeries_le (hS.1.2 s hs)
  have h2 := cL_le (c := cBlock) (m := 4398046511107) (resK h base en).2 fun b hb => cBlock_le (hS.2.2 b hb) (by
    unfold resK at hb
    split at hb
    · obtain ⟨a, _, rfl⟩ := List.mem_map.1 hb; rfl
    · simp at hb)
  have h3 := hS.1.1
  have h4 := hS.2.1
  have h5 : cmHead (resK h base en).1 = cL cSeries (resK h base en).1.series := rfl
  omega
theorem f10_ok (a0 : Head) (pa0 : LHead a0) (a1 : Int) (pa1 : (Lit.int .i64 a1).wf = true) (a2 : Int) (pa2 : (Lit.int .i64 a2).wf = true) : PFn Tryz.prog 10 [eHead a0, int a1, int a2] (bool true) := by
  refine fn_ok' (n := 122) Tryz.func10 rfl rfl rfl (Nat.le_of_ble_eq_true rfl) rfl fun w0 O => ?_
  refine ok_seq fun K1 h1 => ok_region rfl (q_boxs _ rfl (Nat.zero_lt_succ _) (q_as _ rfl (run_nil (h1 _ ?_)))); clear h1 K1
  refine ok_seq fun K1 h1 => ok_region rfl (q_as _ rfl (run_nil (h1 _ ?_))); clear h1 K1
  refine ok_seq fun K1 h1 => ok_region rfl (q_lds _ ag63 rfl sz63 (q_mv _ rfl (q_call (f45_ok a0 pa0 1048576 (by decide) (by decide)) cl45 rfl rfl (q_as _ rfl (run_nil (h1 _ ?_)))))); clear h1 K1
  refine ok_seq fun K1 h1 => ?_
  refine ok_seq fun K2 h2 => ok_region rfl (q_mv _ rfl (q_bin _ _ _ rfl rfl rfl (run_nil (h2 _ ?_)))); clear h2 K2
  refine ok_cond rfl (fun c3 => ?_) (fun c3 => ?_)
  · refine ok_seq fun K4 h4 => ok_region rfl (q_as _ rfl (run_nil (h4 _ ?_)))
    exact ok_ret ⟨_, rfl, rfl⟩
  have p0 : 0 ≤ zHead a0 1048576 := by have := of_decide_eq_false c3; omega
  have hs0 := (zHead_ok a0 _ (by decide)).2.2 p0
  have kb0 := kcm_Head a0 _ p0
  have c46 := f46_ok a0 hs0 a1 a2
  have c48 := f48_t a0 hs0 a1 a2
  have hS := resK_S hs0 a1 a2
  have hCT := resK_C hs0 a1 a2
  generalize resK a0 a1 a2 = rr at c46 c48 hS hCT
  obtain ⟨r1, r2⟩ := rr
  obtain ⟨hS1, hS2⟩ := hS
  simp only at c46 c48 hS1 hS2 hCT
  have hS2' : r2.length ≤ 1048576 ∧ ∀ y ∈ r2, SBlock y := ⟨Nat.le_trans hS2.1 (by decide), hS2.2⟩
  have hCH : 1 + cmHead r1 ≤ 1152921504606846976 := by omega
  refine ok_skip (h1 _ ?_); clear h1 K1
  refine ok_seq fun K1 h1 => ?_
  refine ok_region rfl (q_lds _ ag63 rfl sz63 (q_call (f47_ok a0 hs0) cl47 rfl rfl (q_mv _ rfl (q_mv _ rfl (q_call c46 cl46 rfl rfl (q_mv _ rfl (q_ext _ rfl rfl (q_ext _ rfl rfl (q_alloc _ ze66 rfl rfl rfl rfl (q_sts _ rfl rfl rfl sz66 (Nat.le_of_ble_eq_true rfl) rfl (q_as _ rfl (run_nil (h1 _ ?_)))))))))))))
  clear h1 K1
  refine Ok.le (le_fb 8 [int r1.window, int r1.limit, int r1.newest, eSeriesS r1.series] rfl rfl (by simp)) ?_
  refine ok_le (σ' := ⟨[(9, .sv (eBlockS r2)), (8, .sv (.ptr (eHead r1))), (3, .sv (.ptr (eHead a0))), (6, .sv (bool false)), (2, .sv (int a2)), (1, .sv (int a1))], []⟩) (le_sub ⟨rfl, rfl, rfl, rfl, rfl, rfl, trivial⟩ trivial) ?_
  refine ok_seq fun K2 h2 => ?_
  refine ok_region rfl (q_lds _ ag63 rfl sz63 (q_callg [9, 8, 3] (f47_t a0 hs0) cl47 ⟨.inl rfl, trivial⟩ (fun r_x hr_x hz_x ha_x => ?_)))
  obtain ⟨Z3x, v3x, rfl⟩ := gi_Head (x := a0) hr_x
  refine q_alloc _ ze66 rfl rfl rfl rfl (q_sts _ rfl rfl rfl sz66 (Nat.le_of_ble_eq_true rfl) rfl (run_nil (h2 _ ?_)))
  refine ok_le (σ' := ⟨[(10, .ptr 10 0), (32, .sv (.agg [int a0.window, int a0.limit, int a0.newest, .tr Z3x (eSeriesS a0.series) v3x])), (9, .av (fun b => Zn b (.agg [int a0.window, int a0.limit, int a0.newest, .tr Z3x (eSeriesS a0.series) v3x])) (eBlockS r2)), (8, .av (fun b => Zn b (.agg [int a0.window, int a0.limit, int a0.newest, .tr Z3x (eSeriesS a0.series) v3x])) (.ptr (eHead r1))), (3, .av (fun b => Zn b (.agg [int a0.window, int a0.limit, int a0.newest, .tr Z3x (eSeriesS a0.series) v3x])) (.ptr (eHead a0))), (6, .sv (bool false)), (2, .sv (int a2)), (1, .sv (int a1))], [(10, .box [.sv (int a0.window), .sv (int a0.limit), .sv (int a0.newest), .sv (.tr Z3x (eSeriesS a0.series) v3x)])]⟩) (le_sub ⟨rfl, rfl, rfl, rfl, rfl, rfl, rfl, rfl, trivial⟩ ⟨rfl, trivial⟩) ?_
  clear h2 K2
  refine ok_seq fun K3 h3 => ?_
  refine ok_region rfl (q_ldbs ag66 rfl rfl sz66 rfl rfl (q_mv _ rfl (q_mv _ rfl (q_callg [9, 8, 3] c48 cl48 ⟨.inr (.inl ⟨_, rfl, gc_Head a0⟩), .inl rfl, .inl rfl, trivial⟩ (fun r_g hr_g hz_g ha_g => ?_)))))
  obtain ⟨g1, g2, rfl, hg1, hg2, d12⟩ := hr_g
  obtain ⟨Z3g, v3g, rfl⟩ := gi_Head (x := r1) hg1
  obtain ⟨Zg, vg, rfl⟩ := gd_sl_inv hg2
  have ap_x_g : ∀ b, Zn b (.agg [int a0.window, int a0.limit, int a0.newest, .tr Z3x (eSeriesS a0.series) v3x]) → ¬ Zn b (.tup [.agg [int r1.window, int r1.limit, int r1.newest, .tr Z3g (eSeriesS r1.series) v3g], .tr Zg (eBlockS r2) vg]) := fun b h1 h2 => ha_g.1 32 _ b rfl h1 h2
  have in1 : ∀ b, Z3g b → Zn b (.tup [.agg [int r1.window, int r1.limit, int r1.newest, .tr Z3g (eSeriesS r1.series) v3g], .tr Zg (eBlockS r2) vg]) := fun b hb => znT_cons.2 (.inl (by simp only [znA_cons, znI_raw, znI_tr, znA_nil, or_false, false_or]; exact hb))
  have in2 : ∀ b, Zg b → Zn b (.tup [.agg [int r1.window, int r1.limit, int r1.newest, .tr Z3g (eSeriesS r1.series) v3g], .tr Zg (eBlockS r2) vg]) := fun b hb => znT_cons.2 (.inr (znT_cons.2 (.inl (.tr _ _ _ hb))))
  have inx : ∀ b, Z3x b → Zn b (.agg [int a0.window, int a0.limit, int a0.newest, .tr Z3x (eSeriesS a0.series) v3x]) := fun b hb => by simp only [znA_cons, znI_raw, znI_tr, znA_nil, or_false, false_or]; exact hb
  have ex : ∀ b, Zn b (.agg [int a0.window, int a0.limit, int a0.newest, .tr Z3x (eSeriesS a0.series) v3x]) → Z3x b := fun b hb => by simp only [znA_cons, znI_raw, znI_tr, znA_nil, or_false, false_or] at hb; exact hb
  have dg : ∀ b, Z3g b → ¬ Zg b := fun b h1 h2 => d12 b (by simp only [znA_cons, znI_raw, znI_tr, znA_nil, or_false, false_or]; exact h1) (.tr _ _ _ h2)
  refine q_mv _ rfl (q_ext _ rfl rfl (q_ext _ rfl rfl (q_alloc _ ze66 rfl rfl rfl rfl (q_sts _ rfl rfl rfl sz66 (Nat.le_of_ble_eq_true rfl) rfl (q_as _ rfl (run_nil (h3 _ ?_)))))))
  refine ok_le (σ' := ⟨[(12, .sv (.tr Zg (eBlockS r2) vg)), (11, .ptr 11 0), (10, .ptr 10 0), (9, .av (fun b => Zn b (.agg [int a0.window, int a0.limit, int a0.newest, .tr Z3x (eSeriesS a0.series) v3x]) ∨ Zn b (.tup [.agg [int r1.window, int r1.limit, int r1.newest, .tr Z3g (eSeriesS r1.series) v3g], .tr Zg (eBlockS r2) vg])) (eBlockS r2)), (8, .av (fun b => Zn b (.agg [int a0.window, int a0.limit, int a0.newest, .tr Z3x (eSeriesS a0.series) v3x]) ∨ Zn b (.tup [.agg [int r1.window, int r1.limit, int r1.newest, .tr Z3g (eSeriesS r1.series) v3g], .tr Zg (eBlockS r2) vg])) (.ptr (eHead r1))), (3, .av (fun b => Zn b (.agg [int a0.window, int a0.limit, int a0.newest, .tr Z3x (eSeriesS a0.series) v3x]) ∨ Zn b (.tup [.agg [int r1.window, int r1.limit, int r1.newest, .tr Z3g (eSeriesS r1.series) v3g], .tr Zg (eBlockS r2) vg])) (.ptr (eHead a0))), (6, .sv (bool false)), (2, .sv (int a2)), (1, .sv (int a1))], [(11, .box [.sv (int r1.window), .sv (int r1.limit), .sv (int r1.newest), .sv (.tr Z3g (eSeriesS r1.series) v3g)]), (10, .box [.sv (int a0.window), .sv (int a0.limit), .sv (int a0.newest), .sv (.tr Z3x (eSeriesS a0.series) v3x)])]⟩) (le_sub ⟨rfl, rfl, rfl, rfl, rfl, rfl, rfl, rfl, rfl, trivial⟩ ⟨rfl, rfl, trivial⟩) ?_
  clear h3 K3
  refine ok_seq fun K4 h4 => ?_
  refine ok_seq fun K5 h5 => ?_
  refine ok_region rfl (q_ldbs ag66 rfl rfl sz66 rfl rfl (q_ldsa _ ag66 rfl sz66 (q_callp (f49_ok r1 hS1) cl49 ⟨.inr (.inl ⟨_, rfl, gc_Head r1⟩), .inl rfl, trivial⟩ (q_un _ _ rfl rfl (q_mv _ rfl (q_or 4 4 rfl rfl rfl rfl rfl (fun hb => q_mv _ rfl (q_mva rfl (q_callp (f36_ok r2 hS2') cl36 ⟨.inr (.inl ⟨_, rfl, .tr _ _ _ _⟩), .inr (.inr ⟨_, rfl⟩), trivial⟩ (q_un _ _ rfl rfl (run_nil ⟨rfl, rfl, rfl, rfl⟩))))) (run_nil (h5 _ ?_))))))))
  clear h5 K5
  refine ok_cond rfl (fun c6 => ?_) (fun c6 => ?_)
  · first | (exfalso; simp at c6; done) | (exfalso; have hcc := of_decide_eq_true c6; omega) | (exfalso; simp at c6; omega)
  refine ok_skip (h4 _ ?_)
  refine ok_le (σ' := ⟨[(12, .sv (.tr Zg (eBlockS r2) vg)), (11, .ptr 11 0), (10, .ptr 10 0), (9, .av (fun b => Zn b (.agg [int a0.window, int a0.limit, int a0.newest, .tr Z3x (eSeriesS a0.series) v3x]) ∨ Zn b (.tup [.agg [int r1.window, int r1.limit, int r1.newest, .tr Z3g (eSeriesS r1.series) v3g], .tr Zg (eBlockS r2) vg])) (eBlockS r2)), (8, .av (fun b => Zn b (.agg [int a0.window, int a0.limit, int a0.newest, .tr Z3x (eSeriesS a0.series) v3x]) ∨ Zn b (.tup [.agg [int r1.window, int r1.limit, int r1.newest, .tr Z3g (eSeriesS r1.series) v3g], .tr Zg (eBlockS r2) vg])) (.ptr (eHead r1))), (3, .av (fun b => Zn b (.agg [int a0.window, int a0.limit, int a0.newest, .tr Z3x (eSeriesS a0.series) v3x]) ∨ Zn b (.tup [.agg [int r1.window, int r1.limit, int r1.newest, .tr Z3g (eSeriesS r1.series) v3g], .tr Zg (eBlockS r2) vg])) (.ptr (eHead a0))), (6, .sv (bool false)), (2, .sv (int a2)), (1, .sv (int a1))], [(11, .box [.sv (int r1.window), .sv (int r1.limit), .sv (int r1.newest), .sv (.tr Z3g (eSeriesS r1.series) v3g)]), (10, .box [.sv (int a0.window), .sv (int a0.limit), .sv (int a0.newest), .sv (.tr Z3x (eSeriesS a0.series) v3x)])]⟩) (le_sub ⟨rfl, rfl, rfl, rfl, rfl, rfl, rfl, rfl, rfl, trivial⟩ ⟨rfl, rfl, trivial⟩) ?_
  refine ok_seq fun K7 h7 => ?_
  refine ok_seq fun K8 h8 => ?_
  refine ok_region_i (by kernel_rfl) (by kernel_rfl) rfl (q_ldbs ag66 rfl rfl sz66 rfl rfl (q_ldsa _ ag63 rfl sz63 (q_call (f47_ok a0 hs0) cl47 rfl rfl (q_callp (f49_ok a0 hs0) cl49 ⟨.inr (.inl ⟨_, rfl, gc_Head a0⟩), .inl rfl, trivial⟩ (q_un _ _ rfl rfl (run_nil (h8 _ ?_)))))))
  clear h8 K8
  refine ok_cond rfl (fun c9 => ?_) (fun c9 => ?_)
  · first | (exfalso; simp at c9; done) | (exfalso; have hcc := of_decide_eq_true c9; omega) | (exfalso; simp at c9; omega)
  refine ok_skip (h7 _ ?_)
  refine ok_seq fun K10 h10 => ?_
  refine ok_region rfl (q_as _ rfl (run_nil (h10 _ ?_)))
  clear h10 K10
  refine ok_le (σ' := ⟨[(13, .sv (int 1)), (12, .sv (.tr Zg (eBlockS r2) vg)), (11, .ptr 11 0), (10, .ptr 10 0), (9, .av (fun b => Zn b (.agg [int a0.window, int a0.limit, int a0.newest, .tr Z3x (eSeriesS a0.series) v3x]) ∨ Zn b (.tup [.agg [int r1.window, int r1.limit, int r1.newest, .tr Z3g (eSeriesS r1.series) v3g], .tr Zg (eBlockS r2) vg])) (eBlockS r2)), (8, .av (fun b => Zn b (.agg [int a0.window, int a0.limit, int a0.newest, .tr Z3x (eSeriesS a0.series) v3x]) ∨ Zn b (.tup [.agg [int r1.window, int r1.limit, int r1.newest, .tr Z3g (eSeriesS r1.series) v3g], .tr Zg (eBlockS r2) vg])) (.ptr (eHead r1))), (3, .av (fun b => Zn b (.agg [int a0.window, int a0.limit, int a0.newest, .tr Z3x (eSeriesS a0.series) v3x]) ∨ Zn b (.tup [.agg [int r1.window, int r1.limit, int r1.newest, .tr Z3g (eSeriesS r1.series) v3g], .tr Zg (eBlockS r2) vg])) (.ptr (eHead a0))), (6, .sv (bool false)), (2, .sv (int a2)), (1, .sv (int a1))], [(11, .box [.sv (int r1.window), .sv (int r1.limit), .sv (int r1.newest), .sv (.tr Z3g (eSeriesS r1.series) v3g)]), (10, .box [.sv (int a0.window), .sv (int a0.limit), .sv (int a0.newest), .sv (.tr Z3x (eSeriesS a0.series) v3x)])]⟩) (le_sub ⟨rfl, rfl, rfl, rfl, rfl, rfl, rfl, rfl, rfl, rfl, trivial⟩ ⟨rfl, rfl, trivial⟩) ?_
  refine ok_seq fun K11 h11 => ?_
  refine ok_region rfl (q_ldbs ag66 rfl rfl sz66 rfl rfl (q_mv _ rfl (q_markg (k := ((1 : Nat) : Int)) (gc_Head a0) (f50_m a0 (nHead_of hs0) 1 (by omega) (by omega)) cl50 rfl rfl (fun b hb => .inl (hz_x b hb)) [(12, .sv (.tr Zg (eBlockS r2) vg)), (11, .ptr 11 0), (9, .av (fun b => Zn b (.agg [int a0.window, int a0.limit, int a0.newest, .tr Z3x (eSeriesS a0.series) v3x]) ∨ Zn b (.tup [.agg [int r1.window, int r1.limit, int r1.newest, .tr Z3g (eSeriesS r1.series) v3g], .tr Zg (eBlockS r2) vg])) (eBlockS r2)), (8, .av (fun b => Zn b (.agg [int a0.window, int a0.limit, int a0.newest, .tr Z3x (eSeriesS a0.series) v3x]) ∨ Zn b (.tup [.agg [int r1.window, int r1.limit, int r1.newest, .tr Z3g (eSeriesS r1.series) v3g], .tr Zg (eBlockS r2) vg])) (.ptr (eHead r1))), (3, .av (fun b => Zn b (.agg [int a0.window, int a0.limit, int a0.newest, .tr Z3x (eSeriesS a0.series) v3x]) ∨ Zn b (.tup [.agg [int r1.window, int r1.limit, int r1.newest, .tr Z3g (eSeriesS r1.series) v3g], .tr Zg (eBlockS r2) vg])) (.ptr (eHead a0))), (6, .sv (bool false)), (2, .sv (int a2)), (1, .sv (int a1))] [(11, .box [.sv (int r1.window), .sv (int r1.limit), .sv (int r1.newest), .sv (.tr Z3g (eSeriesS r1.series) v3g)])] ⟨⟨_, rfl, .good (.tr _ _ _ _) (fun b hb hb' => ap_x_g b hb' (in2 b (zn_tr hb)))⟩, ⟨_, rfl, .ptr⟩, ⟨_, rfl, .av (fun b hb => .inl hb)⟩, ⟨_, rfl, .av (fun b hb => .inl hb)⟩, ⟨_, rfl, .av (fun b hb => .inl hb)⟩, ⟨_, rfl, .raw⟩, ⟨_, rfl, .raw⟩, ⟨_, rfl, .raw⟩, trivial⟩ ⟨⟨_, rfl, .box ⟨.raw, .raw, .raw, .good (.tr _ _ _ _) (fun b hb hb' => ap_x_g b hb' (in1 b (zn_tr hb))), trivial⟩⟩, trivial⟩ (fun k' s' hR => ?_))))
  obtain ⟨rfl, -⟩ := hR
  refine q_as _ rfl (run_nil (h11 _ ?_)); clear h11 K11
  refine ok_le (σ' := ⟨[(13, .sv (int ((1 + cmHead a0 : Nat) : Int))), (12, .sv (.tr Zg (eBlockS r2) vg)), (11, .ptr 11 0), (9, .av (fun b => Zn b (.agg [int a0.window, int a0.limit, int a0.newest, .tr Z3x (eSeriesS a0.series) v3x]) ∨ Zn b (.tup [.agg [int r1.window, int r1.limit, int r1.newest, .tr Z3g (eSeriesS r1.series) v3g], .tr Zg (eBlockS r2) vg])) (eBlockS r2)), (8, .av (fun b => Zn b (.agg [int a0.window, int a0.limit, int a0.newest, .tr Z3x (eSeriesS a0.series) v3x]) ∨ Zn b (.tup [.agg [int r1.window, int r1.limit, int r1.newest, .tr Z3g (eSeriesS r1.series) v3g], .tr Zg (eBlockS r2) vg])) (.ptr (eHead r1))), (3, .av (fun b => Zn b (.agg [int a0.window, int a0.limit, int a0.newest, .tr Z3x (eSeriesS a0.series) v3x]) ∨ Zn b (.tup [.agg [int r1.window, int r1.limit, int r1.newest, .tr Z3g (eSeriesS r1.series) v3g], .tr Zg (eBlockS r2) vg])) (.ptr (eHead a0))), (6, .sv (bool false)), (2, .sv (int a2)), (1, .sv (int a1))], [(11, .box [.sv (int r1.window), .sv (int r1.limit), .sv (int r1.newest), .sv (.tr Z3g (eSeriesS r1.series) v3g)])]⟩) (le_sub ⟨rfl, rfl, rfl, rfl, rfl, rfl, rfl, rfl, rfl, trivial⟩ ⟨rfl, trivial⟩) ?_
  refine ok_seq fun K12 h12 => ?_
  refine ok_seq fun K13 h13 => ?_
  refine ok_region rfl (q_mv _ rfl (q_bin _ _ _ rfl rfl rfl (q_mv _ rfl (q_or 4 4 rfl rfl rfl rfl rfl (fun hb => q_ldbs ag66 rfl rfl sz66 rfl rfl (q_ldsa _ ag66 rfl sz66 (q_callp (f49_ok r1 hS1) cl49 ⟨.inr (.inl ⟨_, rfl, gc_Head r1⟩), .inl rfl, trivial⟩ (q_un _ _ rfl rfl (run_nil ⟨rfl, rfl, rfl, rfl⟩))))) (q_mv _ rfl (q_or 4 4 rfl rfl rfl rfl rfl (fun hb => q_mv _ rfl (q_mva rfl (q_callp (f36_ok r2 hS2') cl36 ⟨.inr (.inl ⟨_, rfl, .tr _ _ _ _⟩), .inr (.inr ⟨_, rfl⟩), trivial⟩ (q_un _ _ rfl rfl (run_nil ⟨rfl, rfl, rfl, rfl⟩))))) (run_nil (h13 _ ?_))))))))
  clear h13 K13
  refine ok_cond rfl (fun c14 => ?_) (fun c14 => ?_)
  · first | (exfalso; simp at c14; done) | (exfalso; have hcc := of_decide_eq_true c14; omega) | (exfalso; simp at c14; omega)
  refine ok_skip (h12 _ ?_)
  refine ok_seq fun K15 h15 => ?_
  refine ok_region rfl (q_as _ rfl (run_nil (h15 _ ?_)))
  clear h15 K15
  refine ok_le (σ' := ⟨[(14, .sv (int 1)), (12, .sv (.tr Zg (eBlockS r2) vg)), (11, .ptr 11 0), (9, .av (fun b => Zn b (.agg [int a0.window, int a0.limit, int a0.newest, .tr Z3x (eSeriesS a0.series) v3x]) ∨ Zn b (.tup [.agg [int r1.window, int r1.limit, int r1.newest, .tr Z3g (eSeriesS r1.series) v3g], .tr Zg (eBlockS r2) vg])) (eBlockS r2)), (8, .av (fun b => Zn b (.agg [int a0.window, int a0.limit, int a0.newest, .tr Z3x (eSeriesS a0.series) v3x]) ∨ Zn b (.tup [.agg [int r1.window, int r1.limit, int r1.newest, .tr Z3g (eSeriesS r1.series) v3g], .tr Zg (eBlockS r2) vg])) (.ptr (eHead r1))), (3, .av (fun b => Zn b (.agg [int a0.window, int a0.limit, int a0.newest, .tr Z3x (eSeriesS a0.series) v3x]) ∨ Zn b (.tup [.agg [int r1.window, int r1.limit, int r1.newest, .tr Z3g (eSeriesS r1.series) v3g], .tr Zg (eBlockS r2) vg])) (.ptr (eHead a0))), (6, .sv (bool false)), (2, .sv (int a2)), (1, .sv (int a1))], [(11, .box [.sv (int r1.window), .sv (int r1.limit), .sv (int r1.newest), .sv (.tr Z3g (eSeriesS r1.series) v3g)])]⟩) (le_sub ⟨rfl, rfl, rfl, rfl, rfl, rfl, rfl, rfl, rfl, trivial⟩ ⟨rfl, trivial⟩) ?_
  refine ok_seq fun K16 h16 => ?_
  refine ok_region rfl (q_ldbs ag66 rfl rfl sz66 rfl rfl (q_mv _ rfl (q_mark1 [.int .i64 r1.window, .int .i64 r1.limit, .int .i64 r1.newest] [] (k := ((1 : Nat) : Int)) (f50_m r1 (nHead_of hS1) 1 (by decide) hCH) cl50 rfl rfl (fun b hb => .inl (hz_g b (in1 b hb))) (fun k' s'' h => by obtain ⟨_, x', rfl, _⟩ := h; exact ⟨[.int .i64 x'.window, .int .i64 x'.limit, .int .i64 x'.newest], eSeriesS x'.series, [], rfl, rfl, rfl⟩) (fun s' => [(73, .sv (int 1)), (72, .dead), (14, .sv (int 1)), (12, .sv (.tr Zg (eBlockS r2) vg)), (11, .ptr 11 0), (9, .av (fun b => Zn b (.agg [int a0.window, int a0.limit, int a0.newest, .tr Z3x (eSeriesS a0.series) v3x]) ∨ Zn b (.tup [.agg [int r1.window, int r1.limit, int r1.newest, .tr Z3g (eSeriesS r1.series) v3g], .tr Zg (eBlockS r2) vg])) (eBlockS r2)), (8, .av (fun b => Zn b (.agg [int a0.window, int a0.limit, int a0.newest, .tr Z3x (eSeriesS a0.series) v3x]) ∨ Zn b (.tup [.agg [int r1.window, int r1.limit, int r1.newest, .tr Z3g (eSeriesS r1.series) v3g], .tr Zg (eBlockS r2) vg])) (.ptr (eHead r1))), (3, .av (fun b => Zn b (.agg [int a0.window, int a0.limit, int a0.newest, .tr Z3x (eSeriesS a0.series) v3x]) ∨ Zn b (.tup [.agg [int r1.window, int r1.limit, int r1.newest, .tr Z3g (eSeriesS r1.series) v3g], .tr Zg (eBlockS r2) vg])) (.ptr (eHead a0))), (6, .sv (bool false)), (2, .sv (int a2)), (1, .sv (int a1))]) (fun s' => [(11, .box [.sv (int r1.window), .sv (int r1.limit), .sv (int r1.newest), .sv (.tr Z3g s' v3g)])]) (fun s' => ⟨rfl, .sv (.raw _), rfl, .dead, rfl, .sv (.raw _), rfl, .sv (.other _ _ _ (fun b h1 h2 => dg b h2 h1)), rfl, .ptr, rfl, .av (fun b hb => .inr (in1 b hb)), rfl, .av (fun b hb => .inr (in1 b hb)), rfl, .av (fun b hb => .inr (in1 b hb)), rfl, .sv (.raw _), rfl, .sv (.raw _), rfl, .sv (.raw _), trivial⟩) (fun s' => ⟨rfl, MkCs.box ⟨.sv (.raw _), .sv (.raw _), .sv (.raw _), .sv .same, trivial⟩, trivial⟩) (fun k' s' hR => ?_))))
  obtain ⟨rfl, ⟨lw, ll, ln, ls⟩, hlg, hhg, hcg, hmg⟩ := hR
  have hlg : SV.agg [int r1.window, int r1.limit, int r1.newest, s'] = .agg [int lw, int ll, int ln, eSeriesS ls] := hlg
  simp only [SV.agg.injEq, List.cons.injEq, SV.raw.injEq, Value.int.injEq, true_and, and_true] at hlg
  obtain ⟨rfl, rfl, rfl, rfl⟩ := hlg
  refine q_as _ rfl (run_nil (h16 _ ?_)); clear h16 K16
  refine ok_le (σ' := ⟨[(14, .sv (int ((1 + cmHead r1 : Nat) : Int))), (12, .sv (.tr Zg (eBlockS r2) vg)), (11, .ptr 11 0), (9, .av (fun b => Zn b (.agg [int a0.window, int a0.limit, int a0.newest, .tr Z3x (eSeriesS a0.series) v3x]) ∨ Zn b (.tup [.agg [int r1.window, int r1.limit, int r1.newest, .tr Z3g (eSeriesS r1.series) v3g], .tr Zg (eBlockS r2) vg])) (eBlockS r2)), (8, .av (fun b => Zn b (.agg [int a0.window, int a0.limit, int a0.newest, .tr Z3x (eSeriesS a0.series) v3x]) ∨ Zn b (.tup [.agg [int r1.window, int r1.limit, int r1.newest, .tr Z3g (eSeriesS r1.series) v3g], .tr Zg (eBlockS r2) vg])) (.ptr (eHead r1))), (3, .av (fun b => Zn b (.agg [int a0.window, int a0.limit, int a0.newest, .tr Z3x (eSeriesS a0.series) v3x]) ∨ Zn b (.tup [.agg [int r1.window, int r1.limit, int r1.newest, .tr Z3g (eSeriesS r1.series) v3g], .tr Zg (eBlockS r2) vg])) (.ptr (eHead a0))), (6, .sv (bool false)), (2, .sv (int a2)), (1, .sv (int a1))], [(11, .box [.sv (int r1.window), .sv (int r1.limit), .sv (int r1.newest), .sv (.tr Z3g (eSeriesS ls) v3g)])]⟩) (le_sub ⟨rfl, rfl, rfl, rfl, rfl, rfl, rfl, rfl, rfl, trivial⟩ ⟨rfl, trivial⟩) ?_
  refine ok_seq fun K17 h17 => ?_
  refine ok_region rfl (q_mv _ rfl (q_mv _ rfl (q_mark (k := ((1 + cmHead r1 : Nat) : Int)) (f37_m r2 ⟨hS2'.1, fun y hy => nBlock_of (hS2'.2 y hy)⟩ (1 + cmHead r1) (by omega) hCT) cl37 rfl rfl (fun b hb => .inl (hz_g b (in2 b hb))) (fun s' => [(76, .sv (int ((1 + cmHead r1 : Nat) : Int))), (75, .dead), (14, .sv (int ((1 + cmHead r1 : Nat) : Int))), (12, .sv (.tr Zg s' vg)), (11, .ptr 11 0), (9, .av (fun b => Zn b (.agg [int a0.window, int a0.limit, int a0.newest, .tr Z3x (eSeriesS a0.series) v3x]) ∨ Zn b (.tup [.agg [int r1.window, int r1.limit, int r1.newest, .tr Z3g (eSeriesS r1.series) v3g], .tr Zg (eBlockS r2) vg])) (eBlockS r2)), (8, .av (fun b => Zn b (.agg [int a0.window, int a0.limit, int a0.newest, .tr Z3x (eSeriesS a0.series) v3x]) ∨ Zn b (.tup [.agg [int r1.window, int r1.limit, int r1.newest, .tr Z3g (eSeriesS r1.series) v3g], .tr Zg (eBlockS r2) vg])) (.ptr (eHead r1))), (3, .av (fun b => Zn b (.agg [int a0.window, int a0.limit, int a0.newest, .tr Z3x (eSeriesS a0.series) v3x]) ∨ Zn b (.tup [.agg [int r1.window, int r1.limit, int r1.newest, .tr Z3g (eSeriesS r1.series) v3g], .tr Zg (eBlockS r2) vg])) (.ptr (eHead a0))), (6, .sv (bool false)), (2, .sv (int a2)), (1, .sv (int a1))]) (fun s' => [(11, .box [.sv (int r1.window), .sv (int r1.limit), .sv (int r1.newest), .sv (.tr Z3g (eSeriesS ls) v3g)])]) (fun s' => ⟨rfl, .sv (.raw _), rfl, .dead, rfl, .sv (.raw _), rfl, .sv .same, rfl, .ptr, rfl, .av (fun b hb => .inr (in2 b hb)), rfl, .av (fun b hb => .inr (in2 b hb)), rfl, .av (fun b hb => .inr (in2 b hb)), rfl, .sv (.raw _), rfl, .sv (.raw _), rfl, .sv (.raw _), trivial⟩) (fun s' => ⟨rfl, MkCs.box ⟨.sv (.raw _), .sv (.raw _), .sv (.raw _), .sv (.other _ _ _ (fun b h1 h2 => dg b h1 h2)), trivial⟩, trivial⟩) (fun k' s' hR => ?_))))
  obtain ⟨rfl, lb, rfl, hhb, hcb, hmb⟩ := hR
  refine q_as _ rfl (run_nil (h17 _ ?_)); clear h17 K17
  refine ok_le (σ' := ⟨[(14, .sv (int ((1 + cmHead r1 + cL cBlock r2 : Nat) : Int))), (12, .sv (.tr Zg (eBlockS lb) vg)), (11, .ptr 11 0), (9, .av (fun b => Zn b (.agg [int a0.window, int a0.limit, int a0.newest, .tr Z3x (eSeriesS a0.series) v3x]) ∨ Zn b (.tup [.agg [int r1.window, int r1.limit, int r1.newest, .tr Z3g (eSeriesS r1.series) v3g], .tr Zg (eBlockS r2) vg])) (eBlockS r2)), (8, .av (fun b => Zn b (.agg [int a0.window, int a0.limit, int a0.newest, .tr Z3x (eSeriesS a0.series) v3x]) ∨ Zn b (.tup [.agg [int r1.window, int r1.limit, int r1.newest, .tr Z3g (eSeriesS r1.series) v3g], .tr Zg (eBlockS r2) vg])) (.ptr (eHead r1))), (3, .av (fun b => Zn b (.agg [int a0.window, int a0.limit, int a0.newest, .tr Z3x (eSeriesS a0.series) v3x]) ∨ Zn b (.tup [.agg [int r1.window, int r1.limit, int r1.newest, .tr Z3g (eSeriesS r1.series) v3g], .tr Zg (eBlockS r2) vg])) (.ptr (eHead a0))), (6, .sv (bool false)), (2, .sv (int a2)), (1, .sv (int a1))], [(11, .box [.sv (int r1.window), .sv (int r1.limit), .sv (int r1.newest), .sv (.tr Z3g (eSeriesS ls) v3g)])]⟩) (le_sub ⟨rfl, rfl, rfl, rfl, rfl, rfl, rfl, rfl, rfl, trivial⟩ ⟨rfl, trivial⟩) ?_
  have hh1 : PFn Tryz.prog 51 [eHead ⟨r1.window, r1.limit, r1.newest, ls⟩, int ((1 : Nat) : Int)] (int ((1 + cmHead r1 : Nat) : Int)) := by have h9 := f51_h ⟨r1.window, r1.limit, r1.newest, ls⟩ hmg 1 (by decide) (by rw [hcg]; exact hCH) hhg; rw [hcg] at h9; exact h9
  have hh2 : PFn Tryz.prog 40 [eBlockS lb, int ((1 + cmHead r1 : Nat) : Int)] (int ((1 + cmHead r1 + cL cBlock r2 : Nat) : Int)) := by have h9 := f40_h lb hmb (1 + cmHead r1) (by omega) (by rw [hcb]; exact hCT) hhb; rw [hcb] at h9; exact h9
  refine ok_seq fun K18 h18 => ?_
  refine ok_region rfl (q_as _ rfl (run_nil (h18 _ ?_)))
  clear h18 K18
  refine ok_seq fun K19 h19 => ?_
  refine ok_region rfl (q_ldbs ag66 rfl rfl sz66 rfl rfl (q_mv _ rfl (q_callp hh1 cl51 ⟨.inr (.inl ⟨_, rfl, gc_Head ⟨r1.window, r1.limit, r1.newest, ls⟩⟩), .inl rfl, trivial⟩ (q_as _ rfl (run_nil (h19 _ ?_))))))
  clear h19 K19
  refine ok_le (σ' := ⟨[(15, .sv (int ((1 + cmHead r1 : Nat) : Int))), (14, .sv (int ((1 + cmHead r1 + cL cBlock r2 : Nat) : Int))), (12, .sv (.tr Zg (eBlockS lb) vg)), (11, .ptr 11 0), (9, .av (fun b => Zn b (.agg [int a0.window, int a0.limit, int a0.newest, .tr Z3x (eSeriesS a0.series) v3x]) ∨ Zn b (.tup [.agg [int r1.window, int r1.limit, int r1.newest, .tr Z3g (eSeriesS r1.series) v3g], .tr Zg (eBlockS r2) vg])) (eBlockS r2)), (8, .av (fun b => Zn b (.agg [int a0.window, int a0.limit, int a0.newest, .tr Z3x (eSeriesS a0.series) v3x]) ∨ Zn b (.tup [.agg [int r1.window, int r1.limit, int r1.newest, .tr Z3g (eSeriesS r1.series) v3g], .tr Zg (eBlockS r2) vg])) (.ptr (eHead r1))), (3, .av (fun b => Zn b (.agg [int a0.window, int a0.limit, int a0.newest, .tr Z3x (eSeriesS a0.series) v3x]) ∨ Zn b (.tup [.agg [int r1.window, int r1.limit, int r1.newest, .tr Z3g (eSeriesS r1.series) v3g], .tr Zg (eBlockS r2) vg])) (.ptr (eHead a0))), (6, .sv (bool false)), (2, .sv (int a2)), (1, .sv (int a1))], [(11, .box [.sv (int r1.window), .sv (int r1.limit), .sv (int r1.newest), .sv (.tr Z3g (eSeriesS ls) v3g)])]⟩) (le_sub ⟨rfl, rfl, rfl, rfl, rfl, rfl, rfl, rfl, rfl, rfl, trivial⟩ ⟨rfl, trivial⟩) ?_
  refine ok_seq fun K20 h20 => ?_
  refine ok_seq fun K21 h21 => ?_
  refine ok_region rfl (q_mv _ rfl (q_bin _ _ _ rfl rfl rfl (run_nil (h21 _ ?_))))
  clear h21 K21
  refine ok_cond rfl (fun c22 => ?_) (fun c22 => ?_)
  · first | (exfalso; simp at c22; done) | (exfalso; have hcc := of_decide_eq_true c22; omega) | (exfalso; simp at c22; omega)
  refine ok_skip (h20 _ ?_)
  refine ok_seq fun K23 h23 => ?_
  refine ok_region rfl (q_mv _ rfl (q_mv _ rfl (q_callp hh2 cl40 ⟨.inr (.inl ⟨_, rfl, .tr _ _ _ _⟩), .inl rfl, trivial⟩ (q_as _ rfl (run_nil (h23 _ ?_))))))
  clear h23 K23
  refine ok_le (σ' := ⟨[(15, .sv (int ((1 + cmHead r1 + cL cBlock r2 : Nat) : Int))), (14, .sv (int ((1 + cmHead r1 + cL cBlock r2 : Nat) : Int))), (12, .sv (.tr Zg (eBlockS lb) vg)), (11, .ptr 11 0), (9, .av (fun b => Zn b (.agg [int a0.window, int a0.limit, int a0.newest, .tr Z3x (eSeriesS a0.series) v3x]) ∨ Zn b (.tup [.agg [int r1.window, int r1.limit, int r1.newest, .tr Z3g (eSeriesS r1.series) v3g], .tr Zg (eBlockS r2) vg])) (eBlockS r2)), (8, .av (fun b => Zn b (.agg [int a0.window, int a0.limit, int a0.newest, .tr Z3x (eSeriesS a0.series) v3x]) ∨ Zn b (.tup [.agg [int r1.window, int r1.limit, int r1.newest, .tr Z3g (eSeriesS r1.series) v3g], .tr Zg (eBlockS r2) vg])) (.ptr (eHead r1))), (3, .av (fun b => Zn b (.agg [int a0.window, int a0.limit, int a0.newest, .tr Z3x (eSeriesS a0.series) v3x]) ∨ Zn b (.tup [.agg [int r1.window, int r1.limit, int r1.newest, .tr Z3g (eSeriesS r1.series) v3g], .tr Zg (eBlockS r2) vg])) (.ptr (eHead a0))), (6, .sv (bool false)), (2, .sv (int a2)), (1, .sv (int a1))], [(11, .box [.sv (int r1.window), .sv (int r1.limit), .sv (int r1.newest), .sv (.tr Z3g (eSeriesS ls) v3g)])]⟩) (le_sub ⟨rfl, rfl, rfl, rfl, rfl, rfl, rfl, rfl, rfl, rfl, trivial⟩ ⟨rfl, trivial⟩) ?_
  refine ok_seq fun K24 h24 => ?_
  refine ok_seq fun K25 h25 => ?_
  refine ok_region rfl (q_mv _ rfl (q_bin _ _ _ rfl rfl rfl (run_nil (h25 _ ?_))))
  clear h25 K25
  refine ok_cond rfl (fun c26 => ?_) (fun c26 => ?_)
  · first | (exfalso; simp at c26; done) | (exfalso; have hcc := of_decide_eq_true c26; omega) | (exfalso; simp at c26; omega)
  refine ok_skip (h24 _ ?_)
  refine ok_seq fun K27 h27 => ?_
  refine ok_seq fun K28 h28 => ?_
  refine ok_region rfl (q_mv _ rfl (q_mv _ rfl (q_bin _ _ _ rfl rfl rfl (run_nil (h28 _ ?_)))))
  clear h28 K28
  refine ok_cond rfl (fun c29 => ?_) (fun c29 => ?_)
  · first | (exfalso; simp at c29; done) | (exfalso; have hcc := of_decide_eq_true c29; omega) | (exfalso; simp at c29; omega)
  refine ok_skip (h27 _ ?_)
  refine ok_le (σ' := ⟨[(14, .sv (int ((1 + cmHead r1 + cL cBlock r2 : Nat) : Int))), (12, .sv (.tr Zg (eBlockS lb) vg)), (11, .ptr 11 0), (9, .av (fun b => Zn b (.agg [int a0.window, int a0.limit, int a0.newest, .tr Z3x (eSeriesS a0.series) v3x]) ∨ Zn b (.tup [.agg [int r1.window, int r1.limit, int r1.newest, .tr Z3g (eSeriesS r1.series) v3g], .tr Zg (eBlockS r2) vg])) (eBlockS r2)), (8, .av (fun b => Zn b (.agg [int a0.window, int a0.limit, int a0.newest, .tr Z3x (eSeriesS a0.series) v3x]) ∨ Zn b (.tup [.agg [int r1.window, int r1.limit, int r1.newest, .tr Z3g (eSeriesS r1.series) v3g], .tr Zg (eBlockS r2) vg])) (.ptr (eHead r1))), (3, .av (fun b => Zn b (.agg [int a0.window, int a0.limit, int a0.newest, .tr Z3x (eSeriesS a0.series) v3x]) ∨ Zn b (.tup [.agg [int r1.window, int r1.limit, int r1.newest, .tr Z3g (eSeriesS r1.series) v3g], .tr Zg (eBlockS r2) vg])) (.ptr (eHead a0))), (6, .sv (bool false)), (2, .sv (int a2)), (1, .sv (int a1))], [(11, .box [.sv (int r1.window), .sv (int r1.limit), .sv (int r1.newest), .sv (.tr Z3g (eSeriesS ls) v3g)])]⟩) (le_sub ⟨rfl, rfl, rfl, rfl, rfl, rfl, rfl, rfl, rfl, trivial⟩ ⟨rfl, trivial⟩) ?_
  refine ok_seq fun K30 h30 => ?_
  refine ok_region rfl (q_ldsa _ ag63 rfl sz63 (q_call (f47_ok a0 hs0) cl47 rfl rfl (q_mv _ rfl (q_mv _ rfl (q_callg [] c48 cl48 ⟨.inl rfl, .inl rfl, .inl rfl, trivial⟩ (fun r_h hr_h hz_h ha_h => ?_))))))
  obtain ⟨e1, e2, rfl, he1, he2, -⟩ := hr_h
  obtain ⟨Z3h, v3h, rfl⟩ := gi_Head (x := r1) he1
  obtain ⟨Zh, vh, rfl⟩ := gd_sl_inv he2
  refine q_mv _ rfl (q_ext _ rfl rfl (q_ext _ rfl rfl (q_alloc _ ze66 rfl rfl rfl rfl (q_sts _ rfl rfl rfl sz66 (Nat.le_of_ble_eq_true rfl) rfl (q_as _ rfl (run_nil (h30 _ ?_)))))))
  refine ok_le (σ' := ⟨[(17, .sv (.tr Zh (eBlockS r2) vh)), (16, .ptr 16 0), (14, .sv (int ((1 + cmHead r1 + cL cBlock r2 : Nat) : Int))), (12, .sv (.tr Zg (eBlockS lb) vg)), (11, .ptr 11 0), (9, .av (fun b => Zn b (.agg [int a0.window, int a0.limit, int a0.newest, .tr Z3x (eSeriesS a0.series) v3x]) ∨ Zn b (.tup [.agg [int r1.window, int r1.limit, int r1.newest, .tr Z3g (eSeriesS r1.series) v3g], .tr Zg (eBlockS r2) vg])) (eBlockS r2)), (8, .av (fun b => Zn b (.agg [int a0.window, int a0.limit, int a0.newest, .tr Z3x (eSeriesS a0.series) v3x]) ∨ Zn b (.tup [.agg [int r1.window, int r1.limit, int r1.newest, .tr Z3g (eSeriesS r1.series) v3g], .tr Zg (eBlockS r2) vg])) (.ptr (eHead r1))), (3, .av (fun b => Zn b (.agg [int a0.window, int a0.limit, int a0.newest, .tr Z3x (eSeriesS a0.series) v3x]) ∨ Zn b (.tup [.agg [int r1.window, int r1.limit, int r1.newest, .tr Z3g (eSeriesS r1.series) v3g], .tr Zg (eBlockS r2) vg])) (.ptr (eHead a0))), (6, .sv (bool false)), (2, .sv (int a2)), (1, .sv (int a1))], [(16, .box [.sv (int r1.window), .sv (int r1.limit), .sv (int r1.newest), .sv (.tr Z3h (eSeriesS r1.series) v3h)]), (11, .box [.sv (int r1.window), .sv (int r1.limit), .sv (int r1.newest), .sv (.tr Z3g (eSeriesS ls) v3g)])]⟩) (le_sub ⟨rfl, rfl, rfl, rfl, rfl, rfl, rfl, rfl, rfl, rfl, rfl, trivial⟩ ⟨rfl, rfl, trivial⟩) ?_
  clear h30 K30
  refine ok_seq fun K31 h31 => ?_
  refine ok_seq fun K32 h32 => ?_
  refine ok_region rfl (q_ldbs ag66 rfl rfl sz66 rfl rfl (q_ldsa _ ag66 rfl sz66 (q_callp (f49_ok r1 hS1) cl49 ⟨.inr (.inl ⟨_, rfl, gc_Head r1⟩), .inl rfl, trivial⟩ (q_un _ _ rfl rfl (q_mv _ rfl (q_or 4 4 rfl rfl rfl rfl rfl (fun hb => q_mv _ rfl (q_mva rfl (q_callp (f36_ok r2 hS2') cl36 ⟨.inr (.inl ⟨_, rfl, .tr _ _ _ _⟩), .inr (.inr ⟨_, rfl⟩), trivial⟩ (q_un _ _ rfl rfl (run_nil ⟨rfl, rfl, rfl, rfl⟩))))) (run_nil (h32 _ ?_))))))))
  clear h32 K32
  refine ok_cond rfl (fun c33 => ?_) (fun c33 => ?_)
  · first | (exfalso; simp at c33; done) | (exfalso; have hcc := of_decide_eq_true c33; omega) | (exfalso; simp at c33; omega)
  refine ok_skip (h31 _ ?_)
  refine ok_le (σ' := ⟨[(14, .sv (int ((1 + cmHead r1 + cL cBlock r2 : Nat) : Int))), (12, .sv (.tr Zg (eBlockS lb) vg)), (11, .ptr 11 0), (9, .av (fun b => Zn b (.agg [int a0.window, int a0.limit, int a0.newest, .tr Z3x (eSeriesS a0.series) v3x]) ∨ Zn b (.tup [.agg [int r1.window, int r1.limit, int r1.newest, .tr Z3g (eSeriesS r1.series) v3g], .tr Zg (eBlockS r2) vg])) (eBlockS r2)), (8, .av (fun b => Zn b (.agg [int a0.window, int a0.limit, int a0.newest, .tr Z3x (eSeriesS a0.series) v3x]) ∨ Zn b (.tup [.agg [int r1.window, int r1.limit, int r1.newest, .tr Z3g (eSeriesS r1.series) v3g], .tr Zg (eBlockS r2) vg])) (.ptr (eHead r1))), (3, .av (fun b => Zn b (.agg [int a0.window, int a0.limit, int a0.newest, .tr Z3x (eSeriesS a0.series) v3x]) ∨ Zn b (.tup [.agg [int r1.window, int r1.limit, int r1.newest, .tr Z3g (eSeriesS r1.series) v3g], .tr Zg (eBlockS r2) vg])) (.ptr (eHead a0))), (6, .sv (bool false)), (2, .sv (int a2)), (1, .sv (int a1))], [(11, .box [.sv (int r1.window), .sv (int r1.limit), .sv (int r1.newest), .sv (.tr Z3g (eSeriesS ls) v3g)])]⟩) (le_sub ⟨rfl, rfl, rfl, rfl, rfl, rfl, rfl, rfl, rfl, trivial⟩ ⟨rfl, trivial⟩) ?_
  refine ok_seq fun K34 h34 => ?_
  refine ok_region rfl (q_as _ rfl (run_nil (h34 _ ?_)))
  clear h34 K34
  refine ok_seq fun K35 h35 => ?_
  refine ok_region rfl (q_ldbs ag66 rfl rfl sz66 rfl rfl (q_mv _ rfl (q_callp hh1 cl51 ⟨.inr (.inl ⟨_, rfl, gc_Head ⟨r1.window, r1.limit, r1.newest, ls⟩⟩), .inl rfl, trivial⟩ (q_as _ rfl (run_nil (h35 _ ?_))))))
  clear h35 K35
  refine ok_le (σ' := ⟨[(15, .sv (int ((1 + cmHead r1 : Nat) : Int))), (14, .sv (int ((1 + cmHead r1 + cL cBlock r2 : Nat) : Int))), (12, .sv (.tr Zg (eBlockS lb) vg)), (11, .ptr 11 0), (9, .av (fun b => Zn b (.agg [int a0.window, int a0.limit, int a0.newest, .tr Z3x (eSeriesS a0.series) v3x]) ∨ Zn b (.tup [.agg [int r1.window, int r1.limit, int r1.newest, .tr Z3g (eSeriesS r1.series) v3g], .tr Zg (eBlockS r2) vg])) (eBlockS r2)), (8, .av (fun b => Zn b (.agg [int a0.window, int a0.limit, int a0.newest, .tr Z3x (eSeriesS a0.series) v3x]) ∨ Zn b (.tup [.agg [int r1.window, int r1.limit, int r1.newest, .tr Z3g (eSeriesS r1.series) v3g], .tr Zg (eBlockS r2) vg])) (.ptr (eHead r1))), (3, .av (fun b => Zn b (.agg [int a0.window, int a0.limit, int a0.newest, .tr Z3x (eSeriesS a0.series) v3x]) ∨ Zn b (.tup [.agg [int r1.window, int r1.limit, int r1.newest, .tr Z3g (eSeriesS r1.series) v3g], .tr Zg (eBlockS r2) vg])) (.ptr (eHead a0))), (6, .sv (bool false)), (2, .sv (int a2)), (1, .sv (int a1))], [(11, .box [.sv (int r1.window), .sv (int r1.limit), .sv (int r1.newest), .sv (.tr Z3g (eSeriesS ls) v3g)])]⟩) (le_sub ⟨rfl, rfl, rfl, rfl, rfl, rfl, rfl, rfl, rfl, rfl, trivial⟩ ⟨rfl, trivial⟩) ?_
  refine ok_seq fun K36 h36 => ?_
  refine ok_seq fun K37 h37 => ?_
  refine ok_region rfl (q_mv _ rfl (q_bin _ _ _ rfl rfl rfl (run_nil (h37 _ ?_))))
  clear h37 K37
  refine ok_cond rfl (fun c38 => ?_) (fun c38 => ?_)
  · first | (exfalso; simp at c38; done) | (exfalso; have hcc := of_decide_eq_true c38; omega) | (exfalso; simp at c38; omega)
  refine ok_skip (h36 _ ?_)
  refine ok_seq fun K39 h39 => ?_
  refine ok_region rfl (q_mv _ rfl (q_mv _ rfl (q_callp hh2 cl40 ⟨.inr (.inl ⟨_, rfl, .tr _ _ _ _⟩), .inl rfl, trivial⟩ (q_as _ rfl (run_nil (h39 _ ?_))))))
  clear h39 K39
  refine ok_le (σ' := ⟨[(15, .sv (int ((1 + cmHead r1 + cL cBlock r2 : Nat) : Int))), (14, .sv (int ((1 + cmHead r1 + cL cBlock r2 : Nat) : Int))), (12, .sv (.tr Zg (eBlockS lb) vg)), (11, .ptr 11 0), (9, .av (fun b => Zn b (.agg [int a0.window, int a0.limit, int a0.newest, .tr Z3x (eSeriesS a0.series) v3x]) ∨ Zn b (.tup [.agg [int r1.window, int r1.limit, int r1.newest, .tr Z3g (eSeriesS r1.series) v3g], .tr Zg (eBlockS r2) vg])) (eBlockS r2)), (8, .av (fun b => Zn b (.agg [int a0.window, int a0.limit, int a0.newest, .tr Z3x (eSeriesS a0.series) v3x]) ∨ Zn b (.tup [.agg [int r1.window, int r1.limit, int r1.newest, .tr Z3g (eSeriesS r1.series) v3g], .tr Zg (eBlockS r2) vg])) (.ptr (eHead r1))), (3, .av (fun b => Zn b (.agg [int a0.window, int a0.limit, int a0.newest, .tr Z3x (eSeriesS a0.series) v3x]) ∨ Zn b (.tup [.agg [int r1.window, int r1.limit, int r1.newest, .tr Z3g (eSeriesS r1.series) v3g], .tr Zg (eBlockS r2) vg])) (.ptr (eHead a0))), (6, .sv (bool false)), (2, .sv (int a2)), (1, .sv (int a1))], [(11, .box [.sv (int r1.window), .sv (int r1.limit), .sv (int r1.newest), .sv (.tr Z3g (eSeriesS ls) v3g)])]⟩) (le_sub ⟨rfl, rfl, rfl, rfl, rfl, rfl, rfl, rfl, rfl, rfl, trivial⟩ ⟨rfl, trivial⟩) ?_
  refine ok_seq fun K40 h40 => ?_
  refine ok_seq fun K41 h41 => ?_
  refine ok_region rfl (q_mv _ rfl (q_bin _ _ _ rfl rfl rfl (run_nil (h41 _ ?_))))
  clear h41 K41
  refine ok_cond rfl (fun c42 => ?_) (fun c42 => ?_)
  · first | (exfalso; simp at c42; done) | (exfalso; have hcc := of_decide_eq_true c42; omega) | (exfalso; simp at c42; omega)
  refine ok_skip (h40 _ ?_)
  refine ok_seq fun K43 h43 => ?_
  refine ok_seq fun K44 h44 => ?_
  refine ok_region rfl (q_mv _ rfl (q_mv _ rfl (q_bin _ _ _ rfl rfl rfl (run_nil (h44 _ ?_)))))
  clear h44 K44
  refine ok_cond rfl (fun c45 => ?_) (fun c45 => ?_)
  · first | (exfalso; simp at c45; done) | (exfalso; have hcc := of_decide_eq_true c45; omega) | (exfalso; simp at c45; omega)
  refine ok_skip (h43 _ ?_)
  refine ok_seq fun K1 h1 => ok_region rfl (q_as _ rfl (run_nil (h1 _ ?_)))
  exact ok_ret ⟨_, rfl, rfl⟩
end Go.Ring
