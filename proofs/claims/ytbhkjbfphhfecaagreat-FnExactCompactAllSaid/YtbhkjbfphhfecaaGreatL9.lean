/- The law of compacting all. No condition. -/
import Derived.Test.YtbhkjbfphhfecaaGreatU1
import Derived.Test.YtbhkjbfphhfecaaGreatF5
import Derived.Test.YtbhkjbfphhfecaaGreatL8
set_option maxRecDepth 100000
set_option linter.unusedVariables false
set_option linter.unusedSimpArgs false
namespace Go.Ring
open Go Go.RowKit Go.Eager Go.Abs Go.Proofs
theorem resC_inv {base : Int} {l0 : List Block} : ∀ (n : Nat) (l : List Block), mu l ≤ n → CInv base l0 l → CInv base l0 (resC base l)
  | n, l, hn, J => by
    cases hp : planO base l with
    | none => rw [resC_end hp]; exact J
    | some p =>
      obtain ⟨i, j, A, W, L, P⟩ := planO_at J.sh hp
      have h3 : mu (nxt l i j (mrgBk A W L ((l.take j).drop i))) < mu l := nxt_mu P (mrgB ((l.take j).drop i))
      rw [resC_step J.sh hp P]
      cases n with
      | zero => omega
      | succ n => exact resC_inv n _ (by omega) (J.next hp P)
theorem resCA_S (base : Int) {l : List Block} (hl : l.length ≤ 1048576 ∧ ∀ y ∈ l, SBlock y) (hw : wtB l ≤ 1048576) : (resCA base l).length ≤ 100 ∧ ∀ y ∈ resCA base l, SBlock y := by
  unfold resCA
  split
  · rename_i h
    have J := resC_inv (base := base) (l0 := l) (mu l) l (Nat.le_refl _) ⟨of_pB h, hl.2, hw, rfl⟩
    exact ⟨J.len, J.S⟩
  · exact ⟨by simp, by simp⟩
theorem cStone_le {x : Stone} (h : SStone x) : cStone x ≤ 2097154 := by
  have h1 := cL_le (c := cLabel) (m := 2) x.labels fun _ _ => Nat.le_refl _
  have h2 : x.labels.length ≤ 1048576 := h.1
  show cL cLabel x.labels + 1 + 1 ≤ _
  omega
theorem cBlock_all {b : Block} (hb : SBlock b) : cBlock b ≤ 8796093022208 := by
  have h1 := cL_le (c := cSeries) (m := 4194304) b.series fun s hs => cSeries_le (hb.1.2 s hs)
  have h2 := cL_le (c := cStone) (m := 2097154) b.stones fun s hs => cStone_le (hb.2.2 s hs)
  have h3 := hb.1.1
  have h4 := hb.2.1
  show 1 + 1 + 1 + cL cSeries b.series + cL cStone b.stones ≤ _
  omega
theorem resCA_C (base : Int) {l : List Block} (hl : l.length ≤ 1048576 ∧ ∀ y ∈ l, SBlock y) (hw : wtB l ≤ 1048576) : 1 + cL cBlock (resCA base l) ≤ 1152921504606846976 := by
  have h := resCA_S base hl hw
  have h1 := cL_le (c := cBlock) (m := 8796093022208) (resCA base l) fun b hb => cBlock_all (h.2 b hb)
  have h2 := h.1
  omega
theorem resCA_S2 (base : Int) {l : List Block} (hl : l.length ≤ 1048576 ∧ ∀ y ∈ l, SBlock y) (hw : wtB l ≤ 1048576) : (resCA base l).length ≤ 1048576 ∧ ∀ y ∈ resCA base l, SBlock y :=
  ⟨Nat.le_trans (resCA_S base hl hw).1 (by decide), (resCA_S base hl hw).2⟩
theorem f9_ok (a0 : Int) (pa0 : (Lit.int .i64 a0).wf = true) (a1 : List Block) (pa1 : LB a1.length ∧ ∀ y ∈ a1, LBlock y) : PFn Tryz.prog 9 [int a0, eBlockS a1] (bool true) := by
  refine fn_ok' (n := 74) Tryz.func9 rfl rfl rfl (Nat.le_of_ble_eq_true rfl) rfl fun w0 O => ?_
  refine ok_seq fun K1 h1 => ?_
  refine ok_region rfl (q_as _ rfl (run_nil (h1 _ ?_)))
  clear h1 K1
  refine ok_seq fun K2 h2 => ?_
  refine ok_region rfl (q_as _ rfl (run_nil (h2 _ ?_)))
  clear h2 K2
  refine ok_seq fun K3 h3 => ?_
  refine ok_region rfl (q_mv _ rfl (q_mv _ rfl (q_call (f32_ok a1 pa1 1048576 (by decide) (by decide)) cl32 rfl rfl (q_as _ rfl (run_nil (h3 _ ?_))))))
  clear h3 K3
  refine ok_seq fun K4 h4 => ?_
  refine ok_seq fun K5 h5 => ?_
  refine ok_region rfl (q_mv _ rfl (q_bin _ _ _ rfl rfl rfl (run_nil (h5 _ ?_))))
  clear h5 K5
  refine ok_cond rfl (fun c6 => ?_) (fun c6 => ?_)
  · refine ok_seq fun K7 h7 => ?_
    refine ok_region rfl (q_as _ rfl (run_nil (h7 _ ?_)))
    clear h7 K7
    exact ok_ret ⟨_, rfl, rfl⟩
  · have p1 : 0 ≤ zBlockS a1 1048576 := by have := of_decide_eq_false c6; omega
    have u1 : zBlockS a1 1048576 ≤ 1048576 := (zBlockS_ok a1 _ (by decide)).1
    have hs1 := (zBlockS_ok a1 _ (by decide)).2.2 p1
    have kb1 := kc_BlockS a1 _ p1
    have hCg := resCA_C a0 hs1 (zBlockS_wt p1 (by decide))
    refine ok_skip (h4 _ ?_)
    refine ok_seq fun K8 h8 => ?_
    refine ok_region rfl (q_mv _ rfl (q_mv _ rfl (q_call (f34_ok a1 hs1) cl34 rfl rfl (q_call (f43_ok a0 a1 hs1 (zBlockS_wt p1 (by decide))) cl43 rfl rfl (q_as _ rfl (run_nil (h8 _ ?_)))))))
    clear h8 K8
    refine ok_seq fun K9 h9 => ?_
    refine ok_region rfl (q_mv _ rfl (q_callg [6, 1] (f34_t a1 hs1) cl34 ⟨.inl rfl, trivial⟩ (fun r_x0 hr_x0 hz_x0 ha_x0 => ?_)))
    obtain ⟨Zx0, vx0, rfl⟩ := gd_sl_inv hr_x0
    refine q_as _ rfl (run_nil (h9 _ ?_))
    refine ok_le (σ' := ⟨[(7, .sv (.tr Zx0 (eBlockS a1) vx0)), (23, .sv (.tr Zx0 (eBlockS a1) vx0)), (6, .av (fun b => Zn b (.tr Zx0 (eBlockS a1) vx0)) (eBlockS (resCA a0 a1))), (4, .sv (bool false)), (1, .av (fun b => Zn b (.tr Zx0 (eBlockS a1) vx0)) (eBlockS a1)), (0, .sv (int a0))], []⟩) (le_sub ⟨rfl, rfl, rfl, rfl, rfl, rfl, trivial⟩ trivial) ?_
    clear h9 K9
    refine ok_seq fun K10 h10 => ?_
    refine ok_region rfl (q_mv _ rfl (q_mv _ rfl (q_callg [6, 1] (f44_t a0 a1 hs1 (zBlockS_wt p1 (by decide))) cl44 ⟨.inl rfl, .inr (.inl ⟨_, rfl, (.tr _ _ _ _)⟩), trivial⟩ (fun r_g hr_g hz_g ha_g => ?_))))
    obtain ⟨Zg, vg, rfl⟩ := gd_sl_inv hr_g
    have ap_x0_g : ∀ b, Zn b (.tr Zx0 (eBlockS a1) vx0) → ¬ Zn b (.tr Zg (eBlockS (resCA a0 a1)) vg) := fun b h1 h2 => ha_g.1 25 _ b rfl h1 h2
    refine q_as _ rfl (run_nil (h10 _ ?_))
    refine ok_le (σ' := ⟨[(8, .sv (.tr Zg (eBlockS (resCA a0 a1)) vg)), (26, .sv (.tr Zg (eBlockS (resCA a0 a1)) vg)), (7, .sv (.tr Zx0 (eBlockS a1) vx0)), (23, .sv (.tr Zx0 (eBlockS a1) vx0)), (6, .av (fun b => (Zn b (.tr Zx0 (eBlockS a1) vx0)) ∨ Zn b (.tr Zg (eBlockS (resCA a0 a1)) vg)) (eBlockS (resCA a0 a1))), (4, .sv (bool false)), (1, .av (fun b => (Zn b (.tr Zx0 (eBlockS a1) vx0)) ∨ Zn b (.tr Zg (eBlockS (resCA a0 a1)) vg)) (eBlockS a1)), (0, .sv (int a0))], []⟩) (le_sub ⟨rfl, rfl, rfl, rfl, rfl, rfl, rfl, rfl, trivial⟩ trivial) ?_
    clear h10 K10
    refine ok_seq fun K11 h11 => ?_
    refine ok_seq fun K12 h12 => ?_
    refine ok_region rfl (q_mv _ rfl (q_mva rfl (q_callp (f36_ok (resCA a0 a1) (resCA_S2 a0 hs1 (zBlockS_wt p1 (by decide)))) cl36 ⟨.inr (.inl ⟨_, rfl, (.tr _ _ _ _)⟩), .inr (.inr ⟨_, rfl⟩), trivial⟩ (q_un _ _ rfl rfl (run_nil (h12 _ ?_))))))
    clear h12 K12
    refine ok_cond rfl (fun c13 => ?_) (fun c13 => ?_)
    · first | (exfalso; simp at c13; done) | (exfalso; have hcc := of_decide_eq_true c13; omega) | (exfalso; simp at c13; omega)
    · refine ok_skip (h11 _ ?_)
      refine ok_seq fun K14 h14 => ?_
      refine ok_seq fun K15 h15 => ?_
      refine ok_region rfl (q_mv _ rfl (q_mva rfl (q_callq (fun b hb => by cases hb) (f34_ok a1 hs1) cl34 ⟨.inr (.inr ⟨_, rfl⟩), trivial⟩ (q_callp (f36_ok a1 hs1) cl36 ⟨.inr (.inl ⟨_, rfl, (.tr _ _ _ _)⟩), .inl rfl, trivial⟩ (q_un _ _ rfl rfl (run_nil (h15 _ ?_)))))))
      clear h15 K15
      refine ok_cond rfl (fun c16 => ?_) (fun c16 => ?_)
      · first | (exfalso; simp at c16; done) | (exfalso; have hcc := of_decide_eq_true c16; omega) | (exfalso; simp at c16; omega)
      · refine ok_skip (h14 _ ?_)
        refine ok_seq fun K17 h17 => ?_
        refine ok_region rfl (q_as _ rfl (run_nil (h17 _ ?_)))
        clear h17 K17
        refine ok_seq fun K18 h18 => ?_
        refine ok_region rfl (q_mv _ rfl (q_mv _ rfl (q_markg (k := ((1 : Nat) : Int)) (.tr _ _ _ _) (f37_m a1 (⟨(hs1).1, fun y hy => nBlock_of ((hs1).2 y hy)⟩) (1) (by omega) (by omega)) cl37 rfl rfl (fun b hb => .inl (hz_x0 b hb)) [(9, .sv (int 1)), (8, .sv (.tr Zg (eBlockS (resCA a0 a1)) vg)), (26, .sv (.tr Zg (eBlockS (resCA a0 a1)) vg)), (6, .av (fun b => (Zn b (.tr Zx0 (eBlockS a1) vx0)) ∨ Zn b (.tr Zg (eBlockS (resCA a0 a1)) vg)) (eBlockS (resCA a0 a1))), (4, .sv (bool false)), (1, .av (fun b => (Zn b (.tr Zx0 (eBlockS a1) vx0)) ∨ Zn b (.tr Zg (eBlockS (resCA a0 a1)) vg)) (eBlockS a1)), (0, .sv (int a0))] [] ⟨⟨_, rfl, .raw⟩, ⟨_, rfl, .good (.tr _ _ _ _) (fun b hb hb' => ap_x0_g b hb' hb)⟩, ⟨_, rfl, .good (.tr _ _ _ _) (fun b hb hb' => ap_x0_g b hb' hb)⟩, ⟨_, rfl, .av (fun b hb => (.inl hb))⟩, ⟨_, rfl, .raw⟩, ⟨_, rfl, .av (fun b hb => (.inl hb))⟩, ⟨_, rfl, .raw⟩, trivial⟩ trivial (fun k' s' hR => ?_))))
        obtain ⟨rfl, -⟩ := hR
        refine q_as _ rfl (run_nil (h18 _ ?_))
        refine ok_le (σ' := ⟨[(9, .sv (int ((1 + cL cBlock a1 : Nat) : Int))), (8, .sv (.tr Zg (eBlockS (resCA a0 a1)) vg)), (26, .sv (.tr Zg (eBlockS (resCA a0 a1)) vg)), (6, .av (fun b => (Zn b (.tr Zx0 (eBlockS a1) vx0)) ∨ Zn b (.tr Zg (eBlockS (resCA a0 a1)) vg)) (eBlockS (resCA a0 a1))), (4, .sv (bool false)), (1, .av (fun b => (Zn b (.tr Zx0 (eBlockS a1) vx0)) ∨ Zn b (.tr Zg (eBlockS (resCA a0 a1)) vg)) (eBlockS a1)), (0, .sv (int a0))], []⟩) (le_sub ⟨rfl, rfl, rfl, rfl, rfl, rfl, rfl, trivial⟩ trivial) ?_
        clear h18 K18
        refine ok_seq fun K19 h19 => ?_
        refine ok_seq fun K20 h20 => ?_
        refine ok_region rfl (q_mv _ rfl (q_bin _ _ _ rfl rfl rfl (q_mv _ rfl (q_or 4 4 rfl rfl rfl rfl rfl (fun hb46 =>q_mv _ rfl (q_mva rfl (q_callp (f36_ok (resCA a0 a1) (resCA_S2 a0 hs1 (zBlockS_wt p1 (by decide)))) cl36 ⟨.inr (.inl ⟨_, rfl, (.tr _ _ _ _)⟩), .inr (.inr ⟨_, rfl⟩), trivial⟩ (q_un _ _ rfl rfl (run_nil ⟨rfl, rfl, rfl, rfl⟩))))) (run_nil (h20 _ ?_))))))
        clear h20 K20
        refine ok_cond rfl (fun c21 => ?_) (fun c21 => ?_)
        · first | (exfalso; simp at c21; done) | (exfalso; have hcc := of_decide_eq_true c21; omega) | (exfalso; simp at c21; omega)
        · refine ok_skip (h19 _ ?_)
          refine ok_seq fun K22 h22 => ?_
          refine ok_region rfl (q_as _ rfl (run_nil (h22 _ ?_)))
          refine ok_le (σ' := ⟨[(10, .sv (int 1)), (9, .sv (int ((1 + cL cBlock a1 : Nat) : Int))), (8, .sv (.tr Zg (eBlockS (resCA a0 a1)) vg)), (26, .sv (.tr Zg (eBlockS (resCA a0 a1)) vg)), (6, .av (fun b => (Zn b (.tr Zx0 (eBlockS a1) vx0)) ∨ Zn b (.tr Zg (eBlockS (resCA a0 a1)) vg)) (eBlockS (resCA a0 a1))), (4, .sv (bool false)), (1, .av (fun b => (Zn b (.tr Zx0 (eBlockS a1) vx0)) ∨ Zn b (.tr Zg (eBlockS (resCA a0 a1)) vg)) (eBlockS a1)), (0, .sv (int a0))], []⟩) (le_sub ⟨rfl, rfl, rfl, rfl, rfl, rfl, rfl, rfl, trivial⟩ trivial) ?_
          clear h22 K22
          refine ok_seq fun K23 h23 => ?_
          refine ok_region rfl (q_mv _ rfl (q_mv _ rfl (q_mark (k := ((1 : Nat) : Int)) (f37_m (resCA a0 a1) (⟨((resCA_S2 a0 hs1 (zBlockS_wt p1 (by decide)))).1, fun y hy => nBlock_of (((resCA_S2 a0 hs1 (zBlockS_wt p1 (by decide)))).2 y hy)⟩) 1 (by decide) hCg) cl37 rfl rfl (fun b hb => .inl (hz_g b (.tr _ _ _ hb))) (fun s' => [(48, .sv (int 1)), (47, .dead), (10, .sv (int 1)), (9, .sv (int ((1 + cL cBlock a1 : Nat) : Int))), (8, .sv (.tr Zg s' vg)), (26, .sv (.tr Zg s' vg)), (6, .av (fun b => (Zn b (.tr Zx0 (eBlockS a1) vx0)) ∨ Zn b (.tr Zg (eBlockS (resCA a0 a1)) vg)) (eBlockS (resCA a0 a1))), (4, .sv (bool false)), (1, .av (fun b => (Zn b (.tr Zx0 (eBlockS a1) vx0)) ∨ Zn b (.tr Zg (eBlockS (resCA a0 a1)) vg)) (eBlockS a1)), (0, .sv (int a0))]) (fun s' => []) (fun s' => ⟨rfl, .sv (.raw _), rfl, .dead, rfl, .sv (.raw _), rfl, .sv (.raw _), rfl, .sv .same, rfl, .sv .same, rfl, .av (fun b hb => (.inr (.tr _ _ _ hb))), rfl, .sv (.raw _), rfl, .av (fun b hb => (.inr (.tr _ _ _ hb))), rfl, .sv (.raw _), trivial⟩) (fun s' => trivial) (fun k' s' hR => ?_))))
          obtain ⟨rfl, lg, rfl, hhg, hcg, hmg⟩ := hR
          refine q_as _ rfl (run_nil (h23 _ ?_))
          clear h23 K23
          refine ok_seq fun K24 h24 => ?_
          refine ok_region rfl (q_as _ rfl (run_nil (h24 _ ?_)))
          refine ok_le (σ' := ⟨[(11, .sv (int 1)), (10, .sv (int ((1 + cL cBlock (resCA a0 a1) : Nat) : Int))), (9, .sv (int ((1 + cL cBlock a1 : Nat) : Int))), (8, .sv (.tr Zg (eBlockS lg) vg)), (26, .sv (.tr Zg (eBlockS lg) vg)), (6, .av (fun b => (Zn b (.tr Zx0 (eBlockS a1) vx0)) ∨ Zn b (.tr Zg (eBlockS (resCA a0 a1)) vg)) (eBlockS (resCA a0 a1))), (4, .sv (bool false)), (1, .av (fun b => (Zn b (.tr Zx0 (eBlockS a1) vx0)) ∨ Zn b (.tr Zg (eBlockS (resCA a0 a1)) vg)) (eBlockS a1)), (0, .sv (int a0))], []⟩) (le_sub ⟨rfl, rfl, rfl, rfl, rfl, rfl, rfl, rfl, rfl, trivial⟩ trivial) ?_
          clear h24 K24
          refine ok_seq fun K25 h25 => ?_
          refine ok_region rfl (q_mv _ rfl (q_mv _ rfl (q_callp (show PFn Tryz.prog 40 [eBlockS lg, int ((1 : Nat) : Int)] (int ((1 + cL cBlock (resCA a0 a1) : Nat) : Int)) from by have h9 := f40_h lg hmg 1 (by decide) (by rw [hcg]; exact hCg) hhg; rw [hcg] at h9; exact h9) cl40 ⟨.inr (.inl ⟨_, rfl, .tr _ _ _ _⟩), .inl rfl, trivial⟩ (q_as _ rfl (run_nil (h25 _ ?_))))))
          clear h25 K25
          refine ok_seq fun K26 h26 => ?_
          refine ok_seq fun K27 h27 => ?_
          refine ok_region rfl (q_mv _ rfl (q_bin _ _ _ rfl rfl rfl (run_nil (h27 _ ?_))))
          clear h27 K27
          refine ok_cond rfl (fun c28 => ?_) (fun c28 => ?_)
          · first | (exfalso; simp at c28; done) | (exfalso; have hcc := of_decide_eq_true c28; omega) | (exfalso; simp at c28; omega)
          · refine ok_skip (h26 _ ?_)
            refine ok_seq fun K29 h29 => ?_
            refine ok_seq fun K30 h30 => ?_
            refine ok_region rfl (q_mv _ rfl (q_mv _ rfl (q_bin _ _ _ rfl rfl rfl (run_nil (h30 _ ?_)))))
            clear h30 K30
            refine ok_cond rfl (fun c31 => ?_) (fun c31 => ?_)
            · first | (exfalso; simp at c31; done) | (exfalso; have hcc := of_decide_eq_true c31; omega) | (exfalso; simp at c31; omega)
            · refine ok_skip (h29 _ ?_)
              refine ok_seq fun K32 h32 => ?_
              refine ok_region rfl (q_mv _ rfl (q_mva rfl (q_callq (fun b hb => by cases hb) (f34_ok a1 hs1) cl34 ⟨.inr (.inr ⟨_, rfl⟩), trivial⟩ (q_callg [] (f44_t a0 a1 hs1 (zBlockS_wt p1 (by decide))) cl44 ⟨.inl rfl, .inl rfl, trivial⟩ (fun r_h hr_h hz_h ha_h => ?_)))))
              obtain ⟨Zh, vh, rfl⟩ := gd_sl_inv hr_h
              refine q_as _ rfl (run_nil (h32 _ ?_))
              refine ok_le (σ' := ⟨[(12, .sv (.tr Zh (eBlockS (resCA a0 a1)) vh)), (61, .sv (.tr Zh (eBlockS (resCA a0 a1)) vh)), (11, .sv (int ((1 + cL cBlock (resCA a0 a1) : Nat) : Int))), (10, .sv (int ((1 + cL cBlock (resCA a0 a1) : Nat) : Int))), (9, .sv (int ((1 + cL cBlock a1 : Nat) : Int))), (8, .sv (.tr Zg (eBlockS lg) vg)), (26, .sv (.tr Zg (eBlockS lg) vg)), (6, .av (fun b => (Zn b (.tr Zx0 (eBlockS a1) vx0)) ∨ Zn b (.tr Zg (eBlockS (resCA a0 a1)) vg)) (eBlockS (resCA a0 a1))), (4, .sv (bool false)), (1, .av (fun b => (Zn b (.tr Zx0 (eBlockS a1) vx0)) ∨ Zn b (.tr Zg (eBlockS (resCA a0 a1)) vg)) (eBlockS a1)), (0, .sv (int a0))], []⟩) (le_sub ⟨rfl, rfl, rfl, rfl, rfl, rfl, rfl, rfl, rfl, rfl, rfl, trivial⟩ trivial) ?_
              clear h32 K32
              refine ok_seq fun K33 h33 => ?_
              refine ok_seq fun K34 h34 => ?_
              refine ok_region rfl (q_mv _ rfl (q_mva rfl (q_callp (f36_ok (resCA a0 a1) (resCA_S2 a0 hs1 (zBlockS_wt p1 (by decide)))) cl36 ⟨.inr (.inl ⟨_, rfl, (.tr _ _ _ _)⟩), .inr (.inr ⟨_, rfl⟩), trivial⟩ (q_un _ _ rfl rfl (run_nil (h34 _ ?_))))))
              clear h34 K34
              refine ok_cond rfl (fun c35 => ?_) (fun c35 => ?_)
              · first | (exfalso; simp at c35; done) | (exfalso; have hcc := of_decide_eq_true c35; omega) | (exfalso; simp at c35; omega)
              · refine ok_skip (h33 _ ?_)
                refine ok_seq fun K36 h36 => ?_
                refine ok_region rfl (q_as _ rfl (run_nil (h36 _ ?_)))
                refine ok_le (σ' := ⟨[(11, .sv (int 1)), (12, .sv (.tr Zh (eBlockS (resCA a0 a1)) vh)), (61, .sv (.tr Zh (eBlockS (resCA a0 a1)) vh)), (10, .sv (int ((1 + cL cBlock (resCA a0 a1) : Nat) : Int))), (9, .sv (int ((1 + cL cBlock a1 : Nat) : Int))), (8, .sv (.tr Zg (eBlockS lg) vg)), (26, .sv (.tr Zg (eBlockS lg) vg)), (6, .av (fun b => (Zn b (.tr Zx0 (eBlockS a1) vx0)) ∨ Zn b (.tr Zg (eBlockS (resCA a0 a1)) vg)) (eBlockS (resCA a0 a1))), (4, .sv (bool false)), (1, .av (fun b => (Zn b (.tr Zx0 (eBlockS a1) vx0)) ∨ Zn b (.tr Zg (eBlockS (resCA a0 a1)) vg)) (eBlockS a1)), (0, .sv (int a0))], []⟩) (le_sub ⟨rfl, rfl, rfl, rfl, rfl, rfl, rfl, rfl, rfl, rfl, rfl, trivial⟩ trivial) ?_
                clear h36 K36
                refine ok_seq fun K37 h37 => ?_
                refine ok_region rfl (q_mv _ rfl (q_mv _ rfl (q_callp (show PFn Tryz.prog 40 [eBlockS lg, int ((1 : Nat) : Int)] (int ((1 + cL cBlock (resCA a0 a1) : Nat) : Int)) from by have h9 := f40_h lg hmg 1 (by decide) (by rw [hcg]; exact hCg) hhg; rw [hcg] at h9; exact h9) cl40 ⟨.inr (.inl ⟨_, rfl, .tr _ _ _ _⟩), .inl rfl, trivial⟩ (q_as _ rfl (run_nil (h37 _ ?_))))))
                clear h37 K37
                refine ok_seq fun K38 h38 => ?_
                refine ok_seq fun K39 h39 => ?_
                refine ok_region rfl (q_mv _ rfl (q_bin _ _ _ rfl rfl rfl (run_nil (h39 _ ?_))))
                clear h39 K39
                refine ok_cond rfl (fun c40 => ?_) (fun c40 => ?_)
                · first | (exfalso; simp at c40; done) | (exfalso; have hcc := of_decide_eq_true c40; omega) | (exfalso; simp at c40; omega)
                · refine ok_skip (h38 _ ?_)
                  refine ok_seq fun K41 h41 => ?_
                  refine ok_seq fun K42 h42 => ?_
                  refine ok_region rfl (q_mv _ rfl (q_mv _ rfl (q_bin _ _ _ rfl rfl rfl (run_nil (h42 _ ?_)))))
                  clear h42 K42
                  refine ok_cond rfl (fun c43 => ?_) (fun c43 => ?_)
                  · first | (exfalso; simp at c43; done) | (exfalso; have hcc := of_decide_eq_true c43; omega) | (exfalso; simp at c43; omega)
                  · refine ok_skip (h41 _ ?_)
                    refine ok_seq fun K44 h44 => ?_
                    refine ok_region rfl (q_as _ rfl (run_nil (h44 _ ?_)))
                    refine ok_le (σ' := ⟨[(4, .sv (bool true)), (11, .sv (int ((1 + cL cBlock (resCA a0 a1) : Nat) : Int))), (12, .sv (.tr Zh (eBlockS (resCA a0 a1)) vh)), (61, .sv (.tr Zh (eBlockS (resCA a0 a1)) vh)), (10, .sv (int ((1 + cL cBlock (resCA a0 a1) : Nat) : Int))), (9, .sv (int ((1 + cL cBlock a1 : Nat) : Int))), (8, .sv (.tr Zg (eBlockS lg) vg)), (26, .sv (.tr Zg (eBlockS lg) vg)), (6, .av (fun b => (Zn b (.tr Zx0 (eBlockS a1) vx0)) ∨ Zn b (.tr Zg (eBlockS (resCA a0 a1)) vg)) (eBlockS (resCA a0 a1))), (1, .av (fun b => (Zn b (.tr Zx0 (eBlockS a1) vx0)) ∨ Zn b (.tr Zg (eBlockS (resCA a0 a1)) vg)) (eBlockS a1)), (0, .sv (int a0))], []⟩) (le_sub ⟨rfl, rfl, rfl, rfl, rfl, rfl, rfl, rfl, rfl, rfl, rfl, trivial⟩ trivial) ?_
                    clear h44 K44
                    exact ok_ret ⟨_, rfl, rfl⟩
end Go.Ring
