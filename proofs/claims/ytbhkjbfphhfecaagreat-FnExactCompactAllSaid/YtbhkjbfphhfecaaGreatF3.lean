/- Blocks laid together as one, out of a plan; a plan that may be nil. No condition beyond the sizes. -/
import Derived.Test.YtbhkjbfphhfecaaGreatF2
set_option maxRecDepth 100000
set_option linter.unusedVariables false
set_option linter.unusedSimpArgs false
namespace Go.Abs
open Go Go.RowKit Go.Eager
section
variable {Γ : Ctx} {ops : Array Oper} {l : List (Oper × Nat)} {t : List (Nat × LV)} {h : List (Nat × Ent)} {K : St → Prop} {c d ty : Nat} {ps : String} {af : Array Edge} {x y : Operand}
/-- Is a copy nil? -/
theorem q_eqnt {n S e t2 : Nat} {r : List SV} {Z : Nat → Prop} {v : Value} (hu : Γ.P.underlying S = some (.slice e)) (hx : St.ev ⟨t, h⟩ x = .sv (.tr Z (.sl n r) v)) (hk : ∀ b : Bool, (b = true → r = []) → (v = .slice none 0 0 → b = true) → RunL Γ ops l ⟨(d, .sv (.raw (.bool b))) :: t, h⟩ K) :
    RunL Γ ops ((⟨some d, .binOp .eql S x (.const (.slice none 0 0)) t2, ty, ps, af, none⟩, c + 2) :: l) ⟨t, h⟩ K := by
  refine run_x (ext := True) rfl (by omega) (fun _ => trivial) fun a w ρ I hd => ?_
  have hX := I.ev x
  rw [hx] at hX
  have hX' : Rep w (Own Γ h ρ) (.tr Z (.sl n r) v) (a.eval x) := hX
  generalize hv : a.eval x = u at hX'
  cases hX' with
  | tr _ _ _ hT hZ =>
    have hshape : ∃ p m cc, v = .slice p m cc ∧ (p.isNone = true → r = []) := by
      cases hT with
      | nil _ _ p m => exact ⟨_, _, _, rfl, fun _ => rfl⟩
      | sl => exact ⟨_, _, _, rfl, fun h => by simp at h⟩
    obtain ⟨p, m, cc, rfl, hpr⟩ := hshape
    have run : (execOp a.eval ⟨some d, .binOp .eql S x (.const (.slice none 0 0)) t2, ty, ps, af, none⟩).run Γ.P w = .ok (.value (.bool p.isNone)) w := by
      have hc2 : a.eval (.const (.slice none 0 0)) = .slice none 0 0 := rfl
      have hun : (underlying S).run Γ.P w = .ok (.slice e) w := by simp [underlying, hu]
      have : (Op.equal S (.slice p m cc) (.slice none 0 0)).run Γ.P w = .ok p.isNone w := by
        unfold Op.equal
        rw [show Op.maxDepth = (Op.maxDepth - 1) + 1 from rfl, Op.equalIn]
        cases p <;> simp [hun]
      have hg : (eqGuard .eql S x (.const (.slice none 0 0)) (.slice p m cc) (.slice none 0 0)).run Γ.P w = .ok () w := by simp [eqGuard]
      simp [execOp, hv, hc2, hg, binOp, this]
    unfold XOk oN
    rw [run]
    exact ⟨_, hk p.isNone hpr (fun hp => by cases hp; rfl), ⟨ρ, I.put (d := some d) (by simpa [dstOk] using hd) (Rep.raw _)⟩, fun _ => Ext.refl w⟩
end
/-- A copy in a slot, read as what it is a copy of. -/
theorem le_gd {Γ : Ctx} {t : List (Nat × LV)} {h : List (Nat × Ent)} {r s : SV} (k : Nat) (hk : t.lookup k = some (.sv r)) (g : Gd r s) : Le Γ ⟨(k, .sv s) :: t, h⟩ ⟨t, h⟩ := by
  rintro a w ⟨ρ, I⟩
  refine ⟨ρ, I.dfr, I.size, I.frm, fun t' lv hl => ?_, I.ent, I.new, I.sep, I.out, I.inn⟩
  rw [List.lookup_cons] at hl
  cases hq : (t' == k) with
  | true =>
    simp only [hq, Option.some.injEq] at hl
    subst hl
    have e : t' = k := by simpa using hq
    subst e
    exact g.rep (I.tmp t' _ hk)
  | false => simp only [hq] at hl; exact I.tmp t' lv hl
end Go.Abs
namespace Go.Ring
open Go Go.RowKit Go.Eager Go.Abs Go.Proofs
/-- A plan: nil, if it is of nothing. -/
def PlR (base : Int) (l : List Block) (r : SV) : Prop := ∃ Z v, r = .tr Z (ints (planR base l)) v ∧ (planR base l = [] → v = .slice none 0 0)
theorem f42_n (base : Int) (l : List Block) (hl : l.length ≤ 1048576 ∧ ∀ y ∈ l, SBlock y) (hw : wtB l ≤ 1048576) : PFnR Tryz.prog 42 [int base, eBlockS l] (PlR base l) := by
  refine fnp_ok (n := 88) Tryz.func42 rfl rfl rfl (Nat.le_of_ble_eq_true rfl) rfl fun w0 O => ?_
  have hll := hl.1
  refine ok_seq fun K1 h1 => ok_region rfl (q_as _ rfl (run_nil (h1 _ ?_))); clear h1 K1
  refine ok_seq fun K2 h2 => ?_
  refine ok_seq fun K3 h3 => ok_region rfl (q_mv _ rfl (q_mv _ rfl (q_call (f88_ok base l hl) cl88 rfl rfl (q_un _ _ rfl rfl (run_nil (h3 _ ?_)))))); clear h3 K3
  refine ok_cond rfl (fun c4 => ?_) (fun c4 => ?_)
  · have e : planR base l = [] := by
      unfold planR
      rw [if_neg]
      intro g
      rw [g] at c4
      exact absurd c4 (by decide)
    refine ok_seq fun K5 h5 => ?_
    refine ok_region rfl (q_as _ rfl (run_nil (h5 _ ?_)))
    clear h5 K5
    exact ok_nilT 1 (ok_ret ⟨_, ⟨_, _, rfl, rfl, rfl⟩, ⟨_, _, by rw [e]; rfl, fun _ => rfl⟩, fun b hb => (zn_tr hb).elim⟩)
  · have g1 : pB (ShelfOk base l) = true := by simpa using c4
    have hsh := of_pB g1
    have hb0 : 1 ≤ base ∧ base ≤ 1000000 := ⟨hsh.1, hsh.2.1⟩
    have hkb := shelf_blocks hsh
    have eR : planR base l = (planO base l).getD [] := by unfold planR; rw [if_pos g1]
    refine ok_skip (h2 _ ?_)
    refine ok_seq fun K6 h6 => ?_
    refine ok_seq fun K7 h7 => ok_region rfl (q_alloc _ ze3 rfl rfl rfl rfl (q_st (.sv (int 2)) sz3 rfl rfl (Nat.le_of_ble_eq_true rfl) rfl ⟨_, rfl, rfl⟩ rfl (run_nil (h7 _ ?_)))); clear h7 K7
    refine ok_block ?_
    refine ok_loop (fun (n : Nat) => ⟨[(0, .sv (int base)), (1, .sv (eBlockS l)), (5, .ptr 5 0)], [(5, .box [.sv (int (n : Int))])]⟩) (fun n => 2 ≤ n ∧ n ≤ 5 ∧ ∀ m : Nat, 2 ≤ m → m < n → planL base m l = none) (fun n => 5 - n) 2 ⟨by omega, by omega, fun m h1 h2 => by omega⟩ (le_sub ⟨rfl, rfl, rfl, trivial⟩ ⟨rfl, trivial⟩) (fun n J => ?_)
    obtain ⟨n2, n5, hprev⟩ := J
    refine ok_seq fun K8 h8 => ?_
    refine ok_seq fun K9 h9 => ok_region rfl (q_ldb (.sv (int (n : Int))) ag3 rfl rfl rfl (q_bin _ _ _ rfl rfl rfl (run_nil (h9 _ ?_)))); clear h9 K9
    refine ok_cond rfl (fun c10 => ?_) (fun c10 => ?_)
    · refine ok_skip (h8 _ ?_)
      have n4 : n ≤ 4 := by have := of_decide_eq_true (p := (n : Int) ≤ 4) c10; omega
      obtain ⟨w1, w2⟩ := wid_ok (L := (n : Int)) hb0 (by omega)
      generalize hW : widI base (n : Int) = W at *
      refine ok_seq fun K11 h11 => ?_
      refine ok_block ?_
      refine Ok.le (le_fb 5 [int (n : Int)] rfl rfl (by simp)) (Ok.le (le_p1 5 rfl rfl) ?_)
      refine ok_seq fun K12 h12 => ok_region rfl (q_mv _ rfl (q_ld (int (n : Int)) ag3 rfl rfl (q_call (show PFn Tryz.prog 93 [int base, int (n : Int)] (int W) from by rw [← hW]; exact f93_ok base n) cl93 rfl rfl (q_as _ rfl (run_nil (h12 _ ?_)))))); clear h12 K12
      refine ok_seq fun K13 h13 => ok_region rfl (q_as _ rfl (run_nil (h13 _ ?_))); clear h13 K13
      refine ok_seq fun K14 h14 => ok_region rfl (q_mv _ rfl (q_len eS53 rfl (q_mv _ rfl (run_nil (h14 _ ?_))))); clear h14 K14
      rw [List.length_map]
      refine ok_block ?_
      refine ok_loop (fun (s : Nat × Int) => ⟨[(0, .sv (int base)), (1, .sv (eBlockS l)), (5, .sv (.ptr (int (n : Int)))), (6, .sv (int W)), (7, .sv (int s.2)), (26, .sv (eBlockS l)), (27, .sv (int l.length)), (28, .sv (int s.1))], []⟩) (fun s => (l.take s.1).findSome? (tryB base n l) = none ∧ (s.2 = -1 ∨ ∃ b' ∈ l, b'.level = n - 1 ∧ b'.from_ / W * W = s.2 ∧ tryB base n l b' = none)) (fun s => l.length - s.1) (0, -1) ⟨by simp, .inl rfl⟩ (le_same ⟨rfl, rfl, rfl, rfl, rfl, rfl, rfl, rfl, trivial⟩) (fun s J => ?_)
      obtain ⟨k, last⟩ := s
      obtain ⟨j1, j2⟩ := J
      simp only at j1 j2
      refine ok_seq fun K15 h15 => ok_region rfl (q_bin _ _ _ rfl rfl rfl (run_nil (h15 _ ?_))); clear h15 K15
      refine ok_seq fun K16 h16 => ?_
      refine ok_cond rfl (fun c17 => ?_) (fun c17 => ?_)
      · refine ok_skip (h16 _ ?_)
        have hk : k < l.length := by simpa using c17
        obtain ⟨b, hb⟩ := sget hk
        have hbm := smem hb
        have kb := hkb b hbm
        have t1 : 0 ≤ b.from_ := kb.1.1
        have t2 : b.from_ ≤ 1000000000000 := kb.1.2
        have d1 : 0 ≤ b.from_ / W * W := Int.mul_nonneg (Int.ediv_nonneg t1 (by omega)) (by omega)
        have d2 : b.from_ / W * W ≤ b.from_ := Int.ediv_mul_le b.from_ (Int.ne_of_gt w1)
        have d0 : 0 ≤ b.from_ / W := Int.ediv_nonneg t1 (by omega)
        obtain ⟨y, hy⟩ := sget (l := l) (i := l.length - 1) (by omega)
        have hyl : lastF l = y.from_ := by unfold lastF; rw [hy]
        have hln : l.length ≠ 0 := by omega
        have hstep : ∀ q, tryB base n l b = q → (l.take (k + 1)).findSome? (tryB base n l) = q := fun q hq => by rw [find_step hb j1, hq]
        generalize hA : b.from_ / W * W = A at *
        refine ok_seq_join (fun (v : Int) => ⟨[(0, .sv (int base)), (1, .sv (eBlockS l)), (5, .sv (.ptr (int (n : Int)))), (6, .sv (int W)), (7, .sv (int v)), (26, .sv (eBlockS l)), (27, .sv (int l.length)), (28, .sv (int k))], []⟩) (fun v => tryB base n l b = none ∧ (v = -1 ∨ ∃ b' ∈ l, b'.level = n - 1 ∧ b'.from_ / W * W = v ∧ tryB base n l b' = none)) ?_ (fun v J => ?_)
        · refine ok_block ?_
          refine ok_seq fun K18 h18 => ok_region rfl (q_ia el53 rfl rfl (by omega) (mget (f := eBlock) hb) (q_lds _ ag34 rfl sz34 (q_alloc _ ze34 rfl rfl rfl rfl (q_sts _ rfl rfl rfl sz34 (Nat.le_of_ble_eq_true rfl) rfl (run_nil (h18 _ ?_)))))); clear h18 K18
          refine ok_seq fun K19 h19 => ok_region rfl (q_fap fd34_0 rfl (by decide) (q_ldb (.sv (int b.from_)) ag3 rfl rfl rfl (q_mv _ rfl (q_div rfl rfl (by omega) (q_mv _ rfl (q_mul rfl rfl (by rw [hA]; omega) (q_as _ rfl (run_nil (h19 _ ?_))))))))); clear h19 K19
          rw [hA]
          refine ok_seq fun K20 h20 => ?_
          refine ok_seq fun K21 h21 => ?_
          refine ok_region rfl (q_fap fd34_2 rfl (by decide) (q_ldb (.sv (int b.level)) ag3 rfl rfl rfl (q_ld (int (n : Int)) ag3 rfl rfl (q_sub rfl rfl (by omega) (q_bin _ _ _ rfl rfl rfl (q_mv _ rfl (q_or 3 3 rfl rfl rfl rfl rfl (fun hb47 =>
              q_mv _ rfl (q_mv _ rfl (q_bin _ _ _ rfl rfl rfl (run_nil ⟨rfl, rfl, rfl, rfl⟩)))) (
            q_mv _ rfl (q_or 11 11 rfl rfl rfl rfl rfl (fun hb60 =>
              q_mv _ rfl (q_mv _ rfl (q_len eS53 rfl (q_sub rfl rfl (by rw [List.length_map]; omega) (q_ia el53 rfl rfl (by rw [List.length_map]; omega) (lget (f := eBlock) hy hln) (q_fa _ fd34_0 rfl rfl (by decide) (q_ld _ ag3 rfl rfl (q_mv _ rfl (
              q_mv _ rfl (q_add rfl rfl (by omega) (q_bin _ _ _ rfl rfl rfl (run_nil ⟨rfl, rfl, rfl, rfl⟩)))))))))))) (
            run_nil (h21 _ ?_)))))))))))
          clear h21 K21
          refine ok_cond rfl (fun c22 => ?_) (fun c22 => ?_)
          · refine ok_exit ⟨last, ⟨?_, j2⟩, le_sub ⟨rfl, rfl, rfl, rfl, rfl, rfl, rfl, rfl, trivial⟩ trivial⟩
            simp only [Bool.or_eq_true, Bool.not_eq_true', decide_eq_true_eq, decide_eq_false_iff_not] at c22
            by_cases hlv : b.level = (n : Int) - 1
            · rcases c22 with (c | c) | c
              · exact absurd hlv c
              · rcases j2 with h | ⟨b', hb', e1, e2, e3⟩
                · omega
                · rw [tryB_span hlv e1 (by rw [hW, hA, e2]; exact c)]; exact e3
              · unfold tryB
                rw [if_neg]
                rintro ⟨_, h, _⟩
                rw [hW, hA, hyl] at h
                omega
            · unfold tryB
              rw [if_neg]
              rintro ⟨h, _⟩
              exact hlv h
          · simp only [Bool.or_eq_false_iff, Bool.not_eq_false', decide_eq_true_eq, decide_eq_false_iff_not] at c22
            obtain ⟨⟨lv0, lne⟩, lst⟩ := c22
            have lv : b.level = (n : Int) - 1 := by omega
            have hxs := ixF_len (inI A W) l 0
            have hpk : (ixF (inI A W) l 0).filterMap (fun i => l[i.toNat]?) = l.filter (inI A W) := ixF_pick (inI A W) l l 0 rfl
            have hS := filter_S hl (inI A W)
            have hwf := Nat.le_trans (wtB_filter (inI A W) l) hw
            have hin : ∀ i ∈ ixF (inI A W) l 0, 0 ≤ i ∧ i < l.length := fun i hi => by
              obtain ⟨g1, g2, _⟩ := ixF_in _ _ _ _ hi
              exact ⟨by omega, by omega⟩
            refine ok_skip (h20 _ ?_)
            refine ok_seq fun K23 h23 => ok_region rfl (q_mv _ rfl (q_as _ rfl (run_nil (h23 _ ?_)))); clear h23 K23
            refine ok_seq fun K24 h24 => ok_region rfl (q_mv _ rfl (q_mv _ rfl (q_mv _ rfl (q_mv _ rfl (q_add rfl rfl (by omega) (q_callr (show PFnT Tryz.prog 94 [eBlockS l, int A, int (A + W)] (ints (ixF (inI A W) l 0)) from f94_t l hll A (A + W)) cl94 rfl (fun r1 hr1 hz1 ha1 => ?_)))))))
            obtain ⟨Z1, v1, rfl⟩ := gd_sl_inv hr1
            refine q_as _ rfl (run_nil (h24 _ ?_)); clear h24 K24
            refine ok_seq fun K25 h25 => ok_region rfl (q_mv _ rfl (q_mv _ rfl (q_callq (r := eBlockS (l.filter (inI A W))) (fun b hb => by cases hb) (show PFn Tryz.prog 95 [eBlockS l, ints (ixF (inI A W) l 0)] (eBlockS (l.filter (inI A W))) from by rw [← hpk]; exact f95_ok l _ (by omega) hin) cl95 ⟨.inl rfl, .inr (.inl ⟨_, rfl, .tr _ _ _ _⟩), trivial⟩ (q_as _ rfl (run_nil (h25 _ ?_)))))); clear h25 K25
            refine ok_seq fun K26 h26 => ?_
            refine ok_seq fun K27 h27 => ok_region rfl (q_mv _ rfl (q_mkf (ss := [.ptr (int (n : Int))]) rfl (q_call (f96_ok (l.filter (inI A W)) hS.1 (fun x => decide ((n : Int) ≤ x.level)) 97 _ cl97 (fun u _ => f97_ok u n)) cl96 rfl rfl (run_nil (h27 _ ?_))))); clear h27 K27
            refine ok_cond rfl (fun c28 => ?_) (fun c28 => ?_)
            · have hnone : tryB base n l b = none := by
                unfold tryB
                rw [if_neg]
                rintro ⟨_, _, h, _⟩
                rw [hW, hA] at h
                rw [c28] at h
                cases h
              exact ok_exit ⟨A, ⟨hnone, .inr ⟨b, hbm, lv, hA, hnone⟩⟩, le_sub ⟨rfl, rfl, rfl, rfl, rfl, rfl, rfl, rfl, trivial⟩ trivial⟩
            · refine ok_skip (h26 _ ?_)
              refine ok_seq fun K29 h29 => ?_
              refine ok_region rfl (q_mv _ rfl (q_mv _ rfl (q_mv _ rfl (q_mv _ rfl (q_add rfl rfl (by omega) (q_ld (int (n : Int)) ag3 rfl rfl (q_callr (f98_t (l.filter (inI A W)) hS hwf A (A + W) n) cl98 rfl (fun r2 hr2 hz2 ha2 => ?_))))))))
              obtain ⟨rb, rfl, hgb⟩ := hr2
              obtain ⟨Z3, v3, Z4, v4, rfl, d34⟩ := gi_Block hgb
              refine q_mv _ rfl (q_ext _ rfl rfl (
                q_ext _ rfl rfl (q_alloc _ ze34 rfl rfl rfl rfl (q_sts _ rfl rfl rfl sz34 (Nat.le_of_ble_eq_true rfl) rfl (q_as _ rfl (run_nil (h29 _ ?_)))))))
              clear h29 K29
              refine ok_seq fun K30 h30 => ok_region rfl (q_mv _ rfl (run_nil (h30 _ ?_))); clear h30 K30
              refine ok_cond rfl (fun c31 => ?_) (fun c31 => ?_)
              · have hhit : tryB base n l b = some (ixF (inI A W) l 0) := by
                  unfold tryB
                  rw [hW, hA, if_pos ⟨lv, by rw [hyl]; omega, c28, c31⟩]
                have hplan : planR base l = ixF (inI A W) l 0 := by
                  rw [eR, planO_hit ⟨n2, n4⟩ hprev (find_hit hb j1 hhit)]; rfl
                refine ok_seq fun K32 h32 => ?_
                refine ok_region rfl (q_mv _ rfl (q_as _ rfl (run_nil (h32 _ ?_))))
                clear h32 K32
                exact ok_ret ⟨_, ⟨_, _, rfl, rfl, rfl⟩, ⟨Z1, v1, by rw [hplan]; rfl, fun h => absurd (hplan.symm.trans h) (planO_ne hsh (planO_hit ⟨n2, n4⟩ hprev (find_hit hb j1 hhit)))⟩, hz1⟩
              · have hnone : tryB base n l b = none := by
                  unfold tryB
                  rw [if_neg]
                  rintro ⟨_, _, _, h⟩
                  rw [hW, hA] at h
                  rw [c31] at h
                  cases h
                exact ok_skip ⟨A, ⟨hnone, .inr ⟨b, hbm, lv, hA, hnone⟩⟩, le_sub ⟨rfl, rfl, rfl, rfl, rfl, rfl, rfl, rfl, trivial⟩ trivial⟩
        · obtain ⟨i1, i2⟩ := J
          refine ok_last fun K33 h33 => ok_region rfl (
            q_add rfl rfl (by omega) (q_mv _ rfl (run_nil (h33 _ ⟨(k + 1, v), by simp only; omega, ⟨hstep _ i1, i2⟩, le_sub ⟨rfl, rfl, rfl, rfl, rfl, rfl, rfl, rfl, trivial⟩ trivial⟩))))
      · rw [List.take_of_length_le (by have : ¬ ((k : Int) < l.length) := by simpa using c17
                                       omega)] at j1
        have hnone : planL base n l = none := j1
        refine ok_exit (h11 _ ?_)
        refine ok_seq fun K34 h34 => ?_
        refine ok_seq fun K35 h35 => ok_region rfl (q_ld (int (n : Int)) ag3 rfl rfl (run_nil (h35 _ ?_))); clear h35 K35
        refine ok_last fun K36 h36 => ok_region rfl (
          q_alloc _ ze3 rfl rfl rfl rfl (q_st (.sv (int (n : Int))) sz3 rfl rfl (Nat.le_of_ble_eq_true rfl) rfl ⟨_, rfl, rfl⟩ rfl (run_nil (h36 _ (h34 _ ?_)))))
        refine ok_last fun K37 h37 => ok_region rfl (
          q_ldb (.sv (int (n : Int))) ag3 rfl rfl rfl (q_add rfl rfl (by omega) (q_st (.sv (int ((n : Int) + 1))) sz3 rfl rfl (Nat.le_of_ble_eq_true rfl) rfl ⟨_, rfl, rfl⟩ rfl (run_nil (h37 _ ⟨n + 1, by omega, ⟨by omega, by omega, fun m m1 m2 => by
            rcases Nat.lt_or_ge m n with h | h
            · exact hprev m m1 h
            · obtain rfl : m = n := by omega
              exact hnone⟩, le_sub ⟨rfl, rfl, rfl, trivial⟩ ⟨rfl, trivial⟩⟩)))))
    · have hn5 : n = 5 := by have := of_decide_eq_false (p := (n : Int) ≤ 4) c10; omega
      subst hn5
      have e : planR base l = [] := by rw [eR, planO_none hprev]; rfl
      refine ok_exit (h6 _ ?_)
      refine ok_seq fun K38 h38 => ok_region rfl (q_as _ rfl (run_nil (h38 _ ?_))); clear h38 K38
      exact ok_nilT 1 (ok_ret ⟨_, ⟨_, _, rfl, rfl, rfl⟩, ⟨_, _, by rw [e]; rfl, fun _ => rfl⟩, fun b hb => (zn_tr hb).elim⟩)
theorem f101_t (base : Int) (m : List Block) (hl : m.length ≤ 1048576 ∧ ∀ y ∈ m, SBlock y) (hw : wtB m ≤ 1048576) (hsh : ShelfOk base m) (L A W : Int) (hL : 2 ≤ L ∧ L ≤ 4) (h0 : 0 < m.length) (hmx : mxF m = L - 1) (hW : widI base L = W)
    (hA : ∀ x, m[0]? = some x → x.from_ / W * W = A) (hto : ∀ y ∈ m, y.to ≤ A + W) (hA0 : 0 ≤ A) (hA1 : A ≤ 1000000000000) (hgood : BlockOk (mrgBk A W L m)) : PFnT Tryz.prog 101 [int base, eBlockS m] (eBlock (mrgBk A W L m)) := by
  refine fnp_ok (n := 73) Tryz.func101 rfl rfl rfl (Nat.le_of_ble_eq_true rfl) rfl fun w0 O => ?_
  have hll := hl.1
  have hb0 : 1 ≤ base ∧ base ≤ 1000000 := ⟨hsh.1, hsh.2.1⟩
  obtain ⟨w1, w2⟩ := wid_ok (L := L) hb0 (by omega)
  rw [hW] at w1 w2
  obtain ⟨x0, hx0⟩ := sget (l := m) (i := 0) h0
  obtain ⟨xn, hxn⟩ := sget (l := m) (i := m.length - 1) (by omega)
  have hxA := hA x0 hx0
  have hx1 := shelf_from_to hsh (smem hx0)
  have hx3 : x0.from_ ≤ 1000000000000 := (shelf_one hsh (smem hx0)).2.1.1.2
  have hnA := hto xn (smem hxn)
  have hnft := shelf_from_to hsh (smem hxn)
  refine ok_seq fun K1 h1 => ok_region rfl (q_alloc _ ze34 rfl rfl rfl rfl (run_nil (h1 _ ?_))); clear h1 K1
  refine ok_seq fun K2 h2 => ?_
  refine ok_seq fun K3 h3 => ?_
  refine ok_region rfl (q_mv _ rfl (q_mv _ rfl (q_call (f88_ok base m hl) cl88 rfl rfl (q_un _ _ rfl rfl (q_mv _ rfl (q_or 3 3 rfl rfl rfl rfl rfl (fun hb => q_mv _ rfl (q_len eS53 rfl (q_bin _ _ _ rfl rfl rfl (run_nil ⟨rfl, rfl, rfl, rfl⟩)))) (run_nil (h3 _ ?_))))))))
  clear h3 K3
  rw [List.length_map]
  refine ok_cond rfl (fun c4 => ?_) (fun c4 => ?_)
  · exfalso
    rw [pB_true hsh] at c4
    simp at c4
    rw [c4] at h0
    exact absurd h0 (by simp)
  · refine ok_skip (h2 _ ?_)
    refine ok_seq fun K5 h5 => ok_region rfl (q_as _ rfl (run_nil (h5 _ ?_))); clear h5 K5
    refine ok_seq fun K6 h6 => ?_
    refine ok_seq fun K7 h7 => ok_region rfl (q_mv _ rfl (q_len eS53 rfl (q_mv _ rfl (run_nil (h7 _ ?_))))); clear h7 K7
    rw [List.length_map]
    refine ok_block ?_
    refine ok_loop (fun (k : Nat) => ⟨[(0, .sv (int base)), (1, .sv (eBlockS m)), (4, .ptr 4 0), (5, .sv (int (mxF (m.take k)))), (22, .sv (eBlockS m)), (23, .sv (int m.length)), (24, .sv (int k))], [(4, .box [.sv (int 0), .sv (int 0), .sv (int 0), .sv (.raw (.slice none 0 0)), .sv (.raw (.slice none 0 0))])]⟩) (fun k => True) (fun k => m.length - k) 0 trivial (le_sub ⟨rfl, rfl, rfl, rfl, rfl, rfl, rfl, trivial⟩ ⟨rfl, trivial⟩) (fun k J => ?_)
    refine ok_seq fun K8 h8 => ok_region rfl (q_bin _ _ _ rfl rfl rfl (run_nil (h8 _ ?_))); clear h8 K8
    refine ok_seq fun K9 h9 => ?_
    refine ok_cond rfl (fun c10 => ?_) (fun c10 => ?_)
    · refine ok_skip (h9 _ ?_)
      have hkk : k < m.length := by simpa using c10
      obtain ⟨b, hb⟩ := sget hkk
      have hst := mxF_step hb
      refine ok_seq fun K11 h11 => ?_
      refine ok_block ?_
      refine ok_seq fun K12 h12 => ok_region rfl (q_ia el53 rfl rfl (by omega) (mget (f := eBlock) hb) (q_lds _ ag34 rfl sz34 (q_alloc _ ze34 rfl rfl rfl rfl (q_sts _ rfl rfl rfl sz34 (Nat.le_of_ble_eq_true rfl) rfl (run_nil (h12 _ ?_)))))); clear h12 K12
      refine ok_last fun K13 h13 => ok_region rfl (q_mv _ rfl (q_fap fd34_2 rfl (by decide) (q_ldb (.sv (int b.level)) ag3 rfl rfl rfl (q_max rfl rfl (q_as (int (mxF (m.take (k + 1)))) (by rw [hst]; rfl) (run_nil (h13 _ (h11 _ ?_))))))))
      refine ok_last fun K14 h14 => ok_region rfl (q_add rfl rfl (by omega) (q_mv _ rfl (run_nil (h14 _ ⟨k + 1, by omega, trivial, le_sub ⟨rfl, rfl, rfl, rfl, rfl, rfl, rfl, trivial⟩ ⟨rfl, trivial⟩⟩))))
    · rw [List.take_of_length_le (by have : ¬ ((k : Int) < m.length) := by simpa using c10
                                     omega), hmx]
      refine ok_exit (h6 _ ?_)
      refine ok_seq fun K15 h15 => ok_region rfl (q_mv _ rfl (q_add rfl rfl (by omega) (q_min rfl rfl (q_as (int L) (by show LV.sv (int (if (4 : Int) < L - 1 + 1 then 4 else L - 1 + 1)) = _; rw [if_neg (by omega), show L - 1 + 1 = L by omega]) (run_nil (h15 _ ?_)))))); clear h15 K15
      refine ok_seq fun K16 h16 => ok_region rfl (q_mv _ rfl (q_mv (int L) rfl (q_call (show PFn Tryz.prog 93 [int base, int L] (int W) from by rw [← hW]; exact f93_ok base L) cl93 rfl rfl (q_as _ rfl (run_nil (h16 _ ?_)))))); clear h16 K16
      refine ok_seq fun K17 h17 => ok_region rfl (q_mv _ rfl (q_ia el53 rfl rfl (by omega) (mget (f := eBlock) hx0) (q_fa _ fd34_0 rfl rfl (by decide) (q_ld (int x0.from_) ag3 rfl rfl (q_mv _ rfl (q_div rfl rfl (by omega) (q_mv _ rfl (q_mul rfl rfl (by rw [hxA]; omega) (q_as (int A) (by rw [← hxA]; rfl) (run_nil (h17 _ ?_))))))))))); clear h17 K17
      refine ok_seq fun K18 h18 => ?_
      refine ok_seq fun K19 h19 => ok_region rfl (q_mv _ rfl (q_mv _ rfl (q_len eS53 rfl (q_sub rfl rfl (by rw [List.length_map]; omega) (q_ia el53 rfl rfl (by rw [List.length_map]; omega) (lget (f := eBlock) hxn (by omega)) (q_fa _ fd34_1 rfl rfl (by decide) (q_ld (int xn.to) ag3 rfl rfl (q_mv _ rfl (q_mv _ rfl (q_add rfl rfl (by omega) (q_bin _ _ _ rfl rfl rfl (run_nil (h19 _ ?_))))))))))))); clear h19 K19
      refine ok_cond rfl (fun c20 => ?_) (fun c20 => ?_)
      · exfalso
        have := of_decide_eq_true (p := A + W < xn.to) c20
        omega
      · refine ok_skip (h18 _ ?_)
        refine ok_seq fun K21 h21 => ?_
        refine ok_region rfl (q_mv _ rfl (q_mv _ rfl (q_mv _ rfl (q_mv _ rfl (q_add rfl rfl (by omega) (q_mv (int L) rfl (q_callr (f98_t m hl hw A (A + W) L) cl98 rfl (fun r hr hz ha => ?_))))))))
        obtain ⟨rb, rfl, hgb⟩ := hr
        obtain ⟨Z3, v3, Z4, v4, rfl, d34⟩ := gi_Block hgb
        refine q_mv _ rfl (q_ext _ rfl rfl (q_ext _ rfl rfl (q_alloc _ ze34 rfl rfl rfl rfl (q_sts _ rfl rfl rfl sz34 (Nat.le_of_ble_eq_true rfl) rfl (q_as _ rfl (run_nil (h21 _ ?_)))))))
        clear h21 K21
        refine ok_seq fun K22 h22 => ?_
        refine ok_seq fun K23 h23 => ok_region rfl (q_mv _ rfl (q_un _ _ rfl rfl (run_nil (h23 _ ?_)))); clear h23 K23
        refine ok_cond rfl (fun c24 => ?_) (fun c24 => ?_)
        · exfalso
          rw [pB_true hgood] at c24
          exact absurd c24 (by decide)
        · refine ok_skip (h22 _ ?_)
          refine ok_seq fun K25 h25 => ok_region rfl (q_ldbs (r := [int A, int (A + W), int L, .tr Z3 (eSeriesS (mrgB m)) v3, .tr Z4 (eStoneS []) v4]) ag34 rfl rfl sz34 rfl rfl (q_sts _ rfl rfl rfl sz34 (Nat.le_of_ble_eq_true rfl) rfl (run_nil (h25 _ ?_)))); clear h25 K25
          refine ok_ret ⟨_, ⟨_, _, res_cells (l := [int A, int (A + W), int L, .tr Z3 (eSeriesS (mrgB m)) v3, .tr Z4 (eStoneS []) v4]) rfl rfl ag34 sz34 rfl, rfl, rfl⟩, hgb, fun b hb => hz b (znT_cons.2 (.inl hb))⟩
end Go.Ring
