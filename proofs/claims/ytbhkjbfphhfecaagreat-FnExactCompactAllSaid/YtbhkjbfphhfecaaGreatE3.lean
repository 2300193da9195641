/- Blocks laid together: the reference. No condition beyond the sizes. -/
import Derived.Test.YtbhkjbfphhfecaaGreatE2
set_option maxRecDepth 100000
set_option linter.unusedVariables false
set_option linter.unusedSimpArgs false
namespace Go.Ring
open Go Go.RowKit Go.Eager Go.Abs Go.Proofs
section
variable {Γ : Ctx} {ops : Array Oper} {l : List (Oper × Nat)} {t : List (Nat × LV)} {h : List (Nat × Ent)} {K : St → Prop} {c d ty : Nat} {ps : String} {af : Array Edge} {x y : Operand}
/-- A struct of numbers, some of its parts given. -/
theorem q_bldw {S : Nat} {parts : Array (Nat × Operand)} (us : List (Nat × Value)) (ss : List SV) {vs : List Value} (hp : parts.toList.map (fun p => (p.1, St.ev ⟨t, h⟩ p.2)) = us.map fun p => (p.1, LV.sv (.raw p.2))) (hb : Γ.P.built S us = some vs.toArray) (hz : ZL ss vs)
    (hk : RunL Γ ops l ⟨(d, .sv (.agg ss)) :: t, h⟩ K) : RunL Γ ops ((⟨some d, .build S parts, ty, ps, af, none⟩, c + 2) :: l) ⟨t, h⟩ K := by
  refine run_x (ext := True) rfl (by omega) (fun _ => trivial) fun a w ρ I hd => ?_
  have hparts : (parts.map fun p => (p.1, a.eval p.2)).toList = us := by
    rw [Array.toList_map]
    have key : ∀ (ps : List (Nat × Operand)) (us : List (Nat × Value)), ps.map (fun p => (p.1, St.ev ⟨t, h⟩ p.2)) = us.map (fun p => (p.1, LV.sv (.raw p.2))) → ps.map (fun p => (p.1, a.eval p.2)) = us := by
      intro ps
      induction ps with
      | nil => intro us h; cases us with | nil => rfl | cons => simp at h
      | cons p ps ih =>
        intro us h
        cases us with
        | nil => simp at h
        | cons u us =>
          simp only [List.map_cons, List.cons.injEq, Prod.mk.injEq] at h ⊢
          exact ⟨Prod.ext h.1.1 (ev_raw I h.1.2), ih us h.2⟩
    exact key _ _ hp
  have run : (execOp a.eval ⟨some d, .build S parts, ty, ps, af, none⟩).run Γ.P w = .ok (.value (.agg vs.toArray)) w := by
    rw [← hparts] at hb
    have := run_build (P := Γ.P) w S (parts.map fun p => (p.1, a.eval p.2)) _ hb
    simp [execOp, this]
  have hl := hz.len
  unfold XOk oN
  rw [run]
  refine ⟨_, hk, ⟨ρ, I.put (d := some d) (by simpa [dstOk] using hd) (Rep.agg _ _ (by simp [hl]) (fun j u hu => ?_) (fun j s u hs hu => ?_))⟩, fun _ => Ext.refl w⟩
  · have hu' : vs[j]? = some u := by simpa using hu
    have hlt := (List.getElem?_eq_some_iff.1 hu').1
    exact (hz.at j _ u (List.getElem?_eq_getElem (by omega)) hu').2
  · exact (hz.at j s u hs (by simpa using hu)).1 w _
end
def mxF (l : List Block) : Int := l.foldl (fun a b => if a < b.level then b.level else a) 0
theorem mxF_step {l : List Block} {k : Nat} {b : Block} (h : l[k]? = some b) : mxF (l.take (k + 1)) = if mxF (l.take k) < b.level then b.level else mxF (l.take k) := by
  unfold mxF
  rw [List.take_add_one, h, Option.toList_some, List.foldl_append]
  rfl
theorem mx_le (M : Int) : ∀ (l : List Block) (a : Int), a ≤ M → (∀ b ∈ l, b.level ≤ M) → a ≤ l.foldl (fun a b => if a < b.level then b.level else a) a ∧ l.foldl (fun a b => if a < b.level then b.level else a) a ≤ M ∧ ∀ b ∈ l, b.level ≤ l.foldl (fun a b => if a < b.level then b.level else a) a
  | [], a, h, _ => ⟨Int.le_refl _, h, fun b hb => by simp at hb⟩
  | x :: l, a, h, hb => by
    have hx := hb x (List.mem_cons_self ..)
    have h1 : (if a < x.level then x.level else a) ≤ M ∧ a ≤ (if a < x.level then x.level else a) ∧ x.level ≤ (if a < x.level then x.level else a) := by split <;> omega
    obtain ⟨i1, i2, i3⟩ := mx_le M l (if a < x.level then x.level else a) h1.1 fun b hb' => hb b (List.mem_cons_of_mem _ hb')
    refine ⟨Int.le_trans h1.2.1 i1, i2, fun b hb' => ?_⟩
    rcases List.mem_cons.1 hb' with rfl | hb'
    · exact Int.le_trans h1.2.2 i1
    · exact i3 b hb'
theorem mx_eq {l : List Block} {M : Int} (h0 : 0 ≤ M) (h : ∀ b ∈ l, b.level ≤ M) {b : Block} (hb : b ∈ l) (hm : b.level = M) : mxF l = M := by
  obtain ⟨h1, h2, h3⟩ := mx_le M l 0 h0 h
  have := h3 b hb
  unfold mxF
  omega
/-- What stands of a good block all lies in time. -/
theorem stand_all {b : Block} (h : BlockOk b) : selL [] 0 1000000000000 (standL b) = standL b := by
  have key : ∀ l : List Series, (∀ y ∈ l, selG [] 0 1000000000000 y = some y) → selL [] 0 1000000000000 l = l := by
    intro l
    induction l with
    | nil => intro _; rfl
    | cons y l ih =>
      intro hy
      unfold selL at ih ⊢
      rw [List.filterMap_cons, hy y (List.mem_cons_self ..), ih fun z hz => hy z (List.mem_cons_of_mem _ hz)]
  refine key _ fun y hy => ?_
  obtain ⟨s, hs, h2⟩ := List.mem_filterMap.1 hy
  obtain ⟨i, hi⟩ := List.getElem?_of_mem hs
  have hso := (ris_of (h.2.2.2.2.2.1.2 i s hi).2.2.1).2
  unfold stG at h2
  split at h2
  · rename_i hl
    cases h2
    have e : cutF 0 1000000000000 (stand1 b s) = stand1 b s := by
      unfold cutF
      refine List.filter_eq_self.2 fun x hx => ?_
      have := hso x (List.mem_filter.1 hx).1
      simp only [Bool.and_eq_true, decide_eq_true_eq]
      omega
    rw [selG_some (u := ⟨s.labels, stand1 b s⟩) rfl (by rw [e]; exact hl)]
    simp only [e]
  · cases h2
theorem bz34s (a L : Int) : Tryz.prog.built 34 [(0, .int .i64 a), (2, .int .i64 L)] = some [Value.int .i64 a, .int .i64 0, .int .i64 L, .slice none 0 0, .slice none 0 0].toArray := by
  have key : ∀ x y : Int, Tryz.prog.built 34 [(0, .int .i64 x), (2, .int .i64 y)] = some [Value.int .i64 x, .int .i64 0, .int .i64 y, .slice none 0 0, .slice none 0 0].toArray := by intro x y; kernel_rfl
  exact key a L
theorem f155_ok (base : Int) (l : List Block) (hl : l.length ≤ 1048576 ∧ ∀ y ∈ l, SBlock y) (hw : wtB l ≤ 1048576) (hk : ∀ y ∈ l, BlockOk y) (hb0 : 1 ≤ base ∧ base ≤ 1000000) (L : Int) (hL : 2 ≤ L ∧ L ≤ 4) (h0 : 0 < l.length) (hmx : ∀ y ∈ l, y.level ≤ L - 1) {q : Block} (hq : q ∈ l) (hql : q.level = L - 1)
    (A W : Int) (hW : widI base L = W) (hA : ∀ x, l[0]? = some x → x.from_ / W * W = A) (hto : ∀ y ∈ l, y.to ≤ A + W) (hA0 : 0 ≤ A) (hA1 : A ≤ 1000000000000) :
    PFn Tryz.prog 155 [int base, eBlockS l] (.tup [eBlock (mrgBk A W L l), bool (pB (BlockOk (mrgBk A W L l)))]) := by
  refine fnr_ok (n := 76) Tryz.func155 rfl rfl rfl (Nat.le_of_ble_eq_true rfl) rfl fun w0 O => ?_
  have hll := hl.1
  obtain ⟨w1, w2⟩ := wid_ok (L := L) hb0 (by omega)
  rw [hW] at w1 w2
  refine ok_seq fun K1 h1 => ok_region rfl (q_alloc _ ze34 rfl rfl rfl rfl (q_as _ rfl (run_nil (h1 _ ?_)))); clear h1 K1
  refine ok_seq fun K2 h2 => ok_region rfl (q_as _ rfl (run_nil (h2 _ ?_))); clear h2 K2
  refine ok_seq fun K3 h3 => ?_
  refine ok_seq fun K4 h4 => ok_region rfl (q_mv _ rfl (q_len eS53 rfl (q_mv _ rfl (run_nil (h4 _ ?_))))); clear h4 K4
  rw [List.length_map]
  refine ok_block ?_
  refine ok_loop (fun (k : Nat) => ⟨[(0, .sv (int base)), (1, .sv (eBlockS l)), (4, .ptr 4 0), (6, .sv (int (mxF (l.take k)))), (13, .sv (eBlockS l)), (14, .sv (int l.length)), (15, .sv (int k))], [(4, .box [.sv (int 0), .sv (int 0), .sv (int 0), .sv (.raw (.slice none 0 0)), .sv (.raw (.slice none 0 0))])]⟩) (fun k => True) (fun k => l.length - k) 0 trivial (le_sub ⟨rfl, rfl, rfl, rfl, rfl, rfl, rfl, trivial⟩ ⟨rfl, trivial⟩) (fun k J => ?_)
  refine ok_seq fun K5 h5 => ok_region rfl (q_bin _ _ _ rfl rfl rfl (run_nil (h5 _ ?_))); clear h5 K5
  refine ok_seq fun K6 h6 => ?_
  refine ok_cond rfl (fun c7 => ?_) (fun c7 => ?_)
  · refine ok_skip (h6 _ ?_)
    have hkk : k < l.length := by simpa using c7
    obtain ⟨b, hb⟩ := sget hkk
    have hst := mxF_step hb
    refine ok_seq_join (fun (v : Int) => ⟨[(0, .sv (int base)), (1, .sv (eBlockS l)), (4, .ptr 4 0), (6, .sv (int v)), (13, .sv (eBlockS l)), (14, .sv (int l.length)), (15, .sv (int k))], [(4, .box [.sv (int 0), .sv (int 0), .sv (int 0), .sv (.raw (.slice none 0 0)), .sv (.raw (.slice none 0 0))])]⟩) (fun v => v = mxF (l.take (k + 1))) ?_ (fun v J => ?_)
    · refine ok_block ?_
      refine ok_seq fun K8 h8 => ok_region rfl (q_ia el53 rfl rfl (by omega) (mget (f := eBlock) hb) (q_lds _ ag34 rfl sz34 (q_alloc _ ze34 rfl rfl rfl rfl (q_sts _ rfl rfl rfl sz34 (Nat.le_of_ble_eq_true rfl) rfl (run_nil (h8 _ ?_)))))); clear h8 K8
      refine ok_seq fun K9 h9 => ok_region rfl (q_fap fd34_2 rfl (by decide) (q_ldb (.sv (int b.level)) ag3 rfl rfl rfl (q_mv _ rfl (q_bin _ _ _ rfl rfl rfl (run_nil (h9 _ ?_)))))); clear h9 K9
      refine ok_cond rfl (fun c10 => ?_) (fun c10 => ?_)
      · rw [if_pos (of_decide_eq_true (p := mxF (l.take k) < b.level) c10)] at hst
        refine ok_last fun K11 h11 => ok_region rfl (
          q_fap fd34_2 rfl (by decide) (q_ldb (.sv (int b.level)) ag3 rfl rfl rfl (q_as _ rfl (run_nil (h11 _ ⟨b.level, hst.symm, le_sub ⟨rfl, rfl, rfl, rfl, rfl, rfl, rfl, trivial⟩ ⟨rfl, trivial⟩⟩)))))
      · rw [if_neg (of_decide_eq_false (p := mxF (l.take k) < b.level) c10)] at hst
        exact ok_skip ⟨mxF (l.take k), hst.symm, le_sub ⟨rfl, rfl, rfl, rfl, rfl, rfl, rfl, trivial⟩ ⟨rfl, trivial⟩⟩
    · subst J
      refine ok_last fun K12 h12 => ok_region rfl (
        q_add rfl rfl (by omega) (q_mv _ rfl (run_nil (h12 _ ⟨k + 1, by omega, trivial, le_sub ⟨rfl, rfl, rfl, rfl, rfl, rfl, rfl, trivial⟩ ⟨rfl, trivial⟩⟩))))
  · rw [List.take_of_length_le (by have : ¬ ((k : Int) < l.length) := by simpa using c7
                                   omega)]
    have hmm : mxF l = L - 1 := mx_eq (by omega) hmx hq hql
    rw [hmm]
    obtain ⟨x0, hx0⟩ := sget (l := l) (i := 0) h0
    have hxA := hA x0 hx0
    have hx1 := (hk x0 (smem hx0)).1
    have hx2 : 0 ≤ x0.from_ := hx1.1
    have hx3 : x0.from_ ≤ 1000000000000 := hx1.2
    refine ok_exit (h3 _ ?_)
    refine ok_seq fun K13 h13 => ok_region rfl (q_mv _ rfl (q_add rfl rfl (by omega) (q_as (int L) (by show LV.sv (int (L - 1 + 1)) = _; rw [show L - 1 + 1 = L by omega]) (run_nil (h13 _ ?_))))); clear h13 K13
    refine ok_seq fun K14 h14 => ok_region rfl (q_mv _ rfl (q_mv (int L) rfl (q_call (show PFn Tryz.prog 146 [int base, int L] (int W) from by rw [← hW]; exact f146_ok base L) cl146 rfl rfl (q_as _ rfl (run_nil (h14 _ ?_)))))); clear h14 K14
    refine ok_seq fun K15 h15 => ?_
    refine ok_seq fun K16 h16 => ?_
    refine ok_region rfl (q_mv _ rfl (q_len eS53 rfl (q_bin _ _ _ rfl rfl rfl (q_mv _ rfl (q_or 2 2 rfl rfl rfl rfl rfl (fun hb37 =>
        q_mv _ rfl (q_bin _ _ _ rfl rfl rfl (run_nil ⟨rfl, rfl, rfl, rfl⟩))) (
      run_nil (h16 _ ?_)))))))
    clear h16 K16
    rw [List.length_map]
    refine ok_cond rfl (fun c17 => ?_) (fun c17 => ?_)
    · exfalso
      simp only [Bool.or_eq_true, decide_eq_true_eq] at c17
      omega
    · refine ok_skip (h15 _ ?_)
      refine ok_seq fun K19 h19 => ?_
      refine ok_region rfl (q_mv _ rfl (q_ia el53 rfl rfl (by omega) (mget (f := eBlock) hx0) (q_fa _ fd34_0 rfl rfl (by decide) (q_ld (int x0.from_) ag3 rfl rfl (q_mv _ rfl (q_div rfl rfl (by omega) (q_mv _ rfl (q_mul rfl rfl (by rw [hxA]; omega) (
        q_mv _ rfl (q_bldw [(0, .int .i64 (x0.from_ / W * W)), (2, .int .i64 L)] [int (x0.from_ / W * W), int 0, int L, .sl 2 [], .sl 3 []] rfl (bz34s _ _) ⟨raw_z _ _, raw_z _ _, raw_z _ _, nil_sl 2, nil_sl 3, trivial⟩ (q_alloc _ ze34 rfl rfl rfl rfl (q_sts _ rfl rfl rfl sz34 (Nat.le_of_ble_eq_true rfl) rfl (run_nil (h19 _ ?_))))))))))))))
      clear h19 K19
      rw [hxA]
      refine ok_seq fun K20 h20 => ok_region rfl (q_fap fd34_0 rfl (by decide) (q_ldb (.sv (int A)) ag3 rfl rfl rfl (q_mv _ rfl (q_add rfl rfl (by omega) (q_fap fd34_1 rfl (by decide) (q_st (.sv (int (A + W))) sz3 rfl rfl (Nat.le_of_ble_eq_true rfl) rfl ⟨_, rfl, rfl⟩ rfl (run_nil (h20 _ ?_)))))))); clear h20 K20
      refine ok_seq fun K21 h21 => ?_
      refine ok_seq fun K22 h22 => ok_region rfl (q_mv _ rfl (q_len eS53 rfl (q_mv _ rfl (run_nil (h22 _ ?_))))); clear h22 K22
      rw [List.length_map]
      refine ok_block ?_
      refine ok_loop (fun (k : Nat) => ⟨[(4, .ptr 4 0), (10, .ptr 10 0), (54, .sv (eBlockS l)), (55, .sv (int l.length)), (56, .sv (int k))], [(4, .box [.sv (int 0), .sv (int 0), .sv (int 0), .sv (.raw (.slice none 0 0)), .sv (.raw (.slice none 0 0))]), (10, .box [.sv (int A), .sv (int (A + W)), .sv (int L), .sv (eSeriesS (mrgB (l.take k))), .sv (.sl 3 [])])]⟩) (fun k => True) (fun k => l.length - k) 0 trivial (le_sub ⟨rfl, rfl, rfl, rfl, rfl, trivial⟩ ⟨rfl, rfl, trivial⟩) (fun k J => ?_)
      refine ok_seq fun K23 h23 => ok_region rfl (q_bin _ _ _ rfl rfl rfl (run_nil (h23 _ ?_))); clear h23 K23
      refine ok_seq fun K24 h24 => ?_
      refine ok_cond rfl (fun c25 => ?_) (fun c25 => ?_)
      · refine ok_skip (h24 _ ?_)
        have hkk : k < l.length := by simpa using c25
        obtain ⟨b, hb⟩ := sget hkk
        have nb := hl.2 b (smem hb)
        have kb := hk b (smem hb)
        obtain ⟨b1, b2, b3, b4⟩ := mrgB_at hl.2 hw hb
        have hst := mrgB_step hb
        have hbt := hto b (smem hb)
        have hcall := f68_ok b nb (stones_of kb) [] (Nat.zero_le _) (by simp) rfl (fun y hy n => by
          obtain ⟨i, hi⟩ := List.getElem?_of_mem hy
          exact Nat.le_trans (val_size (labs_of kb hi) n) (by omega)) 0 1000000000000
        rw [sel_law kb, stand_all kb] at hcall
        refine ok_seq fun K26 h26 => ?_
        refine ok_block ?_
        refine ok_seq fun K27 h27 => ok_region rfl (q_ia el53 rfl rfl (by omega) (mget (f := eBlock) hb) (q_lds _ ag34 rfl sz34 (q_alloc _ ze34 rfl rfl rfl rfl (q_sts _ rfl rfl rfl sz34 (Nat.le_of_ble_eq_true rfl) rfl (run_nil (h27 _ ?_)))))); clear h27 K27
        refine ok_seq fun K28 h28 => ?_
        refine ok_seq fun K29 h29 => ok_region rfl (q_fap fd34_1 rfl (by decide) (q_ldb (.sv (int b.to)) ag3 rfl rfl rfl (q_fap fd34_1 rfl (by decide) (q_ldb (.sv (int (A + W))) ag3 rfl rfl rfl (q_bin _ _ _ rfl rfl rfl (run_nil (h29 _ ?_))))))); clear h29 K29
        refine ok_cond rfl (fun c30 => ?_) (fun c30 => ?_)
        · exfalso
          have := of_decide_eq_true (p := A + W < b.to) c30
          omega
        · refine ok_skip (h28 _ ?_)
          refine ok_last fun K32 h32 => ok_region_i (by kernel_rfl) (by kernel_rfl) rfl (
            q_fap fd34_3 rfl (by decide) (q_ldb (.sv (eSeriesS (mrgB (l.take k)))) ag31 rfl rfl rfl (q_ldbs (r := [int b.from_, int b.to, int b.level, eSeriesS b.series, eStoneS b.stones]) ag34 rfl rfl sz34 rfl rfl (q_call (PFn.weakI (bs := [eBlock b, .raw (.slice none 0 0), int 0, int 1000000000000]) hcall rfl (fun i s h => by
              match i, h with
              | 0, h => exact ⟨s, h, fun _ _ _ h => h⟩
              | 1, h => cases h; exact ⟨_, rfl, fun _ _ _ h => rep_nil0 h⟩
              | 2, h => exact ⟨s, h, fun _ _ _ h => h⟩
              | 3, h => exact ⟨s, h, fun _ _ _ h => h⟩
              | n + 4, h => simp at h)) cl68 rfl rfl (q_call (PFnR.toP (show PFnT Tryz.prog 147 [eSeriesS (mrgB (l.take k)), eSeriesS (standL b)] (eSeriesS (mrgB (l.take (k + 1)))) from by rw [hst]; exact f147_t _ _ b2 b3 b1 b4)) cl147 rfl rfl (
            q_fap fd34_3 rfl (by decide) (q_st (.sv (eSeriesS (mrgB (l.take (k + 1))))) sz31 rfl rfl (Nat.le_of_ble_eq_true rfl) rfl ⟨_, rfl, rfl⟩ rfl (run_nil (h32 _ (h26 _ ?_))))))))))
          refine ok_last fun K33 h33 => ok_region rfl (
            q_add rfl rfl (by omega) (q_mv _ rfl (run_nil (h33 _ ⟨k + 1, by omega, trivial, le_sub ⟨rfl, rfl, rfl, rfl, rfl, trivial⟩ ⟨rfl, rfl, trivial⟩⟩))))
      · rw [List.take_of_length_le (by have : ¬ ((k : Int) < l.length) := by simpa using c25
                                       omega)]
        refine ok_exit (h21 _ ?_)
        refine ok_seq fun K34 h34 => ?_
        refine ok_region_i (by kernel_rfl) (by kernel_rfl) rfl (
          q_ldbs (r := [int A, int (A + W), int L, eSeriesS (mrgB l), .sl 3 []]) ag34 rfl rfl sz34 rfl rfl (q_ldbs (r := [int A, int (A + W), int L, eSeriesS (mrgB l), .sl 3 []]) ag34 rfl rfl sz34 rfl rfl (q_call (f55_ok (mrgBk A W L l) (mrgBk_S hl.2 hw A (A + W) L)) cl55 rfl rfl (q_sts _ rfl rfl rfl sz34 (Nat.le_of_ble_eq_true rfl) rfl (
          q_as _ rfl (run_nil (h34 _ ?_)))))))
        clear h34 K34
        exact ok_ret ⟨_, ⟨_, _, res_cells (l := [int A, int (A + W), int L, eSeriesS (mrgB l), .sl 3 []]) rfl rfl ag34 sz34 rfl, ⟨_, _, rfl, rfl, rfl⟩, rfl⟩, rfl⟩
end Go.Ring
