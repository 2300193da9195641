/- Compacting all: program and reference. No condition beyond the sizes. -/
import Derived.Test.YtbhkjbfphhfecaaGreatF3
import Derived.Test.YtbhkjbfphhfecaaGreatR1
import Derived.Test.YtbhkjbfphhfecaaGreatEg3
set_option maxRecDepth 100000
set_option linter.unusedVariables false
set_option linter.unusedSimpArgs false
namespace Go.Abs
open Go Go.RowKit Go.Eager
section
variable {Γ : Ctx} {ops : Array Oper} {l : List (Oper × Nat)} {t : List (Nat × LV)} {h : List (Nat × Ent)} {K : St → Prop} {c d ty : Nat} {ps : String} {af : Array Edge} {x y : Operand}
/-- A sum, said in other words. -/
theorem q_addr {p q : Int} (r : Int) {t1 t2 : Nat} (hx : St.ev ⟨t, h⟩ x = .sv (.raw (.int .i64 p))) (hy : St.ev ⟨t, h⟩ y = .sv (.raw (.int .i64 q))) (hb : -9223372036854775808 ≤ p + q ∧ p + q ≤ 9223372036854775807) (hr : p + q = r) (hk : RunL Γ ops l ⟨(d, .sv (.raw (.int .i64 r))) :: t, h⟩ K) :
    RunL Γ ops ((⟨some d, .binOp .add t1 x y t2, ty, ps, af, none⟩, c) :: l) ⟨t, h⟩ K := by
  subst hr
  exact q_add hx hy hb hk
/-- A part of a row, said in other words. -/
theorem q_slr {r : List SV} {S e n : Nat} {lo hi : Option Operand} (p q : Int) (r' : List SV) (he : elOf Γ.P S = some (e, n)) (hx : St.ev ⟨t, h⟩ x = .sv (.sl n r)) (h1 : Lo ⟨t, h⟩ lo p) (h2 : Hi ⟨t, h⟩ r.length hi q) (h3 : 0 ≤ p) (h4 : p ≤ q) (h5 : q ≤ r.length) (hr : (r.drop p.toNat).take (q - p).toNat = r')
    (hk : RunL Γ ops l ⟨(d, .sv (.sl n r')) :: t, h⟩ K) : RunL Γ ops ((⟨some d, .slice S x lo hi none, ty, ps, af, none⟩, c) :: l) ⟨t, h⟩ K := by
  subst hr
  exact q_sl p q he hx h1 h2 h3 h4 h5 hk
end
end Go.Abs
namespace Go.Ring
open Go Go.RowKit Go.Eager Go.Abs Go.Proofs
/-- Some copies replaced by one. -/
theorem Cps.repAt {w0 : World} {rs ss : List SV} {i j : Nat} {r s : SV} (h : Cps w0 rs ss) (hij : i < j) (hj : j ≤ rs.length) (hg : Gd r s) (ha : ∀ x ∈ rs, ∀ b, Zn b x → ¬ Zn b r) (hn : ∀ b, Zn b r → w0.heap.size ≤ b) : Cps w0 (Go.Abs.repAt rs i j r) (Go.Abs.repAt ss i j s) := by
  have hl := h.len
  have hj' : j ≤ ss.length := by omega
  refine ⟨by rw [repAt_len _ _ _ _ hij hj, repAt_len _ _ _ _ hij hj', hl], fun k x y hx hy => ?_, fun k m b x y hx hy hbx hby => ?_, fun x hx b hb => ?_⟩
  · rw [repAt_get _ _ _ _ hij hj] at hx
    rw [repAt_get _ _ _ _ hij hj'] at hy
    split at hx
    · rename_i c; rw [if_pos c] at hy; exact h.gd k x y hx hy
    · rename_i c
      rw [if_neg c] at hy
      split at hx
      · rename_i c2; rw [if_pos c2] at hy; cases hx; cases hy; exact hg
      · rename_i c2; rw [if_neg c2] at hy; exact h.gd _ x y hx hy
  · rw [repAt_get _ _ _ _ hij hj] at hx hy
    split at hx
    · rename_i c
      split at hy
      · exact h.ap k m b x y hx hy hbx hby
      · split at hy
        · cases hy; exact absurd hby (ha x (List.mem_of_getElem? hx) b hbx)
        · have := h.ap _ _ b x y hx hy hbx hby; omega
    · rename_i c
      split at hx
      · rename_i c2
        cases hx
        split at hy
        · exact absurd hbx (ha y (List.mem_of_getElem? hy) b hby)
        · split at hy
          · omega
          · exact absurd hbx (ha y (List.mem_of_getElem? hy) b hby)
      · rename_i c2
        split at hy
        · have := h.ap _ _ b x y hx hy hbx hby; omega
        · split at hy
          · cases hy; exact absurd hby (ha x (List.mem_of_getElem? hx) b hbx)
          · have := h.ap _ _ b x y hx hy hbx hby; omega
  · obtain ⟨k, hk⟩ := List.getElem?_of_mem hx
    rw [repAt_get _ _ _ _ hij hj] at hk
    split at hk
    · exact h.nw x (List.mem_of_getElem? hk) b hb
    · split at hk
      · cases hk; exact hn b hb
      · exact h.nw x (List.mem_of_getElem? hk) b hb
theorem cpsB_agg {w0 : World} {rs : List SV} {l : List Block} (J : Cps w0 rs (l.map eBlock)) : ∀ q ∈ rs, (∃ c, q = .agg c) ∨ q.one = true := fun q hq => by
  obtain ⟨i, hi⟩ := List.getElem?_of_mem hq
  obtain ⟨x, hx⟩ := sget (l := l) (i := i) (by have := slt hi; have h2 := J.len; rw [List.length_map] at h2; omega)
  obtain ⟨Z3, v3, Z4, v4, rfl, _⟩ := gi_Block (J.gd i q _ hi (mget (f := eBlock) hx))
  exact .inl ⟨_, rfl⟩
noncomputable def resCA (base : Int) (l : List Block) : List Block := if pB (ShelfOk base l) = true then resC base l else []
/-- What a plan's blocks are, as a shelf. -/
theorem plan_mid {base : Int} {l : List Block} (h : ShelfOk base l) (hS : ∀ b ∈ l, SBlock b) (hw : wtB l ≤ 1048576) {p : List Int} {i j : Nat} {A W L : Int} (P : PlanAt base l p i j A W L) :
    (((l.take j).drop i).length ≤ 1048576 ∧ ∀ y ∈ (l.take j).drop i, SBlock y) ∧ wtB ((l.take j).drop i) ≤ 1048576 ∧ ShelfOk base ((l.take j).drop i) ∧ 0 < ((l.take j).drop i).length ∧ mxF ((l.take j).drop i) = L - 1 ∧
      (∀ x, ((l.take j).drop i)[0]? = some x → x.from_ / W * W = A) ∧ (∀ y ∈ (l.take j).drop i, y.to ≤ A + W) ∧ 0 ≤ A ∧ A ≤ 1000000000000 := by
  have hsub := mid_sub l i j
  have hlt := P.lt; have hle := P.le
  have h100 := h.2.2.1
  have hb0 : 1 ≤ base ∧ base ≤ 1000000 := ⟨h.1, h.2.1⟩
  have hlen : ((l.take j).drop i).length = j - i := by rw [List.length_drop, List.length_take]; omega
  obtain ⟨w1, w2⟩ := wid_ok (L := L) hb0 ⟨by have := P.L2; omega, P.L4⟩
  rw [P.wid] at w1 w2
  obtain ⟨b, hb, hbl⟩ := P.one
  have hall : ∀ y ∈ (l.take j).drop i, A ≤ y.from_ ∧ y.to ≤ A + W := fun y hy => by
    have := P.all y hy
    unfold inI at this
    simpa using this
  obtain ⟨c, hc, _, hcA⟩ := P.spn
  refine ⟨⟨by omega, fun y hy => hS y (hsub.subset hy)⟩, ?_, shelf_sub h hsub, by omega, mx_eq (by have := P.L2; omega) (fun x hx => by have := P.low x hx; omega) hb hbl, fun x hx => ?_, fun y hy => (hall y hy).2, P.good.1.1, P.good.1.2⟩
  · rw [← P.mid]; exact Nat.le_trans (wtB_filter _ _) hw
  · exact in_from (q := c.from_ / W) w1 hcA.symm (P.all x (smem hx)) (shelf_from_to h (hsub.subset (smem hx))).2
theorem pick_mid {l : List Block} {i j : Nat} (hij : i ≤ j) (hj : j ≤ l.length) : (upI i (j - i)).filterMap (fun k => l[k.toNat]?) = (l.take j).drop i := by
  have key : ∀ (m i : Nat), i + m ≤ l.length → (upI i m).filterMap (fun k => l[k.toNat]?) = (l.drop i).take m := by
    intro m
    induction m with
    | zero => intro i _; simp [upI]
    | succ m ih =>
      intro i h
      obtain ⟨x, hx⟩ := sget (l := l) (i := i) (by omega)
      rw [drop_cons hx, List.take_succ_cons]
      simp only [upI, List.filterMap_cons, Int.toNat_natCast, hx]
      rw [ih (i + 1) (by omega)]
  rw [key _ _ (by omega), ← List.drop_take]
theorem f44_t (base : Int) (l : List Block) (hl : l.length ≤ 1048576 ∧ ∀ y ∈ l, SBlock y) (hw : wtB l ≤ 1048576) : PFnT Tryz.prog 44 [int base, eBlockS l] (eBlockS (resCA base l)) := by
  refine fnp_ok (n := 38) Tryz.func44 rfl rfl rfl (Nat.le_of_ble_eq_true rfl) rfl fun w0 O => ?_
  refine ok_seq fun K1 h1 => ok_region rfl (q_as _ rfl (run_nil (h1 _ ?_))); clear h1 K1
  refine ok_seq fun K2 h2 => ?_
  refine ok_seq fun K3 h3 => ok_region rfl (q_mv _ rfl (q_mv _ rfl (q_call (f88_ok base l hl) cl88 rfl rfl (q_un _ _ rfl rfl (run_nil (h3 _ ?_)))))); clear h3 K3
  refine ok_cond rfl (fun c4 => ?_) (fun c4 => ?_)
  · have e : resCA base l = [] := by
      unfold resCA
      rw [if_neg]
      intro g
      rw [g] at c4
      exact absurd c4 (by decide)
    refine ok_seq fun K5 h5 => ?_
    refine ok_region rfl (q_as _ rfl (run_nil (h5 _ ?_)))
    clear h5 K5
    refine ok_nilT 5 (ok_ret ⟨_, ⟨_, _, rfl, rfl, rfl⟩, ?_, fun b hb => (zn_tr hb).elim⟩)
    rw [e]
    exact .tr _ _ _ _
  · have g1 : pB (ShelfOk base l) = true := by simpa using c4
    have hsh := of_pB g1
    have eR : resCA base l = resC base l := by unfold resCA; rw [if_pos g1]
    rw [eR]
    refine ok_skip (h2 _ ?_)
    refine ok_seq fun K6 h6 => ok_region rfl (q_mv _ rfl (q_callot (f100_o l hl) cl100 ⟨.inl rfl, trivial⟩ rfl rfl (fun rs0 hC0 hA0 => q_ao _ rfl (run_nil (h6 _ ?_))))); clear h6 K6
    refine ok_block ?_
    refine ok_loop (fun (s : List Block × Nat × List SV) => ⟨[(0, .sv (int base)), (1, .own 100)], [(100, .row 5 s.2.1 s.2.2)]⟩) (fun s => CInv base l s.1 ∧ Cps w0 s.2.2 (s.1.map eBlock)) (fun s => mu s.1) (l, 34, rs0) ⟨⟨hsh, hl.2, hw, rfl⟩, hC0⟩ (le_rek 100 12 ⟨rfl, rfl, trivial⟩ ⟨rfl, trivial⟩ rfl rfl rfl rfl ⟨rfl, trivial⟩) (fun s J => ?_)
    obtain ⟨cur, T0, rsc⟩ := s
    obtain ⟨J, hC⟩ := J
    simp only at J hC
    refine ok_treed (k := 100) (n := 5) (T := T0) (rs := rsc) (ss := cur.map eBlock) rfl hC.len hC.gd hC.ap (fun r hr b hb => .inl (hC.nw r hr b hb)) (fun Z v hZ0 => ?_)
    have hZ : ∀ b, Z b → w0.heap.size ≤ b := fun b hb => (hZ0 b hb).elim id fun h => h.elim
    have hcl := J.len
    have hcur : cur.length ≤ 1048576 ∧ ∀ y ∈ cur, SBlock y := ⟨by omega, J.S⟩
    have hpe : planR base cur = (planO base cur).getD [] := by unfold planR; rw [if_pos (pB_true J.sh)]
    refine ok_block ?_
    refine ok_seq fun K7 h7 => ?_
    refine ok_region rfl (q_mv _ rfl (q_mv _ rfl (q_callg [] (f42_n base cur hcur J.wt) cl42 ⟨.inl rfl, .inr (.inl ⟨_, rfl, .tr _ _ _ _⟩), trivial⟩ (fun r hr hz ha => ?_))))
    obtain ⟨Zp, vp, rfl, hnil⟩ := hr
    refine q_as _ rfl (run_nil (h7 _ ?_)); clear h7 K7
    refine ok_seq fun K8 h8 => ?_
    refine ok_seq fun K9 h9 => ?_
    refine ok_region rfl (q_mv _ rfl (q_eqnt Tryz.underlying29 rfl (fun b hb1 hb2 => run_nil (h9 _ ?_))))
    clear h9 K9
    refine ok_cond rfl (fun c10 => ?_) (fun c10 => ?_)
    · have hp0 : planR base cur = [] := by simpa using hb1 c10
      have hO : planO base cur = none := by
        cases hq : planO base cur with
        | none => rfl
        | some p => rw [hpe, hq] at hp0; exact absurd hp0 (planO_ne J.sh hq)
      have hres : resC base l = cur := by rw [← J.res, resC_end hO]
      refine ok_seq fun K11 h11 => ok_region rfl (q_mv _ rfl (q_as _ rfl (run_nil (h11 _ ?_)))); clear h11 K11
      exact ok_ret ⟨_, ⟨_, _, rfl, rfl, rfl⟩, by rw [eR, hres]; exact .tr _ _ _ _, fun b hb => hZ b (zn_tr hb)⟩
    · have hne : planR base cur ≠ [] := fun h => by
        have := hb2 (hnil h)
        rw [c10] at this
        cases this
      obtain ⟨p, hp⟩ : ∃ p, planO base cur = some p := by
        cases hq : planO base cur with
        | none => rw [hpe, hq] at hne; exact absurd rfl hne
        | some p => exact ⟨p, rfl⟩
      have hpp : planR base cur = p := by rw [hpe, hp]; rfl
      obtain ⟨i, j, A, W, L, P⟩ := planO_at J.sh hp
      have hN := J.next hp P
      have hmu : mu (nxt cur i j (mrgBk A W L ((cur.take j).drop i))) < mu cur := nxt_mu P (mrgB ((cur.take j).drop i))
      obtain ⟨m1, m2, m3, m4, m5, m6, m7, m8, m9⟩ := plan_mid J.sh J.S J.wt P
      obtain ⟨g1, g2, g3⟩ := plan_head P
      have hlt := P.lt; have hle := P.le
      have hpm : p.filterMap (fun k => cur[k.toNat]?) = (cur.take j).drop i := by rw [P.p_eq]; exact pick_mid (by omega) hle
      have hin : ∀ k ∈ p, 0 ≤ k ∧ k < cur.length := fun k hk => by
        rw [P.p_eq] at hk
        obtain ⟨q, hq⟩ := List.getElem?_of_mem hk
        have hql : q < j - i := by have := slt hq; rw [upI_len] at this; exact this
        rw [upI_get _ _ _ hql] at hq
        cases hq
        omega
      rw [hpp] at *
      refine ok_skip (h8 _ ?_)
      refine ok_seq fun K12 h12 => ?_
      refine ok_region rfl (q_mv _ rfl (q_mv _ rfl (q_mv _ rfl (q_callq (r := eBlockS ((cur.take j).drop i)) (fun b hb => by cases hb) (show PFn Tryz.prog 95 [eBlockS cur, ints p] (eBlockS ((cur.take j).drop i)) from by rw [← hpm]; exact f95_ok cur p (by omega) hin) cl95 ⟨.inr (.inl ⟨_, rfl, .tr _ _ _ _⟩), .inr (.inl ⟨_, rfl, .tr _ _ _ _⟩), trivial⟩ (
        q_callr (f101_t base _ m1 m2 m3 L A W ⟨P.L2, P.L4⟩ m4 m5 P.wid m6 m7 m8 m9 P.good) cl101 rfl (fun r hr hz2 ha2 => ?_))))))
      obtain ⟨Z3, v3, Z4, v4, rfl, d34⟩ := gi_Block hr
      have hapZ : ∀ b, Z b → ¬ Zn b (.agg [int A, int (A + W), int L, .tr Z3 (eSeriesS (mrgB ((cur.take j).drop i))) v3, .tr Z4 (eStoneS []) v4]) := fun b hb => ha2.1 1 _ b rfl (.tr Z _ v hb)
      refine q_alloc _ ze34 rfl rfl rfl rfl (q_sts _ rfl rfl rfl sz34 (Nat.le_of_ble_eq_true rfl) rfl (run_nil (h12 _ ?_)))
      clear h12 K12
      have hne2 : cur.map eBlock ≠ [] := fun h => by
        have := congrArg List.length h
        rw [List.length_map] at this
        simp at this
        rw [this] at hle
        simp at hle
        omega
      have hZp : ∀ b, Z b → ¬ Zp b := fun b hb hb' => ha.1 1 _ b rfl (.tr Z _ v hb) (.tr Zp _ vp hb')
      refine Ok.le (le_sub (t' := [(0, .sv (int base)), (1, .sv (.tr Z (eBlockS cur) v)), (5, .sv (.tr Zp (ints p) vp)), (6, .ptr 6 0)]) (h' := [(6, .box [.sv (int A), .sv (int (A + W)), .sv (int L), .sv (.tr Z3 (eSeriesS (mrgB ((cur.take j).drop i))) v3), .sv (.tr Z4 (eStoneS []) v4)])]) ⟨rfl, rfl, rfl, rfl, trivial⟩ ⟨rfl, trivial⟩) ?_
      refine ok_otr 1 100 rfl hne2 (fun b hb => .inl (hZ b hb)) rfl rfl ⟨asL_raw _ _, asL_tr hZp, trivial, trivial⟩ ⟨fun lv hlv => ?_, trivial⟩ (fun T1 rs1 hO => ?_)
      · simp only [List.mem_cons, List.not_mem_nil, or_false] at hlv
        rcases hlv with rfl | rfl | rfl | rfl | rfl
        · exact asL_raw _ _
        · exact asL_raw _ _
        · exact asL_raw _ _
        · exact asL_tr fun b hb hb' => hapZ b hb (by simp only [znA_cons, znI_raw, znI_tr, znA_nil, or_false, false_or]; exact .inl hb')
        · exact asL_tr fun b hb hb' => hapZ b hb (by simp only [znA_cons, znI_raw, znI_tr, znA_nil, or_false, false_or]; exact .inr hb')
      have hC1 := hO.cps hZ
      have hrl : rs1.length = cur.length := by rw [hO.len, List.length_map]
      refine Ok.le (le_gd 5 rfl (.tr _ _ _ _)) ?_
      have hfin := Cps.repAt hC1 hlt (by omega) hr (fun x hx b hb hb' => hapZ b (hO.zn x hx b hb) hb') (fun b hb => hz2 b hb)
      rw [show Go.Abs.repAt (cur.map eBlock) i j (eBlock (mrgBk A W L ((cur.take j).drop i))) = (nxt cur i j (mrgBk A W L ((cur.take j).drop i))).map eBlock from (repAt_map eBlock cur i j _).symm] at hfin
      refine ok_last fun K13 h13 => ok_region_d [0, 0, 0, 1, 0, 0, 0, 0, 0, 1, 0, 1, 3, 2, 0] #[[], [], [1], [1, 2], [], [], [5], [5, 6], [4, 5, 6, 7], [4, 5, 6, 7, 8], [4, 5, 6, 7, 8, 9], [], [11], [0, 1, 2, 3, 4, 5, 6, 7, 8, 9, 10, 11, 12], [0, 1, 2, 3, 4, 5, 6, 7, 8, 9, 10, 11, 12, 13]] [0, 1, 2, 3, 4, 5, 6, 7, 8, 9, 10, 11, 12, 13, 14] (by kernel_rfl) (by kernel_rfl) rfl rfl (
        q_mo _ rfl (q_mv _ rfl (q_ia el29 rfl rfl (by omega) (mget (f := int) g1) (q_ld (int (i : Int)) ag3 rfl rfl (q_mv _ rfl (q_mv _ rfl (q_len eS29 rfl (q_sub rfl rfl (by rw [List.length_map]; omega) (
        q_ia el29 rfl rfl (by rw [List.length_map]; omega) (by rw [List.length_map, show ((p.length : Int) - 1).toNat = p.length - 1 by omega]; exact mget (f := int) g3) (q_ld (int ((j - 1 : Nat) : Int)) ag3 rfl rfl (q_addr (j : Int) rfl rfl (by omega) (by omega) (
        q_ldbs (r := [int A, int (A + W), int L, .tr Z3 (eSeriesS (mrgB ((cur.take j).drop i))) v3, .tr Z4 (eStoneS []) v4]) ag34 rfl rfl sz34 rfl rfl (q_lito1 _ _ el53 ze34 (by decide) (by decide) rfl rfl rfl (.inl ⟨_, rfl⟩) rfl (
        q_rep (k := 100) (k2 := 36) (r := rs1) (p := i) (q := j) (rep102 T1) cl102 rfl rfl rfl rfl rfl rfl (by decide) hlt (by omega) (cpsB_agg hC1) (.inl ⟨_, rfl⟩) rfl rfl (
        q_ao _ rfl (run_nil (h13 _ ⟨(nxt cur i j (mrgBk A W L ((cur.take j).drop i)), T1, _), hmu, ⟨hN, hfin⟩, le_rek 100 37 ⟨rfl, rfl, trivial⟩ ⟨rfl, trivial⟩ rfl rfl rfl rfl ⟨rfl, trivial⟩⟩)))))))))))))))))
end Go.Ring
