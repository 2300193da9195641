/- The law of owners by name. No condition. -/
import Derived.Test.YtlokejcoikddgaaT4
namespace Go.Ring
open Go Go.RowKit Go.Eager Go.Abs Go.Proofs
set_option maxRecDepth 100000
set_option linter.unusedVariables false
set_option linter.unusedSimpArgs false
theorem ok_le {Γ : Ctx} {c : Code} {σ σ' : St} {Q : Exit → St → Prop} (h : Le Γ σ' σ) (hok : Ok Γ c σ' Q) : Ok Γ c σ Q := fun a w I => hok a w (h a w I)
theorem ring_wrap {w : World} {O : Nat → Prop} {c : Int} {Z : Nat → Prop} {s : SV} {v u : Value} (h : Rep w O (.agg [int c, .tr Z s v]) u) : u = .agg #[.int .i64 c, v] ∧ Rep w O (.tr Z s v) v := by
  cases h with
  | agg _ vs hn h1 h2 =>
    have e0 : ∃ y, vs[0]? = some y := ⟨_, Array.getElem?_eq_getElem (by rw [hn]; simp)⟩
    have e1 : ∃ y, vs[1]? = some y := ⟨_, Array.getElem?_eq_getElem (by rw [hn]; simp)⟩
    obtain ⟨y0, e0⟩ := e0
    obtain ⟨y1, e1⟩ := e1
    have h3 := rep_raw' (h2 0 _ y0 rfl e0)
    have h4 := h2 1 _ y1 rfl e1
    have h5 : y1 = v := by cases h4; rfl
    rw [h5] at h4 e1
    refine ⟨?_, h4⟩
    congr 1
    apply Array.ext_getElem?
    intro i
    match i with
    | 0 => rw [e0, h3]; rfl
    | 1 => rw [e1]; rfl
    | i + 2 => rw [Array.getElem?_eq_none (by rw [hn]; simp), Array.getElem?_eq_none (by simp)]
theorem mk_ring_drop {Z : Nat → Prop} {s s' : SV} {v : Value} {c : Int} {i : Nat} {x x' y : LV} (hx : [LV.sv (int c), y][i]? = some x) (hx' : [LV.sv (int c), .dead][i]? = some x') : MkL Z s s' v x x' := by
  match i, hx, hx' with
  | 0, hx, hx' => simp at hx hx'; subst hx hx'; exact .sv (.raw _)
  | 1, hx, hx' => simp at hx hx'; subst hx hx'; exact .dead
  | i + 2, hx, hx' => simp at hx
theorem f5_ok (x : Ring) (hx : LRing x) (p : Int) (_ : (Lit.int .i64 p).wf = true) : PFn Try.prog 5 [eRing x, int p] (bool true) := by
  refine fn_ok' (n := 74) Try.func5 rfl rfl rfl (Nat.le_of_ble_eq_true rfl) rfl fun w0 O => ?_
  refine ok_seq fun K1 h1 => ok_region rfl (q_boxs _ rfl (Nat.zero_lt_succ _) (q_as _ rfl (run_nil (h1 _ ?_)))); clear h1 K1
  refine ok_seq fun K2 h2 => ok_region rfl (q_as _ rfl (run_nil (h2 _ ?_))); clear h2 K2
  refine ok_seq fun K3 h3 => ok_region rfl (q_lds _ ag41 rfl sz41 (q_mv _ rfl (q_call (f17_ok x hx 1048576 (by decide) (by decide)) cl17 rfl rfl (q_as _ rfl (run_nil (h3 _ ?_)))))); clear h3 K3
  refine ok_seq fun K4 h4 => ?_
  refine ok_seq fun K5 h5 => ok_region rfl (q_mv _ rfl (q_bin _ _ _ rfl rfl rfl (run_nil (h5 _ ?_)))); clear h5 K5
  refine ok_cond rfl (fun c6 => ?_) (fun c6 => ?_)
  · refine ok_seq fun K7 h7 => ?_
    refine ok_region rfl (q_as _ rfl (run_nil (h7 _ ?_)))
    clear h7 K7
    exact ok_ret ⟨_, rfl, rfl⟩
  · refine ok_skip (h4 _ ?_)
    have hs : SRing x := (zRing_ok x 1048576 (by decide)).2.2 (by have := of_decide_eq_false c6; omega)
    have hRl := res_len x p
    have hRl' : (resIds x p).length ≤ 1048576 := by omega
    refine ok_seq fun K8 h8 => ok_region rfl (q_lds _ ag41 rfl sz41 (q_call (f19_ok x hs) cl19 rfl rfl (q_mv _ rfl (q_callg [] (f22_t x hs p) cl22 ⟨.inl rfl, .inl rfl, trivial⟩ (fun rw_ hrw _ _ => ?_)))))
    cases hrw with
    | tr Zw _ _ vw =>
    refine q_as _ rfl (run_nil (h8 _ ?_)); clear h8 K8
    refine ok_le (σ' := ⟨[(1, .sv (int p)), (2, .sv (.ptr (eRing x))), (6, .sv (.tr Zw (strs (resIds x p)) vw))], []⟩) (le_same ⟨rfl, rfl, rfl, trivial⟩) ?_
    refine ok_seq fun K9 h9 => ok_region rfl (q_lds _ ag41 rfl sz41 (q_callg [2] (f19_t x hs) cl19 ⟨.inl rfl, trivial⟩ (fun rx hrx hzx hax => ?_)))
    obtain ⟨Zx, vx, rfl⟩ := gd_ring_inv hrx
    have hwx : ∀ b, Zw b → ¬ Zx b := fun b hb hb' => hax.1 6 _ b rfl (.tr Zw _ vw hb) (.agg _ (.tr Zx (eRingNodeS x.nodes) vx) (by simp) (.tr Zx _ vx hb'))
    have hx0 : ∀ b, Zx b → w0.heap.size ≤ b := fun b hb => hzx b (.agg _ (.tr Zx (eRingNodeS x.nodes) vx) (by simp) (.tr Zx _ vx hb))
    refine q_alloc _ ze46 rfl rfl rfl rfl (q_sts _ rfl rfl rfl sz46 (Nat.le_of_ble_eq_true rfl) rfl (run_nil (h9 _ ?_))); clear h9 K9
    refine ok_le (σ' := ⟨[(1, .sv (int p)), (2, .av (fun b => Zn b (.agg [int x.copies, .tr Zx (eRingNodeS x.nodes) vx])) (.ptr (eRing x))), (6, .sv (.tr Zw (strs (resIds x p)) vw)), (7, .ptr 7 0)], [(7, .box [.sv (int x.copies), .sv (.tr Zx (eRingNodeS x.nodes) vx)])]⟩) (le_sub ⟨rfl, rfl, rfl, rfl, trivial⟩ ⟨rfl, trivial⟩) ?_
    refine ok_seq fun K10 h10 => ok_region rfl (q_ldbs ag46 rfl rfl sz46 rfl rfl (q_mv _ rfl (q_callg [2] (f23_t x hs p) cl23 ⟨.inr (.inl ⟨_, rfl, gd_ring Zx vx⟩), .inl rfl, trivial⟩ (fun rg hrg hzg hag => ?_))))
    cases hrg with
    | tr Zg _ _ vg =>
    have hwg : ∀ b, Zw b → ¬ Zg b := fun b hb hb' => hag.1 6 _ b rfl (.tr Zw _ vw hb) (.tr Zg _ vg hb')
    have hgx : ∀ b, Zg b → ¬ Zx b := fun b hb hb' => hag.1 24 _ b rfl (.agg _ (.tr Zx (eRingNodeS x.nodes) vx) (by simp) (.tr Zx _ vx hb')) (.tr Zg _ vg hb)
    have hg0 : ∀ b, Zg b → w0.heap.size ≤ b := fun b hb => hzg b (.tr Zg _ vg hb)
    refine q_as _ rfl (run_nil (h10 _ ?_)); clear h10 K10
    refine ok_le (σ' := ⟨[(1, .sv (int p)), (2, .av (fun b => Zn b (.agg [int x.copies, .tr Zx (eRingNodeS x.nodes) vx]) ∨ Zn b (.tr Zg (strs (resIds x p)) vg)) (.ptr (eRing x))), (6, .sv (.tr Zw (strs (resIds x p)) vw)), (7, .ptr 7 0), (8, .sv (.tr Zg (strs (resIds x p)) vg))], [(7, .box [.sv (int x.copies), .sv (.tr Zx (eRingNodeS x.nodes) vx)])]⟩) (le_sub ⟨rfl, rfl, rfl, rfl, rfl, trivial⟩ ⟨rfl, trivial⟩) ?_
    refine ok_seq fun K11 h11 => ?_
    refine ok_seq fun K12 h12 => ok_region rfl (q_mv _ rfl (q_mv _ rfl (q_callp (f24_ok (resIds x p) hRl') cl24 ⟨.inr (.inl ⟨_, rfl, .tr _ _ _ _⟩), .inr (.inl ⟨_, rfl, .tr _ _ _ _⟩), trivial⟩ (q_un _ _ rfl rfl (run_nil (h12 _ ?_)))))); clear h12 K12
    refine ok_cond rfl (fun c13 => ?_) (fun c13 => ?_)
    · simp at c13
    · refine ok_skip (h11 _ ?_)
      refine ok_seq fun K15 h15 => ?_
      refine ok_seq fun K16 h16 => ?_
      refine ok_region_i (by kernel_rfl) (by kernel_rfl) rfl (
        q_ldbs ag46 rfl rfl sz46 rfl rfl (q_ldsa _ ag41 rfl sz41 (q_call (f19_ok x hs) cl19 rfl rfl (q_callp (f21_ok x hs) cl21 ⟨.inr (.inl ⟨_, rfl, gd_ring Zx vx⟩), .inl rfl, trivial⟩ (q_un _ _ rfl rfl (run_nil (h16 _ ?_)))))))
      clear h16 K16
      refine ok_cond rfl (fun c17 => ?_) (fun c17 => ?_)
      · simp at c17
      · refine ok_skip (h15 _ ?_)
        refine ok_seq fun K19 h19 => ok_region rfl (q_as _ rfl (run_nil (h19 _ ?_))); clear h19 K19
        refine ok_le (σ' := ⟨[(1, .sv (int p)), (2, .av (fun b => Zn b (.agg [int x.copies, .tr Zx (eRingNodeS x.nodes) vx]) ∨ Zn b (.tr Zg (strs (resIds x p)) vg)) (.ptr (eRing x))), (6, .sv (.tr Zw (strs (resIds x p)) vw)), (7, .ptr 7 0), (8, .sv (.tr Zg (strs (resIds x p)) vg)), (9, .sv (int 1))], [(7, .box [.sv (int x.copies), .sv (.tr Zx (eRingNodeS x.nodes) vx)])]⟩) (le_sub ⟨rfl, rfl, rfl, rfl, rfl, rfl, trivial⟩ ⟨rfl, trivial⟩) ?_
        refine ok_seq fun K20 h20 => ok_region rfl (q_ldbs ag46 rfl rfl sz46 rfl rfl (q_mv _ rfl (
          q_markw (fun v => .agg #[.int .i64 x.copies, v]) (fun w Z v hT hZ => f25_m x.copies x.nodes hs.1 (fun y hy => (hs.2 y hy).2) 1 (by decide) (by decide) w Z v hT hZ) cl25 (fun ρ a w I => ring_wrap (I.ev (.tmp 36))) rfl (fun b hb => .inl (hx0 b hb))
            (fun s' => [(37, .sv (int 1)), (36, .dead), (1, .sv (int p)), (2, .av (fun b => Zn b (.agg [int x.copies, .tr Zx (eRingNodeS x.nodes) vx]) ∨ Zn b (.tr Zg (strs (resIds x p)) vg)) (.ptr (eRing x))), (6, .sv (.tr Zw (strs (resIds x p)) vw)), (7, .ptr 7 0), (8, .sv (.tr Zg (strs (resIds x p)) vg)), (9, .sv (int 1))])
            (fun s' => [(7, .box [.sv (int x.copies), .dead])])
            (fun s' => ⟨rfl, .sv (.raw _), rfl, .dead, rfl, .sv (.raw _), rfl, .av (fun b hb => .inl (.agg _ (.tr Zx (eRingNodeS x.nodes) vx) (by simp) (.tr Zx _ vx hb))), rfl, .sv (.other _ _ _ hwx), rfl, .ptr, rfl, .sv (.other _ _ _ hgx), rfl, .sv (.raw _), trivial⟩)
            (fun s' => ⟨rfl, .box rfl (fun i y y' hy hy' => mk_ring_drop hy hy'), trivial⟩) (fun k' s' hR => ?_))))
        obtain ⟨m, rfl⟩ := hR
        refine q_as _ rfl (run_nil (h20 _ ?_)); clear h20 K20
        refine ok_seq fun K21 h21 => ?_
        refine ok_seq fun K22 h22 => ?_
        refine ok_region rfl (q_mv _ rfl (q_bin _ _ _ rfl rfl rfl (q_mv _ rfl (q_or (b2 := false) 4 4 rfl rfl rfl rfl rfl (fun hb46 =>
            q_mv _ rfl (q_mv _ rfl (q_callp (f24_ok (resIds x p) hRl') cl24 ⟨.inr (.inl ⟨_, rfl, .tr _ _ _ _⟩), .inr (.inl ⟨_, rfl, .tr _ _ _ _⟩), trivial⟩ (q_un _ _ rfl rfl (run_nil ⟨rfl, rfl, rfl, rfl⟩))))) (
          run_nil (h22 _ ?_))))))
        clear h22 K22
        refine ok_cond rfl (fun c23 => ?_) (fun c23 => ?_)
        · simp at c23; omega
        · refine ok_skip (h21 _ ?_)
          refine ok_seq fun K25 h25 => ok_region rfl (q_as _ rfl (run_nil (h25 _ ?_))); clear h25 K25
          refine ok_le (σ' := ⟨[(1, .sv (int p)), (2, .av (fun b => Zn b (.agg [int x.copies, .tr Zx (eRingNodeS x.nodes) vx]) ∨ Zn b (.tr Zg (strs (resIds x p)) vg)) (.ptr (eRing x))), (6, .sv (.tr Zw (strs (resIds x p)) vw)), (8, .sv (.tr Zg (strs (resIds x p)) vg)), (10, .sv (int 1))], []⟩) (le_sub ⟨rfl, rfl, rfl, rfl, rfl, trivial⟩ trivial) ?_
          refine ok_seq fun K26 h26 => ok_region rfl (q_mv _ rfl (q_mv _ rfl (
            q_mark (k := ((1 : Nat) : Int)) (f26_m (resIds x p) hRl' 1 (by decide) (by decide)) cl26 rfl rfl (fun b hb => .inl (hg0 b hb))
              (fun s' => [(48, .sv (int 1)), (47, .dead), (1, .sv (int p)), (2, .av (fun b => Zn b (.agg [int x.copies, .tr Zx (eRingNodeS x.nodes) vx]) ∨ Zn b (.tr Zg (strs (resIds x p)) vg)) (.ptr (eRing x))), (6, .sv (.tr Zw (strs (resIds x p)) vw)), (8, .sv (.tr Zg s' vg)), (10, .sv (int 1))])
              (fun s' => [])
              (fun s' => ⟨rfl, .sv (.raw _), rfl, .dead, rfl, .sv (.raw _), rfl, .av (fun b hb => .inr (.tr Zg _ vg hb)), rfl, .sv (.other _ _ _ hwg), rfl, .sv .same, rfl, .sv (.raw _), trivial⟩)
              (fun s' => trivial) (fun k' s' hR => ?_))))
          obtain ⟨rfl, rfl⟩ := hR
          refine q_as _ rfl (run_nil (h26 _ ?_)); clear h26 K26
          refine ok_seq fun K27 h27 => ok_region rfl (q_as _ rfl (run_nil (h27 _ ?_))); clear h27 K27
          refine ok_seq fun K28 h28 => ok_region rfl (q_mv _ rfl (q_mv _ rfl (q_callp (f27_ok 1 (resIds x p).length (by decide) (by decide) hRl') cl27 ⟨.inr (.inl ⟨_, rfl, .tr _ _ _ _⟩), .inl rfl, trivial⟩ (q_as _ rfl (run_nil (h28 _ ?_)))))); clear h28 K28
          refine ok_seq fun K29 h29 => ?_
          refine ok_seq fun K30 h30 => ok_region rfl (q_mv _ rfl (q_bin _ _ _ rfl rfl rfl (run_nil (h30 _ ?_)))); clear h30 K30
          refine ok_cond rfl (fun c31 => ?_) (fun c31 => ?_)
          · have := of_decide_eq_true c31; omega
          · refine ok_skip (h29 _ ?_)
            refine ok_seq fun K33 h33 => ?_
            refine ok_seq fun K34 h34 => ok_region rfl (q_mv _ rfl (q_mv _ rfl (q_bin _ _ _ rfl rfl rfl (run_nil (h34 _ ?_))))); clear h34 K34
            refine ok_cond rfl (fun c35 => ?_) (fun c35 => ?_)
            · simp at c35
            · refine ok_skip (h33 _ ?_)
              refine ok_seq fun K37 h37 => ok_region rfl (q_ldsa _ ag41 rfl sz41 (q_call (f19_ok x hs) cl19 rfl rfl (q_mv _ rfl (q_callg [] (f23_t x hs p) cl23 ⟨.inl rfl, .inl rfl, trivial⟩ (fun rh hrh _ _ => ?_)))))
              cases hrh with
              | tr Zh _ _ vh =>
              refine q_as _ rfl (run_nil (h37 _ ?_)); clear h37 K37
              refine ok_le (σ' := ⟨[(6, .sv (.tr Zw (strs (resIds x p)) vw)), (8, .sv (.tr Zg (strs (marksT 1 (resIds x p).length)) vg)), (10, .sv (int ((1 + (resIds x p).length : Nat) : Int))), (12, .sv (.tr Zh (strs (resIds x p)) vh))], []⟩) (le_same ⟨rfl, rfl, rfl, rfl, trivial⟩) ?_
              refine ok_seq fun K38 h38 => ?_
              refine ok_seq fun K39 h39 => ok_region rfl (q_mv _ rfl (q_mv _ rfl (q_callp (f24_ok (resIds x p) hRl') cl24 ⟨.inr (.inl ⟨_, rfl, .tr _ _ _ _⟩), .inr (.inl ⟨_, rfl, .tr _ _ _ _⟩), trivial⟩ (q_un _ _ rfl rfl (run_nil (h39 _ ?_)))))); clear h39 K39
              refine ok_cond rfl (fun c40 => ?_) (fun c40 => ?_)
              · simp at c40
              · refine ok_skip (h38 _ ?_)
                refine ok_seq fun K42 h42 => ok_region rfl (q_as _ rfl (run_nil (h42 _ ?_))); clear h42 K42
                refine ok_seq fun K43 h43 => ok_region rfl (q_mv _ rfl (q_mv _ rfl (q_callp (f27_ok 1 (resIds x p).length (by decide) (by decide) hRl') cl27 ⟨.inr (.inl ⟨_, rfl, .tr _ _ _ _⟩), .inl rfl, trivial⟩ (q_as _ rfl (run_nil (h43 _ ?_)))))); clear h43 K43
                refine ok_seq fun K44 h44 => ?_
                refine ok_seq fun K45 h45 => ok_region rfl (q_mv _ rfl (q_bin _ _ _ rfl rfl rfl (run_nil (h45 _ ?_)))); clear h45 K45
                refine ok_cond rfl (fun c46 => ?_) (fun c46 => ?_)
                · have := of_decide_eq_true c46; omega
                · refine ok_skip (h44 _ ?_)
                  refine ok_seq fun K48 h48 => ?_
                  refine ok_seq fun K49 h49 => ok_region rfl (q_mv _ rfl (q_mv _ rfl (q_bin _ _ _ rfl rfl rfl (run_nil (h49 _ ?_))))); clear h49 K49
                  refine ok_cond rfl (fun c50 => ?_) (fun c50 => ?_)
                  · simp at c50
                  · refine ok_skip (h48 _ ?_)
                    refine ok_seq fun K52 h52 => ok_region rfl (q_as _ rfl (run_nil (h52 _ ?_))); clear h52 K52
                    exact ok_ret ⟨_, rfl, rfl⟩
end Go.Ring
