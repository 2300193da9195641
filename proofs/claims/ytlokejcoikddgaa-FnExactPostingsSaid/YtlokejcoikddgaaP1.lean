/- The postings of a name and a value; their law. No condition. -/
import Derived.Test.YtlokejcoikddgaaU1
import Derived.Test.YtlokejcoikddgaaG10
set_option maxRecDepth 100000
set_option linter.unusedVariables false
set_option linter.unusedSimpArgs false
namespace Go.Ring
open Go Go.RowKit Go.Eager Go.Abs Go.Proofs
theorem ok_le {Γ : Ctx} {c : Code} {σ σ' : St} {Q : Exit → St → Prop} (h : Le Γ σ' σ) (hok : Ok Γ c σ' Q) : Ok Γ c σ Q := fun a w I => hok a w (h a w I)
/-- Where the series stand that have this value under the name. -/
def postF (n v : ByteArray) : List Series → Nat → List Int
  | [], _ => []
  | x :: l, k => if (valOf x.labels n).data.toList = v.data.toList then (k : Int) :: postF n v l (k + 1) else postF n v l (k + 1)
theorem postF_step {n v : ByteArray} {l : List Series} {k : Nat} {x : Series} (h : l[k]? = some x) : postF n v (l.drop k) k = if (valOf x.labels n).data.toList = v.data.toList then (k : Int) :: postF n v (l.drop (k + 1)) (k + 1) else postF n v (l.drop (k + 1)) (k + 1) := by
  obtain ⟨hlt, he⟩ := List.getElem?_eq_some_iff.1 h
  rw [List.drop_eq_getElem_cons hlt, he]; rfl
theorem postF_len (n v : ByteArray) : ∀ (l : List Series) (k : Nat), (postF n v l k).length ≤ l.length
  | [], _ => Nat.le_refl _
  | x :: l, k => by
    have := postF_len n v l (k + 1)
    unfold postF
    split <;> simp <;> omega
noncomputable def resP (x : Block) (n v : ByteArray) : List Int := if pB (BlockOk x) = true then postF n v x.series 0 else []
theorem resP_S (x : Block) (hx : SBlock x) (n v : ByteArray) : (resP x n v).length ≤ 1048576 := by
  unfold resP
  split
  · exact Nat.le_trans (postF_len n v x.series 0) hx.1.1
  · simp
theorem resP_C (x : Block) (hx : SBlock x) (n v : ByteArray) : 1 + cL cOne (resP x n v) ≤ 1152921504606846976 := by
  have := resP_S x hx n v
  rw [cL_const (c := cOne) (m := 1) (fun _ => rfl)]
  omega
theorem f9_t (x : Block) (hx : SBlock x) (n v : ByteArray) : PFnT Try.prog 9 [eBlock x, str n, str v] (ints (resP x n v)) := by
  refine fnp_ok (n := 33) Try.func9 rfl rfl rfl (Nat.le_of_ble_eq_true rfl) rfl fun w0 O => ?_
  refine ok_seq fun K1 h1 => ok_region rfl (q_boxs _ rfl (Nat.zero_lt_succ _) (q_as _ rfl (run_nil (h1 _ ?_)))); clear h1 K1
  refine ok_seq fun K2 h2 => ?_
  refine ok_seq fun K3 h3 => ok_region rfl (q_lds _ ag32 rfl sz32 (q_call (f43_ok x hx) cl43 rfl rfl (q_un _ _ rfl rfl (run_nil (h3 _ ?_))))); clear h3 K3
  refine ok_cond rfl (fun c4 => ?_) (fun c4 => ?_)
  · have e : resP x n v = [] := by unfold resP; rw [if_neg (by simpa using c4)]
    refine ok_seq fun K5 h5 => ?_
    refine ok_region rfl (q_as _ rfl (run_nil (h5 _ ?_)))
    clear h5 K5
    refine ok_nilT 1 (ok_ret ⟨_, ⟨_, _, rfl, rfl, rfl⟩, ?_, fun b hb => (zn_tr hb).elim⟩)
    rw [e]
    exact .tr _ _ _ _
  · have e : resP x n v = postF n v x.series 0 := by unfold resP; rw [if_pos (by simpa using c4)]
    have hsl := hx.1.1
    refine ok_skip (h2 _ ?_)
    refine ok_seq fun K6 h6 => ok_region rfl (q_an (n := 1) 3 (by decide) rfl rfl rfl (run_nil (h6 _ ?_))); clear h6 K6
    refine ok_seq fun K7 h7 => ?_
    refine ok_seq fun K8 h8 => ok_region rfl (q_fa _ fd32_3 rfl rfl (by decide) (q_ld _ ag29 rfl rfl (q_len eS29 rfl (q_mv _ rfl (run_nil (h8 _ ?_)))))); clear h8 K8
    rw [List.length_map]
    refine ok_block ?_
    refine ok_loop (fun (s : Nat × List Int) => ⟨[(1, .sv (str n)), (2, .sv (str v)), (7, .own 7), (14, .sv (eSeriesS x.series)), (15, .sv (int x.series.length)), (16, .sv (int s.1))], [(7, .row 1 3 (s.2.map int))]⟩) (fun s => s.2 ++ postF n v (x.series.drop s.1) s.1 = postF n v x.series 0 ∧ s.2.length ≤ s.1) (fun s => x.series.length - s.1) (0, []) ⟨rfl, Nat.le_refl _⟩ (le_sub ⟨rfl, rfl, rfl, rfl, rfl, rfl, trivial⟩ ⟨rfl, trivial⟩) (fun s J => ?_)
    obtain ⟨k, o⟩ := s
    obtain ⟨j1, j2⟩ := J
    simp only at j1 j2
    refine ok_seq fun K9 h9 => ok_region rfl (q_bin _ _ _ rfl rfl rfl (run_nil (h9 _ ?_))); clear h9 K9
    refine ok_seq fun K10 h10 => ?_
    refine ok_cond rfl (fun c11 => ?_) (fun c11 => ?_)
    · have hk : k < x.series.length := by simpa using c11
      obtain ⟨u, hu⟩ := sget hk
      rw [postF_step hu] at j1
      have hul := (hx.1.2 u (smem hu)).1.1
      refine ok_skip (h10 _ ?_)
      refine ok_seq_join (fun (o' : List Int) => ⟨[(1, .sv (str n)), (2, .sv (str v)), (7, .own 7), (14, .sv (eSeriesS x.series)), (15, .sv (int x.series.length)), (16, .sv (int k))], [(7, .row 1 3 (o'.map int))]⟩) (fun o' => o' ++ postF n v (x.series.drop (k + 1)) (k + 1) = postF n v x.series 0 ∧ o'.length ≤ k + 1) ?_ (fun o' J => ?_)
      · refine ok_block ?_
        refine ok_seq fun K12 h12 => ok_region rfl (q_mv _ rfl (q_ia el29 rfl rfl (by omega) (mget (f := eSeries) hu) (q_lds _ ag75 rfl sz75 (q_alloc _ ze75 rfl rfl rfl rfl (q_as _ rfl (q_sts _ rfl rfl rfl sz75 (Nat.le_of_ble_eq_true rfl) rfl (run_nil (h12 _ ?_)))))))); clear h12 K12
        refine ok_seq fun K13 h13 => ok_region rfl (q_fap fd75_0 rfl (by decide) (q_ldb _ ag72 rfl rfl rfl (q_mv _ rfl (q_call (f44_ok u.labels hul n) cl44 rfl rfl (q_mv _ rfl (q_bin _ _ _ rfl rfl rfl (run_nil (h13 _ ?_)))))))); clear h13 K13
        refine ok_cond rfl (fun c14 => ?_) (fun c14 => ?_)
        · rw [if_pos (by simpa using c14)] at j1
          refine ok_last fun K15 h15 => ok_region rfl (
            q_mo _ rfl (q_mv _ rfl (q_lit1 _ (int (k : Int)) el27 ze3 (by decide) (by decide) rfl (.inr rfl) rfl (q_app _ el27 ze3 rfl by3 rfl rfl rfl rfl rfl (by simp) (by intro s hs; simp at hs; subst hs; exact .inr rfl) (by rw [List.length_map]; show o.length + 1 ≤ maxLen; unfold maxLen; omega) (by rw [List.length_map]; show (o.length + 1) * 8 ≤ _; omega) (
            q_ao _ rfl (run_nil (h15 _ (⟨o ++ [(k : Int)], ⟨by rw [List.append_assoc]; exact j1, by rw [List.length_append]; simp; omega⟩, by rw [List.map_append]; exact le_rek 7 30 ⟨rfl, rfl, rfl, rfl, rfl, rfl, trivial⟩ ⟨rfl, trivial⟩ rfl rfl rfl rfl ⟨rfl, trivial⟩⟩))))))))
        · rw [if_neg (by simpa using c14)] at j1
          exact ok_skip (⟨o, ⟨j1, by omega⟩, le_sub ⟨rfl, rfl, rfl, rfl, rfl, rfl, trivial⟩ ⟨rfl, trivial⟩⟩)
      · obtain ⟨i1, i2⟩ := J
        refine ok_last fun K16 h16 => ok_region rfl (
          q_add rfl rfl (by omega) (q_mv _ rfl (run_nil (h16 _ (⟨(k + 1, o'), by simp only; omega, ⟨i1, i2⟩, le_sub ⟨rfl, rfl, rfl, rfl, rfl, rfl, trivial⟩ ⟨rfl, trivial⟩⟩)))))
    · rw [List.drop_of_length_le (by have : ¬ ((k : Int) < x.series.length) := by simpa using c11
                                     omega)] at j1
      have j3 : o = resP x n v := by rw [e, ← j1]; simp [postF]
      refine ok_exit (h7 _ ?_)
      refine ok_seq fun K17 h17 => ok_region rfl (q_mo _ rfl (q_ao _ rfl (run_nil (h17 _ ?_)))); clear h17 K17
      obtain ⟨g1, g2, g3⟩ := gd_flatL (rs := o.map int) (fun r hr => by obtain ⟨y, _, rfl⟩ := List.mem_map.1 hr; rfl)
      refine ok_treed (k := 7) (n := 1) (T := 3) (rs := o.map int) (ss := o.map int) rfl rfl g1 g2 (fun r hr b hb => (g3 r hr b hb).elim) (fun Z v hZ => ?_)
      refine ok_ret ⟨_, ⟨_, _, rfl, rfl, rfl⟩, ?_, fun b hb => (hZ b (zn_tr hb)).elim id fun h => h.elim⟩
      rw [← j3]
      exact .tr Z 1 _ v
theorem f11_t (x : Block) (hx : SBlock x) (n v : ByteArray) : PFnT Try.prog 11 [eBlock x, str n, str v] (ints (resP x n v)) := by
  refine fnp_ok (n := 33) Try.func11 rfl rfl rfl (Nat.le_of_ble_eq_true rfl) rfl fun w0 O => ?_
  refine ok_seq fun K1 h1 => ok_region rfl (q_boxs _ rfl (Nat.zero_lt_succ _) (q_as _ rfl (run_nil (h1 _ ?_)))); clear h1 K1
  refine ok_seq fun K2 h2 => ?_
  refine ok_seq fun K3 h3 => ok_region rfl (q_lds _ ag32 rfl sz32 (q_call (f46_ok x hx) cl46 rfl rfl (q_un _ _ rfl rfl (run_nil (h3 _ ?_))))); clear h3 K3
  refine ok_cond rfl (fun c4 => ?_) (fun c4 => ?_)
  · have e : resP x n v = [] := by unfold resP; rw [if_neg (by simpa using c4)]
    refine ok_seq fun K5 h5 => ?_
    refine ok_region rfl (q_as _ rfl (run_nil (h5 _ ?_)))
    clear h5 K5
    refine ok_nilT 1 (ok_ret ⟨_, ⟨_, _, rfl, rfl, rfl⟩, ?_, fun b hb => (zn_tr hb).elim⟩)
    rw [e]
    exact .tr _ _ _ _
  · have e : resP x n v = postF n v x.series 0 := by unfold resP; rw [if_pos (by simpa using c4)]
    have hsl := hx.1.1
    refine ok_skip (h2 _ ?_)
    refine ok_seq fun K6 h6 => ok_region rfl (q_an (n := 1) 3 (by decide) rfl rfl rfl (run_nil (h6 _ ?_))); clear h6 K6
    refine ok_seq fun K7 h7 => ?_
    refine ok_seq fun K8 h8 => ok_region rfl (q_fa _ fd32_3 rfl rfl (by decide) (q_ld _ ag29 rfl rfl (q_len eS29 rfl (q_mv _ rfl (run_nil (h8 _ ?_)))))); clear h8 K8
    rw [List.length_map]
    refine ok_block ?_
    refine ok_loop (fun (s : Nat × List Int) => ⟨[(1, .sv (str n)), (2, .sv (str v)), (7, .own 7), (14, .sv (eSeriesS x.series)), (15, .sv (int x.series.length)), (16, .sv (int s.1))], [(7, .row 1 3 (s.2.map int))]⟩) (fun s => s.2 ++ postF n v (x.series.drop s.1) s.1 = postF n v x.series 0 ∧ s.2.length ≤ s.1) (fun s => x.series.length - s.1) (0, []) ⟨rfl, Nat.le_refl _⟩ (le_sub ⟨rfl, rfl, rfl, rfl, rfl, rfl, trivial⟩ ⟨rfl, trivial⟩) (fun s J => ?_)
    obtain ⟨k, o⟩ := s
    obtain ⟨j1, j2⟩ := J
    simp only at j1 j2
    refine ok_seq fun K9 h9 => ok_region rfl (q_bin _ _ _ rfl rfl rfl (run_nil (h9 _ ?_))); clear h9 K9
    refine ok_seq fun K10 h10 => ?_
    refine ok_cond rfl (fun c11 => ?_) (fun c11 => ?_)
    · have hk : k < x.series.length := by simpa using c11
      obtain ⟨u, hu⟩ := sget hk
      rw [postF_step hu] at j1
      have hul := (hx.1.2 u (smem hu)).1.1
      refine ok_skip (h10 _ ?_)
      refine ok_seq_join (fun (o' : List Int) => ⟨[(1, .sv (str n)), (2, .sv (str v)), (7, .own 7), (14, .sv (eSeriesS x.series)), (15, .sv (int x.series.length)), (16, .sv (int k))], [(7, .row 1 3 (o'.map int))]⟩) (fun o' => o' ++ postF n v (x.series.drop (k + 1)) (k + 1) = postF n v x.series 0 ∧ o'.length ≤ k + 1) ?_ (fun o' J => ?_)
      · refine ok_block ?_
        refine ok_seq fun K12 h12 => ok_region rfl (q_mv _ rfl (q_ia el29 rfl rfl (by omega) (mget (f := eSeries) hu) (q_lds _ ag75 rfl sz75 (q_alloc _ ze75 rfl rfl rfl rfl (q_as _ rfl (q_sts _ rfl rfl rfl sz75 (Nat.le_of_ble_eq_true rfl) rfl (run_nil (h12 _ ?_)))))))); clear h12 K12
        refine ok_seq fun K13 h13 => ok_region rfl (q_fap fd75_0 rfl (by decide) (q_ldb _ ag72 rfl rfl rfl (q_mv _ rfl (q_call (f47_ok u.labels hul n) cl47 rfl rfl (q_mv _ rfl (q_bin _ _ _ rfl rfl rfl (run_nil (h13 _ ?_)))))))); clear h13 K13
        refine ok_cond rfl (fun c14 => ?_) (fun c14 => ?_)
        · rw [if_pos (by simpa using c14)] at j1
          refine ok_last fun K15 h15 => ok_region rfl (
            q_mo _ rfl (q_mv _ rfl (q_lit1 _ (int (k : Int)) el27 ze3 (by decide) (by decide) rfl (.inr rfl) rfl (q_app _ el27 ze3 rfl by3 rfl rfl rfl rfl rfl (by simp) (by intro s hs; simp at hs; subst hs; exact .inr rfl) (by rw [List.length_map]; show o.length + 1 ≤ maxLen; unfold maxLen; omega) (by rw [List.length_map]; show (o.length + 1) * 8 ≤ _; omega) (
            q_ao _ rfl (run_nil (h15 _ (⟨o ++ [(k : Int)], ⟨by rw [List.append_assoc]; exact j1, by rw [List.length_append]; simp; omega⟩, by rw [List.map_append]; exact le_rek 7 30 ⟨rfl, rfl, rfl, rfl, rfl, rfl, trivial⟩ ⟨rfl, trivial⟩ rfl rfl rfl rfl ⟨rfl, trivial⟩⟩))))))))
        · rw [if_neg (by simpa using c14)] at j1
          exact ok_skip (⟨o, ⟨j1, by omega⟩, le_sub ⟨rfl, rfl, rfl, rfl, rfl, rfl, trivial⟩ ⟨rfl, trivial⟩⟩)
      · obtain ⟨i1, i2⟩ := J
        refine ok_last fun K16 h16 => ok_region rfl (
          q_add rfl rfl (by omega) (q_mv _ rfl (run_nil (h16 _ (⟨(k + 1, o'), by simp only; omega, ⟨i1, i2⟩, le_sub ⟨rfl, rfl, rfl, rfl, rfl, rfl, trivial⟩ ⟨rfl, trivial⟩⟩)))))
    · rw [List.drop_of_length_le (by have : ¬ ((k : Int) < x.series.length) := by simpa using c11
                                     omega)] at j1
      have j3 : o = resP x n v := by rw [e, ← j1]; simp [postF]
      refine ok_exit (h7 _ ?_)
      refine ok_seq fun K17 h17 => ok_region rfl (q_mo _ rfl (q_ao _ rfl (run_nil (h17 _ ?_)))); clear h17 K17
      obtain ⟨g1, g2, g3⟩ := gd_flatL (rs := o.map int) (fun r hr => by obtain ⟨y, _, rfl⟩ := List.mem_map.1 hr; rfl)
      refine ok_treed (k := 7) (n := 1) (T := 3) (rs := o.map int) (ss := o.map int) rfl rfl g1 g2 (fun r hr b hb => (g3 r hr b hb).elim) (fun Z v hZ => ?_)
      refine ok_ret ⟨_, ⟨_, _, rfl, rfl, rfl⟩, ?_, fun b hb => (hZ b (zn_tr hb)).elim id fun h => h.elim⟩
      rw [← j3]
      exact .tr Z 1 _ v
theorem f9_ok (x : Block) (hx : SBlock x) (n v : ByteArray) : PFn Try.prog 9 [eBlock x, str n, str v] (ints (resP x n v)) := PFnR.toP (f9_t x hx n v)
theorem f3_ok (a0 : Block) (pa0 : LBlock a0) (a1 : ByteArray) (pa1 : LB a1.size) (a2 : ByteArray) (pa2 : LB a2.size) : PFn Try.prog 3 [eBlock a0, str a1, str a2] (bool true) := by
  refine fn_ok' (n := 85) Try.func3 rfl rfl rfl (Nat.le_of_ble_eq_true rfl) rfl fun w0 O => ?_
  refine ok_seq fun K1 h1 => ?_
  refine ok_region rfl (q_boxs _ rfl (Nat.zero_lt_succ _) (q_as _ rfl (run_nil (h1 _ ?_))))
  clear h1 K1
  refine ok_seq fun K2 h2 => ?_
  refine ok_seq fun K3 h3 => ?_
  refine ok_region rfl (q_mv _ rfl (q_lens st9 rfl (q_bin _ _ _ rfl rfl rfl (run_nil (h3 _ ?_)))))
  clear h3 K3
  refine ok_cond rfl (fun c4 => ?_) (fun c4 => ?_)
  · refine ok_seq fun K5 h5 => ?_
    refine ok_region rfl (q_as _ rfl (run_nil (h5 _ ?_)))
    clear h5 K5
    exact ok_ret ⟨_, rfl, rfl⟩
  · have s1 : a1.size ≤ 1048576 := by have := of_decide_eq_false c4; omega
    refine ok_skip (h2 _ ?_)
    refine ok_seq fun K6 h6 => ?_
    refine ok_seq fun K7 h7 => ?_
    refine ok_region rfl (q_mv _ rfl (q_lens st9 rfl (q_bin _ _ _ rfl rfl rfl (run_nil (h7 _ ?_)))))
    clear h7 K7
    refine ok_cond rfl (fun c8 => ?_) (fun c8 => ?_)
    · refine ok_seq fun K9 h9 => ?_
      refine ok_region rfl (q_as _ rfl (run_nil (h9 _ ?_)))
      clear h9 K9
      exact ok_ret ⟨_, rfl, rfl⟩
    · have s2 : a2.size ≤ 1048576 := by have := of_decide_eq_false c8; omega
      refine ok_skip (h6 _ ?_)
      refine ok_seq fun K10 h10 => ?_
      refine ok_region rfl (q_as _ rfl (run_nil (h10 _ ?_)))
      clear h10 K10
      refine ok_seq fun K11 h11 => ?_
      refine ok_region rfl (q_lds _ ag25 rfl sz25 (q_mv _ rfl (q_call (f8_ok a0 pa0 1048576 (by decide) (by decide)) cl8 rfl rfl (q_as _ rfl (run_nil (h11 _ ?_))))))
      clear h11 K11
      refine ok_seq fun K12 h12 => ?_
      refine ok_seq fun K13 h13 => ?_
      refine ok_region rfl (q_mv _ rfl (q_bin _ _ _ rfl rfl rfl (run_nil (h13 _ ?_))))
      clear h13 K13
      refine ok_cond rfl (fun c14 => ?_) (fun c14 => ?_)
      · refine ok_seq fun K15 h15 => ?_
        refine ok_region rfl (q_as _ rfl (run_nil (h15 _ ?_)))
        clear h15 K15
        exact ok_ret ⟨_, rfl, rfl⟩
      · have p0 : 0 ≤ zBlock a0 1048576 := by have := of_decide_eq_false c14; omega
        have u0 : zBlock a0 1048576 ≤ 1048576 := (zBlock_ok a0 _ (by decide)).1
        have hs0 := (zBlock_ok a0 _ (by decide)).2.2 p0
        have hCg := resP_C a0 hs0 a1 a2
        have kb0 := kcm_Block a0 _ p0
        refine ok_skip (h12 _ ?_)
        refine ok_seq fun K16 h16 => ?_
        refine ok_region rfl (q_lds _ ag25 rfl sz25 (q_call (f10_ok a0 hs0) cl10 rfl rfl (q_mv _ rfl (q_mv _ rfl (q_call (f9_ok a0 hs0 a1 a2) cl9 rfl rfl (q_as _ rfl (run_nil (h16 _ ?_))))))))
        clear h16 K16
        refine ok_seq fun K17 h17 => ?_
        refine ok_region rfl (q_lds _ ag25 rfl sz25 (q_callg [8, 3, 0] (f10_t a0 hs0) cl10 ⟨.inl rfl, trivial⟩ (fun r_x0 hr_x0 hz_x0 ha_x0 => ?_)))
        obtain ⟨Z3x0, v3x0, Z4x0, v4x0, rfl, d3_4x0⟩ := gi_Block (x := a0) hr_x0
        refine q_alloc _ ze32 rfl rfl rfl rfl (q_sts _ rfl rfl rfl sz32 (Nat.le_of_ble_eq_true rfl) rfl (run_nil (h17 _ ?_)))
        refine ok_le (σ' := ⟨[(9, .ptr 9 0), (32, .sv (.agg [int a0.from_, int a0.to, int a0.level, .tr Z3x0 (eSeriesS a0.series) v3x0, .tr Z4x0 (eStoneS a0.stones) v4x0])), (8, .av (fun b => Zn b (.agg [int a0.from_, int a0.to, int a0.level, .tr Z3x0 (eSeriesS a0.series) v3x0, .tr Z4x0 (eStoneS a0.stones) v4x0])) (ints (resP a0 a1 a2))), (6, .sv (bool false)), (3, .av (fun b => Zn b (.agg [int a0.from_, int a0.to, int a0.level, .tr Z3x0 (eSeriesS a0.series) v3x0, .tr Z4x0 (eStoneS a0.stones) v4x0])) (.ptr (eBlock a0))), (2, .sv (str a2)), (1, .sv (str a1)), (0, .av (fun b => Zn b (.agg [int a0.from_, int a0.to, int a0.level, .tr Z3x0 (eSeriesS a0.series) v3x0, .tr Z4x0 (eStoneS a0.stones) v4x0])) (eBlock a0))], [(9, .box [.sv (int a0.from_), .sv (int a0.to), .sv (int a0.level), .sv (.tr Z3x0 (eSeriesS a0.series) v3x0), .sv (.tr Z4x0 (eStoneS a0.stones) v4x0)])]⟩) (le_sub ⟨rfl, rfl, rfl, rfl, rfl, rfl, rfl, rfl, trivial⟩ ⟨rfl, trivial⟩) ?_
        clear h17 K17
        refine ok_seq fun K18 h18 => ?_
        refine ok_region rfl (q_ldbs ag32 rfl rfl sz32 rfl rfl (q_mv _ rfl (q_mv _ rfl (q_callg [8, 3, 0] (f11_t a0 hs0 a1 a2) cl11 ⟨.inr (.inl ⟨_, rfl, (gc_Block a0 d3_4x0)⟩), .inl rfl, .inl rfl, trivial⟩ (fun r_g hr_g hz_g ha_g => ?_)))))
        obtain ⟨Zg, vg, rfl⟩ := gd_sl_inv hr_g
        have ap_x0_g : ∀ b, Zn b (.agg [int a0.from_, int a0.to, int a0.level, .tr Z3x0 (eSeriesS a0.series) v3x0, .tr Z4x0 (eStoneS a0.stones) v4x0]) → ¬ Zn b (.tr Zg (ints (resP a0 a1 a2)) vg) := fun b h1 h2 => ha_g.1 33 _ b rfl h1 h2
        refine q_as _ rfl (run_nil (h18 _ ?_))
        refine ok_le (σ' := ⟨[(10, .sv (.tr Zg (ints (resP a0 a1 a2)) vg)), (36, .sv (.tr Zg (ints (resP a0 a1 a2)) vg)), (9, .ptr 9 0), (32, .sv (.agg [int a0.from_, int a0.to, int a0.level, .tr Z3x0 (eSeriesS a0.series) v3x0, .tr Z4x0 (eStoneS a0.stones) v4x0])), (8, .av (fun b => (Zn b (.agg [int a0.from_, int a0.to, int a0.level, .tr Z3x0 (eSeriesS a0.series) v3x0, .tr Z4x0 (eStoneS a0.stones) v4x0])) ∨ Zn b (.tr Zg (ints (resP a0 a1 a2)) vg)) (ints (resP a0 a1 a2))), (6, .sv (bool false)), (3, .av (fun b => (Zn b (.agg [int a0.from_, int a0.to, int a0.level, .tr Z3x0 (eSeriesS a0.series) v3x0, .tr Z4x0 (eStoneS a0.stones) v4x0])) ∨ Zn b (.tr Zg (ints (resP a0 a1 a2)) vg)) (.ptr (eBlock a0))), (2, .sv (str a2)), (1, .sv (str a1)), (0, .av (fun b => (Zn b (.agg [int a0.from_, int a0.to, int a0.level, .tr Z3x0 (eSeriesS a0.series) v3x0, .tr Z4x0 (eStoneS a0.stones) v4x0])) ∨ Zn b (.tr Zg (ints (resP a0 a1 a2)) vg)) (eBlock a0))], [(9, .box [.sv (int a0.from_), .sv (int a0.to), .sv (int a0.level), .sv (.tr Z3x0 (eSeriesS a0.series) v3x0), .sv (.tr Z4x0 (eStoneS a0.stones) v4x0)])]⟩) (le_sub ⟨rfl, rfl, rfl, rfl, rfl, rfl, rfl, rfl, rfl, rfl, trivial⟩ ⟨rfl, trivial⟩) ?_
        clear h18 K18
        refine ok_seq fun K19 h19 => ?_
        refine ok_seq fun K20 h20 => ?_
        refine ok_region rfl (q_mv _ rfl (q_mva rfl (q_callp (f12_ok (resP a0 a1 a2) (resP_S a0 hs0 a1 a2)) cl12 ⟨.inr (.inl ⟨_, rfl, (.tr _ _ _ _)⟩), .inr (.inr ⟨_, rfl⟩), trivial⟩ (q_un _ _ rfl rfl (run_nil (h20 _ ?_))))))
        clear h20 K20
        refine ok_cond rfl (fun c21 => ?_) (fun c21 => ?_)
        · first | (exfalso; simp at c21; done) | (exfalso; have hcc := of_decide_eq_true c21; omega) | (exfalso; simp at c21; omega)
        · refine ok_skip (h19 _ ?_)
          refine ok_seq fun K22 h22 => ?_
          refine ok_seq fun K23 h23 => ?_
          refine ok_region_i (by kernel_rfl) (by kernel_rfl) rfl (q_ldbs ag32 rfl rfl sz32 rfl rfl (q_ldsa _ ag25 rfl sz25 (q_call (f10_ok a0 hs0) cl10 rfl rfl (q_callp (f13_ok a0 hs0) cl13 ⟨.inr (.inl ⟨_, rfl, (gc_Block a0 d3_4x0)⟩), .inl rfl, trivial⟩ (q_un _ _ rfl rfl (run_nil (h23 _ ?_)))))))
          clear h23 K23
          refine ok_cond rfl (fun c24 => ?_) (fun c24 => ?_)
          · first | (exfalso; simp at c24; done) | (exfalso; have hcc := of_decide_eq_true c24; omega) | (exfalso; simp at c24; omega)
          · refine ok_skip (h22 _ ?_)
            refine ok_seq fun K25 h25 => ?_
            refine ok_region rfl (q_as _ rfl (run_nil (h25 _ ?_)))
            clear h25 K25
            refine ok_seq fun K26 h26 => ?_
            refine ok_region rfl (q_ldbs ag32 rfl rfl sz32 rfl rfl (q_mv _ rfl (q_markg (k := ((1 : Nat) : Int)) (gc_Block a0 d3_4x0) (f14_m a0 (nBlock_of hs0) (1) (by omega) (by omega)) cl14 rfl rfl (fun b hb => .inl (hz_x0 b hb)) [(11, .sv (int 1)), (10, .sv (.tr Zg (ints (resP a0 a1 a2)) vg)), (36, .sv (.tr Zg (ints (resP a0 a1 a2)) vg)), (8, .av (fun b => (Zn b (.agg [int a0.from_, int a0.to, int a0.level, .tr Z3x0 (eSeriesS a0.series) v3x0, .tr Z4x0 (eStoneS a0.stones) v4x0])) ∨ Zn b (.tr Zg (ints (resP a0 a1 a2)) vg)) (ints (resP a0 a1 a2))), (6, .sv (bool false)), (3, .av (fun b => (Zn b (.agg [int a0.from_, int a0.to, int a0.level, .tr Z3x0 (eSeriesS a0.series) v3x0, .tr Z4x0 (eStoneS a0.stones) v4x0])) ∨ Zn b (.tr Zg (ints (resP a0 a1 a2)) vg)) (.ptr (eBlock a0))), (2, .sv (str a2)), (1, .sv (str a1)), (0, .av (fun b => (Zn b (.agg [int a0.from_, int a0.to, int a0.level, .tr Z3x0 (eSeriesS a0.series) v3x0, .tr Z4x0 (eStoneS a0.stones) v4x0])) ∨ Zn b (.tr Zg (ints (resP a0 a1 a2)) vg)) (eBlock a0))] [] ⟨⟨_, rfl, .raw⟩, ⟨_, rfl, .good (.tr _ _ _ _) (fun b hb hb' => ap_x0_g b hb' hb)⟩, ⟨_, rfl, .good (.tr _ _ _ _) (fun b hb hb' => ap_x0_g b hb' hb)⟩, ⟨_, rfl, .av (fun b hb => (.inl hb))⟩, ⟨_, rfl, .raw⟩, ⟨_, rfl, .av (fun b hb => (.inl hb))⟩, ⟨_, rfl, .raw⟩, ⟨_, rfl, .raw⟩, ⟨_, rfl, .av (fun b hb => (.inl hb))⟩, trivial⟩ trivial (fun k' s' hR => ?_))))
            obtain ⟨rfl, -⟩ := hR
            refine q_as _ rfl (run_nil (h26 _ ?_))
            refine ok_le (σ' := ⟨[(11, .sv (int ((1 + cmBlock a0 : Nat) : Int))), (10, .sv (.tr Zg (ints (resP a0 a1 a2)) vg)), (36, .sv (.tr Zg (ints (resP a0 a1 a2)) vg)), (8, .av (fun b => (Zn b (.agg [int a0.from_, int a0.to, int a0.level, .tr Z3x0 (eSeriesS a0.series) v3x0, .tr Z4x0 (eStoneS a0.stones) v4x0])) ∨ Zn b (.tr Zg (ints (resP a0 a1 a2)) vg)) (ints (resP a0 a1 a2))), (6, .sv (bool false)), (3, .av (fun b => (Zn b (.agg [int a0.from_, int a0.to, int a0.level, .tr Z3x0 (eSeriesS a0.series) v3x0, .tr Z4x0 (eStoneS a0.stones) v4x0])) ∨ Zn b (.tr Zg (ints (resP a0 a1 a2)) vg)) (.ptr (eBlock a0))), (2, .sv (str a2)), (1, .sv (str a1)), (0, .av (fun b => (Zn b (.agg [int a0.from_, int a0.to, int a0.level, .tr Z3x0 (eSeriesS a0.series) v3x0, .tr Z4x0 (eStoneS a0.stones) v4x0])) ∨ Zn b (.tr Zg (ints (resP a0 a1 a2)) vg)) (eBlock a0))], []⟩) (le_sub ⟨rfl, rfl, rfl, rfl, rfl, rfl, rfl, rfl, rfl, trivial⟩ trivial) ?_
            clear h26 K26
            refine ok_seq fun K27 h27 => ?_
            refine ok_seq fun K28 h28 => ?_
            refine ok_region rfl (q_mv _ rfl (q_bin _ _ _ rfl rfl rfl (q_mv _ rfl (q_or 4 4 rfl rfl rfl rfl rfl (fun hb56 =>q_mv _ rfl (q_mva rfl (q_callp (f12_ok (resP a0 a1 a2) (resP_S a0 hs0 a1 a2)) cl12 ⟨.inr (.inl ⟨_, rfl, (.tr _ _ _ _)⟩), .inr (.inr ⟨_, rfl⟩), trivial⟩ (q_un _ _ rfl rfl (run_nil ⟨rfl, rfl, rfl, rfl⟩))))) (run_nil (h28 _ ?_))))))
            clear h28 K28
            refine ok_cond rfl (fun c29 => ?_) (fun c29 => ?_)
            · first | (exfalso; simp at c29; done) | (exfalso; have hcc := of_decide_eq_true c29; omega) | (exfalso; simp at c29; omega)
            · refine ok_skip (h27 _ ?_)
              refine ok_seq fun K30 h30 => ?_
              refine ok_region rfl (q_as _ rfl (run_nil (h30 _ ?_)))
              refine ok_le (σ' := ⟨[(12, .sv (int 1)), (11, .sv (int ((1 + cmBlock a0 : Nat) : Int))), (10, .sv (.tr Zg (ints (resP a0 a1 a2)) vg)), (36, .sv (.tr Zg (ints (resP a0 a1 a2)) vg)), (8, .av (fun b => (Zn b (.agg [int a0.from_, int a0.to, int a0.level, .tr Z3x0 (eSeriesS a0.series) v3x0, .tr Z4x0 (eStoneS a0.stones) v4x0])) ∨ Zn b (.tr Zg (ints (resP a0 a1 a2)) vg)) (ints (resP a0 a1 a2))), (6, .sv (bool false)), (3, .av (fun b => (Zn b (.agg [int a0.from_, int a0.to, int a0.level, .tr Z3x0 (eSeriesS a0.series) v3x0, .tr Z4x0 (eStoneS a0.stones) v4x0])) ∨ Zn b (.tr Zg (ints (resP a0 a1 a2)) vg)) (.ptr (eBlock a0))), (2, .sv (str a2)), (1, .sv (str a1)), (0, .av (fun b => (Zn b (.agg [int a0.from_, int a0.to, int a0.level, .tr Z3x0 (eSeriesS a0.series) v3x0, .tr Z4x0 (eStoneS a0.stones) v4x0])) ∨ Zn b (.tr Zg (ints (resP a0 a1 a2)) vg)) (eBlock a0))], []⟩) (le_sub ⟨rfl, rfl, rfl, rfl, rfl, rfl, rfl, rfl, rfl, rfl, trivial⟩ trivial) ?_
              clear h30 K30
              refine ok_seq fun K31 h31 => ?_
              refine ok_region rfl (q_mv _ rfl (q_mv _ rfl (q_mark (k := ((1 : Nat) : Int)) (f15_m (resP a0 a1 a2) ((resP_S a0 hs0 a1 a2)) 1 (by decide) hCg) cl15 rfl rfl (fun b hb => .inl (hz_g b (.tr _ _ _ hb))) (fun s' => [(58, .sv (int 1)), (57, .dead), (12, .sv (int 1)), (11, .sv (int ((1 + cmBlock a0 : Nat) : Int))), (10, .sv (.tr Zg s' vg)), (36, .sv (.tr Zg s' vg)), (8, .av (fun b => (Zn b (.agg [int a0.from_, int a0.to, int a0.level, .tr Z3x0 (eSeriesS a0.series) v3x0, .tr Z4x0 (eStoneS a0.stones) v4x0])) ∨ Zn b (.tr Zg (ints (resP a0 a1 a2)) vg)) (ints (resP a0 a1 a2))), (6, .sv (bool false)), (3, .av (fun b => (Zn b (.agg [int a0.from_, int a0.to, int a0.level, .tr Z3x0 (eSeriesS a0.series) v3x0, .tr Z4x0 (eStoneS a0.stones) v4x0])) ∨ Zn b (.tr Zg (ints (resP a0 a1 a2)) vg)) (.ptr (eBlock a0))), (2, .sv (str a2)), (1, .sv (str a1)), (0, .av (fun b => (Zn b (.agg [int a0.from_, int a0.to, int a0.level, .tr Z3x0 (eSeriesS a0.series) v3x0, .tr Z4x0 (eStoneS a0.stones) v4x0])) ∨ Zn b (.tr Zg (ints (resP a0 a1 a2)) vg)) (eBlock a0))]) (fun s' => []) (fun s' => ⟨rfl, .sv (.raw _), rfl, .dead, rfl, .sv (.raw _), rfl, .sv (.raw _), rfl, .sv .same, rfl, .sv .same, rfl, .av (fun b hb => (.inr (.tr _ _ _ hb))), rfl, .sv (.raw _), rfl, .av (fun b hb => (.inr (.tr _ _ _ hb))), rfl, .sv (.raw _), rfl, .sv (.raw _), rfl, .av (fun b hb => (.inr (.tr _ _ _ hb))), trivial⟩) (fun s' => trivial) (fun k' s' hR => ?_))))
              obtain ⟨rfl, lg, rfl, hhg, hcg, hmg⟩ := hR
              refine q_as _ rfl (run_nil (h31 _ ?_))
              clear h31 K31
              refine ok_seq fun K32 h32 => ?_
              refine ok_region rfl (q_as _ rfl (run_nil (h32 _ ?_)))
              refine ok_le (σ' := ⟨[(13, .sv (int 1)), (12, .sv (int ((1 + cL cOne (resP a0 a1 a2) : Nat) : Int))), (11, .sv (int ((1 + cmBlock a0 : Nat) : Int))), (10, .sv (.tr Zg (ints lg) vg)), (36, .sv (.tr Zg (ints lg) vg)), (8, .av (fun b => (Zn b (.agg [int a0.from_, int a0.to, int a0.level, .tr Z3x0 (eSeriesS a0.series) v3x0, .tr Z4x0 (eStoneS a0.stones) v4x0])) ∨ Zn b (.tr Zg (ints (resP a0 a1 a2)) vg)) (ints (resP a0 a1 a2))), (6, .sv (bool false)), (3, .av (fun b => (Zn b (.agg [int a0.from_, int a0.to, int a0.level, .tr Z3x0 (eSeriesS a0.series) v3x0, .tr Z4x0 (eStoneS a0.stones) v4x0])) ∨ Zn b (.tr Zg (ints (resP a0 a1 a2)) vg)) (.ptr (eBlock a0))), (2, .sv (str a2)), (1, .sv (str a1)), (0, .av (fun b => (Zn b (.agg [int a0.from_, int a0.to, int a0.level, .tr Z3x0 (eSeriesS a0.series) v3x0, .tr Z4x0 (eStoneS a0.stones) v4x0])) ∨ Zn b (.tr Zg (ints (resP a0 a1 a2)) vg)) (eBlock a0))], []⟩) (le_sub ⟨rfl, rfl, rfl, rfl, rfl, rfl, rfl, rfl, rfl, rfl, rfl, trivial⟩ trivial) ?_
              clear h32 K32
              refine ok_seq fun K33 h33 => ?_
              refine ok_region rfl (q_mv _ rfl (q_mv _ rfl (q_callp (show PFn Try.prog 16 [ints lg, int ((1 : Nat) : Int)] (int ((1 + cL cOne (resP a0 a1 a2) : Nat) : Int)) from by have h9 := f16_h lg hmg 1 (by decide) (by rw [hcg]; exact hCg) hhg; rw [hcg] at h9; exact h9) cl16 ⟨.inr (.inl ⟨_, rfl, .tr _ _ _ _⟩), .inl rfl, trivial⟩ (q_as _ rfl (run_nil (h33 _ ?_))))))
              clear h33 K33
              refine ok_seq fun K34 h34 => ?_
              refine ok_seq fun K35 h35 => ?_
              refine ok_region rfl (q_mv _ rfl (q_bin _ _ _ rfl rfl rfl (run_nil (h35 _ ?_))))
              clear h35 K35
              refine ok_cond rfl (fun c36 => ?_) (fun c36 => ?_)
              · first | (exfalso; simp at c36; done) | (exfalso; have hcc := of_decide_eq_true c36; omega) | (exfalso; simp at c36; omega)
              · refine ok_skip (h34 _ ?_)
                refine ok_seq fun K37 h37 => ?_
                refine ok_seq fun K38 h38 => ?_
                refine ok_region rfl (q_mv _ rfl (q_mv _ rfl (q_bin _ _ _ rfl rfl rfl (run_nil (h38 _ ?_)))))
                clear h38 K38
                refine ok_cond rfl (fun c39 => ?_) (fun c39 => ?_)
                · first | (exfalso; simp at c39; done) | (exfalso; have hcc := of_decide_eq_true c39; omega) | (exfalso; simp at c39; omega)
                · refine ok_skip (h37 _ ?_)
                  refine ok_seq fun K40 h40 => ?_
                  refine ok_region rfl (q_ldsa _ ag25 rfl sz25 (q_call (f10_ok a0 hs0) cl10 rfl rfl (q_mv _ rfl (q_mv _ rfl (q_callg [] (f11_t a0 hs0 a1 a2) cl11 ⟨.inl rfl, .inl rfl, .inl rfl, trivial⟩ (fun r_h hr_h hz_h ha_h => ?_))))))
                  obtain ⟨Zh, vh, rfl⟩ := gd_sl_inv hr_h
                  refine q_as _ rfl (run_nil (h40 _ ?_))
                  refine ok_le (σ' := ⟨[(14, .sv (.tr Zh (ints (resP a0 a1 a2)) vh)), (72, .sv (.tr Zh (ints (resP a0 a1 a2)) vh)), (13, .sv (int ((1 + cL cOne (resP a0 a1 a2) : Nat) : Int))), (12, .sv (int ((1 + cL cOne (resP a0 a1 a2) : Nat) : Int))), (11, .sv (int ((1 + cmBlock a0 : Nat) : Int))), (10, .sv (.tr Zg (ints lg) vg)), (36, .sv (.tr Zg (ints lg) vg)), (8, .av (fun b => (Zn b (.agg [int a0.from_, int a0.to, int a0.level, .tr Z3x0 (eSeriesS a0.series) v3x0, .tr Z4x0 (eStoneS a0.stones) v4x0])) ∨ Zn b (.tr Zg (ints (resP a0 a1 a2)) vg)) (ints (resP a0 a1 a2))), (6, .sv (bool false)), (3, .av (fun b => (Zn b (.agg [int a0.from_, int a0.to, int a0.level, .tr Z3x0 (eSeriesS a0.series) v3x0, .tr Z4x0 (eStoneS a0.stones) v4x0])) ∨ Zn b (.tr Zg (ints (resP a0 a1 a2)) vg)) (.ptr (eBlock a0))), (2, .sv (str a2)), (1, .sv (str a1)), (0, .av (fun b => (Zn b (.agg [int a0.from_, int a0.to, int a0.level, .tr Z3x0 (eSeriesS a0.series) v3x0, .tr Z4x0 (eStoneS a0.stones) v4x0])) ∨ Zn b (.tr Zg (ints (resP a0 a1 a2)) vg)) (eBlock a0))], []⟩) (le_sub ⟨rfl, rfl, rfl, rfl, rfl, rfl, rfl, rfl, rfl, rfl, rfl, rfl, rfl, trivial⟩ trivial) ?_
                  clear h40 K40
                  refine ok_seq fun K41 h41 => ?_
                  refine ok_seq fun K42 h42 => ?_
                  refine ok_region rfl (q_mv _ rfl (q_mva rfl (q_callp (f12_ok (resP a0 a1 a2) (resP_S a0 hs0 a1 a2)) cl12 ⟨.inr (.inl ⟨_, rfl, (.tr _ _ _ _)⟩), .inr (.inr ⟨_, rfl⟩), trivial⟩ (q_un _ _ rfl rfl (run_nil (h42 _ ?_))))))
                  clear h42 K42
                  refine ok_cond rfl (fun c43 => ?_) (fun c43 => ?_)
                  · first | (exfalso; simp at c43; done) | (exfalso; have hcc := of_decide_eq_true c43; omega) | (exfalso; simp at c43; omega)
                  · refine ok_skip (h41 _ ?_)
                    refine ok_seq fun K44 h44 => ?_
                    refine ok_region rfl (q_as _ rfl (run_nil (h44 _ ?_)))
                    refine ok_le (σ' := ⟨[(13, .sv (int 1)), (14, .sv (.tr Zh (ints (resP a0 a1 a2)) vh)), (72, .sv (.tr Zh (ints (resP a0 a1 a2)) vh)), (12, .sv (int ((1 + cL cOne (resP a0 a1 a2) : Nat) : Int))), (11, .sv (int ((1 + cmBlock a0 : Nat) : Int))), (10, .sv (.tr Zg (ints lg) vg)), (36, .sv (.tr Zg (ints lg) vg)), (8, .av (fun b => (Zn b (.agg [int a0.from_, int a0.to, int a0.level, .tr Z3x0 (eSeriesS a0.series) v3x0, .tr Z4x0 (eStoneS a0.stones) v4x0])) ∨ Zn b (.tr Zg (ints (resP a0 a1 a2)) vg)) (ints (resP a0 a1 a2))), (6, .sv (bool false)), (3, .av (fun b => (Zn b (.agg [int a0.from_, int a0.to, int a0.level, .tr Z3x0 (eSeriesS a0.series) v3x0, .tr Z4x0 (eStoneS a0.stones) v4x0])) ∨ Zn b (.tr Zg (ints (resP a0 a1 a2)) vg)) (.ptr (eBlock a0))), (2, .sv (str a2)), (1, .sv (str a1)), (0, .av (fun b => (Zn b (.agg [int a0.from_, int a0.to, int a0.level, .tr Z3x0 (eSeriesS a0.series) v3x0, .tr Z4x0 (eStoneS a0.stones) v4x0])) ∨ Zn b (.tr Zg (ints (resP a0 a1 a2)) vg)) (eBlock a0))], []⟩) (le_sub ⟨rfl, rfl, rfl, rfl, rfl, rfl, rfl, rfl, rfl, rfl, rfl, rfl, rfl, trivial⟩ trivial) ?_
                    clear h44 K44
                    refine ok_seq fun K45 h45 => ?_
                    refine ok_region rfl (q_mv _ rfl (q_mv _ rfl (q_callp (show PFn Try.prog 16 [ints lg, int ((1 : Nat) : Int)] (int ((1 + cL cOne (resP a0 a1 a2) : Nat) : Int)) from by have h9 := f16_h lg hmg 1 (by decide) (by rw [hcg]; exact hCg) hhg; rw [hcg] at h9; exact h9) cl16 ⟨.inr (.inl ⟨_, rfl, .tr _ _ _ _⟩), .inl rfl, trivial⟩ (q_as _ rfl (run_nil (h45 _ ?_))))))
                    clear h45 K45
                    refine ok_seq fun K46 h46 => ?_
                    refine ok_seq fun K47 h47 => ?_
                    refine ok_region rfl (q_mv _ rfl (q_bin _ _ _ rfl rfl rfl (run_nil (h47 _ ?_))))
                    clear h47 K47
                    refine ok_cond rfl (fun c48 => ?_) (fun c48 => ?_)
                    · first | (exfalso; simp at c48; done) | (exfalso; have hcc := of_decide_eq_true c48; omega) | (exfalso; simp at c48; omega)
                    · refine ok_skip (h46 _ ?_)
                      refine ok_seq fun K49 h49 => ?_
                      refine ok_seq fun K50 h50 => ?_
                      refine ok_region rfl (q_mv _ rfl (q_mv _ rfl (q_bin _ _ _ rfl rfl rfl (run_nil (h50 _ ?_)))))
                      clear h50 K50
                      refine ok_cond rfl (fun c51 => ?_) (fun c51 => ?_)
                      · first | (exfalso; simp at c51; done) | (exfalso; have hcc := of_decide_eq_true c51; omega) | (exfalso; simp at c51; omega)
                      · refine ok_skip (h49 _ ?_)
                        refine ok_seq fun K52 h52 => ?_
                        refine ok_region rfl (q_as _ rfl (run_nil (h52 _ ?_)))
                        refine ok_le (σ' := ⟨[(6, .sv (bool true)), (13, .sv (int ((1 + cL cOne (resP a0 a1 a2) : Nat) : Int))), (14, .sv (.tr Zh (ints (resP a0 a1 a2)) vh)), (72, .sv (.tr Zh (ints (resP a0 a1 a2)) vh)), (12, .sv (int ((1 + cL cOne (resP a0 a1 a2) : Nat) : Int))), (11, .sv (int ((1 + cmBlock a0 : Nat) : Int))), (10, .sv (.tr Zg (ints lg) vg)), (36, .sv (.tr Zg (ints lg) vg)), (8, .av (fun b => (Zn b (.agg [int a0.from_, int a0.to, int a0.level, .tr Z3x0 (eSeriesS a0.series) v3x0, .tr Z4x0 (eStoneS a0.stones) v4x0])) ∨ Zn b (.tr Zg (ints (resP a0 a1 a2)) vg)) (ints (resP a0 a1 a2))), (3, .av (fun b => (Zn b (.agg [int a0.from_, int a0.to, int a0.level, .tr Z3x0 (eSeriesS a0.series) v3x0, .tr Z4x0 (eStoneS a0.stones) v4x0])) ∨ Zn b (.tr Zg (ints (resP a0 a1 a2)) vg)) (.ptr (eBlock a0))), (2, .sv (str a2)), (1, .sv (str a1)), (0, .av (fun b => (Zn b (.agg [int a0.from_, int a0.to, int a0.level, .tr Z3x0 (eSeriesS a0.series) v3x0, .tr Z4x0 (eStoneS a0.stones) v4x0])) ∨ Zn b (.tr Zg (ints (resP a0 a1 a2)) vg)) (eBlock a0))], []⟩) (le_sub ⟨rfl, rfl, rfl, rfl, rfl, rfl, rfl, rfl, rfl, rfl, rfl, rfl, rfl, trivial⟩ trivial) ?_
                        clear h52 K52
                        exact ok_ret ⟨_, rfl, rfl⟩
end Go.Ring
