/- Blocks that are kept: copies of those that end behind a time. No condition. -/
import Derived.Test.YtlokejcoikddgaaW1
import Derived.Test.YtlokejcoikddgaaG11
set_option maxRecDepth 100000
set_option linter.unusedVariables false
set_option linter.unusedSimpArgs false
namespace Go.Ring
open Go Go.RowKit Go.Eager Go.Abs Go.Proofs
theorem f135_t (x : Block) (hx : SBlock x) : PFnT Try.prog 135 [eBlock x] (eBlock x) := by
  have hle : x.stones.length ≤ 1048576 := hx.2.1
  refine fnp_ok (n := 32) Try.func135 rfl rfl rfl (Nat.le_of_ble_eq_true rfl) rfl fun w0 O => ?_
  refine ok_seq fun K1 h1 => ok_region rfl (q_boxo (cells := [.sv (int x.from_), .sv (int x.to), .sv (int x.level), .sv (eSeriesS x.series), .sv (eStoneS x.stones)]) _ rfl (.inl ⟨_, rfl⟩) rfl rfl rfl (q_alloc _ ze32 rfl rfl rfl rfl (run_nil (h1 _ ?_)))); clear h1 K1
  refine ok_seq fun K2 h2 => ok_region rfl (q_fap fd32_3 rfl (by decide) (q_ldb _ ag29 rfl rfl rfl (q_callr (f162_t x.series hx.1) cl162 rfl (fun r3 hr3 hz3 ha3 => ?_))))
  obtain ⟨Z3, v3, rfl⟩ := gd_sl_inv hr3
  refine (q_fap fd32_3 rfl (by decide) (q_st _ sz29 rfl rfl (Nat.le_of_ble_eq_true rfl) rfl ⟨_, rfl, rfl⟩ rfl (run_nil (h2 _ ?_)))); clear h2 K2
  refine ok_seq fun K3 h3 => ok_region rfl (q_an (n := 3) 122 (by decide) rfl rfl rfl (run_nil (h3 _ ?_))); clear h3 K3
  refine ok_seq fun K4 h4 => ?_
  refine ok_seq fun K5 h5 => ok_region rfl (q_fap fd32_4 rfl (by decide) (q_ldb _ ag30 rfl rfl rfl (q_len eS30 rfl (q_mv _ rfl (run_nil (h5 _ ?_)))))); clear h5 K5
  rw [List.length_map]
  refine ok_block ?_
  refine ok_loop (fun (rs : List SV) => ⟨[(1, .ptr 1 0), (2, .ptr 2 0), (3, .own 3), (8, .sv (.tr Z3 (eSeriesS x.series) v3)), (11, .sv (eStoneS x.stones)), (12, .sv (int x.stones.length)), (13, .sv (int rs.length))], [(3, .row 3 122 rs), (1, .box [.sv (int x.from_), .sv (int x.to), .sv (int x.level), .sv (.tr Z3 (eSeriesS x.series) v3), .sv (eStoneS x.stones)]), (2, .box [.sv (int 0), .sv (int 0), .sv (int 0), .sv (.raw (.slice none 0 0)), .sv (.raw (.slice none 0 0))])]⟩)
    (fun rs => rs.length ≤ x.stones.length ∧ Cps w0 rs ((x.stones.take rs.length).map eStone) ∧ ∀ y ∈ rs, ∀ b, Zn b y → ¬ Z3 b) (fun rs => x.stones.length - rs.length) [] ⟨Nat.zero_le _, Cps.nil w0, fun y hy => by simp at hy⟩ (le_sub ⟨rfl, rfl, rfl, rfl, rfl, rfl, rfl, trivial⟩ ⟨rfl, rfl, rfl, trivial⟩) (fun rs J => ?_)
  obtain ⟨j1, j2, j3⟩ := J
  refine ok_seq fun K6 h6 => ok_region rfl (q_bin _ _ _ rfl rfl rfl (run_nil (h6 _ ?_))); clear h6 K6
  refine ok_seq fun K7 h7 => ?_
  refine ok_cond rfl (fun c8 => ?_) (fun c8 => ?_)
  · refine ok_skip (h7 _ ?_)
    have hk : rs.length < x.stones.length := by simpa using c8
    obtain ⟨u, hu⟩ := sget hk
    refine ok_seq fun K9 h9 => ?_
    refine ok_block ?_
    refine ok_seq fun K10 h10 => ok_region rfl (q_ia el30 rfl rfl (by omega) (mget (f := eStone) hu) (q_lds _ ag122 rfl sz122 (q_alloc _ ze122 rfl rfl rfl rfl (q_sts _ rfl rfl rfl sz122 (Nat.le_of_ble_eq_true rfl) rfl (run_nil (h10 _ ?_)))))); clear h10 K10
    refine ok_last fun K11 h11 => ok_region_d [0, 0, 1, 3, 0, 1, 0, 1, 2, 3, 2, 0] #[[], [], [1], [1, 2], [], [4], [], [6], [1, 2, 3, 4, 5, 6, 7], [1, 2, 3, 4, 5, 6, 7, 8], [0, 1, 2, 3, 4, 5, 6, 7, 8, 9], [0, 1, 2, 3, 4, 5, 6, 7, 8, 9, 10]] [0, 1, 2, 4, 5, 6, 7, 3, 8, 9, 10, 11] (by kernel_rfl) (by kernel_rfl) rfl rfl (
      q_mo _ rfl (q_fap fd122_0 rfl (by decide) (q_ldb _ ag72 rfl rfl rfl (q_fap fd122_1 rfl (by decide) (q_ldb _ ag3 rfl rfl rfl (q_fap fd122_2 rfl (by decide) (q_ldb _ ag3 rfl rfl rfl (
      q_callr (f163_t u.labels ((hx.2.2 u (smem hu)).1)) cl163 rfl (fun r0 hr0 hz0 ha0 => ?_)))))))))
    obtain ⟨Z0, v0, rfl⟩ := gd_sl_inv hr0
    have hfresh := j2.snoc (r := .agg [.tr Z0 (eLabelS u.labels) v0, int u.from_, int u.to]) (gc_Stone u) (fun y hy b hb hb' => by simp only [znA_cons, znI_raw, znI_tr, znA_nil, or_false, false_or] at hb'; exact ha0.2 3 3 122 _ y b rfl hy hb (.tr Z0 _ v0 hb')) (fun b hb => by simp only [znA_cons, znI_raw, znI_tr, znA_nil, or_false, false_or] at hb; exact hz0 b (.tr Z0 _ v0 hb))
    rw [show (x.stones.take rs.length).map eStone ++ [eStone u] = (x.stones.take (rs ++ [(.agg [.tr Z0 (eLabelS u.labels) v0, int u.from_, int u.to] : SV)]).length).map eStone by rw [List.length_append, List.length_cons, List.length_nil, List.take_add_one, hu, List.map_append]; rfl] at hfresh
    have j3' : ∀ y ∈ rs ++ [(.agg [.tr Z0 (eLabelS u.labels) v0, int u.from_, int u.to] : SV)], ∀ b, Zn b y → ¬ Z3 b := by
      intro y hy b hb hb'
      rcases List.mem_append.1 hy with hy | hy
      · exact j3 y hy b hb hb'
      · rw [List.mem_singleton] at hy
        subst hy
        simp only [znA_cons, znI_raw, znI_tr, znA_nil, or_false, false_or] at hb
        exact ha0.1 8 _ b rfl (.tr Z3 _ v3 hb') (.tr Z0 _ v0 hb)
    refine (q_bld _ (bl122 u) rfl rfl rfl (q_lit1 _ _ el30 ze122 (by decide) (by decide) rfl (.inl ⟨_, rfl⟩) rfl (q_app _ el30 ze122 rfl by122 rfl rfl rfl rfl rfl (by simp) (by intro s hs; simp at hs; subst hs; exact .inl ⟨_, rfl⟩) (by show rs.length + 1 ≤ maxLen; unfold maxLen; omega) (by show (rs.length + 1) * 40 ≤ _; omega) (q_ao _ rfl (run_nil (h11 _ (h9 _ ?_)))))))
    refine ok_last fun K12 h12 => ok_region rfl (
      q_add rfl rfl (by omega) (q_mv _ rfl (run_nil (h12 _ ⟨rs ++ [.agg [.tr Z0 (eLabelS u.labels) v0, int u.from_, int u.to]], by simp only [List.length_append, List.length_cons, List.length_nil]; omega, ⟨by simp only [List.length_append, List.length_cons, List.length_nil]; omega, hfresh, j3'⟩, ?_⟩))))
    have e : ((rs ++ [(.agg [.tr Z0 (eLabelS u.labels) v0, int u.from_, int u.to] : SV)]).length : Int) = (rs.length : Int) + 1 := by simp
    rw [e]
    exact le_rek 3 27 ⟨rfl, rfl, rfl, rfl, rfl, rfl, rfl, trivial⟩ ⟨rfl, rfl, rfl, trivial⟩ rfl rfl rfl rfl ⟨rfl, rfl, rfl, trivial⟩
  · have hk : rs.length = x.stones.length := by have : ¬ ((rs.length : Int) < x.stones.length) := by simpa using c8
                                                omega
    rw [hk, List.take_length] at j2
    refine ok_exit (h4 _ ?_)
    refine ok_treed2 (k := 3) (n := 3) (T := 122) (rs := rs) (ss := x.stones.map eStone) rfl j2.len j2.gd j2.ap (fun r hr b hb => .inl (j2.nw r hr b hb)) (fun Z4 v4 hZ4 hd4 => ?_)
    have d3_4 : ∀ b, Z3 b → ¬ Z4 b := fun b h3 h4 => by
      obtain ⟨r, hr, hb⟩ := hd4 8 _ b rfl (.tr Z3 _ v3 h3) h4
      exact j3 r hr b hb h3
    refine ok_seq fun K13 h13 => ok_region rfl (q_mv _ rfl (q_fap fd32_4 rfl (by decide) (q_st _ sz30 rfl rfl (Nat.le_of_ble_eq_true rfl) rfl ⟨_, rfl, rfl⟩ rfl (run_nil (h13 _ ?_))))); clear h13 K13
    refine ok_seq fun K14 h14 => ok_region rfl (q_ldbs ag32 rfl rfl sz32 rfl rfl (q_sts _ rfl rfl rfl sz32 (Nat.le_of_ble_eq_true rfl) rfl (run_nil (h14 _ ?_)))); clear h14 K14
    refine ok_ret ⟨[.agg [int x.from_, int x.to, int x.level, .tr Z3 (eSeriesS x.series) v3, .tr Z4 (eStoneS x.stones) v4]], ⟨_, _, res_cells (l := [int x.from_, int x.to, int x.level, .tr Z3 (eSeriesS x.series) v3, .tr Z4 (eStoneS x.stones) v4]) rfl rfl ag32 sz32 rfl, rfl, rfl⟩, gc_Block x d3_4, fun b hb => ?_⟩
    have hb : Zn b (.agg [int x.from_, int x.to, int x.level, .tr Z3 (eSeriesS x.series) v3, .tr Z4 (eStoneS x.stones) v4]) := hb
    simp only [znA_cons, znI_raw, znI_tr, znA_nil, or_false, false_or] at hb
    rcases hb with h | h
    · exact hz3 b (.tr Z3 _ v3 h)
    · exact (hZ4 b h).elim id fun h => h.elim
theorem f86_ok (x : List Block) (hx : x.length ≤ 1048576) (p : Block → Bool) (g : Nat) (cs : List SV) (hg : Calb Try.prog g) (hp : ∀ u ∈ x, PFn Try.prog g ([eBlock u] ++ cs) (bool (p u))) : PFn Try.prog 86 [eBlockS x, .clo g cs] (eBlockS ((x.filter p))) := by
  refine fnr_ok (n := 23) Try.func86 rfl rfl rfl (Nat.le_of_ble_eq_true rfl) rfl fun w0 O => ?_
  refine ok_seq fun K1 h1 => ok_region rfl (q_as _ rfl (run_nil (h1 _ ?_))); clear h1 K1
  refine ok_seq fun K2 h2 => ok_region rfl (q_an (n := 5) 32 (by decide) rfl rfl rfl (run_nil (h2 _ ?_))); clear h2 K2
  refine ok_seq fun K3 h3 => ?_
  refine ok_seq fun K4 h4 => ok_region rfl (q_mv _ rfl (q_len eS64 rfl (q_mv _ rfl (run_nil (h4 _ ?_))))); clear h4 K4
  rw [List.length_map]
  refine ok_block ?_
  refine ok_loop (fun (s : Nat × List Block) => ⟨[(1, .sv (.clo g cs)), (5, .own 5), (8, .sv (eBlockS x)), (9, .sv (int x.length)), (10, .sv (int s.1))], [(5, .row 5 32 (s.2.map eBlock))]⟩) (fun s => s.2 ++ (x.drop s.1).filter p = x.filter p ∧ s.2.length ≤ s.1) (fun s => x.length - s.1) (0, []) ⟨rfl, Nat.le_refl _⟩ (le_sub ⟨rfl, rfl, rfl, rfl, rfl, trivial⟩ ⟨rfl, trivial⟩) (fun s J => ?_)
  obtain ⟨k, q⟩ := s
  obtain ⟨j1, j2⟩ := J
  simp only at j1 j2
  refine ok_seq fun K5 h5 => ok_region rfl (q_bin _ _ _ rfl rfl rfl (run_nil (h5 _ ?_))); clear h5 K5
  refine ok_seq fun K6 h6 => ?_
  refine ok_cond rfl (fun c7 => ?_) (fun c7 => ?_)
  · have hk : k < x.length := by simpa using c7
    obtain ⟨u, hu⟩ := sget hk
    have hd : (x.drop k).filter p = if p u = true then u :: (x.drop (k + 1)).filter p else (x.drop (k + 1)).filter p := by
      obtain ⟨hlt, he⟩ := List.getElem?_eq_some_iff.1 hu
      rw [List.drop_eq_getElem_cons hlt, he, List.filter_cons]
    rw [hd] at j1
    refine ok_skip (h6 _ ?_)
    refine ok_seq_join (fun (q' : List Block) => ⟨[(1, .sv (.clo g cs)), (5, .own 5), (8, .sv (eBlockS x)), (9, .sv (int x.length)), (10, .sv (int k))], [(5, .row 5 32 (q'.map eBlock))]⟩) (fun q' => q' ++ (x.drop (k + 1)).filter p = x.filter p ∧ q'.length ≤ k + 1) ?_ (fun q' J => ?_)
    · refine ok_block ?_
      refine ok_seq fun K8 h8 => ok_region rfl (q_ia el64 rfl rfl (by omega) (mget (f := eBlock) hu) (q_lds _ ag32 rfl sz32 (q_alloc _ ze32 rfl rfl rfl rfl (q_sts _ rfl rfl rfl sz32 (Nat.le_of_ble_eq_true rfl) rfl (run_nil (h8 _ ?_)))))); clear h8 K8
      refine ok_seq fun K9 h9 => ok_region rfl (q_mv _ rfl (q_ldbs ag32 rfl rfl sz32 rfl rfl (q_callcp (hp u (smem hu)) hg rfl ⟨.inl rfl, trivial⟩ (run_nil (h9 _ ?_))))); clear h9 K9
      refine ok_cond rfl (fun c10 => ?_) (fun c10 => ?_)
      · rw [if_pos (by simpa using c10)] at j1
        refine ok_last fun K11 h11 => ok_region rfl (q_mo _ rfl (q_ldbs ag32 rfl rfl sz32 rfl rfl (q_lit1 _ _ el64 ze32 (by decide) (by decide) rfl (.inl ⟨_, rfl⟩) rfl (q_app _ el64 ze32 rfl by32 rfl rfl rfl rfl rfl (by simp) (by intro s hs; simp at hs; subst hs; exact .inl ⟨_, rfl⟩) (by rw [List.length_map]; show q.length + 1 ≤ maxLen; unfold maxLen; omega) (by rw [List.length_map]; show (q.length + 1) * 72 ≤ _; omega) (q_ao _ rfl (run_nil (h11 _ ⟨q ++ [u], ⟨by rw [List.append_assoc]; exact j1, by rw [List.length_append]; simp; omega⟩, by rw [List.map_append]; exact le_rek 5 20 ⟨rfl, rfl, rfl, rfl, rfl, trivial⟩ ⟨rfl, trivial⟩ rfl rfl rfl rfl ⟨rfl, trivial⟩⟩)))))))
      · rw [if_neg (by simpa using c10)] at j1
        exact ok_skip ⟨q, ⟨j1, by omega⟩, le_sub ⟨rfl, rfl, rfl, rfl, rfl, trivial⟩ ⟨rfl, trivial⟩⟩
    · refine ok_last fun K12 h12 => ok_region rfl (q_add rfl rfl (by omega) (q_mv _ rfl (run_nil (h12 _ ⟨(k + 1, q'), by simp only; omega, J, le_sub ⟨rfl, rfl, rfl, rfl, rfl, trivial⟩ ⟨rfl, trivial⟩⟩))))
  · rw [List.drop_of_length_le (by have : ¬ ((k : Int) < x.length) := by simpa using c7
                                   omega)] at j1
    have j3 : q = x.filter p := by rw [← j1]; simp
    refine ok_exit (h3 _ ?_)
    refine ok_seq fun K13 h13 => ok_region rfl (q_mo _ rfl (q_ao _ rfl (run_nil (h13 _ ?_)))); clear h13 K13
    exact ok_ret ⟨_, ⟨_, _, rfl, rfl, rfl⟩, by rw [← j3]; rfl⟩

theorem f87_ok (u : Block) (fr : Int) : PFn Try.prog 87 ([eBlock u] ++ [.ptr (int fr)]) (bool (decide (fr < u.to))) := by
  refine fn_ok' (n := 8) Try.func87 rfl rfl rfl (Nat.le_of_ble_eq_true rfl) rfl fun w0 O => ?_
  refine ok_seq fun K1 h1 => ok_region rfl (q_boxs _ rfl (Nat.zero_lt_succ _) (q_as _ rfl (run_nil (h1 _ ?_)))); clear h1 K1
  refine ok_seq fun K2 h2 => ok_region rfl (q_fa _ fd32_1 rfl rfl (by decide) (q_ld _ ag3 rfl rfl (q_ld _ ag3 rfl rfl (q_bin _ _ _ rfl rfl rfl (q_as _ rfl (run_nil (h2 _ ?_))))))); clear h2 K2
  exact ok_ret ⟨_, rfl, rfl⟩
/-- The blocks that end behind a time. -/
def keepB (fr : Int) (x : List Block) : List Block := x.filter fun u => decide (fr < u.to)
theorem keepB_S {fr : Int} {x : List Block} (hx : x.length ≤ 1048576 ∧ ∀ y ∈ x, SBlock y) : (keepB fr x).length ≤ 1048576 ∧ ∀ y ∈ keepB fr x, SBlock y :=
  ⟨Nat.le_trans (List.length_filter_le _ _) hx.1, fun y hy => hx.2 y (List.mem_filter.1 hy).1⟩
theorem cL_filter {α : Type} (c : α → Nat) (p : α → Bool) : ∀ l : List α, cL c (l.filter p) ≤ cL c l
  | [] => Nat.le_refl _
  | x :: l => by
    have := cL_filter c p l
    rw [List.filter_cons]
    split <;> simp only [cL] <;> omega
noncomputable def resR (base : Int) (x : List Block) (fr : Int) : List Block := if pB (ShelfOk base x) = true then keepB fr x else []
theorem resR_S {base : Int} {x : List Block} {fr : Int} (hx : x.length ≤ 1048576 ∧ ∀ y ∈ x, SBlock y) : (resR base x fr).length ≤ 1048576 ∧ ∀ y ∈ resR base x fr, SBlock y := by
  unfold resR
  split
  · exact keepB_S hx
  · exact ⟨by simp, by simp⟩
theorem resR_C {base : Int} {x : List Block} {fr n : Int} (h : (cL cBlock x : Int) ≤ 16 * (1048576 - n) + 0) (hn : 0 ≤ n) : 1 + cL cBlock (resR base x fr) ≤ 1152921504606846976 := by
  have h1 : cL cBlock (resR base x fr) ≤ cL cBlock x := by
    unfold resR
    split
    · exact cL_filter _ _ _
    · simp [cL]
  omega
theorem f83_t (x : List Block) (hx : x.length ≤ 1048576 ∧ ∀ y ∈ x, SBlock y) (fr : Int) : PFnT Try.prog 83 [eBlockS x, int fr] (eBlockS (keepB fr x)) := by
  have hle : x.length ≤ 1048576 := hx.1
  refine fnp_ok (n := 25) Try.func83 rfl rfl rfl (Nat.le_of_ble_eq_true rfl) rfl fun w0 O => ?_
  refine ok_seq fun K1 h1 => ok_region rfl (q_as _ rfl (run_nil (h1 _ ?_))); clear h1 K1
  refine ok_seq fun K2 h2 => ok_region rfl (q_an (n := 5) 32 (by decide) rfl rfl rfl (run_nil (h2 _ ?_))); clear h2 K2
  refine ok_seq fun K3 h3 => ?_
  refine ok_seq fun K4 h4 => ok_region rfl (q_mv _ rfl (q_len eS64 rfl (q_mv _ rfl (run_nil (h4 _ ?_))))); clear h4 K4
  rw [List.length_map]
  refine ok_block ?_
  refine ok_loop (fun (s : Nat × List SV) => ⟨[(1, .sv (int fr)), (5, .own 5), (8, .sv (eBlockS x)), (9, .sv (int x.length)), (10, .sv (int s.1))], [(5, .row 5 32 s.2)]⟩) (fun s => Cps w0 s.2 ((keepB fr (x.take s.1)).map eBlock)) (fun s => x.length - s.1) (0, []) (Cps.nil w0) (le_sub ⟨rfl, rfl, rfl, rfl, rfl, trivial⟩ ⟨rfl, trivial⟩) (fun s J => ?_)
  obtain ⟨k, rs⟩ := s
  simp only at J
  have hrl : rs.length ≤ k := by
    rw [J.len, List.length_map]
    exact Nat.le_trans (List.length_filter_le _ _) (by rw [List.length_take]; omega)
  refine ok_seq fun K5 h5 => ok_region rfl (q_bin _ _ _ rfl rfl rfl (run_nil (h5 _ ?_))); clear h5 K5
  refine ok_seq fun K6 h6 => ?_
  refine ok_cond rfl (fun c7 => ?_) (fun c7 => ?_)
  · have hk : k < x.length := by simpa using c7
    obtain ⟨u, hu⟩ := sget hk
    have hd : keepB fr (x.take (k + 1)) = keepB fr (x.take k) ++ if fr < u.to then [u] else [] := by
      unfold keepB
      rw [List.take_add_one, hu, Option.toList_some, List.filter_append, List.filter_cons, List.filter_nil]
      simp
    refine ok_skip (h6 _ ?_)
    refine ok_seq_join (fun (rs' : List SV) => ⟨[(1, .sv (int fr)), (5, .own 5), (8, .sv (eBlockS x)), (9, .sv (int x.length)), (10, .sv (int k))], [(5, .row 5 32 rs')]⟩) (fun rs' => Cps w0 rs' ((keepB fr (x.take (k + 1))).map eBlock)) ?_ (fun rs' J => ?_)
    · refine ok_block ?_
      refine ok_seq fun K8 h8 => ok_region rfl (q_ia el64 rfl rfl (by omega) (mget (f := eBlock) hu) (q_lds _ ag32 rfl sz32 (q_alloc _ ze32 rfl rfl rfl rfl (q_sts _ rfl rfl rfl sz32 (Nat.le_of_ble_eq_true rfl) rfl (run_nil (h8 _ ?_)))))); clear h8 K8
      refine ok_seq fun K9 h9 => ok_region rfl (q_fap fd32_1 rfl (by decide) (q_ldb _ ag3 rfl rfl rfl (q_mv _ rfl (q_bin _ _ _ rfl rfl rfl (run_nil (h9 _ ?_)))))); clear h9 K9
      refine ok_cond rfl (fun c10 => ?_) (fun c10 => ?_)
      · rw [if_pos (by simpa using c10)] at hd
        refine ok_last fun K11 h11 => ok_region rfl (
          q_mo _ rfl (q_ldbs ag32 rfl rfl sz32 rfl rfl (q_callr (f135_t u (hx.2 u (smem hu))) cl135 rfl (fun r hr hz hap => ?_))))
        have hfresh := J.snoc hr (fun y hy b hb => hap.2 5 5 32 _ y b rfl hy hb) hz
        have e : (keepB fr (x.take k)).map eBlock ++ [eBlock u] = (keepB fr (x.take (k + 1))).map eBlock := by rw [hd, List.map_append]; rfl
        rw [e] at hfresh
        obtain ⟨Z3, v3, Z4, v4, rfl, d3_4⟩ := gi_Block hr
        refine (q_lit1 _ _ el64 ze32 (by decide) (by decide) rfl (.inl ⟨_, rfl⟩) rfl (q_app _ el64 ze32 rfl by32 rfl rfl rfl rfl rfl (by simp) (by intro s hs; simp at hs; subst hs; exact .inl ⟨_, rfl⟩) (by show rs.length + 1 ≤ maxLen; unfold maxLen; omega) (by show (rs.length + 1) * 72 ≤ _; omega) (
          q_ao _ rfl (run_nil (h11 _ ⟨_, hfresh, le_rek 5 22 ⟨rfl, rfl, rfl, rfl, rfl, trivial⟩ ⟨rfl, trivial⟩ rfl rfl rfl rfl ⟨rfl, trivial⟩⟩)))))
      · rw [if_neg (by simpa using c10), List.append_nil] at hd
        rw [← hd] at J
        exact ok_skip ⟨rs, J, le_sub ⟨rfl, rfl, rfl, rfl, rfl, trivial⟩ ⟨rfl, trivial⟩⟩
    · refine ok_last fun K12 h12 => ok_region rfl (
        q_add rfl rfl (by omega) (q_mv _ rfl (run_nil (h12 _ ⟨(k + 1, rs'), by simp only; omega, J, le_sub ⟨rfl, rfl, rfl, rfl, rfl, trivial⟩ ⟨rfl, trivial⟩⟩))))
  · rw [List.take_of_length_le (by have : ¬ ((k : Int) < x.length) := by simpa using c7
                                   omega)] at J
    refine ok_exit (h3 _ ?_)
    refine ok_seq fun K13 h13 => ok_region rfl (q_mo _ rfl (q_ao _ rfl (run_nil (h13 _ ?_)))); clear h13 K13
    refine ok_treed (k := 5) (n := 5) (T := 32) (rs := rs) (ss := (keepB fr x).map eBlock) rfl J.len J.gd J.ap (fun r hr b hb => .inl (J.nw r hr b hb)) (fun Z v hZ => ?_)
    exact ok_ret ⟨_, ⟨_, _, rfl, rfl, rfl⟩, .tr Z 5 _ v, fun b hb => (hZ b (zn_tr hb)).elim id fun h => h.elim⟩
theorem f36_t (base : Int) (x : List Block) (hx : x.length ≤ 1048576 ∧ ∀ y ∈ x, SBlock y) (fr : Int) : PFnT Try.prog 36 [int base, eBlockS x, int fr] (eBlockS (resR base x fr)) := by
  refine fnp_ok (n := 14) Try.func36 rfl rfl rfl (Nat.le_of_ble_eq_true rfl) rfl fun w0 O => ?_
  refine ok_seq fun K1 h1 => ok_region rfl (q_as _ rfl (run_nil (h1 _ ?_))); clear h1 K1
  refine ok_seq fun K2 h2 => ?_
  refine ok_seq fun K3 h3 => ok_region rfl (q_mv _ rfl (q_mv _ rfl (q_call (f82_ok base x hx) cl82 rfl rfl (q_un _ _ rfl rfl (run_nil (h3 _ ?_)))))); clear h3 K3
  refine ok_cond rfl (fun c4 => ?_) (fun c4 => ?_)
  · have e : resR base x fr = [] := by unfold resR; rw [if_neg (by simpa using c4)]
    refine ok_seq fun K5 h5 => ?_
    refine ok_region rfl (q_as _ rfl (run_nil (h5 _ ?_)))
    clear h5 K5
    rw [e]
    exact ok_nilT 5 (ok_ret ⟨_, ⟨_, _, rfl, rfl, rfl⟩, .tr _ _ _ _, fun b hb => (zn_tr hb).elim⟩)
  · have e : resR base x fr = keepB fr x := by unfold resR; rw [if_pos (by simpa using c4)]
    refine ok_skip (h2 _ ?_)
    refine ok_seq fun K6 h6 => ok_region rfl (q_mv _ rfl (q_mv _ rfl (q_callr (f83_t x hx fr) cl83 rfl (fun r hr hz _ => ?_))))
    obtain ⟨Z, v, rfl⟩ := gd_sl_inv hr
    refine q_as _ rfl (run_nil (h6 _ ?_))
    clear h6 K6
    rw [e]
    exact ok_ret ⟨_, ⟨_, _, rfl, rfl, rfl⟩, .tr _ _ _ _, hz⟩
theorem f38_t (base : Int) (x : List Block) (hx : x.length ≤ 1048576 ∧ ∀ y ∈ x, SBlock y) (fr : Int) : PFnT Try.prog 38 [int base, eBlockS x, int fr] (eBlockS (resR base x fr)) := by
  refine fnp_ok (n := 15) Try.func38 rfl rfl rfl (Nat.le_of_ble_eq_true rfl) rfl fun w0 O => ?_
  refine ok_seq fun K1 h1 => ok_region rfl (q_box _ rfl (.inr rfl) (q_as _ rfl (run_nil (h1 _ ?_)))); clear h1 K1
  refine ok_seq fun K2 h2 => ?_
  refine ok_seq fun K3 h3 => ok_region rfl (q_mv _ rfl (q_mv _ rfl (q_call (f84_ok base x hx) cl84 rfl rfl (q_un _ _ rfl rfl (run_nil (h3 _ ?_)))))); clear h3 K3
  refine ok_cond rfl (fun c4 => ?_) (fun c4 => ?_)
  · have e : resR base x fr = [] := by unfold resR; rw [if_neg (by simpa using c4)]
    refine ok_seq fun K5 h5 => ?_
    refine ok_region rfl (q_as _ rfl (run_nil (h5 _ ?_)))
    clear h5 K5
    rw [e]
    exact ok_nilT 5 (ok_ret ⟨_, ⟨_, _, rfl, rfl, rfl⟩, .tr _ _ _ _, fun b hb => (zn_tr hb).elim⟩)
  · have e : resR base x fr = keepB fr x := by unfold resR; rw [if_pos (by simpa using c4)]
    refine ok_skip (h2 _ ?_)
    refine ok_seq fun K6 h6 => ok_region rfl (q_mv _ rfl (q_mkf1 rfl (q_call (f86_ok x hx.1 (fun u => decide (fr < u.to)) 87 [.ptr (int fr)] cl87 (fun u _ => f87_ok u fr)) cl86 rfl rfl (q_callr (f85_t (keepB fr x) (keepB_S hx)) cl85 rfl (fun r hr hz _ => ?_)))))
    obtain ⟨Z, v, rfl⟩ := gd_sl_inv hr
    refine q_as _ rfl (run_nil (h6 _ ?_))
    clear h6 K6
    rw [e]
    exact ok_ret ⟨_, ⟨_, _, rfl, rfl, rfl⟩, .tr _ _ _ _, hz⟩
end Go.Ring
