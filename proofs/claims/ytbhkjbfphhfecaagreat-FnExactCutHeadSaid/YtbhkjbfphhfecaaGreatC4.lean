/- A head cut: the reference. No condition beyond the lengths. -/
import Derived.Test.YtbhkjbfphhfecaaGreatC3
import Derived.Test.YtbhkjbfphhfecaaGreatEg3
set_option maxRecDepth 100000
set_option linter.unusedVariables false
set_option linter.unusedSimpArgs false
namespace Go.Ring
open Go Go.RowKit Go.Eager Go.Abs Go.Proofs
theorem valS {l : List Label} (h : ∀ y ∈ l, SLabel y) (n : ByteArray) : (valOf l n).size ≤ 1048576 := by
  induction l with
  | nil => show (0 : Nat) ≤ _; omega
  | cons x l ih =>
    unfold valOf
    split
    · exact (h x (List.mem_cons_self ..)).2
    · exact ih fun y hy => h y (List.mem_cons_of_mem _ hy)
theorem f130_n (x : List Series) (hx : x.length ≤ 1048576 ∧ ∀ y ∈ x, SSeries y) (f t : Int) : PFn Tryz.prog 130 [eSeriesS x, .raw (.slice none 0 0), int f, int t] (eSeriesS (selL [] f t x)) :=
  PFn.weak (f130_ok x hx [] (Nat.zero_le _) (by simp) rfl (fun y hy => valS (hx.2 y hy).1.2) f t) rfl (fun i s h => by
    match i, h with
    | 0, h => exact ⟨s, h, fun _ _ _ h => h⟩
    | 1, h => cases h; exact ⟨_, rfl, fun _ _ _ h => rep_nil0 h⟩
    | 2, h => exact ⟨s, h, fun _ _ _ h => h⟩
    | 3, h => exact ⟨s, h, fun _ _ _ h => h⟩
    | n + 4, h => simp at h)
theorem stp1_mem {base en : Int} {q : List Int} {x : Sample} {y : Int} : y ∈ stp1 base en q x ↔ y ∈ q ∨ ((x.time / base + 1) * base ≤ en ∧ y = x.time / base) := by
  unfold stp1
  split
  · rename_i h; rw [insS_mem]; simp [h]
  · rename_i h; simp [h]
theorem fold1_mem {base en : Int} : ∀ {l : List Sample} {q : List Int} {y : Int}, y ∈ l.foldl (stp1 base en) q ↔ y ∈ q ∨ ∃ x ∈ l, (x.time / base + 1) * base ≤ en ∧ y = x.time / base
  | [], q, y => by simp
  | x :: l, q, y => by
    rw [List.foldl_cons, fold1_mem, stp1_mem]
    simp only [List.mem_cons, exists_eq_or_imp]
    exact or_assoc
theorem foldS_mem {base en : Int} : ∀ {l : List Series} {q : List Int} {y : Int}, y ∈ l.foldl (stpS base en) q ↔ y ∈ q ∨ ∃ s ∈ l, ∃ x ∈ s.samples, (x.time / base + 1) * base ≤ en ∧ y = x.time / base
  | [], q, y => by simp
  | s :: l, q, y => by
    rw [List.foldl_cons, foldS_mem, show stpS base en q s = s.samples.foldl (stp1 base en) q from rfl, fold1_mem]
    simp only [List.mem_cons, exists_eq_or_imp]
    exact or_assoc
theorem spL_mem {base en : Int} {l : List Series} {y : Int} : y ∈ spL base en l ↔ ∃ s ∈ l, ∃ x ∈ s.samples, (x.time / base + 1) * base ≤ en ∧ y = x.time / base := by
  unfold spL; rw [foldS_mem]; simp
def blkOf (base : Int) (l : List Series) (a : Int) : Block := ⟨a * base, (a + 1) * base, 1, selL [] (a * base) ((a + 1) * base - 1) l, []⟩
def blks (base en : Int) (l : List Series) : List Block := (spL base en l).map (blkOf base l)
def hLeft (base en : Int) (h : Head) : Head := ⟨h.window, h.limit, h.newest, selL [] (en / base * base) 1000000000000 h.series⟩
theorem selL_len (ms : List Matcher) (f t : Int) (l : List Series) : (selL ms f t l).length ≤ l.length := fm_len _ _
theorem bz34 (a b : Int) : BLz Tryz.prog 34 [int a, int b, int 1] [.slice none 0 0, .slice none 0 0] := by
  intro vs hv
  match vs, hv with
  | [u0, u1, u2], hv =>
    obtain ⟨e0, e1, e2, -⟩ := hv
    rw [e0, e1, e2]
    have key : ∀ (x0 x1 x2 : Int), Tryz.prog.built 34 [(0, .int .i64 x0), (1, .int .i64 x1), (2, .int .i64 x2)] = some #[.int .i64 x0, .int .i64 x1, .int .i64 x2, .slice none 0 0, .slice none 0 0] := by intro x0 x1 x2; kernel_rfl
    exact key a b 1
theorem bz66 : BLz Tryz.prog 66 [] [.int .i64 0, .int .i64 0, .int .i64 0, .slice none 0 0] := by
  intro vs hv
  match vs, hv with
  | [], hv =>
    have key : Tryz.prog.built 66 [] = some #[.int .i64 0, .int .i64 0, .int .i64 0, .slice none 0 0] := by kernel_rfl
    exact key
/-- The head that stays and the blocks, or that there are too many. -/
def cutR (base en : Int) (h : Head) : Head × List Block × Bool := if (spL base en h.series).length ≤ 100 then (hLeft base en h, blks base en h.series, true) else (h, [], false)
theorem f105_ok (h : Head) (hh : SHead h) (base en : Int) (hb : 1 ≤ base ∧ base ≤ 1000000) (he : 0 ≤ en ∧ en ≤ 1000000000000) (ht : ∀ s ∈ h.series, ∀ x ∈ s.samples, 0 ≤ x.time ∧ x.time ≤ 1000000000000) :
    PFn Tryz.prog 105 [eHead h, int base, int en] (.tup [eHead (cutR base en h).1, eBlockS (cutR base en h).2.1, bool (cutR base en h).2.2]) := by
  refine fnr_ok (n := 65) Tryz.func105 rfl rfl rfl (Nat.le_of_ble_eq_true rfl) rfl fun w0 O => ?_
  refine ok_seq fun K1 h1 => ok_region rfl (q_boxo (cells := [.sv (int h.window), .sv (int h.limit), .sv (int h.newest), .sv (eSeriesS h.series)]) _ rfl (.inl ⟨_, rfl⟩) rfl rfl rfl (q_alloc _ ze66 rfl rfl rfl rfl (q_as _ rfl (q_as _ rfl (run_nil (h1 _ ?_)))))); clear h1 K1
  refine ok_seq fun K2 h2 => ?_
  refine ok_region rfl (q_fap fd66_3 rfl (by decide) (q_ldb (.sv (eSeriesS h.series)) ag31 rfl rfl rfl (q_mv _ rfl (q_mv _ rfl (q_call (f162_ok h.series hh base en hb ht) cl162 rfl rfl (q_mv _ rfl (q_ext _ rfl rfl (q_ext _ rfl rfl (
    q_as _ rfl (q_as _ rfl (run_nil (h2 _ ?_))))))))))))
  clear h2 K2
  refine ok_seq fun K3 h3 => ?_
  refine ok_seq fun K4 h4 => ok_region rfl (q_mv _ rfl (q_un _ _ rfl rfl (run_nil (h4 _ ?_)))); clear h4 K4
  by_cases hsp : (spL base en h.series).length ≤ 100
  case neg =>
    have e1 : spR base en h.series = ([], false) := by unfold spR; rw [if_neg hsp]
    have e2 : cutR base en h = (h, [], false) := by unfold cutR; rw [if_neg hsp]
    rw [e1, e2]
    refine ok_cond rfl (fun c5 => ?_) (fun c5 => absurd c5 (by simp))
    refine ok_seq fun K6 h6 => ?_
    refine ok_region rfl (q_ldbs ag66 rfl rfl sz66 rfl rfl (q_sts _ rfl rfl rfl sz66 (Nat.le_of_ble_eq_true rfl) rfl (q_as _ rfl (q_as _ rfl (run_nil (h6 _ ?_))))))
    clear h6 K6
    exact Ok.le (le_nil 5 7 rfl) (ok_ret ⟨_, ⟨_, _, res_cells (l := [int h.window, int h.limit, int h.newest, eSeriesS h.series]) rfl rfl ag66 sz66 rfl, ⟨_, _, rfl, ⟨_, _, rfl, rfl, rfl⟩, rfl⟩, rfl⟩, rfl⟩)
  have e1 : spR base en h.series = (spL base en h.series, true) := by unfold spR; rw [if_pos hsp]
  have e2 : cutR base en h = (hLeft base en h, blks base en h.series, true) := by unfold cutR; rw [if_pos hsp]
  rw [e1, e2]
  refine ok_cond rfl (fun c5 => absurd c5 (by simp)) (fun c5 => ?_)
  refine ok_skip (h3 _ ?_)
  refine ok_seq fun K7 h7 => ok_region rfl (q_an (n := 5) 34 (by decide) rfl rfl rfl (run_nil (h7 _ ?_))); clear h7 K7
  refine ok_seq fun K8 h8 => ?_
  refine ok_seq fun K9 h9 => ok_region rfl (q_mv (ints (spL base en h.series)) rfl (q_len eS29 rfl (q_mv _ rfl (run_nil (h9 _ ?_))))); clear h9 K9
  rw [List.length_map]
  refine ok_block ?_
  refine ok_loop (fun (k : Nat) => ⟨[(1, .sv (int base)), (2, .sv (int en)), (3, .ptr 3 0), (6, .ptr 6 0), (11, .own 11), (26, .sv (ints (spL base en h.series))), (27, .sv (int (spL base en h.series).length)), (28, .sv (int k))], [(11, .row 5 34 (((spL base en h.series).take k).map fun a => eBlock (blkOf base h.series a))), (3, .box [.sv (int h.window), .sv (int h.limit), .sv (int h.newest), .sv (eSeriesS h.series)]), (6, .box [.sv (int 0), .sv (int 0), .sv (int 0), .sv (.raw (.slice none 0 0))])]⟩) (fun k => k ≤ (spL base en h.series).length) (fun k => (spL base en h.series).length - k) 0 (Nat.zero_le _) (le_sub ⟨rfl, rfl, rfl, rfl, rfl, rfl, rfl, rfl, trivial⟩ ⟨rfl, rfl, rfl, trivial⟩) (fun k J => ?_)
  refine ok_seq fun K10 h10 => ok_region rfl (q_bin _ _ _ rfl rfl rfl (run_nil (h10 _ ?_))); clear h10 K10
  refine ok_seq fun K11 h11 => ?_
  refine ok_cond rfl (fun c12 => ?_) (fun c12 => ?_)
  · refine ok_skip (h11 _ ?_)
    have hk : k < (spL base en h.series).length := by simpa using c12
    obtain ⟨a, ha⟩ := sget hk
    obtain ⟨s, hs, x, hx, q1, q2⟩ := spL_mem.1 (smem ha)
    obtain ⟨b1, b2, b3, b4⟩ := span_le hb (ht s hs x hx)
    rw [← q2] at b1 b2 b3 b4 q1
    have b5 : 0 ≤ a * base := Int.mul_nonneg b1 (by omega)
    have b6 : (a + 1) * base = a * base + base := by rw [Int.add_mul, Int.one_mul]
    refine ok_seq fun K13 h13 => ?_
    refine ok_block ?_
    refine ok_seq fun K14 h14 => ok_region rfl (q_ia el29 rfl rfl (by omega) (mget (f := int) ha) (q_ld _ ag3 rfl rfl (q_as _ rfl (run_nil (h14 _ ?_))))); clear h14 K14
    refine ok_seq fun K15 h15 => ?_
    refine ok_region rfl (q_mv (int a) rfl (q_mv (int base) rfl (q_mul rfl rfl (by omega) (q_mv (int a) rfl (q_add rfl rfl (by omega) (q_mv (int base) rfl (q_mul rfl rfl (by omega) (q_bldz [int (a * base), int ((a + 1) * base), int 1] [.sl 2 [], .sl 3 []] (bz34 _ _) ⟨nil_sl 2, nil_sl 3, trivial⟩ rfl rfl rfl (q_alloc _ ze34 rfl rfl rfl rfl (
      q_sts _ rfl rfl rfl sz34 (Nat.le_of_ble_eq_true rfl) rfl (run_nil (h15 _ ?_))))))))))))
    clear h15 K15
    refine ok_seq fun K16 h16 => ?_
    refine ok_region rfl (q_fap fd66_3 rfl (by decide) (q_ldb (.sv (eSeriesS h.series)) ag31 rfl rfl rfl (q_fap fd34_0 rfl (by decide) (q_ldb (.sv (int (a * base))) ag3 rfl rfl rfl (q_fap fd34_1 rfl (by decide) (q_ldb (.sv (int ((a + 1) * base))) ag3 rfl rfl rfl (
      q_sub rfl rfl (by omega) (q_call (f130_n h.series hh (a * base) ((a + 1) * base - 1)) cl130 rfl rfl (q_fap fd34_3 rfl (by decide) (q_st _ sz31 rfl rfl (Nat.le_of_ble_eq_true rfl) rfl ⟨_, rfl, rfl⟩ rfl (run_nil (h16 _ ?_))))))))))))
    clear h16 K16
    refine ok_last fun K17 h17 => ok_region rfl (
      q_mo _ rfl (q_ldbs ag34 rfl rfl sz34 rfl rfl (q_lit1 (n := 5) _ (eBlock (blkOf base h.series a)) el53 ze34 (by decide) (by decide) rfl (.inl ⟨_, rfl⟩) rfl (q_app (q := [eBlock (blkOf base h.series a)]) _ el53 ze34 rfl by34 rfl rfl rfl rfl rfl (by simp) (by intro s hs; simp at hs; subst hs; exact .inl ⟨_, rfl⟩) (by rw [List.length_map, List.length_take]; show _ + 1 ≤ maxLen; unfold maxLen; omega) (by rw [List.length_map, List.length_take]; show (_ + 1) * 72 ≤ _; omega) (
      q_ao _ rfl (run_nil (h17 _ (h13 _ ?_))))))))
    have e3 : (((spL base en h.series).take k).map fun a => eBlock (blkOf base h.series a)) ++ [eBlock (blkOf base h.series a)] = ((spL base en h.series).take (k + 1)).map fun a => eBlock (blkOf base h.series a) := by
      rw [List.take_add_one, ha, List.map_append]; rfl
    rw [e3]
    refine ok_last fun K18 h18 => ok_region rfl (
      q_add rfl rfl (by omega) (q_mv _ rfl (run_nil (h18 _ (⟨k + 1, by omega, hk, le_rek 11 52 ⟨rfl, rfl, rfl, rfl, rfl, rfl, rfl, rfl, trivial⟩ ⟨rfl, rfl, rfl, trivial⟩ rfl rfl rfl rfl ⟨rfl, rfl, rfl, trivial⟩⟩)))))
  · have hk : (spL base en h.series).length ≤ k := by have : ¬ ((k : Int) < (spL base en h.series).length) := by simpa using c12
                                                      omega
    rw [List.take_of_length_le hk]
    obtain ⟨d1, d2⟩ : 0 ≤ en / base * base ∧ en / base * base ≤ en := ⟨Int.mul_nonneg (Int.ediv_nonneg he.1 (by omega)) (by omega), Int.ediv_mul_le en (by omega)⟩
    have d3 : 0 ≤ en / base := Int.ediv_nonneg he.1 (by omega)
    refine ok_exit (h8 _ ?_)
    refine ok_seq fun K19 h19 => ?_
    refine ok_region_i (by kernel_rfl) (by kernel_rfl) rfl (
      q_fap fd66_3 rfl (by decide) (q_ldb (.sv (eSeriesS h.series)) ag31 rfl rfl rfl (q_mv _ rfl (q_mv _ rfl (q_div rfl rfl (by omega) (q_mv _ rfl (q_mul rfl rfl (by omega) (q_call (f130_n h.series hh (en / base * base) 1000000000000) cl130 rfl rfl (
      q_fap fd66_3 rfl (by decide) (q_st _ sz31 rfl rfl (Nat.le_of_ble_eq_true rfl) rfl ⟨_, rfl, rfl⟩ rfl (run_nil (h19 _ ?_))))))))))))
    clear h19 K19
    refine ok_seq fun K20 h20 => ok_region rfl (q_ldbs ag66 rfl rfl sz66 rfl rfl (q_mo _ rfl (q_sts _ rfl rfl rfl sz66 (Nat.le_of_ble_eq_true rfl) rfl (q_ao _ rfl (q_as _ rfl (run_nil (h20 _ ?_))))))); clear h20 K20
    refine ok_ret ⟨_, ⟨_, _, res_cells (l := [int h.window, int h.limit, int h.newest, eSeriesS (selL [] (en / base * base) 1000000000000 h.series)]) rfl rfl ag66 sz66 rfl, ⟨_, _, rfl, ⟨_, _, rfl, rfl, rfl⟩, rfl⟩, rfl⟩, ?_⟩
    have e4 : eBlockS (blks base en h.series) = .sl 5 ((spL base en h.series).map fun a => eBlock (blkOf base h.series a)) := by
      show SV.sl 5 _ = _
      unfold blks
      rw [List.map_map]; rfl
    rw [e2, e4]; rfl
/-- What CutHead tells. -/
noncomputable def resK (h : Head) (base en : Int) : Head × List Block := if pB (HeadOk h) = true ∧ (1 ≤ base ∧ base ≤ 1000000) ∧ pB (TimeOk en) = true ∧ (spL base en h.series).length ≤ 100 then (hLeft base en h, blks base en h.series) else (⟨0, 0, 0, []⟩, [])
theorem head_times {h : Head} (hk : HeadOk h) : ∀ s ∈ h.series, ∀ x ∈ s.samples, 0 ≤ x.time ∧ x.time ≤ 1000000000000 := fun s hs x hx => by
  obtain ⟨i, hi⟩ := List.getElem?_of_mem hs
  exact (ris_of (hk.2.2.2.1.2 i s hi).2.2.1).2 x hx
theorem f46_ok (h : Head) (hh : SHead h) (base en : Int) : PFn Tryz.prog 46 [eHead h, int base, int en] (.tup [eHead (resK h base en).1, eBlockS (resK h base en).2]) := by
  refine fnr_ok (n := 41) Tryz.func46 rfl rfl rfl (Nat.le_of_ble_eq_true rfl) rfl fun w0 O => ?_
  refine ok_seq fun K1 h1 => ok_region rfl (q_boxs _ rfl (Nat.zero_lt_succ _) (q_alloc _ ze66 rfl rfl rfl rfl (q_as _ rfl (run_nil (h1 _ ?_))))); clear h1 K1
  refine ok_seq fun K2 h2 => ?_
  refine ok_seq fun K3 h3 => ?_
  refine ok_region rfl (q_lds _ ag66 rfl sz66 (q_call (f103_ok h hh) cl103 rfl rfl (q_un _ _ rfl rfl (q_mv _ rfl (q_or 2 2 rfl rfl rfl rfl rfl (fun hb17 =>
      q_mv _ rfl (q_bin _ _ _ rfl rfl rfl (run_nil ⟨rfl, rfl, rfl, rfl⟩))) (
    q_mv _ rfl (q_or 2 2 rfl rfl rfl rfl rfl (fun hb21 =>
      q_mv _ rfl (q_bin _ _ _ rfl rfl rfl (run_nil ⟨rfl, rfl, rfl, rfl⟩))) (
    q_mv _ rfl (q_or 3 3 rfl rfl rfl rfl rfl (fun hb26 =>
      q_mv _ rfl (q_call (f104_ok en) cl104 rfl rfl (q_un _ _ rfl rfl (run_nil ⟨rfl, rfl, rfl, rfl⟩)))) (
    run_nil (h3 _ ?_)))))))))))
  clear h3 K3
  refine ok_cond rfl (fun c4 => ?_) (fun c4 => ?_)
  · have e : resK h base en = (⟨0, 0, 0, []⟩, []) := by
      unfold resK
      rw [if_neg]
      rintro ⟨g1, g2, g3, _⟩
      rw [g1, g3] at c4
      simp only [Bool.not_true, Bool.false_or, Bool.or_false, Bool.or_eq_true, decide_eq_true_eq] at c4
      omega
    refine ok_seq fun K5 h5 => ?_
    refine ok_region rfl (q_bldz [] [int 0, int 0, int 0, .sl 2 []] bz66 ⟨raw_z _ _, raw_z _ _, raw_z _ _, nil_sl 2, trivial⟩ rfl rfl rfl (q_sts _ rfl rfl rfl sz66 (Nat.le_of_ble_eq_true rfl) rfl (q_as _ rfl (run_nil (h5 _ ?_)))))
    clear h5 K5
    exact Ok.le (le_nil 5 7 rfl) (ok_ret ⟨_, ⟨_, _, res_cells (l := [int 0, int 0, int 0, .sl 2 []]) rfl rfl ag66 sz66 rfl, ⟨_, _, rfl, rfl, rfl⟩, rfl⟩, by rw [e]; rfl⟩)
  · simp only [Bool.or_eq_false_iff, Bool.not_eq_false', decide_eq_false_iff_not] at c4
    obtain ⟨⟨⟨g1, g2⟩, g3⟩, g4⟩ := c4
    have hk := of_pB g1
    have hbb : 1 ≤ base ∧ base ≤ 1000000 := by omega
    have hte := of_pB g4
    refine ok_skip (h2 _ ?_)
    refine ok_seq fun K6 h6 => ?_
    refine ok_region rfl (q_lds _ ag66 rfl sz66 (q_mv _ rfl (q_mv _ rfl (q_call (f105_ok h hh base en hbb hte (head_times hk)) cl105 rfl rfl (q_mv _ rfl (q_ext _ rfl rfl (q_ext _ rfl rfl (q_ext _ rfl rfl (q_alloc _ ze66 rfl rfl rfl rfl (
      q_sts _ rfl rfl rfl sz66 (Nat.le_of_ble_eq_true rfl) rfl (q_as _ rfl (q_as _ rfl (run_nil (h6 _ ?_))))))))))))))
    clear h6 K6
    refine ok_seq fun K7 h7 => ?_
    refine ok_seq fun K8 h8 => ok_region rfl (q_mv _ rfl (q_un _ _ rfl rfl (run_nil (h8 _ ?_)))); clear h8 K8
    by_cases hsp : (spL base en h.series).length ≤ 100
    · have e1 : cutR base en h = (hLeft base en h, blks base en h.series, true) := by unfold cutR; rw [if_pos hsp]
      have e2 : resK h base en = (hLeft base en h, blks base en h.series) := by unfold resK; rw [if_pos ⟨g1, hbb, g4, hsp⟩]
      rw [e1, e2]
      refine ok_cond rfl (fun c9 => absurd c9 (by simp)) (fun c9 => ?_)
      refine ok_skip (h7 _ ?_)
      refine ok_seq fun K11 h11 => ok_region rfl (q_ldbs ag66 rfl rfl sz66 rfl rfl (q_mv (eBlockS (blks base en h.series)) rfl (q_sts _ rfl rfl rfl sz66 (Nat.le_of_ble_eq_true rfl) rfl (q_as _ rfl (run_nil (h11 _ ?_)))))); clear h11 K11
      exact ok_ret ⟨_, ⟨_, _, res_cells (l := [int h.window, int h.limit, int h.newest, eSeriesS (selL [] (en / base * base) 1000000000000 h.series)]) rfl rfl ag66 sz66 rfl, ⟨_, _, rfl, rfl, rfl⟩, rfl⟩, by rw [e2]; rfl⟩
    · have e1 : cutR base en h = (h, [], false) := by unfold cutR; rw [if_neg hsp]
      have e2 : resK h base en = (⟨0, 0, 0, []⟩, []) := by unfold resK; rw [if_neg (fun c => hsp c.2.2.2)]
      rw [e1, e2]
      refine ok_cond rfl (fun c9 => ?_) (fun c9 => absurd c9 (by simp))
      refine ok_seq fun K10 h10 => ?_
      refine ok_region rfl (q_bldz [] [int 0, int 0, int 0, .sl 2 []] bz66 ⟨raw_z _ _, raw_z _ _, raw_z _ _, nil_sl 2, trivial⟩ rfl rfl rfl (q_sts _ rfl rfl rfl sz66 (Nat.le_of_ble_eq_true rfl) rfl (q_as _ rfl (run_nil (h10 _ ?_)))))
      clear h10 K10
      exact Ok.le (le_nil 5 7 rfl) (ok_ret ⟨_, ⟨_, _, res_cells (l := [int 0, int 0, int 0, .sl 2 []]) rfl rfl ag66 sz66 rfl, ⟨_, _, rfl, rfl, rfl⟩, rfl⟩, rfl⟩)
end Go.Ring
