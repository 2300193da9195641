/- A head cut: the program; both say the same. No condition beyond the lengths. -/
import Derived.Test.YtbhkjbfphhfecaaGreatC4
set_option maxRecDepth 100000
set_option linter.unusedVariables false
set_option linter.unusedSimpArgs false
namespace Go.Ring
open Go Go.RowKit Go.Eager Go.Abs Go.Proofs
theorem cget {zs : List Int} {m : Nat} (h : m < zs.length) : zs.toArray[m]! = zs[m] := by simp [h]
theorem compact_up {zs : List Int} (hs : zs.Pairwise (· ≤ ·)) : ∀ m, m ≤ zs.length → Up (Lib.compactUpTo zs.toArray m) ∧ ∀ y, y ∈ Lib.compactUpTo zs.toArray m ↔ y ∈ zs.take m
  | 0, _ => ⟨List.Pairwise.nil, fun y => by simp [Lib.compactUpTo]⟩
  | m + 1, h => by
    obtain ⟨h1, h2⟩ := compact_up hs m (by omega)
    have hm : m < zs.length := by omega
    have ht : ∀ y, y ∈ zs.take (m + 1) ↔ y ∈ zs.take m ∨ y = zs[m] := fun y => by rw [List.take_add_one, List.getElem?_eq_getElem hm, List.mem_append]; simp
    have hle : ∀ y ∈ zs.take m, ∀ j (hj : j < zs.length), m ≤ j + 1 → m ≠ 0 → y ≤ zs[m - 1]'(by omega) := fun y hy j hj hmj h0 => by
      obtain ⟨i, hi⟩ := List.getElem?_of_mem hy
      rw [List.getElem?_take] at hi
      split at hi
      · rename_i him
        obtain ⟨hi1, hi2⟩ := List.getElem?_eq_some_iff.1 hi
        subst hi2
        rcases Nat.lt_or_ge i (m - 1) with hlt | hge
        · exact List.pairwise_iff_getElem.1 hs i (m - 1) hi1 (by omega) hlt
        · have : i = m - 1 := by omega
          subst this; exact Int.le_refl _
      · cases hi
    rw [Lib.compactUpTo_succ]
    by_cases hk : Lib.keeps zs.toArray m = true
    · rw [if_pos hk, cget hm]
      refine ⟨?_, fun y => by rw [List.mem_append, h2, ht]; simp⟩
      unfold Up
      rw [List.pairwise_append]
      refine ⟨h1, List.pairwise_singleton _ _, fun y hy z hz => ?_⟩
      rw [List.mem_singleton] at hz
      subst hz
      have hy' := (h2 y).1 hy
      have h0 : m ≠ 0 := by intro h; subst h; simp at hy'
      have a1 := hle y hy' m hm (by omega) h0
      have a2 := List.pairwise_iff_getElem.1 hs (m - 1) m (by omega) hm (by omega)
      unfold Lib.keeps at hk
      simp only [decide_eq_true_eq] at hk
      have a3 := hk.resolve_left h0
      rw [cget hm, cget (by omega : m - 1 < zs.length)] at a3
      show y < zs[m]
      omega
    · rw [if_neg hk, List.append_nil]
      refine ⟨h1, fun y => ?_⟩
      rw [h2, ht]
      refine ⟨fun h => .inl h, fun h => h.elim id fun h => ?_⟩
      unfold Lib.keeps at hk
      simp only [decide_eq_true_eq, not_or, Classical.not_not] at hk
      obtain ⟨k1, k2⟩ := hk
      rw [cget hm, cget (by omega : m - 1 < zs.length)] at k2
      rw [h, k2]
      exact smem (l := zs.take m) (i := m - 1) (by rw [List.getElem?_take, if_pos (by omega)]; exact List.getElem?_eq_getElem (by omega))
theorem comp_srt (q : List Int) : Up (Lib.compact (srt q)) ∧ ∀ y, y ∈ Lib.compact (srt q) ↔ y ∈ q := by
  have hs : (srt q).Pairwise (· ≤ ·) := by
    unfold srt
    have := List.pairwise_mergeSort (le := fun x y : Int => decide (x ≤ y)) (fun a b c h1 h2 => by simp at *; omega) (fun a b => by simp; omega) q
    exact this.imp fun h => by simpa using h
  obtain ⟨h1, h2⟩ := compact_up hs (srt q).length (Nat.le_refl _)
  refine ⟨h1, fun y => (h2 y).trans ?_⟩
  rw [List.take_length]
  exact List.mem_mergeSort
/-- Where samples ahead of a time begin their spans. -/
def st1 (base e : Int) (l : List Sample) : List Int := (l.filter fun x => decide (x.time < e)).map fun x => x.time / base * base
def stL (base e : Int) (l : List Series) : List Int := l.flatMap fun s => st1 base e s.samples
theorem stL_mem {base e : Int} {l : List Series} {y : Int} : y ∈ stL base e l ↔ ∃ s ∈ l, ∃ x ∈ s.samples, x.time < e ∧ y = x.time / base * base := by
  unfold stL st1
  rw [List.mem_flatMap]
  refine ⟨fun ⟨s, hs, h⟩ => ?_, fun ⟨s, hs, x, hx, h1, h2⟩ => ⟨s, hs, List.mem_map.2 ⟨x, List.mem_filter.2 ⟨hx, by simpa using h1⟩, h2.symm⟩⟩⟩
  obtain ⟨x, hx, h2⟩ := List.mem_map.1 h
  obtain ⟨h3, h4⟩ := List.mem_filter.1 hx
  exact ⟨s, hs, x, h3, by simpa using h4, h2.symm⟩
theorem span_iff {base en t : Int} (hb : 1 ≤ base) : t < en / base * base ↔ (t / base + 1) * base ≤ en := by
  have h1 : t < en / base * base ↔ t / base < en / base := (Int.ediv_lt_iff_lt_mul (by omega)).symm
  have h2 : (t / base + 1) * base ≤ en ↔ t / base + 1 ≤ en / base := (Int.le_ediv_iff_mul_le (by omega)).symm
  rw [h1, h2]
  omega
theorem up_map {base : Int} (hb : 1 ≤ base) {q : List Int} (h : Up q) : Up (q.map (· * base)) := by
  unfold Up
  rw [List.pairwise_map]
  exact h.imp fun {a b} hab => Int.mul_lt_mul_of_pos_right hab (by omega)
theorem starts_eq {base en : Int} (hb : 1 ≤ base) (l : List Series) : Lib.compact (srt (stL base (en / base * base) l)) = (spL base en l).map (· * base) := by
  obtain ⟨h1, h2⟩ := comp_srt (stL base (en / base * base) l)
  refine up_ext h1 (up_map hb (foldS_up base en l [] List.Pairwise.nil)) fun y => ?_
  rw [h2, stL_mem, List.mem_map]
  constructor
  · rintro ⟨s, hs, x, hx, h3, rfl⟩
    exact ⟨x.time / base, spL_mem.2 ⟨s, hs, x, hx, (span_iff hb).1 h3, rfl⟩, rfl⟩
  · rintro ⟨a, ha, rfl⟩
    obtain ⟨s, hs, x, hx, h3, rfl⟩ := spL_mem.1 ha
    exact ⟨s, hs, x, hx, (span_iff hb).2 h3, rfl⟩
theorem st1_len (base e : Int) (l : List Sample) : (st1 base e l).length ≤ l.length := by unfold st1; rw [List.length_map]; exact List.length_filter_le _ _
theorem st1_step {base e : Int} {l : List Sample} {m : Nat} {x : Sample} (h : l[m]? = some x) : st1 base e (l.take (m + 1)) = st1 base e (l.take m) ++ if x.time < e then [x.time / base * base] else [] := by
  unfold st1
  rw [List.take_add_one, h, Option.toList_some, List.filter_append, List.map_append]
  congr 1
  rw [List.filter_cons, List.filter_nil]
  by_cases hx : x.time < e
  · rw [if_pos (by simpa using hx), if_pos hx]; rfl
  · rw [if_neg (by simpa using hx), if_neg hx]; rfl
theorem stL_step {base e : Int} {l : List Series} {m : Nat} {x : Series} (h : l[m]? = some x) : stL base e (l.take (m + 1)) = stL base e (l.take m) ++ st1 base e x.samples := by
  unfold stL
  rw [List.take_add_one, h, Option.toList_some, List.flatMap_append]
  simp
theorem PFnR.weak {P : Program} {f : Nat} {la bs : List SV} {R : SV → Prop} (h : PFnR P f la R) (hl : bs.length = la.length) (hw : ∀ (i : Nat) (s : SV), la[i]? = some s → ∃ s', bs[i]? = some s' ∧ ∀ w O v, Rep w O s' v → Rep w O s v) : PFnR P f bs R := by
  intro w O vs hO hn hv
  refine h w O vs hO (by rw [hn, hl]) fun i s u hs hu => ?_
  obtain ⟨s', h1, h2⟩ := hw i s hs
  exact h2 w O u (hv i s' u h1 hu)
theorem f69_n (x : List Series) (hx : x.length ≤ 1048576 ∧ ∀ y ∈ x, SSeries y) (hv : ∀ y ∈ x, ∀ n, (valOf y.labels n).size ≤ 100) (f t : Int) : PFnT Tryz.prog 69 [eSeriesS x, .raw (.slice none 0 0), int f, int t] (eSeriesS (selL [] f t x)) :=
  PFnR.weak (f69_t x hx [] (Nat.zero_le _) (by simp) hv f t) rfl (fun i s h => by
    match i, h with
    | 0, h => exact ⟨s, h, fun _ _ _ h => h⟩
    | 1, h => cases h; exact ⟨_, rfl, fun _ _ _ h => rep_nil0 h⟩
    | 2, h => exact ⟨s, h, fun _ _ _ h => h⟩
    | 3, h => exact ⟨s, h, fun _ _ _ h => h⟩
    | n + 4, h => simp at h)
theorem bz34t (a b : Int) (x : List Series) {Z : Nat → Prop} {v : Value} : BLz Tryz.prog 34 [int a, int b, int 1, .tr Z (eSeriesS x) v] [.slice none 0 0] := by
  intro vs hv
  match vs, hv with
  | [u0, u1, u2, u3], hv =>
    obtain ⟨e0, e1, e2, e3, -⟩ := hv
    obtain ⟨rfl, p0, n0, c0, e3⟩ := e3
    rw [e0, e1, e2, e3]
    have key : ∀ (x0 x1 x2 : Int) (p0 : Option Addr) (n0 c0 : Nat), Tryz.prog.built 34 [(0, .int .i64 x0), (1, .int .i64 x1), (2, .int .i64 x2), (3, .slice p0 n0 c0)] = some #[.int .i64 x0, .int .i64 x1, .int .i64 x2, .slice p0 n0 c0, .slice none 0 0] := by intro x0 x1 x2 p0 n0 c0; kernel_rfl
    exact key a b 1 p0 n0 c0
/-- Two copies, apart. -/
def Two (r s t : SV) : Prop := ∃ r1 r2, r = .tup [r1, r2] ∧ Gd r1 s ∧ Gd r2 t ∧ ∀ b, Zn b r1 → ¬ Zn b r2
theorem f48_t (h : Head) (hh : SHead h) (base en : Int) : PFnR Tryz.prog 48 [eHead h, int base, int en] (fun r => Two r (eHead (resK h base en).1) (eBlockS (resK h base en).2)) := by
  refine fnp_ok (n := 106) Tryz.func48 rfl rfl rfl (Nat.le_of_ble_eq_true rfl) rfl fun w0 O => ?_
  refine ok_seq fun K1 h1 => ok_region rfl (q_boxo (cells := [.sv (int h.window), .sv (int h.limit), .sv (int h.newest), .sv (eSeriesS h.series)]) _ rfl (.inl ⟨_, rfl⟩) rfl rfl rfl (q_alloc _ ze66 rfl rfl rfl rfl (q_as _ rfl (run_nil (h1 _ ?_))))); clear h1 K1
  have zero : ∀ (Z : Nat → Prop) (v : Value), (∀ b, ¬ Z b) → Gd (.agg [int 0, int 0, int 0, .tr Z (.sl 2 []) v]) (eHead ⟨0, 0, 0, []⟩) := fun Z v hZ => gc_Head ⟨0, 0, 0, []⟩
  refine ok_seq fun K2 h2 => ?_
  refine ok_seq fun K3 h3 => ?_
  refine ok_region rfl (q_ldbs ag66 rfl rfl sz66 rfl rfl (q_call (f106_ok h hh) cl106 rfl rfl (q_un _ _ rfl rfl (q_mv _ rfl (q_or 2 2 rfl rfl rfl rfl rfl (fun hb23 =>
      q_mv _ rfl (q_bin _ _ _ rfl rfl rfl (run_nil ⟨rfl, rfl, rfl, rfl⟩))) (
    q_mv _ rfl (q_or 2 2 rfl rfl rfl rfl rfl (fun hb27 =>
      q_mv _ rfl (q_bin _ _ _ rfl rfl rfl (run_nil ⟨rfl, rfl, rfl, rfl⟩))) (
    q_mv _ rfl (q_or 3 3 rfl rfl rfl rfl rfl (fun hb32 =>
      q_mv _ rfl (q_call (f107_ok en) cl107 rfl rfl (q_un _ _ rfl rfl (run_nil ⟨rfl, rfl, rfl, rfl⟩)))) (
    run_nil (h3 _ ?_)))))))))))
  clear h3 K3
  have none_ : ∀ b, ¬ Zn b (.tup [.agg [int 0, int 0, int 0, .tr (fun _ => False) (.sl 2 []) (.slice none 0 0)], .tr (fun _ => False) (.sl 5 []) (.slice none 0 0)]) := fun b hb => by
    simp only [znT_cons, znT_nil, znA_cons, znI_raw, znI_tr, znA_nil, or_false, false_or] at hb
  refine ok_cond rfl (fun c4 => ?_) (fun c4 => ?_)
  · have e : resK h base en = (⟨0, 0, 0, []⟩, []) := by
      unfold resK
      rw [if_neg]
      rintro ⟨g1, g2, g3, _⟩
      rw [g1, g3] at c4
      simp only [Bool.not_true, Bool.false_or, Bool.or_false, Bool.or_eq_true, decide_eq_true_eq] at c4
      omega
    refine ok_seq fun K5 h5 => ?_
    refine ok_region rfl (q_bldz [] [int 0, int 0, int 0, .tr (fun _ => False) (.sl 2 []) (.slice none 0 0)] bz66 ⟨raw_z _ _, raw_z _ _, raw_z _ _, nil_tr 2, trivial⟩ rfl rfl rfl (q_sts _ rfl rfl rfl sz66 (Nat.le_of_ble_eq_true rfl) rfl (q_as _ rfl (run_nil (h5 _ ?_)))))
    clear h5 K5
    rw [e]
    refine ok_nilT 5 (ok_ret ⟨_, ⟨_, _, res_cells (l := [int 0, int 0, int 0, .tr (fun _ => False) (.sl 2 []) (.slice none 0 0)]) rfl rfl ag66 sz66 rfl, ⟨_, _, rfl, rfl, rfl⟩, rfl⟩, ⟨_, _, rfl, zero _ _ (fun _ h => h), .tr _ _ _ _, fun b _ hb => (zn_tr hb).elim⟩, fun b hb => (none_ b hb).elim⟩)
  · simp only [Bool.or_eq_false_iff, Bool.not_eq_false', decide_eq_false_iff_not] at c4
    obtain ⟨⟨⟨g1, g2⟩, g3⟩, g4⟩ := c4
    have hk := of_pB g1
    have hbb : 1 ≤ base ∧ base ≤ 1000000 := by omega
    have hte := of_pB g4
    have tms := head_times hk
    have hsl : h.series.length ≤ 200 := by have := hk.2.2.2.1.1; omega
    have hsm : ∀ s ∈ h.series, s.samples.length ≤ 2000 := fun s hs => by
      obtain ⟨i, hi⟩ := List.getElem?_of_mem hs
      exact (hk.2.2.2.1.2 i s hi).2.2.1.1
    have hvs : ∀ s ∈ h.series, ∀ n, (valOf s.labels n).size ≤ 100 := fun s hs n => by
      obtain ⟨i, hi⟩ := List.getElem?_of_mem hs
      exact val_size (hk.2.2.2.1.2 i s hi).1 n
    obtain ⟨hte1, hte2⟩ := hte
    obtain ⟨d1, d2⟩ : 0 ≤ en / base * base ∧ en / base * base ≤ en := ⟨Int.mul_nonneg (Int.ediv_nonneg hte1 (by omega)) (by omega), Int.ediv_mul_le en (by omega)⟩
    have d3 : 0 ≤ en / base := Int.ediv_nonneg hte1 (by omega)
    refine ok_skip (h2 _ ?_)
    refine ok_seq fun K6 h6 => ok_region rfl (q_mv _ rfl (q_mv _ rfl (q_div rfl rfl (by omega) (q_mv _ rfl (q_mul rfl rfl (by omega) (q_as _ rfl (run_nil (h6 _ ?_)))))))); clear h6 K6
    refine ok_seq fun K7 h7 => ok_region rfl (q_an (n := 1) 3 (by decide) rfl rfl rfl (run_nil (h7 _ ?_))); clear h7 K7
    refine ok_seq fun K8 h8 => ?_
    refine ok_seq fun K9 h9 => ok_region rfl (q_fap fd66_3 rfl (by decide) (q_ldb (.sv (eSeriesS h.series)) ag31 rfl rfl rfl (q_len eS31 rfl (q_mv _ rfl (run_nil (h9 _ ?_)))))); clear h9 K9
    rw [List.length_map]
    generalize hed : en / base * base = ed at *
    refine ok_block ?_
    refine ok_loop (fun (v : Nat × List Int) => ⟨[(1, .sv (int base)), (3, .ptr 3 0), (6, .ptr 6 0), (8, .sv (int ed)), (9, .own 9), (40, .sv (eSeriesS h.series)), (41, .sv (int h.series.length)), (42, .sv (int v.1))], [(9, .row 1 3 (v.2.map int)), (3, .box [.sv (int h.window), .sv (int h.limit), .sv (int h.newest), .sv (eSeriesS h.series)]), (6, .box [.sv (int 0), .sv (int 0), .sv (int 0), .sv (.raw (.slice none 0 0))])]⟩) (fun v => v.2 = stL base ed (h.series.take v.1) ∧ v.2.length ≤ v.1 * 2000) (fun v => h.series.length - v.1) (0, []) ⟨rfl, by simp⟩ (le_sub ⟨rfl, rfl, rfl, rfl, rfl, rfl, rfl, rfl, trivial⟩ ⟨rfl, rfl, rfl, trivial⟩) (fun v J => ?_)
    obtain ⟨k, q⟩ := v
    obtain ⟨j1, j2⟩ := J
    simp only at j1 j2
    refine ok_seq fun K10 h10 => ok_region rfl (q_bin _ _ _ rfl rfl rfl (run_nil (h10 _ ?_))); clear h10 K10
    refine ok_seq fun K11 h11 => ?_
    refine ok_cond rfl (fun c12 => ?_) (fun c12 => ?_)
    · refine ok_skip (h11 _ ?_)
      have hkk : k < h.series.length := by simpa using c12
      obtain ⟨u, hu⟩ := sget hkk
      have nu := (hh.2 u (smem hu)).2
      have hsu := hsm u (smem hu)
      have tu := tms u (smem hu)
      refine ok_seq fun K13 h13 => ?_
      refine ok_block ?_
      refine ok_seq fun K14 h14 => ok_region rfl (q_ia el31 rfl rfl (by omega) (mget (f := eSeries) hu) (q_lds _ ag83 rfl sz83 (q_alloc _ ze83 rfl rfl rfl rfl (q_sts _ rfl rfl rfl sz83 (Nat.le_of_ble_eq_true rfl) rfl (run_nil (h14 _ ?_)))))); clear h14 K14
      refine ok_seq fun K15 h15 => ok_region rfl (q_fap fd83_1 rfl (by decide) (q_ldb (.sv (eSampleS u.samples)) ag81 rfl rfl rfl (q_len eS81 rfl (q_mv _ rfl (run_nil (h15 _ ?_)))))); clear h15 K15
      rw [List.length_map]
      refine ok_block ?_
      refine ok_loop (fun (v : Nat × List Int) => ⟨[(1, .sv (int base)), (3, .ptr 3 0), (6, .ptr 6 0), (8, .sv (int ed)), (9, .own 9), (40, .sv (eSeriesS h.series)), (41, .sv (int h.series.length)), (42, .sv (int k)), (47, .sv (eSampleS u.samples)), (48, .sv (int u.samples.length)), (49, .sv (int v.1))], [(9, .row 1 3 (v.2.map int)), (3, .box [.sv (int h.window), .sv (int h.limit), .sv (int h.newest), .sv (eSeriesS h.series)]), (6, .box [.sv (int 0), .sv (int 0), .sv (int 0), .sv (.raw (.slice none 0 0))])]⟩) (fun v => v.2 = stL base ed (h.series.take k) ++ st1 base ed (u.samples.take v.1) ∧ v.2.length ≤ k * 2000 + v.1) (fun v => u.samples.length - v.1) (0, q) ⟨by rw [j1]; simp [st1], by omega⟩ (le_sub ⟨rfl, rfl, rfl, rfl, rfl, rfl, rfl, rfl, rfl, rfl, rfl, trivial⟩ ⟨rfl, rfl, rfl, trivial⟩) (fun v J => ?_)
      clear j1 j2
      obtain ⟨m, q⟩ := v
      obtain ⟨j1, j2⟩ := J
      simp only at j1 j2
      refine ok_seq fun K16 h16 => ok_region rfl (q_bin _ _ _ rfl rfl rfl (run_nil (h16 _ ?_))); clear h16 K16
      refine ok_seq fun K17 h17 => ?_
      refine ok_cond rfl (fun c18 => ?_) (fun c18 => ?_)
      · refine ok_skip (h17 _ ?_)
        have hm : m < u.samples.length := by simpa using c18
        obtain ⟨x, hx⟩ := sget hm
        have tx := tu x (smem hx)
        obtain ⟨b1, b2, b3, b4⟩ := span_le hbb tx
        have b5 : 0 ≤ x.time / base * base := Int.mul_nonneg b1 (by omega)
        have b6 := Int.ediv_mul_le x.time (b := base) (by omega)
        have hst := st1_step (base := base) (e := ed) hx
        refine ok_seq_join (fun (q' : List Int) => ⟨[(1, .sv (int base)), (3, .ptr 3 0), (6, .ptr 6 0), (8, .sv (int ed)), (9, .own 9), (40, .sv (eSeriesS h.series)), (41, .sv (int h.series.length)), (42, .sv (int k)), (47, .sv (eSampleS u.samples)), (48, .sv (int u.samples.length)), (49, .sv (int m))], [(9, .row 1 3 (q'.map int)), (3, .box [.sv (int h.window), .sv (int h.limit), .sv (int h.newest), .sv (eSeriesS h.series)]), (6, .box [.sv (int 0), .sv (int 0), .sv (int 0), .sv (.raw (.slice none 0 0))])]⟩) (fun q' => q' = stL base ed (h.series.take k) ++ st1 base ed (u.samples.take (m + 1)) ∧ q'.length ≤ k * 2000 + (m + 1)) ?_ (fun q' J => ?_)
        · refine ok_block ?_
          refine ok_seq fun K19 h19 => ok_region rfl (q_ia el81 rfl rfl (by omega) (mget (f := eSample) hx) (q_lds _ ag128 rfl sz128 (q_alloc _ ze128 rfl rfl rfl rfl (q_sts _ rfl rfl rfl sz128 (Nat.le_of_ble_eq_true rfl) rfl (run_nil (h19 _ ?_)))))); clear h19 K19
          refine ok_seq fun K20 h20 => ok_region rfl (q_fap fd128_0 rfl (by decide) (q_ldb (.sv (int x.time)) ag3 rfl rfl rfl (q_mv _ rfl (q_bin _ _ _ rfl rfl rfl (run_nil (h20 _ ?_)))))); clear h20 K20
          refine ok_cond rfl (fun c21 => ?_) (fun c21 => ?_)
          · rw [if_pos (by simpa using c21)] at hst
            refine ok_last fun K22 h22 => ok_region rfl (
              q_mo _ rfl (q_fap fd128_0 rfl (by decide) (q_ldb (.sv (int x.time)) ag3 rfl rfl rfl (q_mv _ rfl (q_div rfl rfl (by omega) (q_mv _ rfl (q_mul rfl rfl (by omega) (q_lit1 _ (int (x.time / base * base)) el29 ze3 (by decide) (by decide) rfl (.inr rfl) rfl (
              q_app (q := [int (x.time / base * base)]) _ el29 ze3 rfl by3 rfl rfl rfl rfl rfl (by simp) (by intro s hs; simp at hs; subst hs; exact .inr rfl) (by rw [List.length_map]; show q.length + 1 ≤ maxLen; unfold maxLen; omega) (by rw [List.length_map]; show (q.length + 1) * 8 ≤ _; omega) (q_ao _ rfl (run_nil (h22 _ ⟨q ++ [x.time / base * base], ⟨by rw [hst, j1, List.append_assoc], by rw [List.length_append]; simp; omega⟩, by rw [List.map_append]; exact le_rek 9 65 ⟨rfl, rfl, rfl, rfl, rfl, rfl, rfl, rfl, rfl, rfl, rfl, trivial⟩ ⟨rfl, rfl, rfl, trivial⟩ rfl rfl rfl rfl ⟨rfl, rfl, rfl, trivial⟩⟩))))))))))))
          · rw [if_neg (by simpa using c21), List.append_nil] at hst
            exact ok_skip ⟨q, ⟨by rw [hst]; exact j1, by omega⟩, le_sub ⟨rfl, rfl, rfl, rfl, rfl, rfl, rfl, rfl, rfl, rfl, rfl, trivial⟩ ⟨rfl, rfl, rfl, trivial⟩⟩
        · refine ok_last fun K23 h23 => ok_region rfl (
            q_add rfl rfl (by omega) (q_mv _ rfl (run_nil (h23 _ (⟨(m + 1, q'), by simp only; omega, J, le_sub ⟨rfl, rfl, rfl, rfl, rfl, rfl, rfl, rfl, rfl, rfl, rfl, trivial⟩ ⟨rfl, rfl, rfl, trivial⟩⟩)))))
      · have hm : u.samples.length ≤ m := by have : ¬ ((m : Int) < u.samples.length) := by simpa using c18
                                             omega
        have j1' : q = stL base ed (h.series.take (k + 1)) := by rw [stL_step hu, j1, List.take_of_length_le hm]
        have j2' : q.length ≤ (k + 1) * 2000 := by
          rw [j1', stL_step hu, List.length_append]
          have a1 := st1_len base ed u.samples
          have a2 := congrArg List.length j1
          rw [List.length_append, List.take_of_length_le hm] at a2
          have a3 : ∀ (l : List Series), (∀ s ∈ l, s.samples.length ≤ 2000) → (stL base ed l).length ≤ l.length * 2000 := by
            intro l
            induction l with
            | nil => intro _; simp [stL]
            | cons s l ih =>
              intro hs
              have h1 := ih fun y hy => hs y (List.mem_cons_of_mem _ hy)
              have h2 := st1_len base ed s.samples
              have h3 := hs s (List.mem_cons_self ..)
              show ((s :: l).flatMap fun s => st1 base ed s.samples).length ≤ _
              rw [List.flatMap_cons, List.length_append, List.length_cons]
              have h4 : (l.flatMap fun s => st1 base ed s.samples).length ≤ l.length * 2000 := h1
              omega
          have a4 := a3 (h.series.take k) fun s hs => hsm s (List.mem_of_mem_take hs)
          rw [List.length_take] at a4
          omega
        refine ok_exit (h13 _ ?_)
        refine ok_last fun K24 h24 => ok_region rfl (
          q_add rfl rfl (by omega) (q_mv _ rfl (run_nil (h24 _ (⟨(k + 1, q), by simp only; omega, ⟨j1', j2'⟩, le_sub ⟨rfl, rfl, rfl, rfl, rfl, rfl, rfl, rfl, trivial⟩ ⟨rfl, rfl, rfl, trivial⟩⟩)))))
    · have hke : h.series.length ≤ k := by have : ¬ ((k : Int) < h.series.length) := by simpa using c12
                                           omega
      rw [List.take_of_length_le hke] at j1
      have hql : q.length ≤ 400000 := by
        have a3 : ∀ (l : List Series), (∀ s ∈ l, s.samples.length ≤ 2000) → (stL base ed l).length ≤ l.length * 2000 := by
          intro l
          induction l with
          | nil => intro _; simp [stL]
          | cons s l ih =>
            intro hs
            have h1 := ih fun y hy => hs y (List.mem_cons_of_mem _ hy)
            have h2 := st1_len base ed s.samples
            have h3 := hs s (List.mem_cons_self ..)
            show ((s :: l).flatMap fun s => st1 base ed s.samples).length ≤ _
            rw [List.flatMap_cons, List.length_append, List.length_cons]
            have h4 : (l.flatMap fun s => st1 base ed s.samples).length ≤ l.length * 2000 := h1
            omega
        have := a3 h.series hsm
        rw [j1]; omega
      have hcs : Lib.compact (srt q) = (spL base en h.series).map (· * base) := by rw [j1, ← hed]; exact starts_eq hbb.1 _
      refine ok_exit (h8 _ ?_)
      refine ok_seq fun K25 h25 => ok_region rfl (q_mo _ rfl (q_sortA (zs := q) so_sort so_sort0 cl108 rfl rfl (by omega) (run_nil (h25 _ ?_)))); clear h25 K25
      refine ok_seq fun K26 h26 => ok_region rfl (q_mo _ rfl (q_compA (zs := srt q) so_comp so_comp0 cl109 rfl rfl rfl rfl (q_ao _ rfl (run_nil (h26 _ ?_))))); clear h26 K26
      rw [hcs]
      refine Ok.le (le_fz (n := 1) (T := 3) (l := ((spL base en h.series).map (· * base)).map int) 71 rfl) ?_
      refine ok_seq fun K27 h27 => ?_
      refine ok_seq fun K28 h28 => ok_region rfl (q_mv (ints ((spL base en h.series).map (· * base))) rfl (q_len eS29 rfl (q_bin _ _ _ rfl rfl rfl (run_nil (h28 _ ?_))))); clear h28 K28
      rw [List.length_map, List.length_map]
      refine ok_cond rfl (fun c29 => ?_) (fun c29 => ?_)
      · have e : resK h base en = (⟨0, 0, 0, []⟩, []) := by
          unfold resK
          rw [if_neg]
          rintro ⟨_, _, _, g⟩
          have : (100 : Int) < ((spL base en h.series).length : Nat) := by simpa using c29
          omega
        refine ok_seq fun K30 h30 => ?_
        refine ok_region rfl (q_bldz [] [int 0, int 0, int 0, .tr (fun _ => False) (.sl 2 []) (.slice none 0 0)] bz66 ⟨raw_z _ _, raw_z _ _, raw_z _ _, nil_tr 2, trivial⟩ rfl rfl rfl (q_sts _ rfl rfl rfl sz66 (Nat.le_of_ble_eq_true rfl) rfl (q_as _ rfl (run_nil (h30 _ ?_)))))
        clear h30 K30
        rw [e]
        refine ok_nilT 5 (ok_ret ⟨_, ⟨_, _, res_cells (l := [int 0, int 0, int 0, .tr (fun _ => False) (.sl 2 []) (.slice none 0 0)]) rfl rfl ag66 sz66 rfl, ⟨_, _, rfl, rfl, rfl⟩, rfl⟩, ⟨_, _, rfl, zero _ _ (fun _ h => h), .tr _ _ _ _, fun b _ hb => (zn_tr hb).elim⟩, fun b hb => (none_ b hb).elim⟩)
      · have hsp : (spL base en h.series).length ≤ 100 := by
          have : ¬ (100 : Int) < ((spL base en h.series).length : Nat) := by simpa using c29
          omega
        have e : resK h base en = (hLeft base en h, blks base en h.series) := by unfold resK; rw [if_pos ⟨g1, hbb, g4, hsp⟩]
        refine ok_skip (h27 _ ?_)
        refine ok_seq fun K31 h31 => ok_region rfl (q_an (n := 5) 34 (by decide) rfl rfl rfl (run_nil (h31 _ ?_))); clear h31 K31
        refine ok_seq fun K32 h32 => ?_
        refine ok_seq fun K33 h33 => ok_region rfl (q_mv (ints ((spL base en h.series).map (· * base))) rfl (q_len eS29 rfl (q_mv _ rfl (run_nil (h33 _ ?_))))); clear h33 K33
        rw [List.length_map, List.length_map]
        have hlen : ((spL base en h.series).map (· * base)).length = (spL base en h.series).length := List.length_map _
        refine ok_block ?_
        refine ok_loop (fun (v : Nat × List SV) => ⟨[(1, .sv (int base)), (3, .ptr 3 0), (6, .ptr 6 0), (8, .sv (int ed)), (14, .own 14), (76, .sv (ints ((spL base en h.series).map (· * base)))), (77, .sv (int (spL base en h.series).length)), (78, .sv (int v.1))], [(14, .row 5 34 v.2), (3, .box [.sv (int h.window), .sv (int h.limit), .sv (int h.newest), .sv (eSeriesS h.series)]), (6, .box [.sv (int 0), .sv (int 0), .sv (int 0), .sv (.raw (.slice none 0 0))])]⟩) (fun v => Cps w0 v.2 (((spL base en h.series).take v.1).map fun a => eBlock (blkOf base h.series a)) ∧ v.1 ≤ (spL base en h.series).length) (fun v => (spL base en h.series).length - v.1) (0, []) ⟨Cps.nil w0, Nat.zero_le _⟩ (le_sub ⟨rfl, rfl, rfl, rfl, rfl, rfl, rfl, rfl, trivial⟩ ⟨rfl, rfl, rfl, trivial⟩) (fun v J => ?_)
        obtain ⟨k2, rs⟩ := v
        obtain ⟨J, J2⟩ := J
        simp only at J J2
        have hrl : rs.length = k2 := by rw [J.len, List.length_map, List.length_take]; omega
        refine ok_seq fun K34 h34 => ok_region rfl (q_bin _ _ _ rfl rfl rfl (run_nil (h34 _ ?_))); clear h34 K34
        refine ok_seq fun K35 h35 => ?_
        refine ok_cond rfl (fun c36 => ?_) (fun c36 => ?_)
        · refine ok_skip (h35 _ ?_)
          have hk2 : k2 < (spL base en h.series).length := by simpa using c36
          obtain ⟨a, ha⟩ := sget hk2
          obtain ⟨s, hs, x, hx, q1, q2⟩ := spL_mem.1 (smem ha)
          obtain ⟨b1, b2, b3, b4⟩ := span_le hbb (tms s hs x hx)
          rw [← q2] at b1 b2 b3 b4 q1
          have b5 : 0 ≤ a * base := Int.mul_nonneg b1 (by omega)
          have b6 : (a + 1) * base = a * base + base := by rw [Int.add_mul, Int.one_mul]
          have hst : ((spL base en h.series).map (· * base))[k2]? = some (a * base) := by rw [List.getElem?_map, ha]; rfl
          refine ok_seq fun K37 h37 => ?_
          refine ok_block ?_
          refine ok_seq fun K38 h38 => ok_region rfl (q_ia el29 rfl rfl (by omega) (mget (f := int) hst) (q_ld _ ag3 rfl rfl (q_as _ rfl (run_nil (h38 _ ?_))))); clear h38 K38
          refine ok_last fun K39 h39 => ok_region rfl (
            q_mo _ rfl (q_mv (int (a * base)) rfl (q_mv (int (a * base)) rfl (q_mv (int base) rfl (q_add rfl rfl (by omega) (q_fap fd66_3 rfl (by decide) (q_ldb (.sv (eSeriesS h.series)) ag31 rfl rfl rfl (q_mv (int (a * base)) rfl (q_mv (int (a * base)) rfl (q_mv (int base) rfl (
            q_add rfl rfl (by omega) (q_sub rfl rfl (by omega) (q_callr (f69_n h.series hh hvs (a * base) (a * base + base - 1)) cl69 rfl (fun r hr hz hap => ?_))))))))))))))
          obtain ⟨Z, v, rfl⟩ := gd_sl_inv hr
          have eb : blkOf base h.series a = ⟨a * base, a * base + base, 1, selL [] (a * base) (a * base + base - 1) h.series, []⟩ := by unfold blkOf; rw [b6]
          have hg : Gd (.agg [int (a * base), int (a * base + base), int 1, .tr Z (eSeriesS (selL [] (a * base) (a * base + base - 1) h.series)) v, .tr (fun _ => False) (.sl 3 []) (.slice none 0 0)]) (eBlock (blkOf base h.series a)) := by
            rw [eb]
            exact gc_Block ⟨a * base, a * base + base, 1, selL [] (a * base) (a * base + base - 1) h.series, []⟩ fun b _ h => h
          have hfresh := J.snoc hg (fun y hy b hb hb' => by
            simp only [znA_cons, znI_raw, znI_tr, znA_nil, or_false, false_or] at hb'
            exact hap.2 14 5 34 _ y b rfl hy hb (.tr Z _ v hb')) (fun b hb => by
            simp only [znA_cons, znI_raw, znI_tr, znA_nil, or_false, false_or] at hb
            exact hz b (.tr Z _ v hb))
          have e3 : (((spL base en h.series).take k2).map fun a => eBlock (blkOf base h.series a)) ++ [eBlock (blkOf base h.series a)] = ((spL base en h.series).take (k2 + 1)).map fun a => eBlock (blkOf base h.series a) := by
            rw [List.take_add_one, ha, List.map_append]; rfl
          rw [e3] at hfresh
          refine (q_bldz [int (a * base), int (a * base + base), int 1, .tr Z (eSeriesS (selL [] (a * base) (a * base + base - 1) h.series)) v] [.tr (fun _ => False) (.sl 3 []) (.slice none 0 0)] (bz34t _ _ _) ⟨nil_tr 3, trivial⟩ rfl rfl rfl (q_lit1 _ _ el53 ze34 (by decide) (by decide) rfl (.inl ⟨_, rfl⟩) rfl (
            q_app _ el53 ze34 rfl by34 rfl rfl rfl rfl rfl (by simp) (by intro s hs; simp at hs; subst hs; exact .inl ⟨_, rfl⟩) (by show rs.length + 1 ≤ maxLen; unfold maxLen; omega) (by show (rs.length + 1) * 72 ≤ _; omega) (q_ao _ rfl (run_nil (h39 _ (h37 _ ?_)))))))
          refine ok_last fun K40 h40 => ok_region rfl (
            q_add rfl rfl (by omega) (q_mv _ rfl (run_nil (h40 _ (⟨(k2 + 1, _), by simp only; omega, ⟨hfresh, hk2⟩, le_rek 14 97 ⟨rfl, rfl, rfl, rfl, rfl, rfl, rfl, rfl, trivial⟩ ⟨rfl, rfl, rfl, trivial⟩ rfl rfl rfl rfl ⟨rfl, rfl, rfl, trivial⟩⟩)))))
        · have hk2 : (spL base en h.series).length ≤ k2 := by have : ¬ ((k2 : Int) < (spL base en h.series).length) := by simpa using c36
                                                              omega
          rw [List.take_of_length_le hk2] at J
          have ebs : (spL base en h.series).map (fun a => eBlock (blkOf base h.series a)) = (blks base en h.series).map eBlock := by unfold blks; rw [List.map_map]; rfl
          rw [ebs] at J
          refine ok_exit (h32 _ ?_)
          refine ok_seq fun K41 h41 => ok_region rfl (q_fap fd66_3 rfl (by decide) (q_ldb (.sv (eSeriesS h.series)) ag31 rfl rfl rfl (q_mv (int ed) rfl (q_callr (f69_n h.series hh hvs ed 1000000000000) cl69 rfl (fun r hr hz hap => ?_)))))
          obtain ⟨Zh, vh, rfl⟩ := gd_sl_inv hr
          refine (q_fap fd66_3 rfl (by decide) (q_st _ sz31 rfl rfl (Nat.le_of_ble_eq_true rfl) rfl ⟨_, rfl, rfl⟩ rfl (run_nil (h41 _ ?_)))); clear h41 K41
          refine ok_treed2 (k := 14) (n := 5) (T := 34) (rs := rs) (ss := (blks base en h.series).map eBlock) rfl J.len J.gd J.ap (fun r hr b hb => .inl (J.nw r hr b hb)) (fun Z4 v4 hZ4 hd4 => ?_)
          have dh4 : ∀ b, Zh b → ¬ Z4 b := fun b h3 h4 => by
            obtain ⟨r, hr, hb⟩ := hd4 102 _ b rfl (.tr Zh _ vh h3) h4
            exact hap.2 14 5 34 _ r b rfl hr hb (.tr Zh _ vh h3)
          refine ok_seq fun K42 h42 => ok_region rfl (q_ldbs ag66 rfl rfl sz66 rfl rfl (q_mv _ rfl (q_sts _ rfl rfl rfl sz66 (Nat.le_of_ble_eq_true rfl) rfl (q_as _ rfl (run_nil (h42 _ ?_)))))); clear h42 K42
          subst hed
          rw [e]
          refine ok_ret ⟨_, ⟨_, _, res_cells (l := [int h.window, int h.limit, int h.newest, .tr Zh (eSeriesS (selL [] (en / base * base) 1000000000000 h.series)) vh]) rfl rfl ag66 sz66 rfl, ⟨_, _, rfl, rfl, rfl⟩, rfl⟩, ⟨_, _, rfl, gc_Head (hLeft base en h), .tr _ _ _ _, fun b hb hb' => ?_⟩, fun b hb => ?_⟩
          · simp only [znA_cons, znI_raw, znI_tr, znA_nil, or_false, false_or] at hb
            exact dh4 b hb (zn_tr hb')
          · have hb : Zn b (.tup [.agg [int h.window, int h.limit, int h.newest, .tr Zh (eSeriesS (selL [] (en / base * base) 1000000000000 h.series)) vh], .tr Z4 (.sl 5 ((blks base en h.series).map eBlock)) v4]) := hb
            simp only [znT_cons, znT_nil, znA_cons, znI_raw, znI_tr, znA_nil, or_false, false_or] at hb
            rcases hb with hb | hb
            · exact hz b (.tr Zh _ vh hb)
            · exact (hZ4 b hb).elim id fun h => h.elim
end Go.Ring
