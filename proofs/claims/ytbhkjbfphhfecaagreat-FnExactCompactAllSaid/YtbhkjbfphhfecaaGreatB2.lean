/- What stands of a block's series, what is chosen of series: the program and the reference. No condition beyond the lengths. -/
import Derived.Test.YtbhkjbfphhfecaaGreatB1
set_option maxRecDepth 100000
set_option linter.unusedVariables false
set_option linter.unusedSimpArgs false
namespace Go.Ring
open Go Go.RowKit Go.Eager Go.Abs Go.Proofs
/-- A stone lies upon a sample of these labels. -/
def stIn (ls : List Label) (x : Sample) (t : Stone) : Bool := (decide (t.from_ ≤ x.time) && decide (x.time ≤ t.to)) && decide (cmpLs t.labels ls = 0)
theorem f135_ok (t : Stone) (x : Sample) (s : Series) (ht : SStone t) (hs : SSeries s) : PFn Tryz.prog 135 ([eStone t] ++ [.ptr (eSample x), .ptr (eSeries s)]) (bool (stIn s.labels x t)) := by
  refine fn_ok' (n := 25) Tryz.func135 rfl rfl rfl (Nat.le_of_ble_eq_true rfl) rfl fun w0 O => ?_
  refine ok_seq fun K1 h1 => ok_region rfl (q_boxs _ rfl (Nat.zero_lt_succ _) (q_as _ rfl (run_nil (h1 _ ?_)))); clear h1 K1
  refine ok_seq fun K2 h2 => ?_
  refine ok_region rfl (q_fa _ fd128_0 rfl rfl (by decide) (q_ld _ ag3 rfl rfl (q_fa _ fd103_1 rfl rfl (by decide) (q_ld _ ag3 rfl rfl (q_bin _ _ _ rfl rfl rfl (q_mv _ rfl (q_and 5 5 rfl rfl rfl rfl rfl (fun hb16 =>
      q_fa _ fd128_0 rfl rfl (by decide) (q_ld _ ag3 rfl rfl (q_fa _ fd103_2 rfl rfl (by decide) (q_ld _ ag3 rfl rfl (q_bin _ _ _ rfl rfl rfl (run_nil ⟨rfl, rfl, rfl, rfl⟩)))))) (
    q_mv _ rfl (q_and 6 6 rfl rfl rfl rfl rfl (fun hb24 =>
      q_fa _ fd103_0 rfl rfl (by decide) (q_ld _ ag80 rfl rfl (q_fa _ fd83_0 rfl rfl (by decide) (q_ld _ ag80 rfl rfl (q_call (f82_ok t.labels s.labels ht hs.1) cl82 rfl rfl (q_bin _ _ _ rfl rfl rfl (run_nil ⟨rfl, rfl, rfl, rfl⟩))))))) (
    q_as _ rfl (run_nil (h2 _ ?_))))))))))))
  clear h2 K2
  exact ok_ret ⟨_, rfl, rfl⟩
theorem f188_ok (l : List Stone) (hl : l.length ≤ 1048576) (p : Stone → Bool) (g : Nat) (cs : List SV) (hg : Calb Tryz.prog g) (hp : ∀ u ∈ l, PFn Tryz.prog g ([eStone u] ++ cs) (bool (p u))) : PFn Tryz.prog 188 [eStoneS l, .clo g cs] (int (fstI p l 0)) := by
  refine fn_ok' (n := 19) Tryz.func188 rfl rfl rfl (Nat.le_of_ble_eq_true rfl) rfl fun w0 O => ?_
  refine ok_seq fun K1 h1 => ok_region rfl (q_as _ rfl (run_nil (h1 _ ?_))); clear h1 K1
  refine ok_seq fun K2 h2 => ?_
  refine ok_seq fun K3 h3 => ok_region rfl (q_mv _ rfl (q_len eS32 rfl (q_mv _ rfl (run_nil (h3 _ ?_))))); clear h3 K3
  refine ok_block ?_
  refine ok_loop (fun (k : Nat) => ⟨[(0, .sv (eStoneS l)), (1, .sv (.clo g cs)), (7, .sv (int l.length)), (8, .sv (int k))], []⟩) (fun k => k ≤ l.length ∧ fstI p l 0 = fstI p (l.drop k) k) (fun k => l.length - k) 0 ⟨by simp, rfl⟩ (le_same ⟨rfl, rfl, by simp; rfl, rfl, trivial⟩) (fun k J => ?_)
  refine ok_seq fun K4 h4 => ok_region rfl (q_bin _ _ _ rfl rfl rfl (run_nil (h4 _ ?_))); clear h4 K4
  refine ok_seq fun K5 h5 => ?_
  refine ok_cond rfl (fun c6 => ?_) (fun c6 => ?_)
  · refine ok_skip (h5 _ ?_)
    have hk : k < l.length := by simpa using c6
    obtain ⟨u, hu⟩ := sget hk
    have hj := J.2
    rw [drop_cons hu] at hj
    simp only [fstI] at hj
    refine ok_seq fun K7 h7 => ?_
    refine ok_block ?_
    refine ok_seq fun K8 h8 => ok_region rfl (q_mv _ rfl (q_as _ rfl (run_nil (h8 _ ?_)))); clear h8 K8
    refine ok_seq fun K9 h9 => ok_region rfl (q_mv _ rfl (q_mv _ rfl (q_mv _ rfl (q_ia el32 rfl rfl (by omega) (mget (f := eStone) hu) (q_lds _ ag103 rfl sz103 (q_callcp (hp u (smem hu)) hg rfl ⟨.inl rfl, trivial⟩ (run_nil (h9 _ ?_)))))))); clear h9 K9
    refine ok_cond rfl (fun c10 => ?_) (fun c10 => ?_)
    · refine ok_seq fun K11 h11 => ?_
      refine ok_region rfl (q_mv _ rfl (q_as _ rfl (run_nil (h11 _ ?_))))
      clear h11 K11
      refine ok_ret ⟨_, rfl, ?_⟩
      rw [hj, if_pos c10]; rfl
    · refine ok_skip (h7 _ ?_)
      refine ok_last fun K12 h12 => ok_region rfl (
        q_add rfl rfl (by omega) (q_mv _ rfl (run_nil (h12 _ ⟨k + 1, by omega, ⟨hk, by rw [hj, if_neg (by rw [c10]; simp)]⟩, le_same ⟨rfl, rfl, rfl, rfl, trivial⟩⟩))))
  · refine ok_exit (h2 _ ?_)
    have hk : k = l.length := by have : ¬ k < l.length := by simpa using c6
                                 omega
    refine ok_seq fun K13 h13 => ok_region rfl (q_as _ rfl (run_nil (h13 _ ?_))); clear h13 K13
    refine ok_ret ⟨_, rfl, ?_⟩
    have := J.2
    rw [hk, List.drop_length] at this
    rw [this]; rfl
theorem f134_ok (l : List Stone) (hl : l.length ≤ 1048576) (p : Stone → Bool) (g : Nat) (cs : List SV) (hg : Calb Tryz.prog g) (hp : ∀ u ∈ l, PFn Tryz.prog g ([eStone u] ++ cs) (bool (p u))) : PFn Tryz.prog 134 [eStoneS l, .clo g cs] (bool (l.any p)) := by
  refine fn_ok' (n := 9) Tryz.func134 rfl rfl rfl (Nat.le_of_ble_eq_true rfl) rfl fun w0 O => ?_
  refine ok_seq fun K1 h1 => ok_region rfl (q_as _ rfl (run_nil (h1 _ ?_))); clear h1 K1
  refine ok_seq fun K2 h2 => ok_region rfl (q_mv _ rfl (q_mv _ rfl (q_call (f188_ok l hl p g cs hg hp) cl188 rfl rfl (q_bin _ _ _ rfl rfl rfl (q_as _ rfl (run_nil (h2 _ ?_))))))); clear h2 K2
  refine ok_ret ⟨_, rfl, ?_⟩
  rw [← fstI_any]; rfl
theorem f133_ok (x : Sample) (b : Block) (s : Series) (hb : SBlock b) (hs : SSeries s) : PFn Tryz.prog 133 ([eSample x] ++ [.ptr (eBlock b), .ptr (eSeries s)]) (bool (!b.stones.any (stIn s.labels x))) := by
  refine fn_ok' (n := 10) Tryz.func133 rfl rfl rfl (Nat.le_of_ble_eq_true rfl) rfl fun w0 O => ?_
  refine ok_seq fun K1 h1 => ok_region rfl (q_boxs _ rfl (Nat.zero_lt_succ _) (q_as _ rfl (run_nil (h1 _ ?_)))); clear h1 K1
  refine ok_seq fun K2 h2 => ok_region rfl (q_fa _ fd34_4 rfl rfl (by decide) (q_ld _ ag32 rfl rfl (q_mkf (ss := [.ptr (eSample x), .ptr (eSeries s)]) rfl (q_call (f134_ok b.stones hb.2.1 (stIn s.labels x) 135 _ cl135 fun t ht => f135_ok t x s (hb.2.2 t ht) hs) cl134 rfl rfl (q_un _ _ rfl rfl (q_as _ rfl (run_nil (h2 _ ?_)))))))); clear h2 K2
  exact ok_ret ⟨_, rfl, rfl⟩
/-- A series' samples upon which no stone lies. -/
def stand1 (b : Block) (s : Series) : List Sample := s.samples.filter fun x => !b.stones.any (stIn s.labels x)
def stG (b : Block) (s : Series) : Option Series := if 0 < (stand1 b s).length then some ⟨s.labels, stand1 b s⟩ else none
def standL (b : Block) : List Series := b.series.filterMap (stG b)
theorem fm_step {α β : Type} (g : α → Option β) {l : List α} {k : Nat} {x : α} (h : l[k]? = some x) : (l.drop k).filterMap g = (g x).toList ++ (l.drop (k + 1)).filterMap g := by
  rw [drop_cons h, List.filterMap_cons]
  cases g x <;> rfl
theorem fm_len {α β : Type} (g : α → Option β) (l : List α) : (l.filterMap g).length ≤ l.length := List.length_filterMap_le _ _
theorem stand1_len (b : Block) (s : Series) : (stand1 b s).length ≤ s.samples.length := List.length_filter_le _ _
theorem bl83P {a c : List SV} : BL Tryz.prog 83 [.sl 2 a, .sl 2 c] := by
  intro vs hv
  match vs, hv with
  | [w0, w1], hv =>
    obtain ⟨⟨p0, n0, c0, e0⟩, ⟨p1, n1, c1, e1⟩, -⟩ := hv
    rw [e0, e1]
    exact built83 p0 n0 c0 p1 n1 c1
theorem f70_ok (b : Block) (hb : SBlock b) : PFn Tryz.prog 70 [eBlock b] (eSeriesS (standL b)) := by
  have hsl := hb.1.1
  refine fn_ok' (n := 31) Tryz.func70 rfl rfl rfl (Nat.le_of_ble_eq_true rfl) rfl fun w0 O => ?_
  refine ok_seq fun K1 h1 => ok_region rfl (q_boxs _ rfl (Nat.zero_lt_succ _) (q_as _ rfl (run_nil (h1 _ ?_)))); clear h1 K1
  refine ok_seq fun K2 h2 => ok_region rfl (q_an (n := 2) 83 (by decide) rfl rfl rfl (run_nil (h2 _ ?_))); clear h2 K2
  refine ok_seq fun K3 h3 => ?_
  refine ok_seq fun K4 h4 => ok_region rfl (q_fa _ fd34_3 rfl rfl (by decide) (q_ld _ ag31 rfl rfl (q_len eS31 rfl (q_mv _ rfl (run_nil (h4 _ ?_)))))); clear h4 K4
  rw [List.length_map]
  refine ok_block ?_
  refine ok_loop (fun (v : Nat × List Series) => ⟨[(1, .sv (.ptr (eBlock b))), (3, .own 3), (8, .sv (eSeriesS b.series)), (9, .sv (int b.series.length)), (10, .sv (int v.1))], [(3, .row 2 83 (v.2.map eSeries))]⟩) (fun v => v.2 ++ (b.series.drop v.1).filterMap (stG b) = standL b ∧ v.2.length ≤ v.1) (fun v => b.series.length - v.1) (0, []) ⟨rfl, Nat.le_refl _⟩ (le_sub ⟨rfl, rfl, rfl, rfl, rfl, trivial⟩ ⟨rfl, trivial⟩) (fun v J => ?_)
  obtain ⟨k, q⟩ := v
  obtain ⟨j1, j2⟩ := J
  simp only at j1 j2
  refine ok_seq fun K5 h5 => ok_region rfl (q_bin _ _ _ rfl rfl rfl (run_nil (h5 _ ?_))); clear h5 K5
  refine ok_seq fun K6 h6 => ?_
  refine ok_cond rfl (fun c7 => ?_) (fun c7 => ?_)
  · refine ok_skip (h6 _ ?_)
    have hk : k < b.series.length := by simpa using c7
    obtain ⟨u, hu⟩ := sget hk
    have nu := hb.1.2 u (smem hu)
    rw [fm_step (stG b) hu] at j1
    refine ok_seq_join (fun (q' : List Series) => ⟨[(1, .sv (.ptr (eBlock b))), (3, .own 3), (8, .sv (eSeriesS b.series)), (9, .sv (int b.series.length)), (10, .sv (int k))], [(3, .row 2 83 (q'.map eSeries))]⟩) (fun q' => q' ++ (b.series.drop (k + 1)).filterMap (stG b) = standL b ∧ q'.length ≤ k + 1) ?_ (fun q' J => ?_)
    · refine ok_block ?_
      refine ok_seqL fun K8 h8 => ok_region rfl (q_ia el31 rfl rfl (by omega) (mget (f := eSeries) hu) (q_lds _ ag83 rfl sz83 (q_alloc _ ze83 rfl rfl rfl rfl (q_sts _ rfl rfl rfl sz83 (Nat.le_of_ble_eq_true rfl) rfl (run_nil (h8 _ _ (le_fb 5 [eLabelS u.labels, eSampleS u.samples] rfl rfl (by simp)) ?_)))))); clear h8 K8
      refine ok_seq fun K9 h9 => ok_region rfl (q_fa _ fd83_1 rfl rfl (by decide) (q_ld _ ag81 rfl rfl (q_mkf (ss := [.ptr (eBlock b), .ptr (eSeries u)]) rfl (q_call (f132_ok u.samples nu.2 _ 133 _ cl133 fun x _ => f133_ok x b u hb nu) cl132 rfl rfl (q_as _ rfl (run_nil (h9 _ ?_))))))); clear h9 K9
      refine ok_seq fun K10 h10 => ok_region rfl (q_mv (eSampleS (stand1 b u)) rfl (q_len eS81 rfl (q_bin _ _ _ rfl rfl rfl (run_nil (h10 _ ?_))))); clear h10 K10
      rw [List.length_map]
      refine ok_cond rfl (fun c11 => ?_) (fun c11 => ?_)
      · have hg : stG b u = some ⟨u.labels, stand1 b u⟩ := by unfold stG; rw [if_pos (by simpa using c11)]
        rw [hg] at j1
        refine ok_last fun K12 h12 => ok_region rfl (
          q_mo _ rfl (q_fa _ fd83_0 rfl rfl (by decide) (q_ld _ ag80 rfl rfl (q_call (PFnR.toP (f78_t u.labels nu.1.1)) cl78 rfl rfl (q_mv (eSampleS (stand1 b u)) rfl (q_bld [eLabelS u.labels, eSampleS (stand1 b u)] bl83P rfl rfl rfl (q_lit1 (n := 2) _ (eSeries ⟨u.labels, stand1 b u⟩) el31 ze83 (by decide) (by decide) rfl (.inl ⟨_, rfl⟩) rfl (
          q_app (q := [eSeries ⟨u.labels, stand1 b u⟩]) _ el31 ze83 rfl by83 rfl rfl rfl rfl rfl (by simp) (by intro s hs; simp at hs; subst hs; exact .inl ⟨_, rfl⟩) (by rw [List.length_map]; show q.length + 1 ≤ maxLen; unfold maxLen; omega) (by rw [List.length_map]; show (q.length + 1) * 48 ≤ _; omega) (q_ao _ rfl (run_nil (h12 _ ⟨q ++ [⟨u.labels, stand1 b u⟩], ⟨by rw [List.append_assoc]; exact j1, by rw [List.length_append]; simp; omega⟩, by rw [List.map_append]; exact le_rek 3 28 ⟨rfl, rfl, rfl, rfl, rfl, trivial⟩ ⟨rfl, trivial⟩ rfl rfl rfl rfl ⟨rfl, trivial⟩⟩)))))))))))
      · have hg : stG b u = none := by unfold stG; rw [if_neg (by simpa using c11)]
        rw [hg] at j1
        exact ok_skip ⟨q, ⟨j1, by omega⟩, le_sub ⟨rfl, rfl, rfl, rfl, rfl, trivial⟩ ⟨rfl, trivial⟩⟩
    · refine ok_last fun K13 h13 => ok_region rfl (
        q_add rfl rfl (by omega) (q_mv _ rfl (run_nil (h13 _ ⟨(k + 1, q'), by simp only; omega, J, le_sub ⟨rfl, rfl, rfl, rfl, rfl, trivial⟩ ⟨rfl, trivial⟩⟩))))
  · refine ok_exit (h3 _ ?_)
    rw [List.drop_of_length_le (by have : ¬ ((k : Int) < b.series.length) := by simpa using c7
                                   omega)] at j1
    refine ok_seq fun K14 h14 => ok_region rfl (q_mo _ rfl (q_ao _ rfl (run_nil (h14 _ ?_)))); clear h14 K14
    refine ok_ret ⟨_, rfl, ?_⟩
    rw [← j1]; simp; rfl
end Go.Ring
