/- A cluster that is as it should be: the law FnExactGoodCluster, of its plain values. No condition. -/
import Derived.Test.YtanilephcohjkaaGreatG9
import Derived.Test.YtanilephcohjkaaGreatG5
namespace Go.Ring
open Go Go.RowKit Go.Eager Go.Abs Go.Proofs
set_option maxRecDepth 100000
set_option linter.unusedVariables false
set_option linter.unusedSimpArgs false
/-- Where the first one stands of which p holds, from k on; −1 if there is none. -/
def idxF {α : Type} (p : α → Bool) : List α → Nat → Int
  | [], _ => -1
  | x :: l, k => if p x = true then k else idxF p l (k + 1)
theorem idxF_step {α : Type} (p : α → Bool) {l : List α} {k : Nat} {x : α} (h : l[k]? = some x) : idxF p (l.drop k) k = if p x = true then (k : Int) else idxF p (l.drop (k + 1)) (k + 1) := by
  obtain ⟨hlt, he⟩ := List.getElem?_eq_some_iff.1 h
  rw [List.drop_eq_getElem_cons hlt, he]; rfl
theorem idxF_end {α : Type} (p : α → Bool) {l : List α} {k : Nat} (h : l.length ≤ k) : idxF p (l.drop k) k = -1 := by rw [List.drop_of_length_le h]; rfl
theorem idxF_any {α : Type} (p : α → Bool) : ∀ (l : List α) (k : Nat), decide (idxF p l k ≥ 0) = l.any p
  | [], k => by simp [idxF]
  | x :: l, k => by
    unfold idxF
    rw [List.any_cons]
    cases hp : p x
    · simpa using idxF_any p l (k + 1)
    · simp
def ClusterOk (c : Cluster) : Prop := GoodR c.ring ∧ c.data.length = c.ring.nodes.length ∧ ∀ (i : Nat) (x : List Series), c.data[i]? = some x → SeriesOk x
theorem f131_ok (l : List Series) (hl : l.length ≤ 1048576 ∧ ∀ y ∈ l, SSeries y) : PFn Tryz.prog 131 [eSeriesS l] (bool (!pB (SeriesOk l))) := by
  refine fn_ok' (n := 6) Tryz.func131 rfl rfl rfl (Nat.le_of_ble_eq_true rfl) rfl fun w0 O => ?_
  refine ok_seq fun K1 h1 => ok_region rfl (q_as _ rfl (run_nil (h1 _ ?_))); clear h1 K1
  refine ok_seq fun K2 h2 => ok_region rfl (q_mv _ rfl (q_call (f89_ok l hl) cl89 rfl rfl (q_un _ _ rfl rfl (q_as _ rfl (run_nil (h2 _ ?_)))))); clear h2 K2
  refine ok_ret ⟨_, rfl, ?_⟩
  rfl
theorem f197_ok (l : List (List Series)) (hl : l.length ≤ 1048576 ∧ ∀ y ∈ l, y.length ≤ 1048576 ∧ ∀ z ∈ y, SSeries z) : PFn Tryz.prog 197 [eSeriesSS l, fv 131] (int (idxF (fun x => !pB (SeriesOk x)) l 0)) := by
  have hl1 := hl.1
  refine fn_ok' (n := 19) Tryz.func197 rfl rfl rfl (Nat.le_of_ble_eq_true rfl) rfl fun w0 O => ?_
  refine ok_seq fun K1 h1 => ok_region rfl (q_as _ rfl (run_nil (h1 _ ?_))); clear h1 K1
  refine ok_seq fun K2 h2 => ?_
  refine ok_seq fun K3 h3 => ok_region rfl (q_mv _ rfl (q_len eS32 rfl (q_mv _ rfl (run_nil (h3 _ ?_))))); clear h3 K3
  simp only [List.length_map]
  refine ok_block ?_
  refine ok_loop (fun (k : Nat) => ⟨[(0, .sv (eSeriesSS l)), (1, .sv (fv 131)), (7, .sv (int l.length)), (8, .sv (int k))], []⟩) (fun k => idxF (fun x => !pB (SeriesOk x)) l 0 = idxF (fun x => !pB (SeriesOk x)) (l.drop k) k) (fun k => l.length - k) 0 rfl (le_same ⟨rfl, rfl, rfl, rfl, trivial⟩) (fun k J => ?_)
  refine ok_seq fun K4 h4 => ok_region rfl (q_bin _ _ _ rfl rfl rfl (run_nil (h4 _ ?_))); clear h4 K4
  refine ok_seq fun K5 h5 => ?_
  refine ok_cond rfl (fun c6 => ?_) (fun c6 => ?_)
  · refine ok_skip (h5 _ ?_)
    have hk : k < l.length := by simpa using c6
    obtain ⟨u, hu⟩ := sget hk
    rw [idxF_step _ hu] at J
    refine ok_seq fun K7 h7 => ?_
    refine ok_block ?_
    refine ok_seq fun K8 h8 => ok_region rfl (q_mv _ rfl (q_as _ rfl (run_nil (h8 _ ?_)))); clear h8 K8
    refine ok_seq fun K9 h9 => ok_region rfl (q_mv _ rfl (q_mv _ rfl (q_mv _ rfl (q_ia el32 rfl rfl (by omega) (mget hu) (q_ld _ ag63 rfl rfl (q_callv (f131_ok u (hl.2 u (smem hu))) cl131 rfl rfl rfl (run_nil (h9 _ ?_)))))))); clear h9 K9
    refine ok_cond rfl (fun c10 => ?_) (fun c10 => ?_)
    · refine ok_seq fun K11 h11 => ?_
      refine ok_region rfl (q_mv _ rfl (q_as _ rfl (run_nil (h11 _ ?_))))
      clear h11 K11
      refine ok_ret ⟨_, rfl, ?_⟩
      rw [if_pos c10] at J
      rw [J]; rfl
    · refine ok_skip (h7 _ ?_)
      refine ok_region rfl (q_add rfl rfl (by omega) (q_mv _ rfl (run_nil (⟨k + 1, by omega, by rw [if_neg (by rw [c10]; simp)] at J; exact J, le_same ⟨rfl, rfl, rfl, rfl, trivial⟩⟩))))
  · refine ok_exit (h2 _ ?_)
    refine ok_seq fun K12 h12 => ok_region rfl (q_as _ rfl (run_nil (h12 _ ?_))); clear h12 K12
    refine ok_ret ⟨_, rfl, ?_⟩
    rw [idxF_end _ (by simpa using c6)] at J
    rw [J]; rfl
theorem f130_ok (l : List (List Series)) (hl : l.length ≤ 1048576 ∧ ∀ y ∈ l, y.length ≤ 1048576 ∧ ∀ z ∈ y, SSeries z) : PFn Tryz.prog 130 [eSeriesSS l, fv 131] (bool (l.any fun x => !pB (SeriesOk x))) := by
  refine fn_ok' (n := 9) Tryz.func130 rfl rfl rfl (Nat.le_of_ble_eq_true rfl) rfl fun w0 O => ?_
  refine ok_seq fun K1 h1 => ok_region rfl (q_as _ rfl (run_nil (h1 _ ?_))); clear h1 K1
  refine ok_seq fun K2 h2 => ok_region rfl (q_mv _ rfl (q_mv _ rfl (q_call (f197_ok l hl) cl197 rfl rfl (q_bin _ _ _ rfl rfl rfl (q_as _ rfl (run_nil (h2 _ ?_))))))); clear h2 K2
  refine ok_ret ⟨_, rfl, ?_⟩
  rw [← idxF_any _ l 0]; rfl
theorem f43_ok (c : Cluster) (hc : SCluster c) : PFn Tryz.prog 43 [eCluster c] (bool (pB (ClusterOk c))) := by
  obtain ⟨hc1, hc2, hc3⟩ := hc
  refine fn_ok' (n := 30) Tryz.func43 rfl rfl rfl (Nat.le_of_ble_eq_true rfl) rfl fun w0 O => ?_
  refine ok_seq fun K1 h1 => ok_region rfl (q_boxs _ rfl (Nat.zero_lt_succ _) (q_as _ rfl (run_nil (h1 _ ?_)))); clear h1 K1
  refine ok_seq fun K2 h2 => ?_
  refine ok_seq fun K3 h3 => ?_
  refine ok_region rfl (q_fas fd34_0 rfl (by decide) (Nat.le_of_ble_eq_true rfl) rfl (q_lds _ ag31 rfl sz31 (q_call (f68_ok c.ring hc1) cl68 rfl rfl (q_un _ _ rfl rfl (q_mv _ rfl (q_or 8 8 rfl rfl rfl rfl rfl (fun hb18 =>
      q_fa _ fd34_1 rfl rfl (by decide) (q_ld _ ag32 rfl rfl (q_len eS32 rfl (q_fas fd34_0 rfl (by decide) (Nat.le_of_ble_eq_true rfl) rfl (q_fa _ fd31_1 rfl rfl (by decide) (
      q_ld _ ag29 rfl rfl (q_len eS29 rfl (q_bin _ _ _ rfl rfl rfl (run_nil ⟨rfl, rfl, rfl, rfl⟩))))))))) (
    run_nil (h3 _ ?_))))))))
  clear h3 K3
  simp only [List.length_map]
  refine ok_cond rfl (fun c4 => ?_) (fun c4 => ?_)
  · refine ok_seq fun K5 h5 => ?_
    refine ok_region rfl (q_as _ rfl (run_nil (h5 _ ?_)))
    clear h5 K5
    refine ok_ret ⟨_, rfl, ?_⟩
    rw [pB_false]; · rfl
    rintro ⟨d1, d2, d3⟩
    rw [pB_true d1, d2] at c4
    simp at c4
  · refine ok_skip (h2 _ ?_)
    simp only [Bool.or_eq_false_iff, Bool.not_eq_false', decide_eq_false_iff_not] at c4
    refine ok_seq fun K6 h6 => ?_
    refine ok_seq fun K7 h7 => ok_region rfl (q_fa _ fd34_1 rfl rfl (by decide) (q_ld _ ag32 rfl rfl (q_len eS32 rfl (q_mv _ rfl (run_nil (h7 _ ?_)))))); clear h7 K7
    simp only [List.length_map]
    refine ok_block ?_
    refine ok_loop (fun (k : Nat) => ⟨[(20, .sv (eSeriesSS c.data)), (21, .sv (int c.data.length)), (22, .sv (int k))], []⟩) (fun k => ∀ i y, i < k → c.data[i]? = some y → SeriesOk y) (fun k => c.data.length - k) 0 (fun i y h => by omega) (le_same ⟨rfl, rfl, rfl, trivial⟩) (fun k J => ?_)
    refine ok_seq fun K8 h8 => ok_region rfl (q_bin _ _ _ rfl rfl rfl (run_nil (h8 _ ?_))); clear h8 K8
    refine ok_seq fun K9 h9 => ?_
    refine ok_cond rfl (fun c10 => ?_) (fun c10 => ?_)
    · refine ok_skip (h9 _ ?_)
      have hk : k < c.data.length := by simpa using c10
      obtain ⟨u, hu⟩ := sget hk
      refine ok_seq fun K11 h11 => ?_
      refine ok_block ?_
      refine ok_seq fun K12 h12 => ok_region rfl (q_ia el32 rfl rfl (by omega) (mget hu) (q_ld _ ag63 rfl rfl (q_as _ rfl (run_nil (h12 _ ?_))))); clear h12 K12
      refine ok_seq fun K13 h13 => ok_region rfl (q_mv _ rfl (q_call (f96_ok u (hc3 u (smem hu))) cl96 rfl rfl (q_un _ _ rfl rfl (run_nil (h13 _ ?_))))); clear h13 K13
      refine ok_cond rfl (fun c14 => ?_) (fun c14 => ?_)
      · refine ok_seq fun K15 h15 => ?_
        refine ok_region rfl (q_as _ rfl (run_nil (h15 _ ?_)))
        clear h15 K15
        refine ok_ret ⟨_, rfl, ?_⟩
        rw [pB_false]; · rfl
        rintro ⟨_, _, d3⟩
        rw [pB_true (d3 k u hu)] at c14
        simp at c14
      · refine ok_skip (h11 _ ?_)
        refine ok_region rfl (q_add rfl rfl (by omega) (q_mv _ rfl (run_nil (⟨k + 1, by omega, ?_, le_same ⟨rfl, rfl, rfl, trivial⟩⟩))))
        exact at_step (P := fun _ y => SeriesOk y) J hu (of_pB (by simpa using c14))
    · refine ok_exit (h6 _ ?_)
      refine ok_seq fun K16 h16 => ok_region rfl (q_as _ rfl (run_nil (h16 _ ?_))); clear h16 K16
      refine ok_ret ⟨_, rfl, ?_⟩
      rw [pB_true ⟨of_pB c4.1, by omega, at_all (P := fun _ y => SeriesOk y) J (by simpa using c10)⟩]; rfl
theorem f56_ok (c : Cluster) (hc : SCluster c) : PFn Tryz.prog 56 [eCluster c] (bool (pB (ClusterOk c))) := by
  obtain ⟨hc1, hc2, hc3⟩ := hc
  refine fn_ok' (n := 22) Tryz.func56 rfl rfl rfl (Nat.le_of_ble_eq_true rfl) rfl fun w0 O => ?_
  refine ok_seq fun K1 h1 => ok_region rfl (q_boxs _ rfl (Nat.zero_lt_succ _) (q_as _ rfl (run_nil (h1 _ ?_)))); clear h1 K1
  refine ok_seq fun K2 h2 => ?_
  refine ok_region rfl (q_fas fd34_0 rfl (by decide) (Nat.le_of_ble_eq_true rfl) rfl (q_lds _ ag31 rfl sz31 (q_call (f129_ok c.ring hc1) cl129 rfl rfl (q_mv _ rfl (q_and 8 8 rfl rfl rfl rfl rfl (fun hb15 =>
      q_fa _ fd34_1 rfl rfl (by decide) (q_ld _ ag32 rfl rfl (q_len eS32 rfl (q_fas fd34_0 rfl (by decide) (Nat.le_of_ble_eq_true rfl) rfl (q_fa _ fd31_1 rfl rfl (by decide) (
      q_ld _ ag29 rfl rfl (q_len eS29 rfl (q_bin _ _ _ rfl rfl rfl (run_nil ⟨rfl, rfl, rfl, rfl⟩))))))))) (
    q_mv _ rfl (q_and 4 4 rfl rfl rfl rfl rfl (fun hb21 =>
      q_fa _ fd34_1 rfl rfl (by decide) (q_ld _ ag32 rfl rfl (q_call (f130_ok c.data ⟨hc2, hc3⟩) cl130 rfl rfl (q_un _ _ rfl rfl (run_nil ⟨rfl, rfl, rfl, rfl⟩))))) (
    q_as _ rfl (run_nil (h2 _ ?_))))))))))
  clear h2 K2
  refine ok_ret ⟨_, rfl, ?_⟩
  simp only [tupSV, List.length_map]
  rw [show ((pB (GoodR c.ring) && decide ((c.data.length : Int) = c.ring.nodes.length)) && !(c.data.any fun x => !pB (SeriesOk x))) = pB (ClusterOk c) by
    rw [Bool.eq_iff_iff]
    simp only [Bool.and_eq_true, decide_eq_true_eq, Bool.not_eq_true', List.any_eq_false, Bool.not_eq_true, Bool.not_eq_false']
    constructor
    · rintro ⟨⟨d1, d2⟩, d3⟩
      exact pB_true ⟨of_pB d1, by omega, fun i x hx => of_pB (by simpa using d3 x (smem hx))⟩
    · intro h
      obtain ⟨d1, d2, d3⟩ := of_pB h
      refine ⟨⟨pB_true d1, by omega⟩, fun x hx => ?_⟩
      obtain ⟨i, hi⟩ := List.getElem?_of_mem hx
      simp [pB_true (d3 i x hi)]]
end Go.Ring
