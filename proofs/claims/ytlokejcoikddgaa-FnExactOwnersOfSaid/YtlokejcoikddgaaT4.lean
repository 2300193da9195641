/- The owners of a place, by name: what is held, what is alike. No condition. -/
import Derived.Test.YtlokejcoikddgaaT3
import Derived.Test.YtlokejcoikddgaaG17
import Derived.Shelf.SlSortCmp.NoneTotal
namespace Go.Ring
open Go Go.RowKit Go.Eager Go.Abs Go.Proofs
set_option maxRecDepth 100000
set_option linter.unusedVariables false
set_option linter.unusedSimpArgs false
theorem marks_get {k n i : Nat} (h : i < n) : (marksT k n)[i]? = some (markT (k + i)) := by unfold marksT; rw [List.getElem?_map, List.getElem?_range h]; rfl
theorem marks_len (k n : Nat) : (marksT k n).length = n := by simp [marksT]
theorem f27_ok (k n : Nat) (h0 : 1 ≤ k) (hk : k ≤ 576460752303423488) (hn : n ≤ 1048576) : PFn Try.prog 27 [strs (marksT k n), int k] (int ((k + n : Nat) : Int)) := by
  refine fn_ok' (n := 22) Try.func27 rfl rfl rfl (Nat.le_of_ble_eq_true rfl) rfl fun w0 O => ?_
  refine ok_seq fun K1 h1 => ok_region rfl (q_as _ rfl (run_nil (h1 _ ?_))); clear h1 K1
  refine ok_seq fun K2 h2 => ?_
  refine ok_seq fun K3 h3 => ok_region rfl (q_as _ rfl (run_nil (h3 _ ?_))); clear h3 K3
  refine ok_block ?_
  refine ok_loop (fun (i : Nat) => ⟨[(0, .sv (strs (marksT k n))), (1, .sv (int ((k + i : Nat) : Int))), (5, .sv (int i))], []⟩) (fun i => i ≤ n) (fun i => n - i) 0 (Nat.zero_le _) (le_same ⟨rfl, rfl, rfl, trivial⟩) (fun i J => ?_)
  refine ok_seq fun K4 h4 => ?_
  refine ok_seq fun K5 h5 => ok_region rfl (q_mv _ rfl (q_mv _ rfl (q_len eS50 rfl (q_bin _ _ _ rfl rfl rfl (run_nil (h5 _ ?_)))))); clear h5 K5
  rw [List.length_map, marks_len]
  refine ok_cond rfl (fun c6 => ?_) (fun c6 => ?_)
  · have hi : i < n := by simpa using c6
    refine ok_skip (h4 _ ?_)
    refine ok_seq fun K7 h7 => ?_
    refine ok_block ?_
    refine ok_seq fun K8 h8 => ?_
    refine ok_seq fun K9 h9 => ?_
    refine ok_region_i (by kernel_rfl) (by kernel_rfl) rfl (
      q_mv _ rfl (q_mv _ rfl (q_ia (s := str (markT (k + i))) el50 rfl rfl (by omega) (mget (f := str) (marks_get hi)) (q_ld _ ag9 rfl rfl (q_mv _ rfl (q_call (f60_ok (k + i) (by omega) (by omega)) cl60 rfl rfl (q_bin _ _ _ rfl rfl rfl (run_nil (h9 _ ?_)))))))))
    clear h9 K9
    refine ok_cond rfl (fun c10 => ?_) (fun c10 => ?_)
    · simp at c10
    · refine ok_skip (h8 _ ?_)
      refine ok_last fun K12 h12 => ok_region rfl (
        q_mv _ rfl (q_add rfl rfl (by omega) (q_as _ rfl (run_nil (h12 _ (h7 _ ?_))))))
      refine ok_last fun K13 h13 => ok_region rfl (
        q_mv _ rfl (q_add rfl rfl (by omega) (q_as _ rfl (run_nil (h13 _ (⟨i + 1, by omega, hi, ?_⟩))))))
      rw [show (((k + i : Nat) : Int) + 1) = ((k + (i + 1) : Nat) : Int) by omega]
      exact le_same ⟨rfl, rfl, rfl, trivial⟩
  · have hi : i = n := by have : ¬ ((i : Int) < n) := by simpa using c6
                          omega
    subst hi
    refine ok_exit (h2 _ ?_)
    refine ok_seq fun K14 h14 => ok_region rfl (q_mv _ rfl (q_as _ rfl (run_nil (h14 _ ?_)))); clear h14 K14
    exact ok_ret ⟨_, rfl, rfl⟩
theorem f24_ok (l : List ByteArray) (hl : l.length ≤ 1048576) : PFn Try.prog 24 [strs l, strs l] (bool true) := by
  refine fn_ok' (n := 26) Try.func24 rfl rfl rfl (Nat.le_of_ble_eq_true rfl) rfl fun w0 O => ?_
  refine ok_seq fun K1 h1 => ok_region rfl (q_as _ rfl (run_nil (h1 _ ?_))); clear h1 K1
  refine ok_seq fun K2 h2 => ?_
  refine ok_seq fun K3 h3 => ok_region rfl (q_mv _ rfl (q_len eS50 rfl (q_mv _ rfl (q_len eS50 rfl (q_bin _ _ _ rfl rfl rfl (run_nil (h3 _ ?_))))))); clear h3 K3
  refine ok_cond rfl (fun c4 => ?_) (fun c4 => ?_)
  · simp at c4
  · refine ok_skip (h2 _ ?_)
    refine ok_seq fun K6 h6 => ?_
    refine ok_seq fun K7 h7 => ok_region rfl (q_as _ rfl (run_nil (h7 _ ?_))); clear h7 K7
    refine ok_block ?_
    refine ok_loop (fun (k : Nat) => ⟨[(0, .sv (strs l)), (1, .sv (strs l)), (5, .sv (int k))], []⟩) (fun k => True) (fun k => l.length - k) 0 trivial (le_same ⟨rfl, rfl, rfl, trivial⟩) (fun k J => ?_)
    refine ok_seq fun K8 h8 => ?_
    refine ok_seq fun K9 h9 => ok_region rfl (q_mv _ rfl (q_mv _ rfl (q_len eS50 rfl (q_bin _ _ _ rfl rfl rfl (run_nil (h9 _ ?_)))))); clear h9 K9
    rw [List.length_map]
    refine ok_cond rfl (fun c10 => ?_) (fun c10 => ?_)
    · have hk : k < l.length := by simpa using c10
      obtain ⟨u, hu⟩ := sget hk
      refine ok_skip (h8 _ ?_)
      refine ok_seq fun K11 h11 => ?_
      refine ok_block ?_
      refine ok_seq fun K12 h12 => ?_
      refine ok_region_i (by kernel_rfl) (by kernel_rfl) rfl (
        q_mv _ rfl (q_mv _ rfl (q_ia (s := str u) el50 rfl rfl (by omega) (mget (f := str) hu) (q_ld _ ag9 rfl rfl (q_mv _ rfl (q_mv _ rfl (q_ia (s := str u) el50 rfl rfl (by omega) (mget (f := str) hu) (q_ld _ ag9 rfl rfl (q_bin _ _ _ rfl rfl rfl (run_nil (h12 _ ?_)))))))))))
      clear h12 K12
      refine ok_cond rfl (fun c13 => ?_) (fun c13 => ?_)
      · simp at c13
      · refine ok_skip (h11 _ ?_)
        refine ok_last fun K15 h15 => ok_region rfl (
          q_mv _ rfl (q_add rfl rfl (by omega) (q_as _ rfl (run_nil (h15 _ (⟨k + 1, by omega, trivial, le_same ⟨rfl, rfl, rfl, trivial⟩⟩))))))
    · refine ok_exit (h6 _ ?_)
      refine ok_seq fun K16 h16 => ok_region rfl (q_as _ rfl (run_nil (h16 _ ?_))); clear h16 K16
      exact ok_ret ⟨_, rfl, rfl⟩
theorem f106_z (p : Option Addr) (cap : Nat) (w : World) : Calls Try.prog 106 #[.slice p 0 cap, .func (.func 107) #[] #[]] w fun e w' => e = .returned (.tuple #[]) ∧ w' = w := AnyF.slices_SortFunc_none Try.laysSortF p cap (.func (.func 107) #[] #[]) w
theorem f55_z (r : Ring) (h0 : r.nodes = []) : PFn Try.prog 55 [eRing r] (.sl 2 []) := by
  refine fnr_ok (n := 34) Try.func55 rfl rfl rfl (Nat.le_of_ble_eq_true rfl) rfl fun w0 O => ?_
  refine ok_seq fun K1 h1 => ok_region rfl (q_boxs _ rfl (Nat.zero_lt_succ _) (q_as _ rfl (run_nil (h1 _ ?_)))); clear h1 K1
  refine ok_seq fun K2 h2 => ok_region rfl (q_an (n := 2) 85 (by decide) rfl rfl rfl (run_nil (h2 _ ?_))); clear h2 K2
  refine ok_seq fun K3 h3 => ?_
  refine ok_seq fun K4 h4 => ok_region rfl (q_fa _ fd46_1 rfl rfl (by decide) (q_ld _ ag44 rfl rfl (q_len eS44 rfl (q_mv _ rfl (run_nil (h4 _ ?_)))))); clear h4 K4
  rw [List.length_map, h0]
  refine ok_block ?_
  refine ok_loop (fun (_ : Nat) => ⟨[(3, .own 3), (10, .sv (int 0)), (11, .sv (int 0))], [(3, .row 2 85 [])]⟩) (fun k => True) (fun k => 0) 0 trivial (le_sub ⟨rfl, rfl, rfl, trivial⟩ ⟨rfl, trivial⟩) (fun _ J => ?_)
  refine ok_seq fun K5 h5 => ok_region rfl (q_bin _ _ _ rfl rfl rfl (run_nil (h5 _ ?_))); clear h5 K5
  refine ok_seq fun K6 h6 => ?_
  refine ok_cond rfl (fun c7 => ?_) (fun c7 => ?_)
  · simp at c7
  · refine ok_exit (h3 _ ?_)
    refine ok_seq fun K19 h19 => ok_region rfl (q_mo _ rfl (q_sort0 f106_z cl106 rfl rfl (run_nil (h19 _ ?_)))); clear h19 K19
    refine ok_seq fun K20 h20 => ok_region rfl (q_mo _ rfl (q_ao _ rfl (run_nil (h20 _ ?_)))); clear h20 K20
    exact ok_ret ⟨_, ⟨_, _, rfl, rfl, rfl⟩, rfl⟩
theorem f55_all (r : Ring) (hr : SRing r) (hg : GoodR r) : PFn Try.prog 55 [eRing r] (.sl 2 (rowT (sortT (tks r)))) := by
  rcases Nat.eq_zero_or_pos r.nodes.length with h | h
  · have h0 : r.nodes = [] := List.eq_nil_of_length_eq_zero h
    have e : rowT (sortT (tks r)) = [] := by
      have h1 : tks r = [] := by unfold tks; rw [h0]; rfl
      have h2 : sortT (tks r) = [] := by have := (sortT_perm (tks r)).length_eq; rw [h1] at this ⊢; exact List.eq_nil_of_length_eq_zero this
      rw [h2]; rfl
    rw [e]; exact f55_z r h0
  · exact f55_ok r hr hg h
def idOf (r : Ring) (i : Nat) : ByteArray := ((r.nodes[i]?).map (·.id)).getD ⟨#[]⟩
def inR (p : Int) : Prop := 0 ≤ p ∧ p < 2147483648
noncomputable def resIds (r : Ring) (p : Int) : List ByteArray := if pB (GoodR r ∧ inR p) = true then (ownL r p).map (idOf r) else []
theorem res_len (r : Ring) (p : Int) : (resIds r p).length ≤ 320 := by
  unfold resIds
  split
  · rename_i h
    rw [List.length_map]; exact own_len (of_pB h).1 p
  · simp
theorem ids_snoc {r : Ring} {l : List Nat} {k i : Nat} {n : RingNode} (h : l[k]? = some i) (hn : r.nodes[i]? = some n) : ((l.take (k + 1)).map (idOf r)).map str = ((l.take k).map (idOf r)).map str ++ [str n.id] := by
  have e : idOf r i = n.id := by unfold idOf; rw [hn]; rfl
  rw [List.take_add_one, h, Option.toList_some, List.map_append, List.map_append]
  simp [e]
theorem cond_in {g : Prop} {p : Int} (h : ((!pB g || decide (p < 0)) || decide (2147483648 ≤ p)) = true) : ¬ (g ∧ inR p) := by
  rintro ⟨h1, h2, h3⟩
  rw [pB_true h1] at h
  simp at h
  omega
theorem cond_out {g : Prop} {p : Int} (h : ((!pB g || decide (p < 0)) || decide (2147483648 ≤ p)) = false) : g ∧ inR p := by
  simp only [Bool.or_eq_false_iff, Bool.not_eq_false', decide_eq_false_iff_not] at h
  exact ⟨of_pB h.1.1, by have := h.1.2; omega, by have := h.2; omega⟩

theorem f22_t (r : Ring) (hr : SRing r) (p : Int) : PFnT Try.prog 22 [eRing r, int p] (strs (resIds r p)) := by
  refine fnp_ok (n := 38) Try.func22 rfl rfl rfl (Nat.le_of_ble_eq_true rfl) rfl fun w0 O => ?_
  refine ok_seq fun K1 h1 => ok_region rfl (q_boxs _ rfl (Nat.zero_lt_succ _) (q_as _ rfl (run_nil (h1 _ ?_)))); clear h1 K1
  refine ok_seq fun K2 h2 => ?_
  refine ok_seq fun K3 h3 => ?_
  refine ok_region rfl (q_lds _ ag46 rfl sz46 (q_call (f51_ok r hr) cl51 rfl rfl (q_un _ _ rfl rfl (q_mv _ rfl (q_or (b2 := decide (p < 0)) 2 2 rfl rfl rfl rfl rfl (fun hb14 =>
      q_mv _ rfl (q_bin _ _ _ rfl rfl rfl (run_nil ⟨rfl, rfl, rfl, rfl⟩))) (
    q_mv _ rfl (q_or (b2 := decide (2147483648 ≤ p)) 2 2 rfl rfl rfl rfl rfl (fun hb18 =>
      q_mv _ rfl (q_bin _ _ _ rfl rfl rfl (run_nil ⟨rfl, rfl, rfl, rfl⟩))) (
    run_nil (h3 _ ?_)))))))))
  clear h3 K3
  refine ok_cond rfl (fun c4 => ?_) (fun c4 => ?_)
  · have hno := cond_in c4
    have e : resIds r p = [] := by unfold resIds; rw [if_neg (by rw [pB_false hno]; decide)]
    refine ok_seq fun K5 h5 => ?_
    refine ok_region rfl (q_as _ rfl (run_nil (h5 _ ?_)))
    clear h5 K5
    refine ok_nilT 1 (ok_ret ⟨_, ⟨_, _, rfl, rfl, rfl⟩, ?_, fun b hb => (zn_tr hb).elim⟩)
    rw [e]
    exact .tr _ _ _ _
  · obtain ⟨hg, hp⟩ := cond_out c4
    have e : resIds r p = (ownL r p).map (idOf r) := by unfold resIds; rw [if_pos (pB_true ⟨hg, hp⟩)]
    have hol := own_len hg p
    have hlt := sortT_lt (tks_distinct hg)
    have hSl : (sortT (tks r)).length ≤ 320 := by rw [(sortT_perm (tks r)).length_eq]; exact tks_len hg
    refine ok_skip (h2 _ ?_)
    refine ok_seq fun K6 h6 => ok_region rfl (q_an (n := 1) 9 (by decide) rfl rfl rfl (run_nil (h6 _ ?_))); clear h6 K6
    refine ok_seq fun K7 h7 => ?_
    refine ok_seq fun K8 h8 => ok_region rfl (q_lds _ ag46 rfl sz46 (q_mv _ rfl (q_call (f58_ok r hr hg p hp.1 hp.2) cl58 rfl rfl (q_len eS27 rfl (q_mv _ rfl (run_nil (h8 _ ?_))))))); clear h8 K8
    simp only [List.length_map]
    refine ok_block ?_
    refine ok_loop (fun (k : Nat) => ⟨[(2, .sv (.ptr (eRing r))), (5, .own 5), (21, .sv (intsN (ownL r p))), (22, .sv (int (ownL r p).length)), (23, .sv (int k))], [(5, .row 1 9 ((((ownL r p).take k).map (idOf r)).map str))]⟩) (fun k => True) (fun k => (ownL r p).length - k) 0 trivial (le_sub ⟨rfl, rfl, rfl, rfl, rfl, trivial⟩ ⟨rfl, trivial⟩) (fun k J => ?_)
    refine ok_seq fun K9 h9 => ok_region rfl (q_bin _ _ _ rfl rfl rfl (run_nil (h9 _ ?_))); clear h9 K9
    refine ok_seq fun K10 h10 => ?_
    refine ok_cond rfl (fun c11 => ?_) (fun c11 => ?_)
    · have hk : k < (ownL r p).length := by simpa using c11
      obtain ⟨u, hu⟩ := sget hk
      obtain ⟨m, hm⟩ := sget (own_lt hg (smem hu))
      refine ok_skip (h10 _ ?_)
      refine ok_seq fun K12 h12 => ?_
      refine ok_block ?_
      refine ok_seq fun K13 h13 => ok_region rfl (q_ia (s := int (u : Int)) el27 rfl rfl (by omega) (ngetI hu) (q_ld _ ag3 rfl rfl (q_as _ rfl (run_nil (h13 _ ?_))))); clear h13 K13
      refine ok_last fun K14 h14 => ok_region rfl (
        q_mo _ rfl (q_fa _ fd46_1 rfl rfl (by decide) (q_ld _ ag44 rfl rfl (q_mv _ rfl (q_ia el44 rfl rfl (by omega) (mget hm) (q_fa _ fd88_0 rfl rfl (by decide) (q_ld _ ag9 rfl rfl (
        q_lit1 _ (str m.id) el50 ze9 (by decide) (by decide) rfl (.inr rfl) rfl (q_app _ el50 ze9 rfl by9 rfl rfl rfl rfl rfl (by simp) (by intro s hs; simp at hs; subst hs; exact .inr rfl) (by rw [List.length_map, List.length_map, List.length_take]; show _ + 1 ≤ maxLen; unfold maxLen; omega) (by rw [List.length_map, List.length_map, List.length_take]; show (_ + 1) * 16 ≤ _; omega) (
        q_ao _ rfl (run_nil (h14 _ (h12 _ ?_)))))))))))))
      refine ok_last fun K15 h15 => ok_region rfl (
        q_add rfl rfl (by omega) (q_mv _ rfl (run_nil (h15 _ (⟨k + 1, by omega, trivial, by rw [ids_snoc hu hm]; exact le_rek 5 35 ⟨rfl, rfl, rfl, rfl, rfl, trivial⟩ ⟨rfl, trivial⟩ rfl rfl rfl rfl ⟨rfl, trivial⟩⟩)))))
    · rw [List.take_of_length_le (by have : ¬ ((k : Int) < (ownL r p).length) := by simpa using c11
                                     omega)]
      obtain ⟨g1, g2, g3⟩ := gd_rawsL (raws_str ((ownL r p).map (idOf r)))
      refine ok_exit (h7 _ ?_)
      refine ok_seq fun K16 h16 => ok_region rfl (q_mo _ rfl (q_ao _ rfl (run_nil (h16 _ ?_)))); clear h16 K16
      refine ok_treed (k := 5) (n := 1) (T := 9) (rs := ((ownL r p).map (idOf r)).map str) (ss := ((ownL r p).map (idOf r)).map str) rfl rfl g1 g2 (fun r hr b hb => (g3 r hr b hb).elim) (fun Z v hZ => ?_)
      refine ok_ret ⟨_, ⟨_, _, rfl, rfl, rfl⟩, by rw [e]; exact .tr Z 1 _ v, fun b hb => ?_⟩
      exact (hZ b (zn_tr hb)).elim id fun h => h.elim
theorem f23_t (r : Ring) (hr : SRing r) (p : Int) : PFnT Try.prog 23 [eRing r, int p] (strs (resIds r p)) := by
  refine fnp_ok (n := 40) Try.func23 rfl rfl rfl (Nat.le_of_ble_eq_true rfl) rfl fun w0 O => ?_
  refine ok_seq fun K1 h1 => ok_region rfl (q_boxs _ rfl (Nat.zero_lt_succ _) (q_as _ rfl (run_nil (h1 _ ?_)))); clear h1 K1
  refine ok_seq fun K2 h2 => ?_
  refine ok_seq fun K3 h3 => ?_
  refine ok_region rfl (q_lds _ ag46 rfl sz46 (q_call (f54_ok r hr) cl54 rfl rfl (q_un _ _ rfl rfl (q_mv _ rfl (q_or (b2 := decide (p < 0)) 2 2 rfl rfl rfl rfl rfl (fun hb14 =>
      q_mv _ rfl (q_bin _ _ _ rfl rfl rfl (run_nil ⟨rfl, rfl, rfl, rfl⟩))) (
    q_mv _ rfl (q_or (b2 := decide (2147483648 ≤ p)) 2 2 rfl rfl rfl rfl rfl (fun hb18 =>
      q_mv _ rfl (q_bin _ _ _ rfl rfl rfl (run_nil ⟨rfl, rfl, rfl, rfl⟩))) (
    run_nil (h3 _ ?_)))))))))
  clear h3 K3
  refine ok_cond rfl (fun c4 => ?_) (fun c4 => ?_)
  · have hno := cond_in c4
    have e : resIds r p = [] := by unfold resIds; rw [if_neg (by rw [pB_false hno]; decide)]
    refine ok_seq fun K5 h5 => ?_
    refine ok_region rfl (q_as _ rfl (run_nil (h5 _ ?_)))
    clear h5 K5
    refine ok_nilT 1 (ok_ret ⟨_, ⟨_, _, rfl, rfl, rfl⟩, ?_, fun b hb => (zn_tr hb).elim⟩)
    rw [e]
    exact .tr _ _ _ _
  · obtain ⟨hg, hp⟩ := cond_out c4
    have e : resIds r p = (ownL r p).map (idOf r) := by unfold resIds; rw [if_pos (pB_true ⟨hg, hp⟩)]
    have hol := own_len hg p
    have hlt := sortT_lt (tks_distinct hg)
    have hSl : (sortT (tks r)).length ≤ 320 := by rw [(sortT_perm (tks r)).length_eq]; exact tks_len hg
    refine ok_skip (h2 _ ?_)
    refine ok_seq fun K6 h6 => ok_region rfl (q_an (n := 1) 9 (by decide) rfl rfl rfl (run_nil (h6 _ ?_))); clear h6 K6
    refine ok_seq fun K7 h7 => ?_
    refine ok_seq fun K8 h8 => ?_
    refine ok_region_d [1, 1, 3, 0, 3, 0, 0] #[[], [], [1], [], [0, 1, 2, 3], [0, 1, 2, 3, 4], []] [0, 1, 3, 6, 2, 4, 5] (by kernel_rfl) (by kernel_rfl) rfl rfl (
      q_lds _ ag46 rfl sz46 (q_lds _ ag46 rfl sz46 (q_mv _ rfl (q_mv _ rfl (q_call (f55_all r hr hg) cl55 rfl rfl (q_call (f56_ok r (sortT (tks r)) (by omega) hlt p) cl56 rfl rfl (q_len eS27 rfl (run_nil (h8 _ ?_))))))))); clear h8 K8
    have hown : pickG r.copies (cyc (sortT (tks r)) (lowT p (sortT (tks r)))) [] = ownL r p := rfl
    rw [hown]
    simp only [List.length_map]
    refine ok_block ?_
    refine ok_loop (fun (k : Nat) => ⟨[(2, .sv (.ptr (eRing r))), (5, .own 5), (23, .sv (intsN (ownL r p))), (24, .sv (int (ownL r p).length)), (25, .sv (int k))], [(5, .row 1 9 ((((ownL r p).take k).map (idOf r)).map str))]⟩) (fun k => True) (fun k => (ownL r p).length - k) 0 trivial (le_sub ⟨rfl, rfl, rfl, rfl, rfl, trivial⟩ ⟨rfl, trivial⟩) (fun k J => ?_)
    refine ok_seq fun K9 h9 => ok_region rfl (q_bin _ _ _ rfl rfl rfl (run_nil (h9 _ ?_))); clear h9 K9
    refine ok_seq fun K10 h10 => ?_
    refine ok_cond rfl (fun c11 => ?_) (fun c11 => ?_)
    · have hk : k < (ownL r p).length := by simpa using c11
      obtain ⟨u, hu⟩ := sget hk
      obtain ⟨m, hm⟩ := sget (own_lt hg (smem hu))
      refine ok_skip (h10 _ ?_)
      refine ok_seq fun K12 h12 => ?_
      refine ok_block ?_
      refine ok_seq fun K13 h13 => ok_region rfl (q_ia (s := int (u : Int)) el27 rfl rfl (by omega) (ngetI hu) (q_ld _ ag3 rfl rfl (q_as _ rfl (run_nil (h13 _ ?_))))); clear h13 K13
      refine ok_last fun K14 h14 => ok_region rfl (
        q_mo _ rfl (q_fa _ fd46_1 rfl rfl (by decide) (q_ld _ ag44 rfl rfl (q_mv _ rfl (q_ia el44 rfl rfl (by omega) (mget hm) (q_fa _ fd88_0 rfl rfl (by decide) (q_ld _ ag9 rfl rfl (
        q_lit1 _ (str m.id) el50 ze9 (by decide) (by decide) rfl (.inr rfl) rfl (q_app _ el50 ze9 rfl by9 rfl rfl rfl rfl rfl (by simp) (by intro s hs; simp at hs; subst hs; exact .inr rfl) (by rw [List.length_map, List.length_map, List.length_take]; show _ + 1 ≤ maxLen; unfold maxLen; omega) (by rw [List.length_map, List.length_map, List.length_take]; show (_ + 1) * 16 ≤ _; omega) (
        q_ao _ rfl (run_nil (h14 _ (h12 _ ?_)))))))))))))
      refine ok_last fun K15 h15 => ok_region rfl (
        q_add rfl rfl (by omega) (q_mv _ rfl (run_nil (h15 _ (⟨k + 1, by omega, trivial, by rw [ids_snoc hu hm]; exact le_rek 5 37 ⟨rfl, rfl, rfl, rfl, rfl, trivial⟩ ⟨rfl, trivial⟩ rfl rfl rfl rfl ⟨rfl, trivial⟩⟩)))))
    · rw [List.take_of_length_le (by have : ¬ ((k : Int) < (ownL r p).length) := by simpa using c11
                                     omega)]
      obtain ⟨g1, g2, g3⟩ := gd_rawsL (raws_str ((ownL r p).map (idOf r)))
      refine ok_exit (h7 _ ?_)
      refine ok_seq fun K16 h16 => ok_region rfl (q_mo _ rfl (q_ao _ rfl (run_nil (h16 _ ?_)))); clear h16 K16
      refine ok_treed (k := 5) (n := 1) (T := 9) (rs := ((ownL r p).map (idOf r)).map str) (ss := ((ownL r p).map (idOf r)).map str) rfl rfl g1 g2 (fun r hr b hb => (g3 r hr b hb).elim) (fun Z v hZ => ?_)
      refine ok_ret ⟨_, ⟨_, _, rfl, rfl, rfl⟩, by rw [e]; exact .tr Z 1 _ v, fun b hb => ?_⟩
      exact (hZ b (zn_tr hb)).elim id fun h => h.elim
end Go.Ring
