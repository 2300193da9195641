/- Copies of rings, told apart; marks written into them. No condition. -/
import Derived.Test.YtlokejcoikddgaaFam
import Derived.Test.YtlokejcoikddgaaAbsTree3
namespace Go.Ring
open Go Go.RowKit Go.Eager Go.Abs Go.Proofs
set_option maxRecDepth 100000
set_option linter.unusedVariables false
set_option linter.unusedSimpArgs false

theorem zn_node {b : Nat} {x : RingNode} {Z : Nat → Prop} {s : SV} {v : Value} (h : Zn b (.agg [str x.id, int x.st, .tr Z s v])) : Zn b (.tr Z s v) := by
  obtain ⟨r, hr, hb⟩ := zn_agg h
  simp only [List.mem_cons, List.not_mem_nil, or_false] at hr
  rcases hr with rfl | rfl | rfl
  · exact (zn_raw hb).elim
  · exact (zn_raw hb).elim
  · exact hb
theorem gd_node {x : RingNode} (Z : Nat → Prop) (v : Value) : Gd (.agg [str x.id, int x.st, .tr Z (ints x.toks) v]) (eRingNode x) := by
  refine .agg _ _ rfl (fun i r s hr hs => ?_) (fun i j b ri rj hi hj hbi hbj => ?_)
  · match i, hr, hs with
    | 0, hr, hs => simp at hr hs; subst hr hs; exact .raw _
    | 1, hr, hs => simp at hr hs; subst hr hs; exact .raw _
    | 2, hr, hs => simp at hr hs; subst hr hs; exact .tr _ _ _ _
    | i + 3, hr, hs => simp at hr
  · match i, j, hi, hj with
    | 0, _, hi, _ => simp at hi; subst hi; exact (zn_raw hbi).elim
    | 1, _, hi, _ => simp at hi; subst hi; exact (zn_raw hbi).elim
    | 2, 0, _, hj => simp at hj; subst hj; exact (zn_raw hbj).elim
    | 2, 1, _, hj => simp at hj; subst hj; exact (zn_raw hbj).elim
    | 2, 2, _, _ => rfl
    | 2, j + 3, _, hj => simp at hj
    | i + 3, _, hi, _ => simp at hi
@[reducible] def strs (l : List ByteArray) : SV := .sl 1 (l.map str)
theorem gd_rawsL {rs : List SV} (h : ∀ r ∈ rs, ∃ u, r = SV.raw u) : (∀ (i : Nat) (r s : SV), rs[i]? = some r → rs[i]? = some s → Gd r s) ∧ (∀ (i j b : Nat) (ri rj : SV), rs[i]? = some ri → rs[j]? = some rj → Zn b ri → Zn b rj → i = j) ∧ ∀ r ∈ rs, ∀ b, ¬ Zn b r := by
  have hz : ∀ r ∈ rs, ∀ b, ¬ Zn b r := fun r hr b hb => by obtain ⟨u, rfl⟩ := h r hr; exact zn_raw hb
  refine ⟨fun i r s h1 h2 => ?_, fun i j b ri rj h1 h2 h3 => (hz ri (List.mem_of_getElem? h1) b h3).elim, hz⟩
  rw [h1] at h2
  cases h2
  obtain ⟨u, rfl⟩ := h r (List.mem_of_getElem? h1)
  exact .raw u
theorem raws_int (l : List Int) : ∀ r ∈ l.map int, ∃ u, r = SV.raw u := by
  intro r hr; obtain ⟨x, _, rfl⟩ := List.mem_map.1 hr; exact ⟨_, rfl⟩
theorem raws_str (l : List ByteArray) : ∀ r ∈ l.map str, ∃ u, r = SV.raw u := by
  intro r hr; obtain ⟨x, _, rfl⟩ := List.mem_map.1 hr; exact ⟨_, rfl⟩
theorem f145_t (x : List Int) (hx : x.length ≤ 1048576) : PFnT Try.prog 145 [ints x] (ints x) := by
  have hle : x.length ≤ 1048576 := hx
  refine fnp_ok (n := 22) Try.func145 rfl rfl rfl (Nat.le_of_ble_eq_true rfl) rfl fun w0 O => ?_
  refine ok_seq fun K1 h1 => ok_region rfl (q_as _ rfl (run_nil (h1 _ ?_))); clear h1 K1
  refine ok_seq fun K2 h2 => ok_region rfl (q_mv _ rfl (q_len eS27 rfl (q_make _ _ el27 (by decide) ze3 rfl by3 rfl rfl rfl rfl (.inr ⟨rfl, rfl⟩) (by rw [List.length_map]; exact Nat.le_trans hle (by decide)) (by rw [List.length_map]; omega) (q_ao _ rfl (run_nil (h2 _ ?_)))))); clear h2 K2
  rw [List.length_map]
  refine ok_seq fun K3 h3 => ?_
  refine ok_seq fun K4 h4 => ok_region rfl (q_as _ rfl (run_nil (h4 _ ?_))); clear h4 K4
  refine ok_block ?_
  refine ok_loop (fun (k : Nat) => ⟨[(0, .sv (ints x)), (3, .own 7), (4, .sv (int k))], [(7, .row 1 3 (fill int (.raw (.int .i64 0)) x k))]⟩) (fun k => k ≤ x.length) (fun k => x.length - k) 0 (Nat.zero_le _) (by rw [fill_zero]; exact le_sub ⟨rfl, rfl, rfl, trivial⟩ ⟨rfl, trivial⟩) (fun k J => ?_)
  refine ok_seq fun K5 h5 => ?_
  refine ok_seq fun K6 h6 => ok_region rfl (q_mv _ rfl (q_mv _ rfl (q_len eS27 rfl (q_bin _ _ _ rfl rfl rfl (run_nil (h6 _ ?_)))))); clear h6 K6
  rw [List.length_map]
  refine ok_cond rfl (fun c7 => ?_) (fun c7 => ?_)
  · refine ok_skip (h5 _ ?_)
    have hk : k < x.length := by simpa using c7
    obtain ⟨u, hu⟩ := sget hk
    refine ok_seq fun K8 h8 => ?_
    refine ok_block ?_
    refine ok_last fun K9 h9 => ok_region rfl (q_mo _ rfl (q_mv _ rfl (q_mv _ rfl (q_mv _ rfl (q_ia (s := int u) el27 rfl rfl (by omega) (mget (f := int) hu) (q_ld _ ag3 rfl rfl (q_iao el27 rfl rfl rfl (by omega) (by rw [fill_len _ _ _ J]; exact hk) (q_ste sz3 rfl rfl (fill_get _ _ _ hk) rfl (.inr rfl) rfl (run_nil (h9 _ (h8 _ ?_)))))))))))
    refine ok_region rfl (q_mv _ rfl (q_add rfl rfl (by omega) (q_as _ rfl (run_nil (⟨k + 1, by omega, hk, ?_⟩)))))
    rw [← fill_set int (.raw (.int .i64 0)) hu]
    exact le_sub ⟨rfl, rfl, rfl, trivial⟩ ⟨rfl, trivial⟩
  · rw [fill_all _ _ _ (by simpa using c7)]
    obtain ⟨g1, g2, g3⟩ := gd_rawsL (raws_int x)
    refine ok_exit (h3 _ ?_)
    refine ok_seq fun K9 h9 => ok_region rfl (q_mo _ rfl (q_ao _ rfl (run_nil (h9 _ ?_)))); clear h9 K9
    refine ok_treed (k := 7) (n := 1) (T := 3) (rs := x.map int) (ss := x.map int) rfl rfl g1 g2 (fun r hr b hb => (g3 r hr b hb).elim) (fun Z v hZ => ?_)
    refine ok_ret ⟨_, ⟨_, _, rfl, rfl, rfl⟩, .tr Z 1 _ v, fun b hb => ?_⟩
    exact (hZ b (zn_tr hb)).elim id fun h => h.elim
theorem f104_t (x : RingNode) (hx : SRingNode x) : PFnT Try.prog 104 [eRingNode x] (eRingNode x) := by
  refine fnp_ok (n := 15) Try.func104 rfl rfl rfl (Nat.le_of_ble_eq_true rfl) rfl fun w0 O => ?_
  refine ok_seq fun K1 h1 => ok_region rfl (q_boxs _ rfl (Nat.zero_lt_succ _) (q_alloc _ ze88 rfl rfl rfl rfl (run_nil (h1 _ ?_)))); clear h1 K1
  refine ok_seq fun K2 h2 => ok_region rfl (q_alloc _ ze88 rfl rfl rfl rfl (run_nil (h2 _ ?_))); clear h2 K2
  refine ok_seq fun K3 h3 => ok_region rfl (q_fa _ fd131_0 rfl rfl (by decide) (q_ld _ ag9 rfl rfl (q_fap fd88_0 rfl (by decide) (q_st _ sz9 rfl rfl (Nat.le_of_ble_eq_true rfl) rfl ⟨_, rfl, rfl⟩ rfl (run_nil (h3 _ ?_)))))); clear h3 K3
  refine ok_seq fun K4 h4 => ok_region rfl (q_fa _ fd131_1 rfl rfl (by decide) (q_ld _ ag3 rfl rfl (q_fap fd88_1 rfl (by decide) (q_st _ sz3 rfl rfl (Nat.le_of_ble_eq_true rfl) rfl ⟨_, rfl, rfl⟩ rfl (run_nil (h4 _ ?_)))))); clear h4 K4
  refine ok_seq fun K5 h5 => ok_region rfl (q_fa _ fd131_2 rfl rfl (by decide) (q_ld _ ag27 rfl rfl (q_callr (f145_t x.toks (hx.2)) cl145 rfl (fun r hr hz _ => ?_))))
  cases hr with
  | tr Z _ _ v =>
    refine q_fap fd88_2 rfl (by decide) (q_st _ sz27 rfl rfl (Nat.le_of_ble_eq_true rfl) rfl ⟨_, rfl, rfl⟩ rfl (run_nil (h5 _ ?_)))
    refine ok_seq fun K6 h6 => ok_region rfl (q_ldbs ag88 rfl rfl sz88 rfl rfl (q_sts _ rfl rfl rfl sz88 (Nat.le_of_ble_eq_true rfl) rfl (run_nil (h6 _ ?_)))); clear h6 K6
    refine ok_ret ⟨[.agg [str x.id, int x.st, .tr Z (ints x.toks) v]], ⟨_, _, res_cells (l := [str x.id, int x.st, .tr Z (ints x.toks) v]) rfl rfl ag88 sz88 rfl, rfl, rfl⟩, ?_, ?_⟩
    · exact gd_node Z v
    · intro b hb
      exact hz b (zn_node hb)

theorem fillR_set {rs : List SV} {z x : SV} {n : Nat} (h : rs.length < n) : (rs ++ List.replicate (n - rs.length) z).set rs.length x = (rs ++ [x]) ++ List.replicate (n - (rs ++ [x]).length) z := by
  rw [List.set_append_right _ _ (Nat.le_refl _), Nat.sub_self, show n - rs.length = (n - (rs.length + 1)) + 1 by omega, List.replicate_succ, List.set_cons_zero, List.append_assoc]
  congr 2
  simp
theorem fillR_get {rs : List SV} {z : SV} {n : Nat} (h : rs.length < n) : (rs ++ List.replicate (n - rs.length) z)[rs.length]? = some z := by
  rw [List.getElem?_append_right (Nat.le_refl _), Nat.sub_self, List.getElem?_replicate, if_pos (by omega)]
/-- Some copies, apart: one more. -/
structure Cps (w0 : World) (rs ss : List SV) : Prop where
  len : rs.length = ss.length
  gd : ∀ (i : Nat) (r s : SV), rs[i]? = some r → ss[i]? = some s → Gd r s
  ap : ∀ (i j b : Nat) (ri rj : SV), rs[i]? = some ri → rs[j]? = some rj → Zn b ri → Zn b rj → i = j
  nw : ∀ r ∈ rs, ∀ b, Zn b r → w0.heap.size ≤ b
theorem Cps.nil (w0 : World) : Cps w0 [] [] := ⟨rfl, fun i r s h => by simp at h, fun i j b ri rj h => by simp at h, fun r h => by simp at h⟩
theorem Cps.snoc {w0 : World} {rs ss : List SV} {r s : SV} (h : Cps w0 rs ss) (hg : Gd r s) (ha : ∀ x ∈ rs, ∀ b, Zn b x → ¬ Zn b r) (hn : ∀ b, Zn b r → w0.heap.size ≤ b) : Cps w0 (rs ++ [r]) (ss ++ [s]) := by
  have key : ∀ {α : Type} {l : List α} {x y : α} {i : Nat}, (l ++ [x])[i]? = some y → (l[i]? = some y ∧ i < l.length) ∨ (i = l.length ∧ y = x) := by
    intro α l x y i hi
    rcases Nat.lt_or_ge i l.length with h1 | h1
    · rw [List.getElem?_append_left h1] at hi; exact .inl ⟨hi, h1⟩
    · rw [List.getElem?_append_right h1] at hi
      have h2 := (List.getElem?_eq_some_iff.1 hi).1
      simp at h2
      have h3 : i = l.length := by omega
      subst h3
      simp at hi
      exact .inr ⟨rfl, hi.symm⟩
  refine ⟨by simp [h.len], fun i r' s' hr hs => ?_, fun i j b ri rj hi hj hbi hbj => ?_, fun x hx b hb => ?_⟩
  · rcases key hr with ⟨h1, h2⟩ | ⟨h1, rfl⟩
    · rcases key hs with ⟨h3, _⟩ | ⟨h3, _⟩
      · exact h.gd i r' s' h1 h3
      · have := h.len; omega
    · rcases key hs with ⟨_, h3⟩ | ⟨_, rfl⟩
      · have := h.len; omega
      · exact hg
  · rcases key hi with ⟨h1, h2⟩ | ⟨h1, rfl⟩ <;> rcases key hj with ⟨h3, h4⟩ | ⟨h3, rfl⟩
    · exact h.ap i j b ri rj h1 h3 hbi hbj
    · exact (ha ri (List.mem_of_getElem? h1) b hbi hbj).elim
    · exact (ha rj (List.mem_of_getElem? h3) b hbj hbi).elim
    · omega
  · rcases List.mem_append.1 hx with hx | hx
    · exact h.nw x hx b hb
    · simp at hx; subst hx; exact hn b hb
@[reducible] def zNode : SV := .agg [.raw (.string ⟨#[]⟩), .raw (.int .i64 0), .raw (.slice none 0 0)]
theorem gd_node_inv {x : RingNode} {r : SV} (h : Gd r (eRingNode x)) : ∃ Z v, r = .agg [str x.id, int x.st, .tr Z (ints x.toks) v] := by
  generalize hs : eRingNode x = s at h
  cases h with
  | raw => cases hs
  | tr => cases hs
  | agg rs ss hn hh hap =>
    injection hs with hs
    subst hs
    match rs, hn with
    | [a, b, c], _ =>
      have h0 := hh 0 a _ rfl rfl
      have h1 := hh 1 b _ rfl rfl
      have h2 := hh 2 c _ rfl rfl
      cases h0; cases h1
      cases h2 with
      | tr Z n l v => exact ⟨Z, v, rfl⟩
theorem f53_t (x : List RingNode) (hx : x.length ≤ 1048576 ∧ ∀ y ∈ x, SRingNode y) : PFnT Try.prog 53 [eRingNodeS x] (eRingNodeS x) := by
  have hle : x.length ≤ 1048576 := hx.1
  refine fnp_ok (n := 23) Try.func53 rfl rfl rfl (Nat.le_of_ble_eq_true rfl) rfl fun w0 O => ?_
  refine ok_seq fun K1 h1 => ok_region rfl (q_as _ rfl (run_nil (h1 _ ?_))); clear h1 K1
  refine ok_seq fun K2 h2 => ok_region rfl (q_mv _ rfl (q_len eS39 rfl (q_make _ zNode el44 (by decide) ze88 rfl by88 rfl rfl rfl rfl (.inl ⟨rfl, rfl, rfl⟩) (by rw [List.length_map]; exact Nat.le_trans hle (by decide)) (by rw [List.length_map]; omega) (q_ao _ rfl (run_nil (h2 _ ?_)))))); clear h2 K2
  rw [List.length_map]
  refine ok_seq fun K3 h3 => ?_
  refine ok_seq fun K4 h4 => ok_region rfl (q_as _ rfl (run_nil (h4 _ ?_))); clear h4 K4
  refine ok_block ?_
  refine ok_loop (fun (rs : List SV) => ⟨[(0, .sv (eRingNodeS x)), (3, .own 7), (4, .sv (int rs.length))], [(7, .row 3 88 (rs ++ List.replicate (x.length - rs.length) zNode))]⟩) (fun rs => rs.length ≤ x.length ∧ Cps w0 rs ((x.take rs.length).map eRingNode)) (fun rs => x.length - rs.length) [] ⟨Nat.zero_le _, Cps.nil w0⟩ (le_sub ⟨rfl, rfl, rfl, trivial⟩ ⟨rfl, trivial⟩) (fun rs J => ?_)
  obtain ⟨j1, j2⟩ := J
  refine ok_seq fun K5 h5 => ?_
  refine ok_seq fun K6 h6 => ok_region rfl (q_mv _ rfl (q_mv _ rfl (q_len eS39 rfl (q_bin _ _ _ rfl rfl rfl (run_nil (h6 _ ?_)))))); clear h6 K6
  rw [List.length_map]
  refine ok_cond rfl (fun c7 => ?_) (fun c7 => ?_)
  · refine ok_skip (h5 _ ?_)
    have hk : rs.length < x.length := by simpa using c7
    obtain ⟨u, hu⟩ := sget hk
    refine ok_seq fun K8 h8 => ?_
    refine ok_block ?_
    refine ok_last fun K9 h9 => ok_region rfl (q_mo _ rfl (q_mv _ rfl (q_mv _ rfl (q_mv _ rfl (q_ia el39 rfl rfl (by omega) (mget hu) (q_lds _ ag131 rfl sz131 (q_callr (f104_t u (hx.2 u (smem hu))) cl104 rfl (fun r hr hz hap => ?_))))))))
    have hfresh := j2.snoc hr (fun y hy b hb => hap.2 7 3 88 _ y b rfl (List.mem_append_left _ hy) hb) hz
    rw [show (x.take rs.length).map eRingNode ++ [eRingNode u] = (x.take (rs ++ [r]).length).map eRingNode by rw [List.length_append, List.length_cons, List.length_nil, List.take_add_one, hu, List.map_append]; rfl] at hfresh
    obtain ⟨Z, v, rfl⟩ := gd_node_inv hr
    refine q_iao el44 rfl rfl rfl (by omega) (by simp; omega) (q_ste sz88 rfl rfl (fillR_get hk) rfl (.inl ⟨_, rfl⟩) rfl (run_nil (h9 _ (h8 _ ?_))))
    refine ok_region rfl (q_mv _ rfl (q_add rfl rfl (by omega) (q_as _ rfl (run_nil (⟨rs ++ [.agg [str u.id, int u.st, .tr Z (ints u.toks) v]], by simp only [List.length_append, List.length_cons, List.length_nil]; omega, ⟨by simp only [List.length_append, List.length_cons, List.length_nil]; omega, hfresh⟩, ?_⟩)))))
    rw [← fillR_set hk]
    have e : ((rs ++ [SV.agg [str u.id, int u.st, .tr Z (ints u.toks) v]]).length : Int) = (rs.length : Int) + 1 := by simp
    rw [e]
    exact le_sub ⟨rfl, rfl, rfl, trivial⟩ ⟨rfl, trivial⟩
  · have hk : rs.length = x.length := by have : ¬ ((rs.length : Int) < x.length) := by simpa using c7
                                         omega
    have e : rs ++ List.replicate (x.length - rs.length) zNode = rs := by rw [hk, Nat.sub_self]; simp
    rw [hk, List.take_length] at j2
    rw [e]
    refine ok_exit (h3 _ ?_)
    refine ok_seq fun K9 h9 => ok_region rfl (q_mo _ rfl (q_ao _ rfl (run_nil (h9 _ ?_)))); clear h9 K9
    refine ok_treed (k := 7) (n := 3) (T := 88) (rs := rs) (ss := x.map eRingNode) rfl j2.len j2.gd j2.ap (fun r hr b hb => .inl (j2.nw r hr b hb)) (fun Z v hZ => ?_)
    refine ok_ret ⟨_, ⟨_, _, rfl, rfl, rfl⟩, .tr Z 3 _ v, fun b hb => ?_⟩
    exact (hZ b (zn_tr hb)).elim id fun h => h.elim
theorem zn_ring {b : Nat} {c : Int} {Z : Nat → Prop} {s : SV} {v : Value} (h : Zn b (.agg [int c, .tr Z s v])) : Zn b (.tr Z s v) := by
  obtain ⟨r, hr, hb⟩ := zn_agg h
  simp only [List.mem_cons, List.not_mem_nil, or_false] at hr
  rcases hr with rfl | rfl
  · exact (zn_raw hb).elim
  · exact hb
theorem gd_ring {x : Ring} (Z : Nat → Prop) (v : Value) : Gd (.agg [int x.copies, .tr Z (eRingNodeS x.nodes) v]) (eRing x) := by
  refine .agg _ _ rfl (fun i r s hr hs => ?_) (fun i j b ri rj hi hj hbi hbj => ?_)
  · match i, hr, hs with
    | 0, hr, hs => simp at hr hs; subst hr hs; exact .raw _
    | 1, hr, hs => simp at hr hs; subst hr hs; exact .tr _ _ _ _
    | i + 2, hr, hs => simp at hr
  · match i, j, hi, hj with
    | 0, _, hi, _ => simp at hi; subst hi; exact (zn_raw hbi).elim
    | 1, 0, _, hj => simp at hj; subst hj; exact (zn_raw hbj).elim
    | 1, 1, _, _ => rfl
    | 1, j + 2, _, hj => simp at hj
    | i + 2, _, hi, _ => simp at hi
theorem gd_ring_inv {x : Ring} {r : SV} (h : Gd r (eRing x)) : ∃ Z v, r = .agg [int x.copies, .tr Z (eRingNodeS x.nodes) v] := by
  generalize hs : eRing x = s at h
  cases h with
  | raw => cases hs
  | tr => cases hs
  | agg rs ss hn hh hap =>
    injection hs with hs
    subst hs
    match rs, hn with
    | [a, b], _ =>
      have h0 := hh 0 a _ rfl rfl
      have h1 := hh 1 b _ rfl rfl
      cases h0
      cases h1 with
      | tr Z n l v => exact ⟨Z, v, rfl⟩
theorem f19_t (x : Ring) (hx : SRing x) : PFnT Try.prog 19 [eRing x] (eRing x) := by
  refine fnp_ok (n := 12) Try.func19 rfl rfl rfl (Nat.le_of_ble_eq_true rfl) rfl fun w0 O => ?_
  refine ok_seq fun K1 h1 => ok_region rfl (q_boxs _ rfl (Nat.zero_lt_succ _) (q_alloc _ ze46 rfl rfl rfl rfl (run_nil (h1 _ ?_)))); clear h1 K1
  refine ok_seq fun K2 h2 => ok_region rfl (q_alloc _ ze46 rfl rfl rfl rfl (run_nil (h2 _ ?_))); clear h2 K2
  refine ok_seq fun K3 h3 => ok_region rfl (q_fa _ fd41_0 rfl rfl (by decide) (q_ld _ ag3 rfl rfl (q_fap fd46_0 rfl (by decide) (q_st _ sz3 rfl rfl (Nat.le_of_ble_eq_true rfl) rfl ⟨_, rfl, rfl⟩ rfl (run_nil (h3 _ ?_)))))); clear h3 K3
  refine ok_seq fun K4 h4 => ok_region rfl (q_fa _ fd41_1 rfl rfl (by decide) (q_ld _ ag39 rfl rfl (q_callr (f53_t x.nodes (hx)) cl53 rfl (fun r hr hz _ => ?_))))
  cases hr with
  | tr Z _ _ v =>
    refine q_fap fd46_1 rfl (by decide) (q_st _ sz44 rfl rfl (Nat.le_of_ble_eq_true rfl) rfl ⟨_, rfl, rfl⟩ rfl (run_nil (h4 _ ?_)))
    refine ok_seq fun K5 h5 => ok_region rfl (q_ldbs ag46 rfl rfl sz46 rfl rfl (q_sts _ rfl rfl rfl sz46 (Nat.le_of_ble_eq_true rfl) rfl (run_nil (h5 _ ?_)))); clear h5 K5
    refine ok_ret ⟨[.agg [int x.copies, .tr Z (eRingNodeS x.nodes) v]], ⟨_, _, res_cells (l := [int x.copies, .tr Z (eRingNodeS x.nodes) v]) rfl rfl ag46 sz46 rfl, rfl, rfl⟩, gd_ring Z v, fun b hb => hz b (zn_ring hb)⟩

end Go.Ring
