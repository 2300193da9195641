/- The laws' own types: their bulk, their copies, their likeness, and how they open. No condition. -/
import Derived.Test.YtanilephcohjkaaGreatFacts
namespace Go.Ring
open Go Go.RowKit Go.Eager Go.Abs Go.Proofs
set_option maxRecDepth 100000
set_option linter.unusedVariables false
set_option linter.unusedSimpArgs false
theorem op_IntS : Opens Tryz.prog 40 ints (fun y => LB y.length) :=
  op_iso (fun y : List Int => y) (fun _ => rfl) (fun y h => h.1) (op_slice (n := 1) Tryz.underlying40 (by kernel_rfl) (by decide) (fun _ => ⟨.inr rfl, rfl⟩) (op_int Tryz.underlying3))
def zIntS (x : List Int) (n : Int) : Int := take n x.length
theorem zIntS_ok (x : List Int) : GOk (zIntS x) (x.length ≤ 1048576) := take_ok _
theorem f65_ok (x : List Int) (hx : LB x.length) (n : Int) (h0 : 0 ≤ n) (hn : n ≤ 1048576) : PFn Tryz.prog 65 [ints x, int n] (int (zIntS x n)) := by
  unfold LB at hx
  have hl : (x.map int).length = x.length := List.length_map _
  refine fn_ok' (n := 12) Tryz.func65 rfl rfl rfl (Nat.le_of_ble_eq_true rfl) rfl fun w0 O => ?_
  refine ok_seq fun K1 h1 => ok_region rfl (q_as _ rfl (run_nil (h1 _ ?_)))
  refine ok_seq fun K2 h2 => ok_region rfl (q_mv _ rfl (q_mv _ rfl (q_len eS40 rfl (q_sub rfl rfl (by rw [hl]; omega) (q_as _ rfl (run_nil (h2 _ ?_)))))))
  rw [List.length_map]
  refine ok_seq fun K3 h3 => ?_
  refine ok_seq fun K4 h4 => ok_region rfl (q_mv _ rfl (q_bin _ _ _ rfl rfl rfl (run_nil (h4 _ ?_))))
  refine ok_cond rfl (fun c5 => ?_) (fun c5 => ?_)
  · refine ok_seq fun K6 h6 => ?_
    refine ok_region rfl (q_as _ rfl (run_nil (h6 _ ?_)))
    refine ok_ret ⟨_, rfl, ?_⟩
    rw [zIntS, take_pos (of_decide_eq_true c5)]; rfl
  · refine ok_skip (h3 _ ?_)
    refine ok_seq fun K7 h7 => ok_region rfl (q_mv _ rfl (q_as _ rfl (run_nil (h7 _ ?_))))
    refine ok_ret ⟨_, rfl, ?_⟩
    rw [zIntS, take_neg (of_decide_eq_false c5)]; rfl
theorem f69_ok (x : List Int) (hx : x.length ≤ 1048576) : PFn Tryz.prog 69 [ints x] (ints x) := by
  have hle : x.length ≤ 1048576 := hx
  refine fnr_ok (n := 22) Tryz.func69 rfl rfl rfl (Nat.le_of_ble_eq_true rfl) rfl fun w0 O => ?_
  refine ok_seq fun K1 h1 => ok_region rfl (q_as _ rfl (run_nil (h1 _ ?_)))
  refine ok_seq fun K2 h2 => ok_region rfl (q_mv _ rfl (q_len eS40 rfl (q_make _ _ el40 (by decide) ze3 rfl by3 rfl rfl rfl rfl (.inr ⟨rfl, rfl⟩) (by rw [List.length_map]; exact Nat.le_trans hle (by decide)) (by rw [List.length_map]; omega) (q_ao _ rfl (run_nil (h2 _ ?_))))))
  rw [List.length_map]
  refine ok_seq fun K3 h3 => ?_
  refine ok_seq fun K4 h4 => ok_region rfl (q_as _ rfl (run_nil (h4 _ ?_)))
  refine ok_block ?_
  refine ok_loop (fun (k : Nat) => ⟨[(0, .sv (ints x)), (3, .own 7), (4, .sv (int k))], [(7, .row 1 3 (fill int (.raw (.int .i64 0)) x k))]⟩) (fun k => k ≤ x.length) (fun k => x.length - k) 0 (Nat.zero_le _) (by rw [fill_zero]; exact le_sub ⟨rfl, rfl, rfl, trivial⟩ ⟨rfl, trivial⟩) (fun k J => ?_)
  refine ok_seq fun K5 h5 => ?_
  refine ok_seq fun K6 h6 => ok_region rfl (q_mv _ rfl (q_mv _ rfl (q_len eS40 rfl (q_bin _ _ _ rfl rfl rfl (run_nil (h6 _ ?_))))))
  rw [List.length_map]
  refine ok_cond rfl (fun c7 => ?_) (fun c7 => ?_)
  · refine ok_skip (h5 _ ?_)
    have hk : k < x.length := by simpa using c7
    obtain ⟨u, hu⟩ := sget hk
    refine ok_seq fun K8 h8 => ?_
    refine ok_block ?_
    refine ok_last fun K9 h9 => ok_region rfl (q_mo _ rfl (q_mv _ rfl (q_mv _ rfl (q_mv _ rfl (q_ia (s := int u) el40 rfl rfl (by omega) (mget (f := int) hu) (q_ld _ ag3 rfl rfl (q_iao el40 rfl rfl rfl (by omega) (by rw [fill_len _ _ _ J]; exact hk) (q_ste sz3 rfl rfl (fill_get _ _ _ hk) rfl (.inr rfl) rfl (run_nil (h9 _ (h8 _ ?_)))))))))))
    refine ok_region rfl (q_mv _ rfl (q_add rfl rfl (by omega) (q_as _ rfl (run_nil (⟨k + 1, by omega, hk, ?_⟩)))))
    rw [← fill_set int (.raw (.int .i64 0)) hu]
    exact le_sub ⟨rfl, rfl, rfl, trivial⟩ ⟨rfl, trivial⟩
  · refine ok_exit (h3 _ ?_)
    refine ok_seq fun K9 h9 => ok_region rfl (q_mo _ rfl (q_ao _ rfl (run_nil (h9 _ ?_))))
    refine ok_ret ⟨_, ⟨_, _, rfl, rfl, rfl⟩, ?_⟩
    rw [fill_all _ _ _ (by simpa using c7)]; rfl
theorem f26_ok (x : List Int) (hx : x.length ≤ 1048576) : PFn Tryz.prog 26 [ints x, ints x] (bool true) := by
  have hle : x.length ≤ 1048576 := hx
  refine fn_ok' (n := 26) Tryz.func26 rfl rfl rfl (Nat.le_of_ble_eq_true rfl) rfl fun w0 O => ?_
  refine ok_seq fun K1 h1 => ok_region rfl (q_as _ rfl (run_nil (h1 _ ?_)))
  refine ok_seq fun K2 h2 => ?_
  refine ok_seq fun K3 h3 => ok_region rfl (q_mv _ rfl (q_len eS40 rfl (q_mv _ rfl (q_len eS40 rfl (q_bin _ _ _ rfl rfl rfl (run_nil (h3 _ ?_)))))))
  refine ok_cond rfl (fun c4 => ?_) (fun c4 => ?_)
  · simp at c4
  · refine ok_skip (h2 _ ?_)
    refine ok_seq fun K6 h6 => ?_
    refine ok_seq fun K7 h7 => ok_region rfl (q_as _ rfl (run_nil (h7 _ ?_)))
    refine ok_block ?_
    refine ok_loop (fun (k : Nat) => ⟨[(0, .sv (ints x)), (1, .sv (ints x)), (5, .sv (int k))], []⟩) (fun k => True) (fun k => x.length - k) 0 trivial (le_same ⟨rfl, rfl, rfl, trivial⟩) (fun k J => ?_)
    refine ok_seq fun K8 h8 => ?_
    refine ok_seq fun K9 h9 => ok_region rfl (q_mv _ rfl (q_mv _ rfl (q_len eS40 rfl (q_bin _ _ _ rfl rfl rfl (run_nil (h9 _ ?_))))))
    rw [List.length_map]
    refine ok_cond rfl (fun c10 => ?_) (fun c10 => ?_)
    · refine ok_skip (h8 _ ?_)
      have hk : k < x.length := by simpa using c10
      obtain ⟨u, hu⟩ := sget hk
      refine ok_seq fun K11 h11 => ?_
      refine ok_block ?_
      refine ok_seq fun K12 h12 => ?_
      refine ok_region_i (by kernel_rfl) (by kernel_rfl) rfl (
        q_mv _ rfl (q_mv _ rfl (q_ia (s := int u) el40 rfl rfl (by omega) (mget (f := int) hu) (q_ld _ ag3 rfl rfl (q_mv _ rfl (q_mv _ rfl (q_ia (s := int u) el40 rfl rfl (by omega) (mget (f := int) hu) (q_ld _ ag3 rfl rfl (q_bin _ _ _ rfl rfl rfl (run_nil (h12 _ ?_)))))))))))
      refine ok_cond rfl (fun c13 => ?_) (fun c13 => ?_)
      · simp at c13
      · refine ok_skip (h11 _ ?_)
        refine ok_region rfl (q_mv _ rfl (q_add rfl rfl (by omega) (q_as _ rfl (run_nil (⟨k + 1, by omega, trivial, le_same ⟨rfl, rfl, rfl, trivial⟩⟩)))))
    · refine ok_exit (h6 _ ?_)
      refine ok_seq fun K15 h15 => ok_region rfl (q_as _ rfl (run_nil (h15 _ ?_)))
      exact ok_ret ⟨_, rfl, rfl⟩
structure RingNode where
  id : ByteArray
  st : Int
  toks : List Int
@[reducible] def eRingNode (x : RingNode) : SV := .agg [str x.id, int x.st, ints x.toks]
def LRingNode (x : RingNode) : Prop := LB x.id.size ∧ LB x.toks.length
def SRingNode (x : RingNode) : Prop := x.id.size ≤ 1048576 ∧ x.toks.length ≤ 1048576
theorem op_RingNode : Opens Tryz.prog 42 eRingNode (fun y => LRingNode y) :=
  op_iso (fun y : ByteArray × Int × (List Int) × Unit => (⟨y.1, y.2.1, y.2.2.1⟩ : RingNode)) (fun _ => rfl) (fun y h => ⟨h.1, h.2.2.1⟩)
    (op_struct (n := 3) Tryz.underlying42 (by kernel_rfl) (ofs_cons (f := { name := "Id", type := 9, offset := 0, embedded := false, tag := "", pkgPath := "", byteOffset := 0 }) (n := 1) (m := 2) rfl (by kernel_rfl) (fun _ => ⟨.inr rfl, rfl⟩) (op_string Tryz.underlying9) (ofs_cons (f := { name := "State", type := 3, offset := 1, embedded := false, tag := "", pkgPath := "", byteOffset := 16 }) (n := 1) (m := 1) rfl (by kernel_rfl) (fun _ => ⟨.inr rfl, rfl⟩) (op_int Tryz.underlying3) (ofs_cons (f := { name := "Tokens", type := 40, offset := 2, embedded := false, tag := "", pkgPath := "", byteOffset := 24 }) (n := 1) (m := 0) rfl (by kernel_rfl) (fun _ => ⟨.inr rfl, rfl⟩) op_IntS ofs_nil))))
def zRingNode (x : RingNode) (n : Int) : Int := (stp (fun n => take n x.id.size) ((zIntS x.toks))) n
theorem zRingNode_ok (x : RingNode) : GOk (zRingNode x) (SRingNode x) := (stp_ok (take_ok _) (zIntS_ok x.toks))
theorem f16_ok (x : RingNode) (hx : LRingNode x) (n : Int) (h0 : 0 ≤ n) (hn : n ≤ 1048576) : PFn Tryz.prog 16 [eRingNode x, int n] (int (zRingNode x n)) := by
  have e0 : zRingNode x n = (stp (fun n => take n x.id.size) ((zIntS x.toks))) n := rfl
  have a0 := h0
  have b0 := hn
  have l0 := hx.1; unfold LB at l0
  refine fn_ok' (n := 19) Tryz.func16 rfl rfl rfl (Nat.le_of_ble_eq_true rfl) rfl fun w0 O => ?_
  refine ok_seq fun K1 h1 => ok_region rfl (q_boxs _ rfl (Nat.zero_lt_succ _) (q_as _ rfl (run_nil (h1 _ ?_))))
  refine ok_seq fun K2 h2 => ok_region rfl (q_mv _ rfl (q_fa _ fd42_0 rfl rfl (by decide) (q_ld _ ag9 rfl rfl (q_lens st9 rfl (q_sub rfl rfl (by omega) (q_as _ rfl (run_nil (h2 _ ?_))))))))
  refine ok_seq fun K3 h3 => ?_
  refine ok_seq fun K4 h4 => ok_region rfl (q_mv _ rfl (q_bin _ _ _ rfl rfl rfl (run_nil (h4 _ ?_))))
  refine ok_cond rfl (fun c5 => ?_) (fun c5 => ?_)
  · refine ok_seq fun K6 h6 => ?_
    refine ok_region rfl (q_as _ rfl (run_nil (h6 _ ?_)))
    refine ok_ret ⟨_, rfl, ?_⟩
    rw [e0, stp_pos (by show take _ _ < 0; rw [take_pos (of_decide_eq_true c5)]; decide)]; rfl
  · refine ok_skip (h3 _ ?_)
    have t0 := take_neg (of_decide_eq_false c5)
    have e1 : zRingNode x n = ((zIntS x.toks)) (n - (x.id.size : Int)) := by rw [e0, stp_neg (by show ¬ take _ _ < 0; rw [t0]; exact of_decide_eq_false c5)]; exact congrArg ((zIntS x.toks)) t0
    have a1 : 0 ≤ (n - (x.id.size : Int)) := by have := of_decide_eq_false c5; omega
    have b1 : (n - (x.id.size : Int)) ≤ 1048576 := by omega
    refine ok_seq fun K7 h7 => ok_region rfl (q_fa _ fd42_2 rfl rfl (by decide) (q_ld _ ag40 rfl rfl (q_mv _ rfl (q_call (f65_ok x.toks (hx.2) _ a1 b1) cl65 rfl rfl (q_as _ rfl (run_nil (h7 _ ?_)))))))
    refine ok_seq fun K8 h8 => ?_
    refine ok_seq fun K9 h9 => ok_region rfl (q_mv _ rfl (q_bin _ _ _ rfl rfl rfl (run_nil (h9 _ ?_))))
    refine ok_cond rfl (fun c10 => ?_) (fun c10 => ?_)
    · refine ok_seq fun K11 h11 => ?_
      refine ok_region rfl (q_as _ rfl (run_nil (h11 _ ?_)))
      refine ok_ret ⟨_, rfl, ?_⟩
      rw [e1]; rw [((zIntS_ok x.toks) _ b1).2.1 (of_decide_eq_true c10)]; rfl
    · refine ok_skip (h8 _ ?_)
      refine ok_seq fun K12 h12 => ok_region rfl (q_mv _ rfl (q_as _ rfl (run_nil (h12 _ ?_))))
      refine ok_ret ⟨_, rfl, ?_⟩
      rw [e1]; rfl
theorem f18_ok (x : RingNode) (hx : SRingNode x) : PFn Tryz.prog 18 [eRingNode x] (eRingNode x) := by
  refine fnr_ok (n := 15) Tryz.func18 rfl rfl rfl (Nat.le_of_ble_eq_true rfl) rfl fun w0 O => ?_
  refine ok_seq fun K1 h1 => ok_region rfl (q_boxs _ rfl (Nat.zero_lt_succ _) (q_alloc _ ze45 rfl rfl rfl rfl (run_nil (h1 _ ?_))))
  refine ok_seq fun K2 h2 => ok_region rfl (q_alloc _ ze45 rfl rfl rfl rfl (run_nil (h2 _ ?_)))
  refine ok_seq fun K3 h3 => ok_region rfl (q_fa _ fd42_0 rfl rfl (by decide) (q_ld _ ag9 rfl rfl (q_fap fd45_0 rfl (by decide) (q_st _ sz9 rfl rfl (Nat.le_of_ble_eq_true rfl) rfl ⟨_, rfl, rfl⟩ rfl (run_nil (h3 _ ?_))))))
  refine ok_seq fun K4 h4 => ok_region rfl (q_fa _ fd42_1 rfl rfl (by decide) (q_ld _ ag3 rfl rfl (q_fap fd45_1 rfl (by decide) (q_st _ sz3 rfl rfl (Nat.le_of_ble_eq_true rfl) rfl ⟨_, rfl, rfl⟩ rfl (run_nil (h4 _ ?_))))))
  refine ok_seq fun K5 h5 => ok_region rfl (q_fa _ fd42_2 rfl rfl (by decide) (q_ld _ ag40 rfl rfl (q_call (f69_ok x.toks (hx.2)) cl69 rfl rfl (q_fap fd45_2 rfl (by decide) (q_st _ sz40 rfl rfl (Nat.le_of_ble_eq_true rfl) rfl ⟨_, rfl, rfl⟩ rfl (run_nil (h5 _ ?_)))))))
  refine ok_seq fun K6 h6 => ok_region rfl (q_ldbs ag45 rfl rfl sz45 rfl rfl (q_sts _ rfl rfl rfl sz45 (Nat.le_of_ble_eq_true rfl) rfl (run_nil (h6 _ ?_))))
  exact ok_ret (ret_cell (l := [str x.id, int x.st, ints x.toks]) rfl rfl ag45 sz45 rfl rfl)
theorem f20_ok (x : RingNode) (hx : SRingNode x) : PFn Tryz.prog 20 [eRingNode x, eRingNode x] (bool true) := by
  refine fn_ok' (n := 21) Tryz.func20 rfl rfl rfl (Nat.le_of_ble_eq_true rfl) rfl fun w0 O => ?_
  refine ok_seq fun K1 h1 => ok_region rfl (q_boxs _ rfl (Nat.zero_lt_succ _) (q_boxs _ rfl (Nat.zero_lt_succ _) (q_as _ rfl (run_nil (h1 _ ?_)))))
  refine ok_seq fun K2 h2 => ?_
  refine ok_seq fun K3 h3 => ok_region rfl (q_fa _ fd45_0 rfl rfl (by decide) (q_ld _ ag9 rfl rfl (q_fa _ fd45_0 rfl rfl (by decide) (q_ld _ ag9 rfl rfl (q_bin _ _ _ rfl rfl rfl (run_nil (h3 _ ?_)))))))
  refine ok_cond rfl (fun c4 => ?_) (fun c4 => ?_)
  · simp at c4
  · refine ok_skip (h2 _ ?_)
    refine ok_seq fun K6 h6 => ?_
    refine ok_seq fun K7 h7 => ok_region rfl (q_fa _ fd45_1 rfl rfl (by decide) (q_ld _ ag3 rfl rfl (q_fa _ fd45_1 rfl rfl (by decide) (q_ld _ ag3 rfl rfl (q_bin _ _ _ rfl rfl rfl (run_nil (h7 _ ?_)))))))
    refine ok_cond rfl (fun c8 => ?_) (fun c8 => ?_)
    · simp at c8
    · refine ok_skip (h6 _ ?_)
      refine ok_seq fun K10 h10 => ?_
      refine ok_seq fun K11 h11 => ok_region rfl (q_fa _ fd45_2 rfl rfl (by decide) (q_ld _ ag40 rfl rfl (q_fa _ fd45_2 rfl rfl (by decide) (q_ld _ ag40 rfl rfl (q_call (f26_ok x.toks (hx.2)) cl26 rfl rfl (q_un _ _ rfl rfl (run_nil (h11 _ ?_))))))))
      refine ok_cond rfl (fun c12 => ?_) (fun c12 => ?_)
      · simp at c12
      · refine ok_skip (h10 _ ?_)
        refine ok_seq fun K14 h14 => ok_region rfl (q_as _ rfl (run_nil (h14 _ ?_)))
        exact ok_ret ⟨_, rfl, rfl⟩
@[reducible] def eRingNodeS (l : List RingNode) : SV := .sl 3 (l.map eRingNode)
theorem op_RingNodeS : Opens Tryz.prog 22 eRingNodeS (fun y => LB y.length ∧ ∀ z ∈ y, LRingNode z) :=
  op_iso (fun y : List RingNode => y) (fun _ => rfl) (fun y h => h) (op_slice (n := 3) Tryz.underlying22 (by kernel_rfl) (by decide) (fun _ => ⟨.inl ⟨_, rfl⟩, rfl⟩) op_RingNode)
def zRingNodeS (x : List RingNode) (n : Int) : Int := szSl zRingNode x n
theorem zRingNodeS_ok (x : List RingNode) : GOk (zRingNodeS x) (x.length ≤ 1048576 ∧ ∀ y ∈ x, SRingNode y) := szSl_ok zRingNode_ok x
theorem f122_ok (x : List RingNode) (hx : LB x.length ∧ ∀ y ∈ x, LRingNode y) (n : Int) (h0 : 0 ≤ n) (hn : n ≤ 1048576) : PFn Tryz.prog 122 [eRingNodeS x, int n] (int (zRingNodeS x n)) := by
  have hx1 := hx.1
  unfold LB at hx1
  refine fn_ok' (n := 27) Tryz.func122 rfl rfl rfl (Nat.le_of_ble_eq_true rfl) rfl fun w0 O => ?_
  refine ok_seq fun K1 h1 => ok_region rfl (q_as _ rfl (run_nil (h1 _ ?_)))
  refine ok_seq fun K2 h2 => ok_region rfl (q_mv _ rfl (q_mv _ rfl (q_len eS22 rfl (q_sub rfl rfl (by rw [List.length_map]; omega) (q_as _ rfl (run_nil (h2 _ ?_)))))))
  rw [List.length_map]
  refine ok_seq fun K3 h3 => ?_
  refine ok_seq fun K4 h4 => ok_region rfl (q_mv _ rfl (q_bin _ _ _ rfl rfl rfl (run_nil (h4 _ ?_))))
  refine ok_cond rfl (fun c5 => ?_) (fun c5 => ?_)
  · refine ok_seq fun K6 h6 => ?_
    refine ok_region rfl (q_as _ rfl (run_nil (h6 _ ?_)))
    refine ok_ret ⟨_, rfl, ?_⟩
    rw [zRingNodeS, szSl_pos (of_decide_eq_true c5)]; rfl
  · refine ok_skip (h3 _ ?_)
    refine ok_seq fun K7 h7 => ?_
    refine ok_seq fun K8 h8 => ok_region rfl (q_as _ rfl (run_nil (h8 _ ?_)))
    refine ok_block ?_
    refine ok_loop (fun (s : Nat × Int) => ⟨[(0, .sv (eRingNodeS x)), (1, .sv (int s.2)), (5, .sv (int s.1))], []⟩) (fun s => 0 ≤ s.2 ∧ s.2 ≤ 1048576 ∧ szAll zRingNode (x.drop s.1) s.2 = zRingNodeS x n) (fun s => x.length - s.1) (0, n - x.length) ⟨by have := of_decide_eq_false c5; simp only; omega, by simp only; omega, by simp only [List.drop_zero]; rw [zRingNodeS, szSl_neg (of_decide_eq_false c5)]⟩ (le_same ⟨rfl, rfl, rfl, trivial⟩) (fun s J => ?_)
    obtain ⟨k, a⟩ := s
    obtain ⟨J1, J2, J3⟩ := J
    simp only at J1 J2 J3
    refine ok_seq fun K9 h9 => ?_
    refine ok_seq fun K10 h10 => ok_region rfl (q_mv _ rfl (q_mv _ rfl (q_len eS22 rfl (q_bin _ _ _ rfl rfl rfl (run_nil (h10 _ ?_))))))
    rw [List.length_map]
    refine ok_cond rfl (fun c11 => ?_) (fun c11 => ?_)
    · refine ok_skip (h9 _ ?_)
      obtain ⟨u, hu⟩ := sget (l := x) (i := k) (by simpa using c11)
      rw [szAll_cons _ hu] at J3
      refine ok_seq fun K12 h12 => ?_
      refine ok_block ?_
      refine ok_seq fun K13 h13 => ok_region rfl (q_mv _ rfl (q_mv _ rfl (q_ia el22 rfl rfl (by omega) (mget hu) (q_lds _ ag42 rfl sz42 (q_mv _ rfl (q_call (f16_ok u (hx.2 u (smem hu)) a J1 J2) cl16 rfl rfl (q_as _ rfl (run_nil (h13 _ ?_)))))))))
      refine ok_seq fun K14 h14 => ok_region rfl (q_mv _ rfl (q_bin _ _ _ rfl rfl rfl (run_nil (h14 _ ?_))))
      refine ok_cond rfl (fun c15 => ?_) (fun c15 => ?_)
      · refine ok_seq fun K16 h16 => ?_
        refine ok_region rfl (q_as _ rfl (run_nil (h16 _ ?_)))
        refine ok_ret ⟨_, rfl, ?_⟩
        rw [if_pos (of_decide_eq_true c15)] at J3; rw [← J3]; rfl
      · refine ok_skip (h12 _ ?_)
        refine ok_region rfl (q_mv _ rfl (q_add rfl rfl (by have := slt hu; have := hx.1; unfold LB at this; omega) (q_as _ rfl (run_nil (⟨(k + 1, zRingNode u a), by have := slt hu; simp only; omega, ⟨by have := of_decide_eq_false c15; simp only; omega, (zRingNode_ok u a J2).1, by rw [if_neg (of_decide_eq_false c15)] at J3; exact J3⟩, le_same ⟨rfl, rfl, rfl, trivial⟩⟩)))))
    · refine ok_exit (h7 _ ?_)
      refine ok_seq fun K17 h17 => ok_region rfl (q_mv _ rfl (q_as _ rfl (run_nil (h17 _ ?_))))
      refine ok_ret ⟨_, rfl, ?_⟩
      rw [szAll_end _ (by simpa using c11)] at J3; rw [← J3]; rfl
theorem f127_ok (x : List RingNode) (hx : x.length ≤ 1048576 ∧ ∀ y ∈ x, SRingNode y) : PFn Tryz.prog 127 [eRingNodeS x] (eRingNodeS x) := by
  have hle : x.length ≤ 1048576 := hx.1
  refine fnr_ok (n := 23) Tryz.func127 rfl rfl rfl (Nat.le_of_ble_eq_true rfl) rfl fun w0 O => ?_
  refine ok_seq fun K1 h1 => ok_region rfl (q_as _ rfl (run_nil (h1 _ ?_)))
  refine ok_seq fun K2 h2 => ok_region rfl (q_mv _ rfl (q_len eS22 rfl (q_make _ _ el29 (by decide) ze45 rfl by45 rfl rfl rfl rfl (.inl ⟨rfl, rfl, rfl⟩) (by rw [List.length_map]; exact Nat.le_trans hle (by decide)) (by rw [List.length_map]; omega) (q_ao _ rfl (run_nil (h2 _ ?_))))))
  rw [List.length_map]
  refine ok_seq fun K3 h3 => ?_
  refine ok_seq fun K4 h4 => ok_region rfl (q_as _ rfl (run_nil (h4 _ ?_)))
  refine ok_block ?_
  refine ok_loop (fun (k : Nat) => ⟨[(0, .sv (eRingNodeS x)), (3, .own 7), (4, .sv (int k))], [(7, .row 3 45 (fill eRingNode (.agg [.raw (.string ⟨#[]⟩), .raw (.int .i64 0), .raw (.slice none 0 0)]) x k))]⟩) (fun k => k ≤ x.length) (fun k => x.length - k) 0 (Nat.zero_le _) (by rw [fill_zero]; exact le_sub ⟨rfl, rfl, rfl, trivial⟩ ⟨rfl, trivial⟩) (fun k J => ?_)
  refine ok_seq fun K5 h5 => ?_
  refine ok_seq fun K6 h6 => ok_region rfl (q_mv _ rfl (q_mv _ rfl (q_len eS22 rfl (q_bin _ _ _ rfl rfl rfl (run_nil (h6 _ ?_))))))
  rw [List.length_map]
  refine ok_cond rfl (fun c7 => ?_) (fun c7 => ?_)
  · refine ok_skip (h5 _ ?_)
    have hk : k < x.length := by simpa using c7
    obtain ⟨u, hu⟩ := sget hk
    refine ok_seq fun K8 h8 => ?_
    refine ok_block ?_
    refine ok_last fun K9 h9 => ok_region rfl (q_mo _ rfl (q_mv _ rfl (q_mv _ rfl (q_mv _ rfl (q_ia el22 rfl rfl (by omega) (mget hu) (q_lds _ ag42 rfl sz42 (q_call (f18_ok u (hx.2 u (smem hu))) cl18 rfl rfl (q_iao el29 rfl rfl rfl (by omega) (by rw [fill_len _ _ _ J]; exact hk) (
      q_ste sz45 rfl rfl (fill_get _ _ _ hk) rfl (.inl ⟨_, rfl⟩) rfl (run_nil (h9 _ (h8 _ ?_))))))))))))
    refine ok_region rfl (q_mv _ rfl (q_add rfl rfl (by omega) (q_as _ rfl (run_nil (⟨k + 1, by omega, hk, ?_⟩)))))
    rw [← fill_set eRingNode (.agg [.raw (.string ⟨#[]⟩), .raw (.int .i64 0), .raw (.slice none 0 0)]) hu]
    exact le_sub ⟨rfl, rfl, rfl, trivial⟩ ⟨rfl, trivial⟩
  · refine ok_exit (h3 _ ?_)
    refine ok_seq fun K9 h9 => ok_region rfl (q_mo _ rfl (q_ao _ rfl (run_nil (h9 _ ?_))))
    refine ok_ret ⟨_, ⟨_, _, rfl, rfl, rfl⟩, ?_⟩
    rw [fill_all _ _ _ (by simpa using c7)]; rfl
theorem f137_ok (x : List RingNode) (hx : x.length ≤ 1048576 ∧ ∀ y ∈ x, SRingNode y) : PFn Tryz.prog 137 [eRingNodeS x, eRingNodeS x] (bool true) := by
  have hle : x.length ≤ 1048576 := hx.1
  refine fn_ok' (n := 27) Tryz.func137 rfl rfl rfl (Nat.le_of_ble_eq_true rfl) rfl fun w0 O => ?_
  refine ok_seq fun K1 h1 => ok_region rfl (q_as _ rfl (run_nil (h1 _ ?_)))
  refine ok_seq fun K2 h2 => ?_
  refine ok_seq fun K3 h3 => ok_region rfl (q_mv _ rfl (q_len eS29 rfl (q_mv _ rfl (q_len eS29 rfl (q_bin _ _ _ rfl rfl rfl (run_nil (h3 _ ?_)))))))
  refine ok_cond rfl (fun c4 => ?_) (fun c4 => ?_)
  · simp at c4
  · refine ok_skip (h2 _ ?_)
    refine ok_seq fun K6 h6 => ?_
    refine ok_seq fun K7 h7 => ok_region rfl (q_as _ rfl (run_nil (h7 _ ?_)))
    refine ok_block ?_
    refine ok_loop (fun (k : Nat) => ⟨[(0, .sv (eRingNodeS x)), (1, .sv (eRingNodeS x)), (5, .sv (int k))], []⟩) (fun k => True) (fun k => x.length - k) 0 trivial (le_same ⟨rfl, rfl, rfl, trivial⟩) (fun k J => ?_)
    refine ok_seq fun K8 h8 => ?_
    refine ok_seq fun K9 h9 => ok_region rfl (q_mv _ rfl (q_mv _ rfl (q_len eS29 rfl (q_bin _ _ _ rfl rfl rfl (run_nil (h9 _ ?_))))))
    rw [List.length_map]
    refine ok_cond rfl (fun c10 => ?_) (fun c10 => ?_)
    · refine ok_skip (h8 _ ?_)
      have hk : k < x.length := by simpa using c10
      obtain ⟨u, hu⟩ := sget hk
      refine ok_seq fun K11 h11 => ?_
      refine ok_block ?_
      refine ok_seq fun K12 h12 => ?_
      refine ok_region_i (by kernel_rfl) (by kernel_rfl) rfl (
        q_mv _ rfl (q_mv _ rfl (q_ia el29 rfl rfl (by omega) (mget hu) (q_lds _ ag45 rfl sz45 (q_mv _ rfl (q_mv _ rfl (q_ia el29 rfl rfl (by omega) (mget hu) (q_lds _ ag45 rfl sz45 (
        q_call (f20_ok u (hx.2 u (smem hu))) cl20 rfl rfl (q_un _ _ rfl rfl (run_nil (h12 _ ?_))))))))))))
      refine ok_cond rfl (fun c13 => ?_) (fun c13 => ?_)
      · simp at c13
      · refine ok_skip (h11 _ ?_)
        refine ok_region rfl (q_mv _ rfl (q_add rfl rfl (by omega) (q_as _ rfl (run_nil (⟨k + 1, by omega, trivial, le_same ⟨rfl, rfl, rfl, trivial⟩⟩)))))
    · refine ok_exit (h6 _ ?_)
      refine ok_seq fun K15 h15 => ok_region rfl (q_as _ rfl (run_nil (h15 _ ?_)))
      exact ok_ret ⟨_, rfl, rfl⟩
structure Ring where
  copies : Int
  nodes : List RingNode
@[reducible] def eRing (x : Ring) : SV := .agg [int x.copies, eRingNodeS x.nodes]
def LRing (x : Ring) : Prop := LB x.nodes.length ∧ ∀ y ∈ x.nodes, LRingNode y
def SRing (x : Ring) : Prop := x.nodes.length ≤ 1048576 ∧ ∀ y ∈ x.nodes, SRingNode y
theorem op_Ring : Opens Tryz.prog 24 eRing (fun y => LRing y) :=
  op_iso (fun y : Int × (List RingNode) × Unit => (⟨y.1, y.2.1⟩ : Ring)) (fun _ => rfl) (fun y h => h.2.1)
    (op_struct (n := 2) Tryz.underlying24 (by kernel_rfl) (ofs_cons (f := { name := "Copies", type := 3, offset := 0, embedded := false, tag := "", pkgPath := "", byteOffset := 0 }) (n := 1) (m := 1) rfl (by kernel_rfl) (fun _ => ⟨.inr rfl, rfl⟩) (op_int Tryz.underlying3) (ofs_cons (f := { name := "Nodes", type := 22, offset := 1, embedded := false, tag := "", pkgPath := "", byteOffset := 8 }) (n := 1) (m := 0) rfl (by kernel_rfl) (fun _ => ⟨.inr rfl, rfl⟩) op_RingNodeS ofs_nil)))
def zRing (x : Ring) (n : Int) : Int := ((zRingNodeS x.nodes)) n
theorem zRing_ok (x : Ring) : GOk (zRing x) (SRing x) := (zRingNodeS_ok x.nodes)
theorem f50_ok (x : Ring) (hx : LRing x) (n : Int) (h0 : 0 ≤ n) (hn : n ≤ 1048576) : PFn Tryz.prog 50 [eRing x, int n] (int (zRing x n)) := by
  have e0 : zRing x n = ((zRingNodeS x.nodes)) n := rfl
  have a0 := h0
  have b0 := hn
  refine fn_ok' (n := 12) Tryz.func50 rfl rfl rfl (Nat.le_of_ble_eq_true rfl) rfl fun w0 O => ?_
  refine ok_seq fun K1 h1 => ok_region rfl (q_boxs _ rfl (Nat.zero_lt_succ _) (q_as _ rfl (run_nil (h1 _ ?_))))
  refine ok_seq fun K2 h2 => ok_region rfl (q_fa _ fd24_1 rfl rfl (by decide) (q_ld _ ag22 rfl rfl (q_mv _ rfl (q_call (f122_ok x.nodes (hx) _ a0 b0) cl122 rfl rfl (q_as _ rfl (run_nil (h2 _ ?_)))))))
  refine ok_seq fun K3 h3 => ?_
  refine ok_seq fun K4 h4 => ok_region rfl (q_mv _ rfl (q_bin _ _ _ rfl rfl rfl (run_nil (h4 _ ?_))))
  refine ok_cond rfl (fun c5 => ?_) (fun c5 => ?_)
  · refine ok_seq fun K6 h6 => ?_
    refine ok_region rfl (q_as _ rfl (run_nil (h6 _ ?_)))
    refine ok_ret ⟨_, rfl, ?_⟩
    rw [e0]; rw [((zRingNodeS_ok x.nodes) _ b0).2.1 (of_decide_eq_true c5)]; rfl
  · refine ok_skip (h3 _ ?_)
    refine ok_seq fun K7 h7 => ok_region rfl (q_mv _ rfl (q_as _ rfl (run_nil (h7 _ ?_))))
    refine ok_ret ⟨_, rfl, ?_⟩
    rw [e0]; rfl
theorem f54_ok (x : Ring) (hx : SRing x) : PFn Tryz.prog 54 [eRing x] (eRing x) := by
  refine fnr_ok (n := 12) Tryz.func54 rfl rfl rfl (Nat.le_of_ble_eq_true rfl) rfl fun w0 O => ?_
  refine ok_seq fun K1 h1 => ok_region rfl (q_boxs _ rfl (Nat.zero_lt_succ _) (q_alloc _ ze31 rfl rfl rfl rfl (run_nil (h1 _ ?_))))
  refine ok_seq fun K2 h2 => ok_region rfl (q_alloc _ ze31 rfl rfl rfl rfl (run_nil (h2 _ ?_)))
  refine ok_seq fun K3 h3 => ok_region rfl (q_fa _ fd24_0 rfl rfl (by decide) (q_ld _ ag3 rfl rfl (q_fap fd31_0 rfl (by decide) (q_st _ sz3 rfl rfl (Nat.le_of_ble_eq_true rfl) rfl ⟨_, rfl, rfl⟩ rfl (run_nil (h3 _ ?_))))))
  refine ok_seq fun K4 h4 => ok_region rfl (q_fa _ fd24_1 rfl rfl (by decide) (q_ld _ ag22 rfl rfl (q_call (f127_ok x.nodes (hx)) cl127 rfl rfl (q_fap fd31_1 rfl (by decide) (q_st _ sz29 rfl rfl (Nat.le_of_ble_eq_true rfl) rfl ⟨_, rfl, rfl⟩ rfl (run_nil (h4 _ ?_)))))))
  refine ok_seq fun K5 h5 => ok_region rfl (q_ldbs ag31 rfl rfl sz31 rfl rfl (q_sts _ rfl rfl rfl sz31 (Nat.le_of_ble_eq_true rfl) rfl (run_nil (h5 _ ?_))))
  exact ok_ret (ret_cell (l := [int x.copies, eRingNodeS x.nodes]) rfl rfl ag31 sz31 rfl rfl)
theorem f59_ok (x : Ring) (hx : SRing x) : PFn Tryz.prog 59 [eRing x, eRing x] (bool true) := by
  refine fn_ok' (n := 16) Tryz.func59 rfl rfl rfl (Nat.le_of_ble_eq_true rfl) rfl fun w0 O => ?_
  refine ok_seq fun K1 h1 => ok_region rfl (q_boxs _ rfl (Nat.zero_lt_succ _) (q_boxs _ rfl (Nat.zero_lt_succ _) (q_as _ rfl (run_nil (h1 _ ?_)))))
  refine ok_seq fun K2 h2 => ?_
  refine ok_seq fun K3 h3 => ok_region rfl (q_fa _ fd31_0 rfl rfl (by decide) (q_ld _ ag3 rfl rfl (q_fa _ fd31_0 rfl rfl (by decide) (q_ld _ ag3 rfl rfl (q_bin _ _ _ rfl rfl rfl (run_nil (h3 _ ?_)))))))
  refine ok_cond rfl (fun c4 => ?_) (fun c4 => ?_)
  · simp at c4
  · refine ok_skip (h2 _ ?_)
    refine ok_seq fun K6 h6 => ?_
    refine ok_seq fun K7 h7 => ok_region rfl (q_fa _ fd31_1 rfl rfl (by decide) (q_ld _ ag29 rfl rfl (q_fa _ fd31_1 rfl rfl (by decide) (q_ld _ ag29 rfl rfl (q_call (f137_ok x.nodes (hx)) cl137 rfl rfl (q_un _ _ rfl rfl (run_nil (h7 _ ?_))))))))
    refine ok_cond rfl (fun c8 => ?_) (fun c8 => ?_)
    · simp at c8
    · refine ok_skip (h6 _ ?_)
      refine ok_seq fun K10 h10 => ok_region rfl (q_as _ rfl (run_nil (h10 _ ?_)))
      exact ok_ret ⟨_, rfl, rfl⟩
structure Label where
  name : ByteArray
  value : ByteArray
@[reducible] def eLabel (x : Label) : SV := .agg [str x.name, str x.value]
def LLabel (x : Label) : Prop := LB x.name.size ∧ LB x.value.size
def SLabel (x : Label) : Prop := x.name.size ≤ 1048576 ∧ x.value.size ≤ 1048576
theorem op_Label : Opens Tryz.prog 213 eLabel (fun y => LLabel y) :=
  op_iso (fun y : ByteArray × ByteArray × Unit => (⟨y.1, y.2.1⟩ : Label)) (fun _ => rfl) (fun y h => ⟨h.1, h.2.1⟩)
    (op_struct (n := 2) Tryz.underlying213 (by kernel_rfl) (ofs_cons (f := { name := "Name", type := 9, offset := 0, embedded := false, tag := "", pkgPath := "", byteOffset := 0 }) (n := 1) (m := 1) rfl (by kernel_rfl) (fun _ => ⟨.inr rfl, rfl⟩) (op_string Tryz.underlying9) (ofs_cons (f := { name := "Value", type := 9, offset := 1, embedded := false, tag := "", pkgPath := "", byteOffset := 16 }) (n := 1) (m := 0) rfl (by kernel_rfl) (fun _ => ⟨.inr rfl, rfl⟩) (op_string Tryz.underlying9) ofs_nil)))
def zLabel (x : Label) (n : Int) : Int := (stp (fun n => take n x.name.size) ((fun n => take n x.value.size))) n
theorem zLabel_ok (x : Label) : GOk (zLabel x) (SLabel x) := (stp_ok (take_ok _) (take_ok _))
theorem f202_ok (x : Label) (hx : LLabel x) (n : Int) (h0 : 0 ≤ n) (hn : n ≤ 1048576) : PFn Tryz.prog 202 [eLabel x, int n] (int (zLabel x n)) := by
  have e0 : zLabel x n = (stp (fun n => take n x.name.size) ((fun n => take n x.value.size))) n := rfl
  have a0 := h0
  have b0 := hn
  have l0 := hx.1; unfold LB at l0
  have l1 := hx.2; unfold LB at l1
  refine fn_ok' (n := 20) Tryz.func202 rfl rfl rfl (Nat.le_of_ble_eq_true rfl) rfl fun w0 O => ?_
  refine ok_seq fun K1 h1 => ok_region rfl (q_boxs _ rfl (Nat.zero_lt_succ _) (q_as _ rfl (run_nil (h1 _ ?_))))
  refine ok_seq fun K2 h2 => ok_region rfl (q_mv _ rfl (q_fa _ fd213_0 rfl rfl (by decide) (q_ld _ ag9 rfl rfl (q_lens st9 rfl (q_sub rfl rfl (by omega) (q_as _ rfl (run_nil (h2 _ ?_))))))))
  refine ok_seq fun K3 h3 => ?_
  refine ok_seq fun K4 h4 => ok_region rfl (q_mv _ rfl (q_bin _ _ _ rfl rfl rfl (run_nil (h4 _ ?_))))
  refine ok_cond rfl (fun c5 => ?_) (fun c5 => ?_)
  · refine ok_seq fun K6 h6 => ?_
    refine ok_region rfl (q_as _ rfl (run_nil (h6 _ ?_)))
    refine ok_ret ⟨_, rfl, ?_⟩
    rw [e0, stp_pos (by show take _ _ < 0; rw [take_pos (of_decide_eq_true c5)]; decide)]; rfl
  · refine ok_skip (h3 _ ?_)
    have t0 := take_neg (of_decide_eq_false c5)
    have e1 : zLabel x n = ((fun n => take n x.value.size)) (n - (x.name.size : Int)) := by rw [e0, stp_neg (by show ¬ take _ _ < 0; rw [t0]; exact of_decide_eq_false c5)]; exact congrArg ((fun n => take n x.value.size)) t0
    have a1 : 0 ≤ (n - (x.name.size : Int)) := by have := of_decide_eq_false c5; omega
    have b1 : (n - (x.name.size : Int)) ≤ 1048576 := by omega
    refine ok_seq fun K7 h7 => ok_region rfl (q_mv _ rfl (q_fa _ fd213_1 rfl rfl (by decide) (q_ld _ ag9 rfl rfl (q_lens st9 rfl (q_sub rfl rfl (by omega) (q_as _ rfl (run_nil (h7 _ ?_))))))))
    refine ok_seq fun K8 h8 => ?_
    refine ok_seq fun K9 h9 => ok_region rfl (q_mv _ rfl (q_bin _ _ _ rfl rfl rfl (run_nil (h9 _ ?_))))
    refine ok_cond rfl (fun c10 => ?_) (fun c10 => ?_)
    · refine ok_seq fun K11 h11 => ?_
      refine ok_region rfl (q_as _ rfl (run_nil (h11 _ ?_)))
      refine ok_ret ⟨_, rfl, ?_⟩
      rw [e1]; show _ = int (take _ _); rw [take_pos (of_decide_eq_true c10)]; rfl
    · refine ok_skip (h8 _ ?_)
      refine ok_seq fun K12 h12 => ok_region rfl (q_mv _ rfl (q_as _ rfl (run_nil (h12 _ ?_))))
      refine ok_ret ⟨_, rfl, ?_⟩
      rw [e1]; show _ = int (take _ _); rw [take_neg (of_decide_eq_false c10)]; rfl
theorem f207_ok (x : Label) (hx : SLabel x) : PFn Tryz.prog 207 [eLabel x] (eLabel x) := by
  refine fnr_ok (n := 11) Tryz.func207 rfl rfl rfl (Nat.le_of_ble_eq_true rfl) rfl fun w0 O => ?_
  refine ok_seq fun K1 h1 => ok_region rfl (q_boxs _ rfl (Nat.zero_lt_succ _) (q_alloc _ ze190 rfl rfl rfl rfl (run_nil (h1 _ ?_))))
  refine ok_seq fun K2 h2 => ok_region rfl (q_alloc _ ze190 rfl rfl rfl rfl (run_nil (h2 _ ?_)))
  refine ok_seq fun K3 h3 => ok_region rfl (q_fa _ fd213_0 rfl rfl (by decide) (q_ld _ ag9 rfl rfl (q_fap fd190_0 rfl (by decide) (q_st _ sz9 rfl rfl (Nat.le_of_ble_eq_true rfl) rfl ⟨_, rfl, rfl⟩ rfl (run_nil (h3 _ ?_))))))
  refine ok_seq fun K4 h4 => ok_region rfl (q_fa _ fd213_1 rfl rfl (by decide) (q_ld _ ag9 rfl rfl (q_fap fd190_1 rfl (by decide) (q_st _ sz9 rfl rfl (Nat.le_of_ble_eq_true rfl) rfl ⟨_, rfl, rfl⟩ rfl (run_nil (h4 _ ?_))))))
  refine ok_seq fun K5 h5 => ok_region rfl (q_ldbs ag190 rfl rfl sz190 rfl rfl (q_sts _ rfl rfl rfl sz190 (Nat.le_of_ble_eq_true rfl) rfl (run_nil (h5 _ ?_))))
  exact ok_ret (ret_cell (l := [str x.name, str x.value]) rfl rfl ag190 sz190 rfl rfl)
theorem f221_ok (x : Label) (hx : SLabel x) : PFn Tryz.prog 221 [eLabel x, eLabel x] (bool true) := by
  refine fn_ok' (n := 15) Tryz.func221 rfl rfl rfl (Nat.le_of_ble_eq_true rfl) rfl fun w0 O => ?_
  refine ok_seq fun K1 h1 => ok_region rfl (q_boxs _ rfl (Nat.zero_lt_succ _) (q_boxs _ rfl (Nat.zero_lt_succ _) (q_as _ rfl (run_nil (h1 _ ?_)))))
  refine ok_seq fun K2 h2 => ?_
  refine ok_seq fun K3 h3 => ok_region rfl (q_fa _ fd190_0 rfl rfl (by decide) (q_ld _ ag9 rfl rfl (q_fa _ fd190_0 rfl rfl (by decide) (q_ld _ ag9 rfl rfl (q_bin _ _ _ rfl rfl rfl (run_nil (h3 _ ?_)))))))
  refine ok_cond rfl (fun c4 => ?_) (fun c4 => ?_)
  · simp at c4
  · refine ok_skip (h2 _ ?_)
    refine ok_seq fun K6 h6 => ?_
    refine ok_seq fun K7 h7 => ok_region rfl (q_fa _ fd190_1 rfl rfl (by decide) (q_ld _ ag9 rfl rfl (q_fa _ fd190_1 rfl rfl (by decide) (q_ld _ ag9 rfl rfl (q_bin _ _ _ rfl rfl rfl (run_nil (h7 _ ?_)))))))
    refine ok_cond rfl (fun c8 => ?_) (fun c8 => ?_)
    · simp at c8
    · refine ok_skip (h6 _ ?_)
      refine ok_seq fun K10 h10 => ok_region rfl (q_as _ rfl (run_nil (h10 _ ?_)))
      exact ok_ret ⟨_, rfl, rfl⟩
@[reducible] def eLabelS (l : List Label) : SV := .sl 2 (l.map eLabel)
theorem op_LabelS : Opens Tryz.prog 108 eLabelS (fun y => LB y.length ∧ ∀ z ∈ y, LLabel z) :=
  op_iso (fun y : List Label => y) (fun _ => rfl) (fun y h => h) (op_slice (n := 2) Tryz.underlying108 (by kernel_rfl) (by decide) (fun _ => ⟨.inl ⟨_, rfl⟩, rfl⟩) op_Label)
def zLabelS (x : List Label) (n : Int) : Int := szSl zLabel x n
theorem zLabelS_ok (x : List Label) : GOk (zLabelS x) (x.length ≤ 1048576 ∧ ∀ y ∈ x, SLabel y) := szSl_ok zLabel_ok x
theorem f147_ok (x : List Label) (hx : LB x.length ∧ ∀ y ∈ x, LLabel y) (n : Int) (h0 : 0 ≤ n) (hn : n ≤ 1048576) : PFn Tryz.prog 147 [eLabelS x, int n] (int (zLabelS x n)) := by
  have hx1 := hx.1
  unfold LB at hx1
  refine fn_ok' (n := 27) Tryz.func147 rfl rfl rfl (Nat.le_of_ble_eq_true rfl) rfl fun w0 O => ?_
  refine ok_seq fun K1 h1 => ok_region rfl (q_as _ rfl (run_nil (h1 _ ?_)))
  refine ok_seq fun K2 h2 => ok_region rfl (q_mv _ rfl (q_mv _ rfl (q_len eS108 rfl (q_sub rfl rfl (by rw [List.length_map]; omega) (q_as _ rfl (run_nil (h2 _ ?_)))))))
  rw [List.length_map]
  refine ok_seq fun K3 h3 => ?_
  refine ok_seq fun K4 h4 => ok_region rfl (q_mv _ rfl (q_bin _ _ _ rfl rfl rfl (run_nil (h4 _ ?_))))
  refine ok_cond rfl (fun c5 => ?_) (fun c5 => ?_)
  · refine ok_seq fun K6 h6 => ?_
    refine ok_region rfl (q_as _ rfl (run_nil (h6 _ ?_)))
    refine ok_ret ⟨_, rfl, ?_⟩
    rw [zLabelS, szSl_pos (of_decide_eq_true c5)]; rfl
  · refine ok_skip (h3 _ ?_)
    refine ok_seq fun K7 h7 => ?_
    refine ok_seq fun K8 h8 => ok_region rfl (q_as _ rfl (run_nil (h8 _ ?_)))
    refine ok_block ?_
    refine ok_loop (fun (s : Nat × Int) => ⟨[(0, .sv (eLabelS x)), (1, .sv (int s.2)), (5, .sv (int s.1))], []⟩) (fun s => 0 ≤ s.2 ∧ s.2 ≤ 1048576 ∧ szAll zLabel (x.drop s.1) s.2 = zLabelS x n) (fun s => x.length - s.1) (0, n - x.length) ⟨by have := of_decide_eq_false c5; simp only; omega, by simp only; omega, by simp only [List.drop_zero]; rw [zLabelS, szSl_neg (of_decide_eq_false c5)]⟩ (le_same ⟨rfl, rfl, rfl, trivial⟩) (fun s J => ?_)
    obtain ⟨k, a⟩ := s
    obtain ⟨J1, J2, J3⟩ := J
    simp only at J1 J2 J3
    refine ok_seq fun K9 h9 => ?_
    refine ok_seq fun K10 h10 => ok_region rfl (q_mv _ rfl (q_mv _ rfl (q_len eS108 rfl (q_bin _ _ _ rfl rfl rfl (run_nil (h10 _ ?_))))))
    rw [List.length_map]
    refine ok_cond rfl (fun c11 => ?_) (fun c11 => ?_)
    · refine ok_skip (h9 _ ?_)
      obtain ⟨u, hu⟩ := sget (l := x) (i := k) (by simpa using c11)
      rw [szAll_cons _ hu] at J3
      refine ok_seq fun K12 h12 => ?_
      refine ok_block ?_
      refine ok_seq fun K13 h13 => ok_region rfl (q_mv _ rfl (q_mv _ rfl (q_ia el108 rfl rfl (by omega) (mget hu) (q_lds _ ag213 rfl sz213 (q_mv _ rfl (q_call (f202_ok u (hx.2 u (smem hu)) a J1 J2) cl202 rfl rfl (q_as _ rfl (run_nil (h13 _ ?_)))))))))
      refine ok_seq fun K14 h14 => ok_region rfl (q_mv _ rfl (q_bin _ _ _ rfl rfl rfl (run_nil (h14 _ ?_))))
      refine ok_cond rfl (fun c15 => ?_) (fun c15 => ?_)
      · refine ok_seq fun K16 h16 => ?_
        refine ok_region rfl (q_as _ rfl (run_nil (h16 _ ?_)))
        refine ok_ret ⟨_, rfl, ?_⟩
        rw [if_pos (of_decide_eq_true c15)] at J3; rw [← J3]; rfl
      · refine ok_skip (h12 _ ?_)
        refine ok_region rfl (q_mv _ rfl (q_add rfl rfl (by have := slt hu; have := hx.1; unfold LB at this; omega) (q_as _ rfl (run_nil (⟨(k + 1, zLabel u a), by have := slt hu; simp only; omega, ⟨by have := of_decide_eq_false c15; simp only; omega, (zLabel_ok u a J2).1, by rw [if_neg (of_decide_eq_false c15)] at J3; exact J3⟩, le_same ⟨rfl, rfl, rfl, trivial⟩⟩)))))
    · refine ok_exit (h7 _ ?_)
      refine ok_seq fun K17 h17 => ok_region rfl (q_mv _ rfl (q_as _ rfl (run_nil (h17 _ ?_))))
      refine ok_ret ⟨_, rfl, ?_⟩
      rw [szAll_end _ (by simpa using c11)] at J3; rw [← J3]; rfl
theorem f154_ok (x : List Label) (hx : x.length ≤ 1048576 ∧ ∀ y ∈ x, SLabel y) : PFn Tryz.prog 154 [eLabelS x] (eLabelS x) := by
  have hle : x.length ≤ 1048576 := hx.1
  refine fnr_ok (n := 23) Tryz.func154 rfl rfl rfl (Nat.le_of_ble_eq_true rfl) rfl fun w0 O => ?_
  refine ok_seq fun K1 h1 => ok_region rfl (q_as _ rfl (run_nil (h1 _ ?_)))
  refine ok_seq fun K2 h2 => ok_region rfl (q_mv _ rfl (q_len eS108 rfl (q_make _ _ el78 (by decide) ze190 rfl by190 rfl rfl rfl rfl (.inl ⟨rfl, rfl, rfl⟩) (by rw [List.length_map]; exact Nat.le_trans hle (by decide)) (by rw [List.length_map]; omega) (q_ao _ rfl (run_nil (h2 _ ?_))))))
  rw [List.length_map]
  refine ok_seq fun K3 h3 => ?_
  refine ok_seq fun K4 h4 => ok_region rfl (q_as _ rfl (run_nil (h4 _ ?_)))
  refine ok_block ?_
  refine ok_loop (fun (k : Nat) => ⟨[(0, .sv (eLabelS x)), (3, .own 7), (4, .sv (int k))], [(7, .row 2 190 (fill eLabel (.agg [.raw (.string ⟨#[]⟩), .raw (.string ⟨#[]⟩)]) x k))]⟩) (fun k => k ≤ x.length) (fun k => x.length - k) 0 (Nat.zero_le _) (by rw [fill_zero]; exact le_sub ⟨rfl, rfl, rfl, trivial⟩ ⟨rfl, trivial⟩) (fun k J => ?_)
  refine ok_seq fun K5 h5 => ?_
  refine ok_seq fun K6 h6 => ok_region rfl (q_mv _ rfl (q_mv _ rfl (q_len eS108 rfl (q_bin _ _ _ rfl rfl rfl (run_nil (h6 _ ?_))))))
  rw [List.length_map]
  refine ok_cond rfl (fun c7 => ?_) (fun c7 => ?_)
  · refine ok_skip (h5 _ ?_)
    have hk : k < x.length := by simpa using c7
    obtain ⟨u, hu⟩ := sget hk
    refine ok_seq fun K8 h8 => ?_
    refine ok_block ?_
    refine ok_last fun K9 h9 => ok_region rfl (q_mo _ rfl (q_mv _ rfl (q_mv _ rfl (q_mv _ rfl (q_ia el108 rfl rfl (by omega) (mget hu) (q_lds _ ag213 rfl sz213 (q_call (f207_ok u (hx.2 u (smem hu))) cl207 rfl rfl (q_iao el78 rfl rfl rfl (by omega) (by rw [fill_len _ _ _ J]; exact hk) (
      q_ste sz190 rfl rfl (fill_get _ _ _ hk) rfl (.inl ⟨_, rfl⟩) rfl (run_nil (h9 _ (h8 _ ?_))))))))))))
    refine ok_region rfl (q_mv _ rfl (q_add rfl rfl (by omega) (q_as _ rfl (run_nil (⟨k + 1, by omega, hk, ?_⟩)))))
    rw [← fill_set eLabel (.agg [.raw (.string ⟨#[]⟩), .raw (.string ⟨#[]⟩)]) hu]
    exact le_sub ⟨rfl, rfl, rfl, trivial⟩ ⟨rfl, trivial⟩
  · refine ok_exit (h3 _ ?_)
    refine ok_seq fun K9 h9 => ok_region rfl (q_mo _ rfl (q_ao _ rfl (run_nil (h9 _ ?_))))
    refine ok_ret ⟨_, ⟨_, _, rfl, rfl, rfl⟩, ?_⟩
    rw [fill_all _ _ _ (by simpa using c7)]; rfl
theorem f170_ok (x : List Label) (hx : x.length ≤ 1048576 ∧ ∀ y ∈ x, SLabel y) : PFn Tryz.prog 170 [eLabelS x, eLabelS x] (bool true) := by
  have hle : x.length ≤ 1048576 := hx.1
  refine fn_ok' (n := 27) Tryz.func170 rfl rfl rfl (Nat.le_of_ble_eq_true rfl) rfl fun w0 O => ?_
  refine ok_seq fun K1 h1 => ok_region rfl (q_as _ rfl (run_nil (h1 _ ?_)))
  refine ok_seq fun K2 h2 => ?_
  refine ok_seq fun K3 h3 => ok_region rfl (q_mv _ rfl (q_len eS78 rfl (q_mv _ rfl (q_len eS78 rfl (q_bin _ _ _ rfl rfl rfl (run_nil (h3 _ ?_)))))))
  refine ok_cond rfl (fun c4 => ?_) (fun c4 => ?_)
  · simp at c4
  · refine ok_skip (h2 _ ?_)
    refine ok_seq fun K6 h6 => ?_
    refine ok_seq fun K7 h7 => ok_region rfl (q_as _ rfl (run_nil (h7 _ ?_)))
    refine ok_block ?_
    refine ok_loop (fun (k : Nat) => ⟨[(0, .sv (eLabelS x)), (1, .sv (eLabelS x)), (5, .sv (int k))], []⟩) (fun k => True) (fun k => x.length - k) 0 trivial (le_same ⟨rfl, rfl, rfl, trivial⟩) (fun k J => ?_)
    refine ok_seq fun K8 h8 => ?_
    refine ok_seq fun K9 h9 => ok_region rfl (q_mv _ rfl (q_mv _ rfl (q_len eS78 rfl (q_bin _ _ _ rfl rfl rfl (run_nil (h9 _ ?_))))))
    rw [List.length_map]
    refine ok_cond rfl (fun c10 => ?_) (fun c10 => ?_)
    · refine ok_skip (h8 _ ?_)
      have hk : k < x.length := by simpa using c10
      obtain ⟨u, hu⟩ := sget hk
      refine ok_seq fun K11 h11 => ?_
      refine ok_block ?_
      refine ok_seq fun K12 h12 => ?_
      refine ok_region_i (by kernel_rfl) (by kernel_rfl) rfl (
        q_mv _ rfl (q_mv _ rfl (q_ia el78 rfl rfl (by omega) (mget hu) (q_lds _ ag190 rfl sz190 (q_mv _ rfl (q_mv _ rfl (q_ia el78 rfl rfl (by omega) (mget hu) (q_lds _ ag190 rfl sz190 (
        q_call (f221_ok u (hx.2 u (smem hu))) cl221 rfl rfl (q_un _ _ rfl rfl (run_nil (h12 _ ?_))))))))))))
      refine ok_cond rfl (fun c13 => ?_) (fun c13 => ?_)
      · simp at c13
      · refine ok_skip (h11 _ ?_)
        refine ok_region rfl (q_mv _ rfl (q_add rfl rfl (by omega) (q_as _ rfl (run_nil (⟨k + 1, by omega, trivial, le_same ⟨rfl, rfl, rfl, trivial⟩⟩)))))
    · refine ok_exit (h6 _ ?_)
      refine ok_seq fun K15 h15 => ok_region rfl (q_as _ rfl (run_nil (h15 _ ?_)))
      exact ok_ret ⟨_, rfl, rfl⟩
structure Sample where
  time : Int
  value : Int
@[reducible] def eSample (x : Sample) : SV := .agg [int x.time, int x.value]
theorem op_Sample : Opens Tryz.prog 261 eSample (fun y => True) :=
  op_iso (fun y : Int × Int × Unit => (⟨y.1, y.2.1⟩ : Sample)) (fun _ => rfl) (fun y h => trivial)
    (op_struct (n := 2) Tryz.underlying261 (by kernel_rfl) (ofs_cons (f := { name := "Time", type := 3, offset := 0, embedded := false, tag := "", pkgPath := "", byteOffset := 0 }) (n := 1) (m := 1) rfl (by kernel_rfl) (fun _ => ⟨.inr rfl, rfl⟩) (op_int Tryz.underlying3) (ofs_cons (f := { name := "Value", type := 3, offset := 1, embedded := false, tag := "", pkgPath := "", byteOffset := 8 }) (n := 1) (m := 0) rfl (by kernel_rfl) (fun _ => ⟨.inr rfl, rfl⟩) (op_int Tryz.underlying3) ofs_nil)))
theorem f262_ok (x : Sample) : PFn Tryz.prog 262 [eSample x] (eSample x) := by
  refine fnr_ok (n := 11) Tryz.func262 rfl rfl rfl (Nat.le_of_ble_eq_true rfl) rfl fun w0 O => ?_
  refine ok_seq fun K1 h1 => ok_region rfl (q_boxs _ rfl (Nat.zero_lt_succ _) (q_alloc _ ze122 rfl rfl rfl rfl (run_nil (h1 _ ?_))))
  refine ok_seq fun K2 h2 => ok_region rfl (q_alloc _ ze122 rfl rfl rfl rfl (run_nil (h2 _ ?_)))
  refine ok_seq fun K3 h3 => ok_region rfl (q_fa _ fd261_0 rfl rfl (by decide) (q_ld _ ag3 rfl rfl (q_fap fd122_0 rfl (by decide) (q_st _ sz3 rfl rfl (Nat.le_of_ble_eq_true rfl) rfl ⟨_, rfl, rfl⟩ rfl (run_nil (h3 _ ?_))))))
  refine ok_seq fun K4 h4 => ok_region rfl (q_fa _ fd261_1 rfl rfl (by decide) (q_ld _ ag3 rfl rfl (q_fap fd122_1 rfl (by decide) (q_st _ sz3 rfl rfl (Nat.le_of_ble_eq_true rfl) rfl ⟨_, rfl, rfl⟩ rfl (run_nil (h4 _ ?_))))))
  refine ok_seq fun K5 h5 => ok_region rfl (q_ldbs ag122 rfl rfl sz122 rfl rfl (q_sts _ rfl rfl rfl sz122 (Nat.le_of_ble_eq_true rfl) rfl (run_nil (h5 _ ?_))))
  exact ok_ret (ret_cell (l := [int x.time, int x.value]) rfl rfl ag122 sz122 rfl rfl)
theorem f232_ok (x : Sample) : PFn Tryz.prog 232 [eSample x, eSample x] (bool true) := by
  refine fn_ok' (n := 15) Tryz.func232 rfl rfl rfl (Nat.le_of_ble_eq_true rfl) rfl fun w0 O => ?_
  refine ok_seq fun K1 h1 => ok_region rfl (q_boxs _ rfl (Nat.zero_lt_succ _) (q_boxs _ rfl (Nat.zero_lt_succ _) (q_as _ rfl (run_nil (h1 _ ?_)))))
  refine ok_seq fun K2 h2 => ?_
  refine ok_seq fun K3 h3 => ok_region rfl (q_fa _ fd122_0 rfl rfl (by decide) (q_ld _ ag3 rfl rfl (q_fa _ fd122_0 rfl rfl (by decide) (q_ld _ ag3 rfl rfl (q_bin _ _ _ rfl rfl rfl (run_nil (h3 _ ?_)))))))
  refine ok_cond rfl (fun c4 => ?_) (fun c4 => ?_)
  · simp at c4
  · refine ok_skip (h2 _ ?_)
    refine ok_seq fun K6 h6 => ?_
    refine ok_seq fun K7 h7 => ok_region rfl (q_fa _ fd122_1 rfl rfl (by decide) (q_ld _ ag3 rfl rfl (q_fa _ fd122_1 rfl rfl (by decide) (q_ld _ ag3 rfl rfl (q_bin _ _ _ rfl rfl rfl (run_nil (h7 _ ?_)))))))
    refine ok_cond rfl (fun c8 => ?_) (fun c8 => ?_)
    · simp at c8
    · refine ok_skip (h6 _ ?_)
      refine ok_seq fun K10 h10 => ok_region rfl (q_as _ rfl (run_nil (h10 _ ?_)))
      exact ok_ret ⟨_, rfl, rfl⟩
@[reducible] def eSampleS (l : List Sample) : SV := .sl 2 (l.map eSample)
theorem op_SampleS : Opens Tryz.prog 205 eSampleS (fun y => LB y.length) :=
  op_iso (fun y : List Sample => y) (fun _ => rfl) (fun y h => h.1) (op_slice (n := 2) Tryz.underlying205 (by kernel_rfl) (by decide) (fun _ => ⟨.inl ⟨_, rfl⟩, rfl⟩) op_Sample)
def zSampleS (x : List Sample) (n : Int) : Int := take n x.length
theorem zSampleS_ok (x : List Sample) : GOk (zSampleS x) (x.length ≤ 1048576) := take_ok _
theorem f237_ok (x : List Sample) (hx : LB x.length) (n : Int) (h0 : 0 ≤ n) (hn : n ≤ 1048576) : PFn Tryz.prog 237 [eSampleS x, int n] (int (zSampleS x n)) := by
  unfold LB at hx
  have hl : (x.map eSample).length = x.length := List.length_map _
  refine fn_ok' (n := 12) Tryz.func237 rfl rfl rfl (Nat.le_of_ble_eq_true rfl) rfl fun w0 O => ?_
  refine ok_seq fun K1 h1 => ok_region rfl (q_as _ rfl (run_nil (h1 _ ?_)))
  refine ok_seq fun K2 h2 => ok_region rfl (q_mv _ rfl (q_mv _ rfl (q_len eS205 rfl (q_sub rfl rfl (by rw [hl]; omega) (q_as _ rfl (run_nil (h2 _ ?_)))))))
  rw [List.length_map]
  refine ok_seq fun K3 h3 => ?_
  refine ok_seq fun K4 h4 => ok_region rfl (q_mv _ rfl (q_bin _ _ _ rfl rfl rfl (run_nil (h4 _ ?_))))
  refine ok_cond rfl (fun c5 => ?_) (fun c5 => ?_)
  · refine ok_seq fun K6 h6 => ?_
    refine ok_region rfl (q_as _ rfl (run_nil (h6 _ ?_)))
    refine ok_ret ⟨_, rfl, ?_⟩
    rw [zSampleS, take_pos (of_decide_eq_true c5)]; rfl
  · refine ok_skip (h3 _ ?_)
    refine ok_seq fun K7 h7 => ok_region rfl (q_mv _ rfl (q_as _ rfl (run_nil (h7 _ ?_))))
    refine ok_ret ⟨_, rfl, ?_⟩
    rw [zSampleS, take_neg (of_decide_eq_false c5)]; rfl
theorem f238_ok (x : List Sample) (hx : x.length ≤ 1048576) : PFn Tryz.prog 238 [eSampleS x] (eSampleS x) := by
  have hle : x.length ≤ 1048576 := hx
  refine fnr_ok (n := 23) Tryz.func238 rfl rfl rfl (Nat.le_of_ble_eq_true rfl) rfl fun w0 O => ?_
  refine ok_seq fun K1 h1 => ok_region rfl (q_as _ rfl (run_nil (h1 _ ?_)))
  refine ok_seq fun K2 h2 => ok_region rfl (q_mv _ rfl (q_len eS205 rfl (q_make _ _ el123 (by decide) ze122 rfl by122 rfl rfl rfl rfl (.inl ⟨rfl, rfl, rfl⟩) (by rw [List.length_map]; exact Nat.le_trans hle (by decide)) (by rw [List.length_map]; omega) (q_ao _ rfl (run_nil (h2 _ ?_))))))
  rw [List.length_map]
  refine ok_seq fun K3 h3 => ?_
  refine ok_seq fun K4 h4 => ok_region rfl (q_as _ rfl (run_nil (h4 _ ?_)))
  refine ok_block ?_
  refine ok_loop (fun (k : Nat) => ⟨[(0, .sv (eSampleS x)), (3, .own 7), (4, .sv (int k))], [(7, .row 2 122 (fill eSample (.agg [.raw (.int .i64 0), .raw (.int .i64 0)]) x k))]⟩) (fun k => k ≤ x.length) (fun k => x.length - k) 0 (Nat.zero_le _) (by rw [fill_zero]; exact le_sub ⟨rfl, rfl, rfl, trivial⟩ ⟨rfl, trivial⟩) (fun k J => ?_)
  refine ok_seq fun K5 h5 => ?_
  refine ok_seq fun K6 h6 => ok_region rfl (q_mv _ rfl (q_mv _ rfl (q_len eS205 rfl (q_bin _ _ _ rfl rfl rfl (run_nil (h6 _ ?_))))))
  rw [List.length_map]
  refine ok_cond rfl (fun c7 => ?_) (fun c7 => ?_)
  · refine ok_skip (h5 _ ?_)
    have hk : k < x.length := by simpa using c7
    obtain ⟨u, hu⟩ := sget hk
    refine ok_seq fun K8 h8 => ?_
    refine ok_block ?_
    refine ok_last fun K9 h9 => ok_region rfl (q_mo _ rfl (q_mv _ rfl (q_mv _ rfl (q_mv _ rfl (q_ia el205 rfl rfl (by omega) (mget hu) (q_lds _ ag261 rfl sz261 (q_call (f262_ok u) cl262 rfl rfl (q_iao el123 rfl rfl rfl (by omega) (by rw [fill_len _ _ _ J]; exact hk) (
      q_ste sz122 rfl rfl (fill_get _ _ _ hk) rfl (.inl ⟨_, rfl⟩) rfl (run_nil (h9 _ (h8 _ ?_))))))))))))
    refine ok_region rfl (q_mv _ rfl (q_add rfl rfl (by omega) (q_as _ rfl (run_nil (⟨k + 1, by omega, hk, ?_⟩)))))
    rw [← fill_set eSample (.agg [.raw (.int .i64 0), .raw (.int .i64 0)]) hu]
    exact le_sub ⟨rfl, rfl, rfl, trivial⟩ ⟨rfl, trivial⟩
  · refine ok_exit (h3 _ ?_)
    refine ok_seq fun K9 h9 => ok_region rfl (q_mo _ rfl (q_ao _ rfl (run_nil (h9 _ ?_))))
    refine ok_ret ⟨_, ⟨_, _, rfl, rfl, rfl⟩, ?_⟩
    rw [fill_all _ _ _ (by simpa using c7)]; rfl
theorem f182_ok (x : List Sample) (hx : x.length ≤ 1048576) : PFn Tryz.prog 182 [eSampleS x, eSampleS x] (bool true) := by
  have hle : x.length ≤ 1048576 := hx
  refine fn_ok' (n := 27) Tryz.func182 rfl rfl rfl (Nat.le_of_ble_eq_true rfl) rfl fun w0 O => ?_
  refine ok_seq fun K1 h1 => ok_region rfl (q_as _ rfl (run_nil (h1 _ ?_)))
  refine ok_seq fun K2 h2 => ?_
  refine ok_seq fun K3 h3 => ok_region rfl (q_mv _ rfl (q_len eS123 rfl (q_mv _ rfl (q_len eS123 rfl (q_bin _ _ _ rfl rfl rfl (run_nil (h3 _ ?_)))))))
  refine ok_cond rfl (fun c4 => ?_) (fun c4 => ?_)
  · simp at c4
  · refine ok_skip (h2 _ ?_)
    refine ok_seq fun K6 h6 => ?_
    refine ok_seq fun K7 h7 => ok_region rfl (q_as _ rfl (run_nil (h7 _ ?_)))
    refine ok_block ?_
    refine ok_loop (fun (k : Nat) => ⟨[(0, .sv (eSampleS x)), (1, .sv (eSampleS x)), (5, .sv (int k))], []⟩) (fun k => True) (fun k => x.length - k) 0 trivial (le_same ⟨rfl, rfl, rfl, trivial⟩) (fun k J => ?_)
    refine ok_seq fun K8 h8 => ?_
    refine ok_seq fun K9 h9 => ok_region rfl (q_mv _ rfl (q_mv _ rfl (q_len eS123 rfl (q_bin _ _ _ rfl rfl rfl (run_nil (h9 _ ?_))))))
    rw [List.length_map]
    refine ok_cond rfl (fun c10 => ?_) (fun c10 => ?_)
    · refine ok_skip (h8 _ ?_)
      have hk : k < x.length := by simpa using c10
      obtain ⟨u, hu⟩ := sget hk
      refine ok_seq fun K11 h11 => ?_
      refine ok_block ?_
      refine ok_seq fun K12 h12 => ?_
      refine ok_region_i (by kernel_rfl) (by kernel_rfl) rfl (
        q_mv _ rfl (q_mv _ rfl (q_ia el123 rfl rfl (by omega) (mget hu) (q_lds _ ag122 rfl sz122 (q_mv _ rfl (q_mv _ rfl (q_ia el123 rfl rfl (by omega) (mget hu) (q_lds _ ag122 rfl sz122 (
        q_call (f232_ok u) cl232 rfl rfl (q_un _ _ rfl rfl (run_nil (h12 _ ?_))))))))))))
      refine ok_cond rfl (fun c13 => ?_) (fun c13 => ?_)
      · simp at c13
      · refine ok_skip (h11 _ ?_)
        refine ok_region rfl (q_mv _ rfl (q_add rfl rfl (by omega) (q_as _ rfl (run_nil (⟨k + 1, by omega, trivial, le_same ⟨rfl, rfl, rfl, trivial⟩⟩)))))
    · refine ok_exit (h6 _ ?_)
      refine ok_seq fun K15 h15 => ok_region rfl (q_as _ rfl (run_nil (h15 _ ?_)))
      exact ok_ret ⟨_, rfl, rfl⟩
structure Series where
  labels : List Label
  samples : List Sample
@[reducible] def eSeries (x : Series) : SV := .agg [eLabelS x.labels, eSampleS x.samples]
def LSeries (x : Series) : Prop := (LB x.labels.length ∧ ∀ y ∈ x.labels, LLabel y) ∧ LB x.samples.length
def SSeries (x : Series) : Prop := (x.labels.length ≤ 1048576 ∧ ∀ y ∈ x.labels, SLabel y) ∧ x.samples.length ≤ 1048576
theorem op_Series : Opens Tryz.prog 207 eSeries (fun y => LSeries y) :=
  op_iso (fun y : (List Label) × (List Sample) × Unit => (⟨y.1, y.2.1⟩ : Series)) (fun _ => rfl) (fun y h => ⟨h.1, h.2.1⟩)
    (op_struct (n := 2) Tryz.underlying207 (by kernel_rfl) (ofs_cons (f := { name := "Labels", type := 108, offset := 0, embedded := false, tag := "", pkgPath := "", byteOffset := 0 }) (n := 1) (m := 1) rfl (by kernel_rfl) (fun _ => ⟨.inr rfl, rfl⟩) op_LabelS (ofs_cons (f := { name := "Samples", type := 205, offset := 1, embedded := false, tag := "", pkgPath := "", byteOffset := 24 }) (n := 1) (m := 0) rfl (by kernel_rfl) (fun _ => ⟨.inr rfl, rfl⟩) op_SampleS ofs_nil)))
def zSeries (x : Series) (n : Int) : Int := (stp (zLabelS x.labels) ((zSampleS x.samples))) n
theorem zSeries_ok (x : Series) : GOk (zSeries x) (SSeries x) := (stp_ok (zLabelS_ok x.labels) (zSampleS_ok x.samples))
theorem f192_ok (x : Series) (hx : LSeries x) (n : Int) (h0 : 0 ≤ n) (hn : n ≤ 1048576) : PFn Tryz.prog 192 [eSeries x, int n] (int (zSeries x n)) := by
  have e0 : zSeries x n = (stp (zLabelS x.labels) ((zSampleS x.samples))) n := rfl
  have a0 := h0
  have b0 := hn
  refine fn_ok' (n := 18) Tryz.func192 rfl rfl rfl (Nat.le_of_ble_eq_true rfl) rfl fun w0 O => ?_
  refine ok_seq fun K1 h1 => ok_region rfl (q_boxs _ rfl (Nat.zero_lt_succ _) (q_as _ rfl (run_nil (h1 _ ?_))))
  refine ok_seq fun K2 h2 => ok_region rfl (q_fa _ fd207_0 rfl rfl (by decide) (q_ld _ ag108 rfl rfl (q_mv _ rfl (q_call (f147_ok x.labels (hx.1) _ a0 b0) cl147 rfl rfl (q_as _ rfl (run_nil (h2 _ ?_)))))))
  refine ok_seq fun K3 h3 => ?_
  refine ok_seq fun K4 h4 => ok_region rfl (q_mv _ rfl (q_bin _ _ _ rfl rfl rfl (run_nil (h4 _ ?_))))
  refine ok_cond rfl (fun c5 => ?_) (fun c5 => ?_)
  · refine ok_seq fun K6 h6 => ?_
    refine ok_region rfl (q_as _ rfl (run_nil (h6 _ ?_)))
    refine ok_ret ⟨_, rfl, ?_⟩
    rw [e0, stp_pos (of_decide_eq_true c5)]; rfl
  · refine ok_skip (h3 _ ?_)
    have e1 : zSeries x n = ((zSampleS x.samples)) (zLabelS x.labels n) := by rw [e0, stp_neg (of_decide_eq_false c5)]
    have a1 : 0 ≤ zLabelS x.labels n := by have := of_decide_eq_false c5; omega
    have b1 : zLabelS x.labels n ≤ 1048576 := ((zLabelS_ok x.labels) _ b0).1
    refine ok_seq fun K7 h7 => ok_region rfl (q_fa _ fd207_1 rfl rfl (by decide) (q_ld _ ag205 rfl rfl (q_mv _ rfl (q_call (f237_ok x.samples (hx.2) _ a1 b1) cl237 rfl rfl (q_as _ rfl (run_nil (h7 _ ?_)))))))
    refine ok_seq fun K8 h8 => ?_
    refine ok_seq fun K9 h9 => ok_region rfl (q_mv _ rfl (q_bin _ _ _ rfl rfl rfl (run_nil (h9 _ ?_))))
    refine ok_cond rfl (fun c10 => ?_) (fun c10 => ?_)
    · refine ok_seq fun K11 h11 => ?_
      refine ok_region rfl (q_as _ rfl (run_nil (h11 _ ?_)))
      refine ok_ret ⟨_, rfl, ?_⟩
      rw [e1]; rw [((zSampleS_ok x.samples) _ b1).2.1 (of_decide_eq_true c10)]; rfl
    · refine ok_skip (h8 _ ?_)
      refine ok_seq fun K12 h12 => ok_region rfl (q_mv _ rfl (q_as _ rfl (run_nil (h12 _ ?_))))
      refine ok_ret ⟨_, rfl, ?_⟩
      rw [e1]; rfl
theorem f194_ok (x : Series) (hx : SSeries x) : PFn Tryz.prog 194 [eSeries x] (eSeries x) := by
  refine fnr_ok (n := 13) Tryz.func194 rfl rfl rfl (Nat.le_of_ble_eq_true rfl) rfl fun w0 O => ?_
  refine ok_seq fun K1 h1 => ok_region rfl (q_boxs _ rfl (Nat.zero_lt_succ _) (q_alloc _ ze125 rfl rfl rfl rfl (run_nil (h1 _ ?_))))
  refine ok_seq fun K2 h2 => ok_region rfl (q_alloc _ ze125 rfl rfl rfl rfl (run_nil (h2 _ ?_)))
  refine ok_seq fun K3 h3 => ok_region rfl (q_fa _ fd207_0 rfl rfl (by decide) (q_ld _ ag108 rfl rfl (q_call (f154_ok x.labels (hx.1)) cl154 rfl rfl (q_fap fd125_0 rfl (by decide) (q_st _ sz78 rfl rfl (Nat.le_of_ble_eq_true rfl) rfl ⟨_, rfl, rfl⟩ rfl (run_nil (h3 _ ?_)))))))
  refine ok_seq fun K4 h4 => ok_region rfl (q_fa _ fd207_1 rfl rfl (by decide) (q_ld _ ag205 rfl rfl (q_call (f238_ok x.samples (hx.2)) cl238 rfl rfl (q_fap fd125_1 rfl (by decide) (q_st _ sz123 rfl rfl (Nat.le_of_ble_eq_true rfl) rfl ⟨_, rfl, rfl⟩ rfl (run_nil (h4 _ ?_)))))))
  refine ok_seq fun K5 h5 => ok_region rfl (q_ldbs ag125 rfl rfl sz125 rfl rfl (q_sts _ rfl rfl rfl sz125 (Nat.le_of_ble_eq_true rfl) rfl (run_nil (h5 _ ?_))))
  exact ok_ret (ret_cell (l := [eLabelS x.labels, eSampleS x.samples]) rfl rfl ag125 sz125 rfl rfl)
theorem f102_ok (x : Series) (hx : SSeries x) : PFn Tryz.prog 102 [eSeries x, eSeries x] (bool true) := by
  refine fn_ok' (n := 17) Tryz.func102 rfl rfl rfl (Nat.le_of_ble_eq_true rfl) rfl fun w0 O => ?_
  refine ok_seq fun K1 h1 => ok_region rfl (q_boxs _ rfl (Nat.zero_lt_succ _) (q_boxs _ rfl (Nat.zero_lt_succ _) (q_as _ rfl (run_nil (h1 _ ?_)))))
  refine ok_seq fun K2 h2 => ?_
  refine ok_seq fun K3 h3 => ok_region rfl (q_fa _ fd125_0 rfl rfl (by decide) (q_ld _ ag78 rfl rfl (q_fa _ fd125_0 rfl rfl (by decide) (q_ld _ ag78 rfl rfl (q_call (f170_ok x.labels (hx.1)) cl170 rfl rfl (q_un _ _ rfl rfl (run_nil (h3 _ ?_))))))))
  refine ok_cond rfl (fun c4 => ?_) (fun c4 => ?_)
  · simp at c4
  · refine ok_skip (h2 _ ?_)
    refine ok_seq fun K6 h6 => ?_
    refine ok_seq fun K7 h7 => ok_region rfl (q_fa _ fd125_1 rfl rfl (by decide) (q_ld _ ag123 rfl rfl (q_fa _ fd125_1 rfl rfl (by decide) (q_ld _ ag123 rfl rfl (q_call (f182_ok x.samples (hx.2)) cl182 rfl rfl (q_un _ _ rfl rfl (run_nil (h7 _ ?_))))))))
    refine ok_cond rfl (fun c8 => ?_) (fun c8 => ?_)
    · simp at c8
    · refine ok_skip (h6 _ ?_)
      refine ok_seq fun K10 h10 => ok_region rfl (q_as _ rfl (run_nil (h10 _ ?_)))
      exact ok_ret ⟨_, rfl, rfl⟩
@[reducible] def eSeriesS (l : List Series) : SV := .sl 2 (l.map eSeries)
theorem op_SeriesS : Opens Tryz.prog 159 eSeriesS (fun y => LB y.length ∧ ∀ z ∈ y, LSeries z) :=
  op_iso (fun y : List Series => y) (fun _ => rfl) (fun y h => h) (op_slice (n := 2) Tryz.underlying159 (by kernel_rfl) (by decide) (fun _ => ⟨.inl ⟨_, rfl⟩, rfl⟩) op_Series)
def zSeriesS (x : List Series) (n : Int) : Int := szSl zSeries x n
theorem zSeriesS_ok (x : List Series) : GOk (zSeriesS x) (x.length ≤ 1048576 ∧ ∀ y ∈ x, SSeries y) := szSl_ok zSeries_ok x
theorem f123_ok (x : List Series) (hx : LB x.length ∧ ∀ y ∈ x, LSeries y) (n : Int) (h0 : 0 ≤ n) (hn : n ≤ 1048576) : PFn Tryz.prog 123 [eSeriesS x, int n] (int (zSeriesS x n)) := by
  have hx1 := hx.1
  unfold LB at hx1
  refine fn_ok' (n := 27) Tryz.func123 rfl rfl rfl (Nat.le_of_ble_eq_true rfl) rfl fun w0 O => ?_
  refine ok_seq fun K1 h1 => ok_region rfl (q_as _ rfl (run_nil (h1 _ ?_)))
  refine ok_seq fun K2 h2 => ok_region rfl (q_mv _ rfl (q_mv _ rfl (q_len eS159 rfl (q_sub rfl rfl (by rw [List.length_map]; omega) (q_as _ rfl (run_nil (h2 _ ?_)))))))
  rw [List.length_map]
  refine ok_seq fun K3 h3 => ?_
  refine ok_seq fun K4 h4 => ok_region rfl (q_mv _ rfl (q_bin _ _ _ rfl rfl rfl (run_nil (h4 _ ?_))))
  refine ok_cond rfl (fun c5 => ?_) (fun c5 => ?_)
  · refine ok_seq fun K6 h6 => ?_
    refine ok_region rfl (q_as _ rfl (run_nil (h6 _ ?_)))
    refine ok_ret ⟨_, rfl, ?_⟩
    rw [zSeriesS, szSl_pos (of_decide_eq_true c5)]; rfl
  · refine ok_skip (h3 _ ?_)
    refine ok_seq fun K7 h7 => ?_
    refine ok_seq fun K8 h8 => ok_region rfl (q_as _ rfl (run_nil (h8 _ ?_)))
    refine ok_block ?_
    refine ok_loop (fun (s : Nat × Int) => ⟨[(0, .sv (eSeriesS x)), (1, .sv (int s.2)), (5, .sv (int s.1))], []⟩) (fun s => 0 ≤ s.2 ∧ s.2 ≤ 1048576 ∧ szAll zSeries (x.drop s.1) s.2 = zSeriesS x n) (fun s => x.length - s.1) (0, n - x.length) ⟨by have := of_decide_eq_false c5; simp only; omega, by simp only; omega, by simp only [List.drop_zero]; rw [zSeriesS, szSl_neg (of_decide_eq_false c5)]⟩ (le_same ⟨rfl, rfl, rfl, trivial⟩) (fun s J => ?_)
    obtain ⟨k, a⟩ := s
    obtain ⟨J1, J2, J3⟩ := J
    simp only at J1 J2 J3
    refine ok_seq fun K9 h9 => ?_
    refine ok_seq fun K10 h10 => ok_region rfl (q_mv _ rfl (q_mv _ rfl (q_len eS159 rfl (q_bin _ _ _ rfl rfl rfl (run_nil (h10 _ ?_))))))
    rw [List.length_map]
    refine ok_cond rfl (fun c11 => ?_) (fun c11 => ?_)
    · refine ok_skip (h9 _ ?_)
      obtain ⟨u, hu⟩ := sget (l := x) (i := k) (by simpa using c11)
      rw [szAll_cons _ hu] at J3
      refine ok_seq fun K12 h12 => ?_
      refine ok_block ?_
      refine ok_seq fun K13 h13 => ok_region rfl (q_mv _ rfl (q_mv _ rfl (q_ia el159 rfl rfl (by omega) (mget hu) (q_lds _ ag207 rfl sz207 (q_mv _ rfl (q_call (f192_ok u (hx.2 u (smem hu)) a J1 J2) cl192 rfl rfl (q_as _ rfl (run_nil (h13 _ ?_)))))))))
      refine ok_seq fun K14 h14 => ok_region rfl (q_mv _ rfl (q_bin _ _ _ rfl rfl rfl (run_nil (h14 _ ?_))))
      refine ok_cond rfl (fun c15 => ?_) (fun c15 => ?_)
      · refine ok_seq fun K16 h16 => ?_
        refine ok_region rfl (q_as _ rfl (run_nil (h16 _ ?_)))
        refine ok_ret ⟨_, rfl, ?_⟩
        rw [if_pos (of_decide_eq_true c15)] at J3; rw [← J3]; rfl
      · refine ok_skip (h12 _ ?_)
        refine ok_region rfl (q_mv _ rfl (q_add rfl rfl (by have := slt hu; have := hx.1; unfold LB at this; omega) (q_as _ rfl (run_nil (⟨(k + 1, zSeries u a), by have := slt hu; simp only; omega, ⟨by have := of_decide_eq_false c15; simp only; omega, (zSeries_ok u a J2).1, by rw [if_neg (of_decide_eq_false c15)] at J3; exact J3⟩, le_same ⟨rfl, rfl, rfl, trivial⟩⟩)))))
    · refine ok_exit (h7 _ ?_)
      refine ok_seq fun K17 h17 => ok_region rfl (q_mv _ rfl (q_as _ rfl (run_nil (h17 _ ?_))))
      refine ok_ret ⟨_, rfl, ?_⟩
      rw [szAll_end _ (by simpa using c11)] at J3; rw [← J3]; rfl
theorem f128_ok (x : List Series) (hx : x.length ≤ 1048576 ∧ ∀ y ∈ x, SSeries y) : PFn Tryz.prog 128 [eSeriesS x] (eSeriesS x) := by
  have hle : x.length ≤ 1048576 := hx.1
  refine fnr_ok (n := 23) Tryz.func128 rfl rfl rfl (Nat.le_of_ble_eq_true rfl) rfl fun w0 O => ?_
  refine ok_seq fun K1 h1 => ok_region rfl (q_as _ rfl (run_nil (h1 _ ?_)))
  refine ok_seq fun K2 h2 => ok_region rfl (q_mv _ rfl (q_len eS159 rfl (q_make _ _ el63 (by decide) ze125 rfl by125 rfl rfl rfl rfl (.inl ⟨rfl, rfl, rfl⟩) (by rw [List.length_map]; exact Nat.le_trans hle (by decide)) (by rw [List.length_map]; omega) (q_ao _ rfl (run_nil (h2 _ ?_))))))
  rw [List.length_map]
  refine ok_seq fun K3 h3 => ?_
  refine ok_seq fun K4 h4 => ok_region rfl (q_as _ rfl (run_nil (h4 _ ?_)))
  refine ok_block ?_
  refine ok_loop (fun (k : Nat) => ⟨[(0, .sv (eSeriesS x)), (3, .own 7), (4, .sv (int k))], [(7, .row 2 125 (fill eSeries (.agg [.raw (.slice none 0 0), .raw (.slice none 0 0)]) x k))]⟩) (fun k => k ≤ x.length) (fun k => x.length - k) 0 (Nat.zero_le _) (by rw [fill_zero]; exact le_sub ⟨rfl, rfl, rfl, trivial⟩ ⟨rfl, trivial⟩) (fun k J => ?_)
  refine ok_seq fun K5 h5 => ?_
  refine ok_seq fun K6 h6 => ok_region rfl (q_mv _ rfl (q_mv _ rfl (q_len eS159 rfl (q_bin _ _ _ rfl rfl rfl (run_nil (h6 _ ?_))))))
  rw [List.length_map]
  refine ok_cond rfl (fun c7 => ?_) (fun c7 => ?_)
  · refine ok_skip (h5 _ ?_)
    have hk : k < x.length := by simpa using c7
    obtain ⟨u, hu⟩ := sget hk
    refine ok_seq fun K8 h8 => ?_
    refine ok_block ?_
    refine ok_last fun K9 h9 => ok_region rfl (q_mo _ rfl (q_mv _ rfl (q_mv _ rfl (q_mv _ rfl (q_ia el159 rfl rfl (by omega) (mget hu) (q_lds _ ag207 rfl sz207 (q_call (f194_ok u (hx.2 u (smem hu))) cl194 rfl rfl (q_iao el63 rfl rfl rfl (by omega) (by rw [fill_len _ _ _ J]; exact hk) (
      q_ste sz125 rfl rfl (fill_get _ _ _ hk) rfl (.inl ⟨_, rfl⟩) rfl (run_nil (h9 _ (h8 _ ?_))))))))))))
    refine ok_region rfl (q_mv _ rfl (q_add rfl rfl (by omega) (q_as _ rfl (run_nil (⟨k + 1, by omega, hk, ?_⟩)))))
    rw [← fill_set eSeries (.agg [.raw (.slice none 0 0), .raw (.slice none 0 0)]) hu]
    exact le_sub ⟨rfl, rfl, rfl, trivial⟩ ⟨rfl, trivial⟩
  · refine ok_exit (h3 _ ?_)
    refine ok_seq fun K9 h9 => ok_region rfl (q_mo _ rfl (q_ao _ rfl (run_nil (h9 _ ?_))))
    refine ok_ret ⟨_, ⟨_, _, rfl, rfl, rfl⟩, ?_⟩
    rw [fill_all _ _ _ (by simpa using c7)]; rfl
theorem f35_ok (x : List Series) (hx : x.length ≤ 1048576 ∧ ∀ y ∈ x, SSeries y) : PFn Tryz.prog 35 [eSeriesS x, eSeriesS x] (bool true) := by
  have hle : x.length ≤ 1048576 := hx.1
  refine fn_ok' (n := 27) Tryz.func35 rfl rfl rfl (Nat.le_of_ble_eq_true rfl) rfl fun w0 O => ?_
  refine ok_seq fun K1 h1 => ok_region rfl (q_as _ rfl (run_nil (h1 _ ?_)))
  refine ok_seq fun K2 h2 => ?_
  refine ok_seq fun K3 h3 => ok_region rfl (q_mv _ rfl (q_len eS63 rfl (q_mv _ rfl (q_len eS63 rfl (q_bin _ _ _ rfl rfl rfl (run_nil (h3 _ ?_)))))))
  refine ok_cond rfl (fun c4 => ?_) (fun c4 => ?_)
  · simp at c4
  · refine ok_skip (h2 _ ?_)
    refine ok_seq fun K6 h6 => ?_
    refine ok_seq fun K7 h7 => ok_region rfl (q_as _ rfl (run_nil (h7 _ ?_)))
    refine ok_block ?_
    refine ok_loop (fun (k : Nat) => ⟨[(0, .sv (eSeriesS x)), (1, .sv (eSeriesS x)), (5, .sv (int k))], []⟩) (fun k => True) (fun k => x.length - k) 0 trivial (le_same ⟨rfl, rfl, rfl, trivial⟩) (fun k J => ?_)
    refine ok_seq fun K8 h8 => ?_
    refine ok_seq fun K9 h9 => ok_region rfl (q_mv _ rfl (q_mv _ rfl (q_len eS63 rfl (q_bin _ _ _ rfl rfl rfl (run_nil (h9 _ ?_))))))
    rw [List.length_map]
    refine ok_cond rfl (fun c10 => ?_) (fun c10 => ?_)
    · refine ok_skip (h8 _ ?_)
      have hk : k < x.length := by simpa using c10
      obtain ⟨u, hu⟩ := sget hk
      refine ok_seq fun K11 h11 => ?_
      refine ok_block ?_
      refine ok_seq fun K12 h12 => ?_
      refine ok_region_i (by kernel_rfl) (by kernel_rfl) rfl (
        q_mv _ rfl (q_mv _ rfl (q_ia el63 rfl rfl (by omega) (mget hu) (q_lds _ ag125 rfl sz125 (q_mv _ rfl (q_mv _ rfl (q_ia el63 rfl rfl (by omega) (mget hu) (q_lds _ ag125 rfl sz125 (
        q_call (f102_ok u (hx.2 u (smem hu))) cl102 rfl rfl (q_un _ _ rfl rfl (run_nil (h12 _ ?_))))))))))))
      refine ok_cond rfl (fun c13 => ?_) (fun c13 => ?_)
      · simp at c13
      · refine ok_skip (h11 _ ?_)
        refine ok_region rfl (q_mv _ rfl (q_add rfl rfl (by omega) (q_as _ rfl (run_nil (⟨k + 1, by omega, trivial, le_same ⟨rfl, rfl, rfl, trivial⟩⟩)))))
    · refine ok_exit (h6 _ ?_)
      refine ok_seq fun K15 h15 => ok_region rfl (q_as _ rfl (run_nil (h15 _ ?_)))
      exact ok_ret ⟨_, rfl, rfl⟩
@[reducible] def eSeriesSS (l : List (List Series)) : SV := .sl 1 (l.map eSeriesS)
theorem op_SeriesSS : Opens Tryz.prog 25 eSeriesSS (fun y => LB y.length ∧ ∀ z ∈ y, LB z.length ∧ ∀ y ∈ z, LSeries y) :=
  op_iso (fun y : List (List Series) => y) (fun _ => rfl) (fun y h => h) (op_slice (n := 1) Tryz.underlying25 (by kernel_rfl) (by decide) (fun _ => ⟨.inr rfl, rfl⟩) op_SeriesS)
def zSeriesSS (x : List (List Series)) (n : Int) : Int := szSl zSeriesS x n
theorem zSeriesSS_ok (x : List (List Series)) : GOk (zSeriesSS x) (x.length ≤ 1048576 ∧ ∀ y ∈ x, y.length ≤ 1048576 ∧ ∀ z ∈ y, SSeries z) := szSl_ok zSeriesS_ok x
theorem f51_ok (x : List (List Series)) (hx : LB x.length ∧ ∀ y ∈ x, LB y.length ∧ ∀ z ∈ y, LSeries z) (n : Int) (h0 : 0 ≤ n) (hn : n ≤ 1048576) : PFn Tryz.prog 51 [eSeriesSS x, int n] (int (zSeriesSS x n)) := by
  have hx1 := hx.1
  unfold LB at hx1
  refine fn_ok' (n := 27) Tryz.func51 rfl rfl rfl (Nat.le_of_ble_eq_true rfl) rfl fun w0 O => ?_
  refine ok_seq fun K1 h1 => ok_region rfl (q_as _ rfl (run_nil (h1 _ ?_)))
  refine ok_seq fun K2 h2 => ok_region rfl (q_mv _ rfl (q_mv _ rfl (q_len eS25 rfl (q_sub rfl rfl (by rw [List.length_map]; omega) (q_as _ rfl (run_nil (h2 _ ?_)))))))
  rw [List.length_map]
  refine ok_seq fun K3 h3 => ?_
  refine ok_seq fun K4 h4 => ok_region rfl (q_mv _ rfl (q_bin _ _ _ rfl rfl rfl (run_nil (h4 _ ?_))))
  refine ok_cond rfl (fun c5 => ?_) (fun c5 => ?_)
  · refine ok_seq fun K6 h6 => ?_
    refine ok_region rfl (q_as _ rfl (run_nil (h6 _ ?_)))
    refine ok_ret ⟨_, rfl, ?_⟩
    rw [zSeriesSS, szSl_pos (of_decide_eq_true c5)]; rfl
  · refine ok_skip (h3 _ ?_)
    refine ok_seq fun K7 h7 => ?_
    refine ok_seq fun K8 h8 => ok_region rfl (q_as _ rfl (run_nil (h8 _ ?_)))
    refine ok_block ?_
    refine ok_loop (fun (s : Nat × Int) => ⟨[(0, .sv (eSeriesSS x)), (1, .sv (int s.2)), (5, .sv (int s.1))], []⟩) (fun s => 0 ≤ s.2 ∧ s.2 ≤ 1048576 ∧ szAll zSeriesS (x.drop s.1) s.2 = zSeriesSS x n) (fun s => x.length - s.1) (0, n - x.length) ⟨by have := of_decide_eq_false c5; simp only; omega, by simp only; omega, by simp only [List.drop_zero]; rw [zSeriesSS, szSl_neg (of_decide_eq_false c5)]⟩ (le_same ⟨rfl, rfl, rfl, trivial⟩) (fun s J => ?_)
    obtain ⟨k, a⟩ := s
    obtain ⟨J1, J2, J3⟩ := J
    simp only at J1 J2 J3
    refine ok_seq fun K9 h9 => ?_
    refine ok_seq fun K10 h10 => ok_region rfl (q_mv _ rfl (q_mv _ rfl (q_len eS25 rfl (q_bin _ _ _ rfl rfl rfl (run_nil (h10 _ ?_))))))
    rw [List.length_map]
    refine ok_cond rfl (fun c11 => ?_) (fun c11 => ?_)
    · refine ok_skip (h9 _ ?_)
      obtain ⟨u, hu⟩ := sget (l := x) (i := k) (by simpa using c11)
      rw [szAll_cons _ hu] at J3
      refine ok_seq fun K12 h12 => ?_
      refine ok_block ?_
      refine ok_seq fun K13 h13 => ok_region rfl (q_mv _ rfl (q_mv _ rfl (q_ia el25 rfl rfl (by omega) (mget hu) (q_ld _ ag159 rfl rfl (q_mv _ rfl (q_call (f123_ok u (hx.2 u (smem hu)) a J1 J2) cl123 rfl rfl (q_as _ rfl (run_nil (h13 _ ?_)))))))))
      refine ok_seq fun K14 h14 => ok_region rfl (q_mv _ rfl (q_bin _ _ _ rfl rfl rfl (run_nil (h14 _ ?_))))
      refine ok_cond rfl (fun c15 => ?_) (fun c15 => ?_)
      · refine ok_seq fun K16 h16 => ?_
        refine ok_region rfl (q_as _ rfl (run_nil (h16 _ ?_)))
        refine ok_ret ⟨_, rfl, ?_⟩
        rw [if_pos (of_decide_eq_true c15)] at J3; rw [← J3]; rfl
      · refine ok_skip (h12 _ ?_)
        refine ok_region rfl (q_mv _ rfl (q_add rfl rfl (by have := slt hu; have := hx.1; unfold LB at this; omega) (q_as _ rfl (run_nil (⟨(k + 1, zSeriesS u a), by have := slt hu; simp only; omega, ⟨by have := of_decide_eq_false c15; simp only; omega, (zSeriesS_ok u a J2).1, by rw [if_neg (of_decide_eq_false c15)] at J3; exact J3⟩, le_same ⟨rfl, rfl, rfl, trivial⟩⟩)))))
    · refine ok_exit (h7 _ ?_)
      refine ok_seq fun K17 h17 => ok_region rfl (q_mv _ rfl (q_as _ rfl (run_nil (h17 _ ?_))))
      refine ok_ret ⟨_, rfl, ?_⟩
      rw [szAll_end _ (by simpa using c11)] at J3; rw [← J3]; rfl
theorem f55_ok (x : List (List Series)) (hx : x.length ≤ 1048576 ∧ ∀ y ∈ x, y.length ≤ 1048576 ∧ ∀ z ∈ y, SSeries z) : PFn Tryz.prog 55 [eSeriesSS x] (eSeriesSS x) := by
  have hle : x.length ≤ 1048576 := hx.1
  refine fnr_ok (n := 23) Tryz.func55 rfl rfl rfl (Nat.le_of_ble_eq_true rfl) rfl fun w0 O => ?_
  refine ok_seq fun K1 h1 => ok_region rfl (q_as _ rfl (run_nil (h1 _ ?_)))
  refine ok_seq fun K2 h2 => ok_region rfl (q_mv _ rfl (q_len eS25 rfl (q_make _ _ el32 (by decide) ze63 rfl by63 rfl rfl rfl rfl (.inr ⟨rfl, rfl⟩) (by rw [List.length_map]; exact Nat.le_trans hle (by decide)) (by rw [List.length_map]; omega) (q_ao _ rfl (run_nil (h2 _ ?_))))))
  rw [List.length_map]
  refine ok_seq fun K3 h3 => ?_
  refine ok_seq fun K4 h4 => ok_region rfl (q_as _ rfl (run_nil (h4 _ ?_)))
  refine ok_block ?_
  refine ok_loop (fun (k : Nat) => ⟨[(0, .sv (eSeriesSS x)), (3, .own 7), (4, .sv (int k))], [(7, .row 1 63 (fill eSeriesS (.raw (.slice none 0 0)) x k))]⟩) (fun k => k ≤ x.length) (fun k => x.length - k) 0 (Nat.zero_le _) (by rw [fill_zero]; exact le_sub ⟨rfl, rfl, rfl, trivial⟩ ⟨rfl, trivial⟩) (fun k J => ?_)
  refine ok_seq fun K5 h5 => ?_
  refine ok_seq fun K6 h6 => ok_region rfl (q_mv _ rfl (q_mv _ rfl (q_len eS25 rfl (q_bin _ _ _ rfl rfl rfl (run_nil (h6 _ ?_))))))
  rw [List.length_map]
  refine ok_cond rfl (fun c7 => ?_) (fun c7 => ?_)
  · refine ok_skip (h5 _ ?_)
    have hk : k < x.length := by simpa using c7
    obtain ⟨u, hu⟩ := sget hk
    refine ok_seq fun K8 h8 => ?_
    refine ok_block ?_
    refine ok_last fun K9 h9 => ok_region rfl (q_mo _ rfl (q_mv _ rfl (q_mv _ rfl (q_mv _ rfl (q_ia el25 rfl rfl (by omega) (mget hu) (q_ld _ ag159 rfl rfl (q_call (f128_ok u (hx.2 u (smem hu))) cl128 rfl rfl (q_iao el32 rfl rfl rfl (by omega) (by rw [fill_len _ _ _ J]; exact hk) (
      q_ste sz63 rfl rfl (fill_get _ _ _ hk) rfl (.inr rfl) rfl (run_nil (h9 _ (h8 _ ?_))))))))))))
    refine ok_region rfl (q_mv _ rfl (q_add rfl rfl (by omega) (q_as _ rfl (run_nil (⟨k + 1, by omega, hk, ?_⟩)))))
    rw [← fill_set eSeriesS (.raw (.slice none 0 0)) hu]
    exact le_sub ⟨rfl, rfl, rfl, trivial⟩ ⟨rfl, trivial⟩
  · refine ok_exit (h3 _ ?_)
    refine ok_seq fun K9 h9 => ok_region rfl (q_mo _ rfl (q_ao _ rfl (run_nil (h9 _ ?_))))
    refine ok_ret ⟨_, ⟨_, _, rfl, rfl, rfl⟩, ?_⟩
    rw [fill_all _ _ _ (by simpa using c7)]; rfl
theorem f60_ok (x : List (List Series)) (hx : x.length ≤ 1048576 ∧ ∀ y ∈ x, y.length ≤ 1048576 ∧ ∀ z ∈ y, SSeries z) : PFn Tryz.prog 60 [eSeriesSS x, eSeriesSS x] (bool true) := by
  have hle : x.length ≤ 1048576 := hx.1
  refine fn_ok' (n := 27) Tryz.func60 rfl rfl rfl (Nat.le_of_ble_eq_true rfl) rfl fun w0 O => ?_
  refine ok_seq fun K1 h1 => ok_region rfl (q_as _ rfl (run_nil (h1 _ ?_)))
  refine ok_seq fun K2 h2 => ?_
  refine ok_seq fun K3 h3 => ok_region rfl (q_mv _ rfl (q_len eS32 rfl (q_mv _ rfl (q_len eS32 rfl (q_bin _ _ _ rfl rfl rfl (run_nil (h3 _ ?_)))))))
  refine ok_cond rfl (fun c4 => ?_) (fun c4 => ?_)
  · simp at c4
  · refine ok_skip (h2 _ ?_)
    refine ok_seq fun K6 h6 => ?_
    refine ok_seq fun K7 h7 => ok_region rfl (q_as _ rfl (run_nil (h7 _ ?_)))
    refine ok_block ?_
    refine ok_loop (fun (k : Nat) => ⟨[(0, .sv (eSeriesSS x)), (1, .sv (eSeriesSS x)), (5, .sv (int k))], []⟩) (fun k => True) (fun k => x.length - k) 0 trivial (le_same ⟨rfl, rfl, rfl, trivial⟩) (fun k J => ?_)
    refine ok_seq fun K8 h8 => ?_
    refine ok_seq fun K9 h9 => ok_region rfl (q_mv _ rfl (q_mv _ rfl (q_len eS32 rfl (q_bin _ _ _ rfl rfl rfl (run_nil (h9 _ ?_))))))
    rw [List.length_map]
    refine ok_cond rfl (fun c10 => ?_) (fun c10 => ?_)
    · refine ok_skip (h8 _ ?_)
      have hk : k < x.length := by simpa using c10
      obtain ⟨u, hu⟩ := sget hk
      refine ok_seq fun K11 h11 => ?_
      refine ok_block ?_
      refine ok_seq fun K12 h12 => ?_
      refine ok_region_i (by kernel_rfl) (by kernel_rfl) rfl (
        q_mv _ rfl (q_mv _ rfl (q_ia el32 rfl rfl (by omega) (mget hu) (q_ld _ ag63 rfl rfl (q_mv _ rfl (q_mv _ rfl (q_ia el32 rfl rfl (by omega) (mget hu) (q_ld _ ag63 rfl rfl (q_call (f35_ok u (hx.2 u (smem hu))) cl35 rfl rfl (
        q_un _ _ rfl rfl (run_nil (h12 _ ?_))))))))))))
      refine ok_cond rfl (fun c13 => ?_) (fun c13 => ?_)
      · simp at c13
      · refine ok_skip (h11 _ ?_)
        refine ok_region rfl (q_mv _ rfl (q_add rfl rfl (by omega) (q_as _ rfl (run_nil (⟨k + 1, by omega, trivial, le_same ⟨rfl, rfl, rfl, trivial⟩⟩)))))
    · refine ok_exit (h6 _ ?_)
      refine ok_seq fun K15 h15 => ok_region rfl (q_as _ rfl (run_nil (h15 _ ?_)))
      exact ok_ret ⟨_, rfl, rfl⟩
structure Cluster where
  ring : Ring
  data : List (List Series)
@[reducible] def eCluster (x : Cluster) : SV := .agg [int x.ring.copies, eRingNodeS x.ring.nodes, eSeriesSS x.data]
def LCluster (x : Cluster) : Prop := LRing x.ring ∧ (LB x.data.length ∧ ∀ y ∈ x.data, LB y.length ∧ ∀ z ∈ y, LSeries z)
def SCluster (x : Cluster) : Prop := SRing x.ring ∧ (x.data.length ≤ 1048576 ∧ ∀ y ∈ x.data, y.length ≤ 1048576 ∧ ∀ z ∈ y, SSeries z)
theorem op_Cluster : Opens Tryz.prog 27 eCluster (fun y => LCluster y) :=
  op_iso (fun y : Ring × (List (List Series)) × Unit => (⟨y.1, y.2.1⟩ : Cluster)) (fun _ => rfl) (fun y h => ⟨h.1, h.2.1⟩)
    (op_struct (n := 3) Tryz.underlying27 (by kernel_rfl) (ofs_cons (f := { name := "Ring", type := 24, offset := 0, embedded := false, tag := "", pkgPath := "", byteOffset := 0 }) (n := 2) (m := 1) rfl (by kernel_rfl) (fun _ => ⟨.inl ⟨_, rfl⟩, rfl⟩) op_Ring (ofs_cons (f := { name := "Data", type := 25, offset := 2, embedded := false, tag := "", pkgPath := "", byteOffset := 32 }) (n := 1) (m := 0) rfl (by kernel_rfl) (fun _ => ⟨.inr rfl, rfl⟩) op_SeriesSS ofs_nil)))
def zCluster (x : Cluster) (n : Int) : Int := (stp (zRing x.ring) ((zSeriesSS x.data))) n
theorem zCluster_ok (x : Cluster) : GOk (zCluster x) (SCluster x) := (stp_ok (zRing_ok x.ring) (zSeriesSS_ok x.data))
theorem f9_ok (x : Cluster) (hx : LCluster x) (n : Int) (h0 : 0 ≤ n) (hn : n ≤ 1048576) : PFn Tryz.prog 9 [eCluster x, int n] (int (zCluster x n)) := by
  have e0 : zCluster x n = (stp (zRing x.ring) ((zSeriesSS x.data))) n := rfl
  have a0 := h0
  have b0 := hn
  refine fn_ok' (n := 18) Tryz.func9 rfl rfl rfl (Nat.le_of_ble_eq_true rfl) rfl fun w0 O => ?_
  refine ok_seq fun K1 h1 => ok_region rfl (q_boxs _ rfl (Nat.zero_lt_succ _) (q_as _ rfl (run_nil (h1 _ ?_))))
  refine ok_seq fun K2 h2 => ok_region rfl (q_fas fd27_0 rfl (by decide) (Nat.le_of_ble_eq_true rfl) rfl (q_lds _ ag24 rfl sz24 (q_mv _ rfl (q_call (f50_ok x.ring (hx.1) _ a0 b0) cl50 rfl rfl (q_as _ rfl (run_nil (h2 _ ?_)))))))
  refine ok_seq fun K3 h3 => ?_
  refine ok_seq fun K4 h4 => ok_region rfl (q_mv _ rfl (q_bin _ _ _ rfl rfl rfl (run_nil (h4 _ ?_))))
  refine ok_cond rfl (fun c5 => ?_) (fun c5 => ?_)
  · refine ok_seq fun K6 h6 => ?_
    refine ok_region rfl (q_as _ rfl (run_nil (h6 _ ?_)))
    refine ok_ret ⟨_, rfl, ?_⟩
    rw [e0, stp_pos (of_decide_eq_true c5)]; rfl
  · refine ok_skip (h3 _ ?_)
    have e1 : zCluster x n = ((zSeriesSS x.data)) (zRing x.ring n) := by rw [e0, stp_neg (of_decide_eq_false c5)]
    have a1 : 0 ≤ zRing x.ring n := by have := of_decide_eq_false c5; omega
    have b1 : zRing x.ring n ≤ 1048576 := ((zRing_ok x.ring) _ b0).1
    refine ok_seq fun K7 h7 => ok_region rfl (q_fa _ fd27_1 rfl rfl (by decide) (q_ld _ ag25 rfl rfl (q_mv _ rfl (q_call (f51_ok x.data (hx.2) _ a1 b1) cl51 rfl rfl (q_as _ rfl (run_nil (h7 _ ?_)))))))
    refine ok_seq fun K8 h8 => ?_
    refine ok_seq fun K9 h9 => ok_region rfl (q_mv _ rfl (q_bin _ _ _ rfl rfl rfl (run_nil (h9 _ ?_))))
    refine ok_cond rfl (fun c10 => ?_) (fun c10 => ?_)
    · refine ok_seq fun K11 h11 => ?_
      refine ok_region rfl (q_as _ rfl (run_nil (h11 _ ?_)))
      refine ok_ret ⟨_, rfl, ?_⟩
      rw [e1]; rw [((zSeriesSS_ok x.data) _ b1).2.1 (of_decide_eq_true c10)]; rfl
    · refine ok_skip (h8 _ ?_)
      refine ok_seq fun K12 h12 => ok_region rfl (q_mv _ rfl (q_as _ rfl (run_nil (h12 _ ?_))))
      refine ok_ret ⟨_, rfl, ?_⟩
      rw [e1]; rfl
theorem f11_ok (x : Cluster) (hx : SCluster x) : PFn Tryz.prog 11 [eCluster x] (eCluster x) := by
  refine fnr_ok (n := 13) Tryz.func11 rfl rfl rfl (Nat.le_of_ble_eq_true rfl) rfl fun w0 O => ?_
  refine ok_seq fun K1 h1 => ok_region rfl (q_boxs _ rfl (Nat.zero_lt_succ _) (q_alloc _ ze34 rfl rfl rfl rfl (run_nil (h1 _ ?_))))
  refine ok_seq fun K2 h2 => ok_region rfl (q_alloc _ ze34 rfl rfl rfl rfl (run_nil (h2 _ ?_)))
  refine ok_seq fun K3 h3 => ok_region rfl (q_fas fd27_0 rfl (by decide) (Nat.le_of_ble_eq_true rfl) rfl (q_lds _ ag24 rfl sz24 (q_call (f54_ok x.ring (hx.1)) cl54 rfl rfl (q_fap fd34_0 rfl (by decide) (q_sts _ rfl rfl rfl sz31 (Nat.le_of_ble_eq_true rfl) rfl (run_nil (h3 _ ?_)))))))
  refine ok_seq fun K4 h4 => ok_region rfl (q_fa _ fd27_1 rfl rfl (by decide) (q_ld _ ag25 rfl rfl (q_call (f55_ok x.data (hx.2)) cl55 rfl rfl (q_fap fd34_1 rfl (by decide) (q_st _ sz32 rfl rfl (Nat.le_of_ble_eq_true rfl) rfl ⟨_, rfl, rfl⟩ rfl (run_nil (h4 _ ?_)))))))
  refine ok_seq fun K5 h5 => ok_region rfl (q_ldbs ag34 rfl rfl sz34 rfl rfl (q_sts _ rfl rfl rfl sz34 (Nat.le_of_ble_eq_true rfl) rfl (run_nil (h5 _ ?_))))
  exact ok_ret (ret_cell (l := [int x.ring.copies, eRingNodeS x.ring.nodes, eSeriesSS x.data]) rfl rfl ag34 sz34 rfl rfl)
theorem f13_ok (x : Cluster) (hx : SCluster x) : PFn Tryz.prog 13 [eCluster x, eCluster x] (bool true) := by
  refine fn_ok' (n := 17) Tryz.func13 rfl rfl rfl (Nat.le_of_ble_eq_true rfl) rfl fun w0 O => ?_
  refine ok_seq fun K1 h1 => ok_region rfl (q_boxs _ rfl (Nat.zero_lt_succ _) (q_boxs _ rfl (Nat.zero_lt_succ _) (q_as _ rfl (run_nil (h1 _ ?_)))))
  refine ok_seq fun K2 h2 => ?_
  refine ok_seq fun K3 h3 => ?_
  refine ok_region rfl (q_fas fd34_0 rfl (by decide) (Nat.le_of_ble_eq_true rfl) rfl (q_lds _ ag31 rfl sz31 (q_fas fd34_0 rfl (by decide) (Nat.le_of_ble_eq_true rfl) rfl (q_lds _ ag31 rfl sz31 (
    q_call (f59_ok x.ring (hx.1)) cl59 rfl rfl (q_un _ _ rfl rfl (run_nil (h3 _ ?_))))))))
  refine ok_cond rfl (fun c4 => ?_) (fun c4 => ?_)
  · simp at c4
  · refine ok_skip (h2 _ ?_)
    refine ok_seq fun K6 h6 => ?_
    refine ok_seq fun K7 h7 => ok_region rfl (q_fa _ fd34_1 rfl rfl (by decide) (q_ld _ ag32 rfl rfl (q_fa _ fd34_1 rfl rfl (by decide) (q_ld _ ag32 rfl rfl (q_call (f60_ok x.data (hx.2)) cl60 rfl rfl (q_un _ _ rfl rfl (run_nil (h7 _ ?_))))))))
    refine ok_cond rfl (fun c8 => ?_) (fun c8 => ?_)
    · simp at c8
    · refine ok_skip (h6 _ ?_)
      refine ok_seq fun K10 h10 => ok_region rfl (q_as _ rfl (run_nil (h10 _ ?_)))
      exact ok_ret ⟨_, rfl, rfl⟩
structure Put where
  labels : List Label
  time : Int
  value : Int
structure Matcher where
  name : ByteArray
  op_ : Int
  value : ByteArray
end Go.Ring
