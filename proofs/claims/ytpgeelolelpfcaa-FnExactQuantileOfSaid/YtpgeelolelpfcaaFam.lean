/- The laws' own types: their bulk, their copies, their likeness, and how they open. No condition. -/
import Derived.Test.YtpgeelolelpfcaaFacts
namespace Go.Ring
open Go Go.RowKit Go.Eager Go.Abs Go.Proofs
set_option maxRecDepth 100000
set_option linter.unusedVariables false
set_option linter.unusedSimpArgs false
theorem op_IntS : Opens Try.prog 67 ints (fun y => LB y.length) :=
  op_iso (fun y : List Int => y) (fun _ => rfl) (fun y h => h.1) (op_slice (n := 1) Try.underlying67 (by kernel_rfl) (by decide) (fun _ => ⟨.inr rfl, rfl⟩) (op_int Try.underlying3))
def zIntS (x : List Int) (n : Int) : Int := take n x.length
theorem zIntS_ok (x : List Int) : GOk (zIntS x) (x.length ≤ 1048576) := take_ok _
theorem f245_ok (x : List Int) (hx : LB x.length) (n : Int) (h0 : 0 ≤ n) (hn : n ≤ 1048576) : PFn Try.prog 245 [ints x, int n] (int (zIntS x n)) := by
  unfold LB at hx
  have hl : (x.map int).length = x.length := List.length_map _
  refine fn_ok' (n := 12) Try.func245 rfl rfl rfl (Nat.le_of_ble_eq_true rfl) rfl fun w0 O => ?_
  refine ok_seq fun K1 h1 => ok_region rfl (q_as _ rfl (run_nil (h1 _ ?_))); clear h1 K1
  refine ok_seq fun K2 h2 => ok_region rfl (q_mv _ rfl (q_mv _ rfl (q_len eS67 rfl (q_sub rfl rfl (by rw [hl]; omega) (q_as _ rfl (run_nil (h2 _ ?_))))))); clear h2 K2
  rw [List.length_map]
  refine ok_seq fun K3 h3 => ?_
  refine ok_seq fun K4 h4 => ok_region rfl (q_mv _ rfl (q_bin _ _ _ rfl rfl rfl (run_nil (h4 _ ?_)))); clear h4 K4
  refine ok_cond rfl (fun c5 => ?_) (fun c5 => ?_)
  · refine ok_seq fun K6 h6 => ?_
    refine ok_region rfl (q_as _ rfl (run_nil (h6 _ ?_)))
    clear h6 K6
    refine ok_ret ⟨_, rfl, ?_⟩
    rw [zIntS, take_pos (of_decide_eq_true c5)]; rfl
  · refine ok_skip (h3 _ ?_)
    refine ok_seq fun K7 h7 => ok_region rfl (q_mv _ rfl (q_as _ rfl (run_nil (h7 _ ?_)))); clear h7 K7
    refine ok_ret ⟨_, rfl, ?_⟩
    rw [zIntS, take_neg (of_decide_eq_false c5)]; rfl
theorem f44_ok (x : List Int) (hx : x.length ≤ 1048576) : PFn Try.prog 44 [ints x] (ints x) := by
  have hle : x.length ≤ 1048576 := hx
  refine fnr_ok (n := 22) Try.func44 rfl rfl rfl (Nat.le_of_ble_eq_true rfl) rfl fun w0 O => ?_
  refine ok_seq fun K1 h1 => ok_region rfl (q_as _ rfl (run_nil (h1 _ ?_))); clear h1 K1
  refine ok_seq fun K2 h2 => ok_region rfl (q_mv _ rfl (q_len eS67 rfl (q_make _ _ el67 (by decide) ze3 rfl by3 rfl rfl rfl rfl (.inr ⟨rfl, rfl⟩) (by rw [List.length_map]; exact Nat.le_trans hle (by decide)) (by rw [List.length_map]; omega) (q_ao _ rfl (run_nil (h2 _ ?_)))))); clear h2 K2
  rw [List.length_map]
  refine ok_seq fun K3 h3 => ?_
  refine ok_seq fun K4 h4 => ok_region rfl (q_as _ rfl (run_nil (h4 _ ?_))); clear h4 K4
  refine ok_block ?_
  refine ok_loop (fun (k : Nat) => ⟨[(0, .sv (ints x)), (3, .own 7), (4, .sv (int k))], [(7, .row 1 3 (fill int (.raw (.int .i64 0)) x k))]⟩) (fun k => k ≤ x.length) (fun k => x.length - k) 0 (Nat.zero_le _) (by rw [fill_zero]; exact le_sub ⟨rfl, rfl, rfl, trivial⟩ ⟨rfl, trivial⟩) (fun k J => ?_)
  refine ok_seq fun K5 h5 => ?_
  refine ok_seq fun K6 h6 => ok_region rfl (q_mv _ rfl (q_mv _ rfl (q_len eS67 rfl (q_bin _ _ _ rfl rfl rfl (run_nil (h6 _ ?_)))))); clear h6 K6
  rw [List.length_map]
  refine ok_cond rfl (fun c7 => ?_) (fun c7 => ?_)
  · refine ok_skip (h5 _ ?_)
    have hk : k < x.length := by simpa using c7
    obtain ⟨u, hu⟩ := sget hk
    refine ok_seq fun K8 h8 => ?_
    refine ok_block ?_
    refine ok_last fun K9 h9 => ok_region rfl (q_mo _ rfl (q_mv _ rfl (q_mv _ rfl (q_mv _ rfl (q_ia (s := int u) el67 rfl rfl (by omega) (mget (f := int) hu) (q_ld _ ag3 rfl rfl (q_iao el67 rfl rfl rfl (by omega) (by rw [fill_len _ _ _ J]; exact hk) (q_ste sz3 rfl rfl (fill_get _ _ _ hk) rfl (.inr rfl) rfl (run_nil (h9 _ (h8 _ ?_)))))))))))
    refine ok_region rfl (q_mv _ rfl (q_add rfl rfl (by omega) (q_as _ rfl (run_nil (⟨k + 1, by omega, hk, ?_⟩)))))
    rw [← fill_set int (.raw (.int .i64 0)) hu]
    exact le_sub ⟨rfl, rfl, rfl, trivial⟩ ⟨rfl, trivial⟩
  · refine ok_exit (h3 _ ?_)
    refine ok_seq fun K9 h9 => ok_region rfl (q_mo _ rfl (q_ao _ rfl (run_nil (h9 _ ?_)))); clear h9 K9
    refine ok_ret ⟨_, ⟨_, _, rfl, rfl, rfl⟩, ?_⟩
    rw [fill_all _ _ _ (by simpa using c7)]; rfl
theorem f46_ok (x : List Int) (hx : x.length ≤ 1048576) : PFn Try.prog 46 [ints x, ints x] (bool true) := by
  have hle : x.length ≤ 1048576 := hx
  refine fn_ok' (n := 26) Try.func46 rfl rfl rfl (Nat.le_of_ble_eq_true rfl) rfl fun w0 O => ?_
  refine ok_seq fun K1 h1 => ok_region rfl (q_as _ rfl (run_nil (h1 _ ?_))); clear h1 K1
  refine ok_seq fun K2 h2 => ?_
  refine ok_seq fun K3 h3 => ok_region rfl (q_mv _ rfl (q_len eS67 rfl (q_mv _ rfl (q_len eS67 rfl (q_bin _ _ _ rfl rfl rfl (run_nil (h3 _ ?_))))))); clear h3 K3
  refine ok_cond rfl (fun c4 => ?_) (fun c4 => ?_)
  · simp at c4
  · refine ok_skip (h2 _ ?_)
    refine ok_seq fun K6 h6 => ?_
    refine ok_seq fun K7 h7 => ok_region rfl (q_as _ rfl (run_nil (h7 _ ?_))); clear h7 K7
    refine ok_block ?_
    refine ok_loop (fun (k : Nat) => ⟨[(0, .sv (ints x)), (1, .sv (ints x)), (5, .sv (int k))], []⟩) (fun k => True) (fun k => x.length - k) 0 trivial (le_same ⟨rfl, rfl, rfl, trivial⟩) (fun k J => ?_)
    refine ok_seq fun K8 h8 => ?_
    refine ok_seq fun K9 h9 => ok_region rfl (q_mv _ rfl (q_mv _ rfl (q_len eS67 rfl (q_bin _ _ _ rfl rfl rfl (run_nil (h9 _ ?_)))))); clear h9 K9
    rw [List.length_map]
    refine ok_cond rfl (fun c10 => ?_) (fun c10 => ?_)
    · refine ok_skip (h8 _ ?_)
      have hk : k < x.length := by simpa using c10
      obtain ⟨u, hu⟩ := sget hk
      refine ok_seq fun K11 h11 => ?_
      refine ok_block ?_
      refine ok_seq fun K12 h12 => ?_
      refine ok_region_i (by kernel_rfl) (by kernel_rfl) rfl (
        q_mv _ rfl (q_mv _ rfl (q_ia (s := int u) el67 rfl rfl (by omega) (mget (f := int) hu) (q_ld _ ag3 rfl rfl (q_mv _ rfl (q_mv _ rfl (q_ia (s := int u) el67 rfl rfl (by omega) (mget (f := int) hu) (q_ld _ ag3 rfl rfl (q_bin _ _ _ rfl rfl rfl (run_nil (h12 _ ?_)))))))))))
      clear h12 K12
      refine ok_cond rfl (fun c13 => ?_) (fun c13 => ?_)
      · simp at c13
      · refine ok_skip (h11 _ ?_)
        refine ok_region rfl (q_mv _ rfl (q_add rfl rfl (by omega) (q_as _ rfl (run_nil (⟨k + 1, by omega, trivial, le_same ⟨rfl, rfl, rfl, trivial⟩⟩)))))
    · refine ok_exit (h6 _ ?_)
      refine ok_seq fun K15 h15 => ok_region rfl (q_as _ rfl (run_nil (h15 _ ?_))); clear h15 K15
      exact ok_ret ⟨_, rfl, rfl⟩
structure RingNode where
  id : ByteArray
  st : Int
  toks : List Int
@[reducible] def eRingNode (x : RingNode) : SV := .agg [str x.id, int x.st, ints x.toks]
def LRingNode (x : RingNode) : Prop := LB x.id.size ∧ LB x.toks.length
def SRingNode (x : RingNode) : Prop := x.id.size ≤ 1048576 ∧ x.toks.length ≤ 1048576
theorem op_RingNode : Opens Try.prog 237 eRingNode (fun y => LRingNode y) :=
  op_iso (fun y : ByteArray × Int × (List Int) × Unit => (⟨y.1, y.2.1, y.2.2.1⟩ : RingNode)) (fun _ => rfl) (fun y h => ⟨h.1, h.2.2.1⟩)
    (op_struct (n := 3) Try.underlying237 (by kernel_rfl) (ofs_cons (f := { name := "Id", type := 9, offset := 0, embedded := false, tag := "", pkgPath := "", byteOffset := 0 }) (n := 1) (m := 2) rfl (by kernel_rfl) (fun _ => ⟨.inr rfl, rfl⟩) (op_string Try.underlying9) (ofs_cons (f := { name := "State", type := 3, offset := 1, embedded := false, tag := "", pkgPath := "", byteOffset := 16 }) (n := 1) (m := 1) rfl (by kernel_rfl) (fun _ => ⟨.inr rfl, rfl⟩) (op_int Try.underlying3) (ofs_cons (f := { name := "Tokens", type := 67, offset := 2, embedded := false, tag := "", pkgPath := "", byteOffset := 24 }) (n := 1) (m := 0) rfl (by kernel_rfl) (fun _ => ⟨.inr rfl, rfl⟩) op_IntS ofs_nil))))
def zRingNode (x : RingNode) (n : Int) : Int := (stp (fun n => take n x.id.size) ((zIntS x.toks))) n
theorem zRingNode_ok (x : RingNode) : GOk (zRingNode x) (SRingNode x) := (stp_ok (take_ok _) (zIntS_ok x.toks))
theorem f186_ok (x : RingNode) (hx : LRingNode x) (n : Int) (h0 : 0 ≤ n) (hn : n ≤ 1048576) : PFn Try.prog 186 [eRingNode x, int n] (int (zRingNode x n)) := by
  have e0 : zRingNode x n = (stp (fun n => take n x.id.size) ((zIntS x.toks))) n := rfl
  have a0 := h0
  have b0 := hn
  have l0 := hx.1; unfold LB at l0
  refine fn_ok' (n := 19) Try.func186 rfl rfl rfl (Nat.le_of_ble_eq_true rfl) rfl fun w0 O => ?_
  refine ok_seq fun K1 h1 => ok_region rfl (q_boxs _ rfl (Nat.zero_lt_succ _) (q_as _ rfl (run_nil (h1 _ ?_)))); clear h1 K1
  refine ok_seq fun K2 h2 => ok_region rfl (q_mv _ rfl (q_fa _ fd237_0 rfl rfl (by decide) (q_ld _ ag9 rfl rfl (q_lens st9 rfl (q_sub rfl rfl (by omega) (q_as _ rfl (run_nil (h2 _ ?_)))))))); clear h2 K2
  refine ok_seq fun K3 h3 => ?_
  refine ok_seq fun K4 h4 => ok_region rfl (q_mv _ rfl (q_bin _ _ _ rfl rfl rfl (run_nil (h4 _ ?_)))); clear h4 K4
  refine ok_cond rfl (fun c5 => ?_) (fun c5 => ?_)
  · refine ok_seq fun K6 h6 => ?_
    refine ok_region rfl (q_as _ rfl (run_nil (h6 _ ?_)))
    clear h6 K6
    refine ok_ret ⟨_, rfl, ?_⟩
    rw [e0, stp_pos (by show take _ _ < 0; rw [take_pos (of_decide_eq_true c5)]; decide)]; rfl
  · refine ok_skip (h3 _ ?_)
    have t0 := take_neg (of_decide_eq_false c5)
    have e1 : zRingNode x n = ((zIntS x.toks)) (n - (x.id.size : Int)) := by rw [e0, stp_neg (by show ¬ take _ _ < 0; rw [t0]; exact of_decide_eq_false c5)]; exact congrArg ((zIntS x.toks)) t0
    have a1 : 0 ≤ (n - (x.id.size : Int)) := by have := of_decide_eq_false c5; omega
    have b1 : (n - (x.id.size : Int)) ≤ 1048576 := by omega
    refine ok_seq fun K7 h7 => ok_region rfl (q_fa _ fd237_2 rfl rfl (by decide) (q_ld _ ag67 rfl rfl (q_mv _ rfl (q_call (f245_ok x.toks (hx.2) _ a1 b1) cl245 rfl rfl (q_as _ rfl (run_nil (h7 _ ?_))))))); clear h7 K7
    refine ok_seq fun K8 h8 => ?_
    refine ok_seq fun K9 h9 => ok_region rfl (q_mv _ rfl (q_bin _ _ _ rfl rfl rfl (run_nil (h9 _ ?_)))); clear h9 K9
    refine ok_cond rfl (fun c10 => ?_) (fun c10 => ?_)
    · refine ok_seq fun K11 h11 => ?_
      refine ok_region rfl (q_as _ rfl (run_nil (h11 _ ?_)))
      clear h11 K11
      refine ok_ret ⟨_, rfl, ?_⟩
      rw [e1]; rw [((zIntS_ok x.toks) _ b1).2.1 (of_decide_eq_true c10)]; rfl
    · refine ok_skip (h8 _ ?_)
      refine ok_seq fun K12 h12 => ok_region rfl (q_mv _ rfl (q_as _ rfl (run_nil (h12 _ ?_)))); clear h12 K12
      refine ok_ret ⟨_, rfl, ?_⟩
      rw [e1]; rfl
theorem f189_ok (x : RingNode) (hx : SRingNode x) : PFn Try.prog 189 [eRingNode x] (eRingNode x) := by
  refine fnr_ok (n := 15) Try.func189 rfl rfl rfl (Nat.le_of_ble_eq_true rfl) rfl fun w0 O => ?_
  refine ok_seq fun K1 h1 => ok_region rfl (q_boxs _ rfl (Nat.zero_lt_succ _) (q_alloc _ ze134 rfl rfl rfl rfl (run_nil (h1 _ ?_)))); clear h1 K1
  refine ok_seq fun K2 h2 => ok_region rfl (q_alloc _ ze134 rfl rfl rfl rfl (run_nil (h2 _ ?_))); clear h2 K2
  refine ok_seq fun K3 h3 => ok_region rfl (q_fa _ fd237_0 rfl rfl (by decide) (q_ld _ ag9 rfl rfl (q_fap fd134_0 rfl (by decide) (q_st _ sz9 rfl rfl (Nat.le_of_ble_eq_true rfl) rfl ⟨_, rfl, rfl⟩ rfl (run_nil (h3 _ ?_)))))); clear h3 K3
  refine ok_seq fun K4 h4 => ok_region rfl (q_fa _ fd237_1 rfl rfl (by decide) (q_ld _ ag3 rfl rfl (q_fap fd134_1 rfl (by decide) (q_st _ sz3 rfl rfl (Nat.le_of_ble_eq_true rfl) rfl ⟨_, rfl, rfl⟩ rfl (run_nil (h4 _ ?_)))))); clear h4 K4
  refine ok_seq fun K5 h5 => ok_region rfl (q_fa _ fd237_2 rfl rfl (by decide) (q_ld _ ag67 rfl rfl (q_call (f44_ok x.toks (hx.2)) cl44 rfl rfl (q_fap fd134_2 rfl (by decide) (q_st _ sz67 rfl rfl (Nat.le_of_ble_eq_true rfl) rfl ⟨_, rfl, rfl⟩ rfl (run_nil (h5 _ ?_))))))); clear h5 K5
  refine ok_seq fun K6 h6 => ok_region rfl (q_ldbs ag134 rfl rfl sz134 rfl rfl (q_sts _ rfl rfl rfl sz134 (Nat.le_of_ble_eq_true rfl) rfl (run_nil (h6 _ ?_)))); clear h6 K6
  exact ok_ret (ret_cell (l := [str x.id, int x.st, ints x.toks]) rfl rfl ag134 sz134 rfl rfl)
theorem f192_ok (x : RingNode) (hx : SRingNode x) : PFn Try.prog 192 [eRingNode x, eRingNode x] (bool true) := by
  refine fn_ok' (n := 21) Try.func192 rfl rfl rfl (Nat.le_of_ble_eq_true rfl) rfl fun w0 O => ?_
  refine ok_seq fun K1 h1 => ok_region rfl (q_boxs _ rfl (Nat.zero_lt_succ _) (q_boxs _ rfl (Nat.zero_lt_succ _) (q_as _ rfl (run_nil (h1 _ ?_))))); clear h1 K1
  refine ok_seq fun K2 h2 => ?_
  refine ok_seq fun K3 h3 => ok_region rfl (q_fa _ fd134_0 rfl rfl (by decide) (q_ld _ ag9 rfl rfl (q_fa _ fd134_0 rfl rfl (by decide) (q_ld _ ag9 rfl rfl (q_bin _ _ _ rfl rfl rfl (run_nil (h3 _ ?_))))))); clear h3 K3
  refine ok_cond rfl (fun c4 => ?_) (fun c4 => ?_)
  · simp at c4
  · refine ok_skip (h2 _ ?_)
    refine ok_seq fun K6 h6 => ?_
    refine ok_seq fun K7 h7 => ok_region rfl (q_fa _ fd134_1 rfl rfl (by decide) (q_ld _ ag3 rfl rfl (q_fa _ fd134_1 rfl rfl (by decide) (q_ld _ ag3 rfl rfl (q_bin _ _ _ rfl rfl rfl (run_nil (h7 _ ?_))))))); clear h7 K7
    refine ok_cond rfl (fun c8 => ?_) (fun c8 => ?_)
    · simp at c8
    · refine ok_skip (h6 _ ?_)
      refine ok_seq fun K10 h10 => ?_
      refine ok_seq fun K11 h11 => ok_region rfl (q_fa _ fd134_2 rfl rfl (by decide) (q_ld _ ag67 rfl rfl (q_fa _ fd134_2 rfl rfl (by decide) (q_ld _ ag67 rfl rfl (q_call (f46_ok x.toks (hx.2)) cl46 rfl rfl (q_un _ _ rfl rfl (run_nil (h11 _ ?_)))))))); clear h11 K11
      refine ok_cond rfl (fun c12 => ?_) (fun c12 => ?_)
      · simp at c12
      · refine ok_skip (h10 _ ?_)
        refine ok_seq fun K14 h14 => ok_region rfl (q_as _ rfl (run_nil (h14 _ ?_))); clear h14 K14
        exact ok_ret ⟨_, rfl, rfl⟩
@[reducible] def eRingNodeS (l : List RingNode) : SV := .sl 3 (l.map eRingNode)
theorem op_RingNodeS : Opens Try.prog 22 eRingNodeS (fun y => LB y.length ∧ ∀ z ∈ y, LRingNode z) :=
  op_iso (fun y : List RingNode => y) (fun _ => rfl) (fun y h => h) (op_slice (n := 3) Try.underlying22 (by kernel_rfl) (by decide) (fun _ => ⟨.inl ⟨_, rfl⟩, rfl⟩) op_RingNode)
def zRingNodeS (x : List RingNode) (n : Int) : Int := szSl zRingNode x n
theorem zRingNodeS_ok (x : List RingNode) : GOk (zRingNodeS x) (x.length ≤ 1048576 ∧ ∀ y ∈ x, SRingNode y) := szSl_ok zRingNode_ok x
theorem f84_ok (x : List RingNode) (hx : LB x.length ∧ ∀ y ∈ x, LRingNode y) (n : Int) (h0 : 0 ≤ n) (hn : n ≤ 1048576) : PFn Try.prog 84 [eRingNodeS x, int n] (int (zRingNodeS x n)) := by
  have hx1 := hx.1
  unfold LB at hx1
  refine fn_ok' (n := 27) Try.func84 rfl rfl rfl (Nat.le_of_ble_eq_true rfl) rfl fun w0 O => ?_
  refine ok_seq fun K1 h1 => ok_region rfl (q_as _ rfl (run_nil (h1 _ ?_))); clear h1 K1
  refine ok_seq fun K2 h2 => ok_region rfl (q_mv _ rfl (q_mv _ rfl (q_len eS22 rfl (q_sub rfl rfl (by rw [List.length_map]; omega) (q_as _ rfl (run_nil (h2 _ ?_))))))); clear h2 K2
  rw [List.length_map]
  refine ok_seq fun K3 h3 => ?_
  refine ok_seq fun K4 h4 => ok_region rfl (q_mv _ rfl (q_bin _ _ _ rfl rfl rfl (run_nil (h4 _ ?_)))); clear h4 K4
  refine ok_cond rfl (fun c5 => ?_) (fun c5 => ?_)
  · refine ok_seq fun K6 h6 => ?_
    refine ok_region rfl (q_as _ rfl (run_nil (h6 _ ?_)))
    clear h6 K6
    refine ok_ret ⟨_, rfl, ?_⟩
    rw [zRingNodeS, szSl_pos (of_decide_eq_true c5)]; rfl
  · refine ok_skip (h3 _ ?_)
    refine ok_seq fun K7 h7 => ?_
    refine ok_seq fun K8 h8 => ok_region rfl (q_as _ rfl (run_nil (h8 _ ?_))); clear h8 K8
    refine ok_block ?_
    refine ok_loop (fun (s : Nat × Int) => ⟨[(0, .sv (eRingNodeS x)), (1, .sv (int s.2)), (5, .sv (int s.1))], []⟩) (fun s => 0 ≤ s.2 ∧ s.2 ≤ 1048576 ∧ szAll zRingNode (x.drop s.1) s.2 = zRingNodeS x n) (fun s => x.length - s.1) (0, n - x.length) ⟨by have := of_decide_eq_false c5; simp only; omega, by simp only; omega, by simp only [List.drop_zero]; rw [zRingNodeS, szSl_neg (of_decide_eq_false c5)]⟩ (le_same ⟨rfl, rfl, rfl, trivial⟩) (fun s J => ?_)
    obtain ⟨k, a⟩ := s
    obtain ⟨J1, J2, J3⟩ := J
    simp only at J1 J2 J3
    refine ok_seq fun K9 h9 => ?_
    refine ok_seq fun K10 h10 => ok_region rfl (q_mv _ rfl (q_mv _ rfl (q_len eS22 rfl (q_bin _ _ _ rfl rfl rfl (run_nil (h10 _ ?_)))))); clear h10 K10
    rw [List.length_map]
    refine ok_cond rfl (fun c11 => ?_) (fun c11 => ?_)
    · refine ok_skip (h9 _ ?_)
      obtain ⟨u, hu⟩ := sget (l := x) (i := k) (by simpa using c11)
      rw [szAll_cons _ hu] at J3
      refine ok_seq fun K12 h12 => ?_
      refine ok_block ?_
      refine ok_seq fun K13 h13 => ok_region rfl (q_mv _ rfl (q_mv _ rfl (q_ia el22 rfl rfl (by omega) (mget hu) (q_lds _ ag237 rfl sz237 (q_mv _ rfl (q_call (f186_ok u (hx.2 u (smem hu)) a J1 J2) cl186 rfl rfl (q_as _ rfl (run_nil (h13 _ ?_))))))))); clear h13 K13
      refine ok_seq fun K14 h14 => ok_region rfl (q_mv _ rfl (q_bin _ _ _ rfl rfl rfl (run_nil (h14 _ ?_)))); clear h14 K14
      refine ok_cond rfl (fun c15 => ?_) (fun c15 => ?_)
      · refine ok_seq fun K16 h16 => ?_
        refine ok_region rfl (q_as _ rfl (run_nil (h16 _ ?_)))
        clear h16 K16
        refine ok_ret ⟨_, rfl, ?_⟩
        rw [if_pos (of_decide_eq_true c15)] at J3; rw [← J3]; rfl
      · refine ok_skip (h12 _ ?_)
        refine ok_region rfl (q_mv _ rfl (q_add rfl rfl (by have := slt hu; have := hx.1; unfold LB at this; omega) (q_as _ rfl (run_nil (⟨(k + 1, zRingNode u a), by have := slt hu; simp only; omega, ⟨by have := of_decide_eq_false c15; simp only; omega, (zRingNode_ok u a J2).1, by rw [if_neg (of_decide_eq_false c15)] at J3; exact J3⟩, le_same ⟨rfl, rfl, rfl, trivial⟩⟩)))))
    · refine ok_exit (h7 _ ?_)
      refine ok_seq fun K17 h17 => ok_region rfl (q_mv _ rfl (q_as _ rfl (run_nil (h17 _ ?_)))); clear h17 K17
      refine ok_ret ⟨_, rfl, ?_⟩
      rw [szAll_end _ (by simpa using c11)] at J3; rw [← J3]; rfl
theorem f88_ok (x : List RingNode) (hx : x.length ≤ 1048576 ∧ ∀ y ∈ x, SRingNode y) : PFn Try.prog 88 [eRingNodeS x] (eRingNodeS x) := by
  have hle : x.length ≤ 1048576 := hx.1
  refine fnr_ok (n := 23) Try.func88 rfl rfl rfl (Nat.le_of_ble_eq_true rfl) rfl fun w0 O => ?_
  refine ok_seq fun K1 h1 => ok_region rfl (q_as _ rfl (run_nil (h1 _ ?_))); clear h1 K1
  refine ok_seq fun K2 h2 => ok_region rfl (q_mv _ rfl (q_len eS22 rfl (q_make _ _ el27 (by decide) ze134 rfl by134 rfl rfl rfl rfl (.inl ⟨rfl, rfl, rfl⟩) (by rw [List.length_map]; exact Nat.le_trans hle (by decide)) (by rw [List.length_map]; omega) (q_ao _ rfl (run_nil (h2 _ ?_)))))); clear h2 K2
  rw [List.length_map]
  refine ok_seq fun K3 h3 => ?_
  refine ok_seq fun K4 h4 => ok_region rfl (q_as _ rfl (run_nil (h4 _ ?_))); clear h4 K4
  refine ok_block ?_
  refine ok_loop (fun (k : Nat) => ⟨[(0, .sv (eRingNodeS x)), (3, .own 7), (4, .sv (int k))], [(7, .row 3 134 (fill eRingNode (.agg [.raw (.string ⟨#[]⟩), .raw (.int .i64 0), .raw (.slice none 0 0)]) x k))]⟩) (fun k => k ≤ x.length) (fun k => x.length - k) 0 (Nat.zero_le _) (by rw [fill_zero]; exact le_sub ⟨rfl, rfl, rfl, trivial⟩ ⟨rfl, trivial⟩) (fun k J => ?_)
  refine ok_seq fun K5 h5 => ?_
  refine ok_seq fun K6 h6 => ok_region rfl (q_mv _ rfl (q_mv _ rfl (q_len eS22 rfl (q_bin _ _ _ rfl rfl rfl (run_nil (h6 _ ?_)))))); clear h6 K6
  rw [List.length_map]
  refine ok_cond rfl (fun c7 => ?_) (fun c7 => ?_)
  · refine ok_skip (h5 _ ?_)
    have hk : k < x.length := by simpa using c7
    obtain ⟨u, hu⟩ := sget hk
    refine ok_seq fun K8 h8 => ?_
    refine ok_block ?_
    refine ok_last fun K9 h9 => ok_region rfl (q_mo _ rfl (q_mv _ rfl (q_mv _ rfl (q_mv _ rfl (q_ia el22 rfl rfl (by omega) (mget hu) (q_lds _ ag237 rfl sz237 (q_call (f189_ok u (hx.2 u (smem hu))) cl189 rfl rfl (q_iao el27 rfl rfl rfl (by omega) (by rw [fill_len _ _ _ J]; exact hk) (
      q_ste sz134 rfl rfl (fill_get _ _ _ hk) rfl (.inl ⟨_, rfl⟩) rfl (run_nil (h9 _ (h8 _ ?_))))))))))))
    refine ok_region rfl (q_mv _ rfl (q_add rfl rfl (by omega) (q_as _ rfl (run_nil (⟨k + 1, by omega, hk, ?_⟩)))))
    rw [← fill_set eRingNode (.agg [.raw (.string ⟨#[]⟩), .raw (.int .i64 0), .raw (.slice none 0 0)]) hu]
    exact le_sub ⟨rfl, rfl, rfl, trivial⟩ ⟨rfl, trivial⟩
  · refine ok_exit (h3 _ ?_)
    refine ok_seq fun K9 h9 => ok_region rfl (q_mo _ rfl (q_ao _ rfl (run_nil (h9 _ ?_)))); clear h9 K9
    refine ok_ret ⟨_, ⟨_, _, rfl, rfl, rfl⟩, ?_⟩
    rw [fill_all _ _ _ (by simpa using c7)]; rfl
theorem f91_ok (x : List RingNode) (hx : x.length ≤ 1048576 ∧ ∀ y ∈ x, SRingNode y) : PFn Try.prog 91 [eRingNodeS x, eRingNodeS x] (bool true) := by
  have hle : x.length ≤ 1048576 := hx.1
  refine fn_ok' (n := 27) Try.func91 rfl rfl rfl (Nat.le_of_ble_eq_true rfl) rfl fun w0 O => ?_
  refine ok_seq fun K1 h1 => ok_region rfl (q_as _ rfl (run_nil (h1 _ ?_))); clear h1 K1
  refine ok_seq fun K2 h2 => ?_
  refine ok_seq fun K3 h3 => ok_region rfl (q_mv _ rfl (q_len eS27 rfl (q_mv _ rfl (q_len eS27 rfl (q_bin _ _ _ rfl rfl rfl (run_nil (h3 _ ?_))))))); clear h3 K3
  refine ok_cond rfl (fun c4 => ?_) (fun c4 => ?_)
  · simp at c4
  · refine ok_skip (h2 _ ?_)
    refine ok_seq fun K6 h6 => ?_
    refine ok_seq fun K7 h7 => ok_region rfl (q_as _ rfl (run_nil (h7 _ ?_))); clear h7 K7
    refine ok_block ?_
    refine ok_loop (fun (k : Nat) => ⟨[(0, .sv (eRingNodeS x)), (1, .sv (eRingNodeS x)), (5, .sv (int k))], []⟩) (fun k => True) (fun k => x.length - k) 0 trivial (le_same ⟨rfl, rfl, rfl, trivial⟩) (fun k J => ?_)
    refine ok_seq fun K8 h8 => ?_
    refine ok_seq fun K9 h9 => ok_region rfl (q_mv _ rfl (q_mv _ rfl (q_len eS27 rfl (q_bin _ _ _ rfl rfl rfl (run_nil (h9 _ ?_)))))); clear h9 K9
    rw [List.length_map]
    refine ok_cond rfl (fun c10 => ?_) (fun c10 => ?_)
    · refine ok_skip (h8 _ ?_)
      have hk : k < x.length := by simpa using c10
      obtain ⟨u, hu⟩ := sget hk
      refine ok_seq fun K11 h11 => ?_
      refine ok_block ?_
      refine ok_seq fun K12 h12 => ?_
      refine ok_region_i (by kernel_rfl) (by kernel_rfl) rfl (
        q_mv _ rfl (q_mv _ rfl (q_ia el27 rfl rfl (by omega) (mget hu) (q_lds _ ag134 rfl sz134 (q_mv _ rfl (q_mv _ rfl (q_ia el27 rfl rfl (by omega) (mget hu) (q_lds _ ag134 rfl sz134 (
        q_call (f192_ok u (hx.2 u (smem hu))) cl192 rfl rfl (q_un _ _ rfl rfl (run_nil (h12 _ ?_))))))))))))
      clear h12 K12
      refine ok_cond rfl (fun c13 => ?_) (fun c13 => ?_)
      · simp at c13
      · refine ok_skip (h11 _ ?_)
        refine ok_region rfl (q_mv _ rfl (q_add rfl rfl (by omega) (q_as _ rfl (run_nil (⟨k + 1, by omega, trivial, le_same ⟨rfl, rfl, rfl, trivial⟩⟩)))))
    · refine ok_exit (h6 _ ?_)
      refine ok_seq fun K15 h15 => ok_region rfl (q_as _ rfl (run_nil (h15 _ ?_))); clear h15 K15
      exact ok_ret ⟨_, rfl, rfl⟩
structure Ring where
  copies : Int
  nodes : List RingNode
@[reducible] def eRing (x : Ring) : SV := .agg [int x.copies, eRingNodeS x.nodes]
def LRing (x : Ring) : Prop := LB x.nodes.length ∧ ∀ y ∈ x.nodes, LRingNode y
def SRing (x : Ring) : Prop := x.nodes.length ≤ 1048576 ∧ ∀ y ∈ x.nodes, SRingNode y
theorem op_Ring : Opens Try.prog 24 eRing (fun y => LRing y) :=
  op_iso (fun y : Int × (List RingNode) × Unit => (⟨y.1, y.2.1⟩ : Ring)) (fun _ => rfl) (fun y h => h.2.1)
    (op_struct (n := 2) Try.underlying24 (by kernel_rfl) (ofs_cons (f := { name := "Copies", type := 3, offset := 0, embedded := false, tag := "", pkgPath := "", byteOffset := 0 }) (n := 1) (m := 1) rfl (by kernel_rfl) (fun _ => ⟨.inr rfl, rfl⟩) (op_int Try.underlying3) (ofs_cons (f := { name := "Nodes", type := 22, offset := 1, embedded := false, tag := "", pkgPath := "", byteOffset := 8 }) (n := 1) (m := 0) rfl (by kernel_rfl) (fun _ => ⟨.inr rfl, rfl⟩) op_RingNodeS ofs_nil)))
def zRing (x : Ring) (n : Int) : Int := ((zRingNodeS x.nodes)) n
theorem zRing_ok (x : Ring) : GOk (zRing x) (SRing x) := (zRingNodeS_ok x.nodes)
theorem f14_ok (x : Ring) (hx : LRing x) (n : Int) (h0 : 0 ≤ n) (hn : n ≤ 1048576) : PFn Try.prog 14 [eRing x, int n] (int (zRing x n)) := by
  have e0 : zRing x n = ((zRingNodeS x.nodes)) n := rfl
  have a0 := h0
  have b0 := hn
  refine fn_ok' (n := 12) Try.func14 rfl rfl rfl (Nat.le_of_ble_eq_true rfl) rfl fun w0 O => ?_
  refine ok_seq fun K1 h1 => ok_region rfl (q_boxs _ rfl (Nat.zero_lt_succ _) (q_as _ rfl (run_nil (h1 _ ?_)))); clear h1 K1
  refine ok_seq fun K2 h2 => ok_region rfl (q_fa _ fd24_1 rfl rfl (by decide) (q_ld _ ag22 rfl rfl (q_mv _ rfl (q_call (f84_ok x.nodes (hx) _ a0 b0) cl84 rfl rfl (q_as _ rfl (run_nil (h2 _ ?_))))))); clear h2 K2
  refine ok_seq fun K3 h3 => ?_
  refine ok_seq fun K4 h4 => ok_region rfl (q_mv _ rfl (q_bin _ _ _ rfl rfl rfl (run_nil (h4 _ ?_)))); clear h4 K4
  refine ok_cond rfl (fun c5 => ?_) (fun c5 => ?_)
  · refine ok_seq fun K6 h6 => ?_
    refine ok_region rfl (q_as _ rfl (run_nil (h6 _ ?_)))
    clear h6 K6
    refine ok_ret ⟨_, rfl, ?_⟩
    rw [e0]; rw [((zRingNodeS_ok x.nodes) _ b0).2.1 (of_decide_eq_true c5)]; rfl
  · refine ok_skip (h3 _ ?_)
    refine ok_seq fun K7 h7 => ok_region rfl (q_mv _ rfl (q_as _ rfl (run_nil (h7 _ ?_)))); clear h7 K7
    refine ok_ret ⟨_, rfl, ?_⟩
    rw [e0]; rfl
theorem f16_ok (x : Ring) (hx : SRing x) : PFn Try.prog 16 [eRing x] (eRing x) := by
  refine fnr_ok (n := 12) Try.func16 rfl rfl rfl (Nat.le_of_ble_eq_true rfl) rfl fun w0 O => ?_
  refine ok_seq fun K1 h1 => ok_region rfl (q_boxs _ rfl (Nat.zero_lt_succ _) (q_alloc _ ze29 rfl rfl rfl rfl (run_nil (h1 _ ?_)))); clear h1 K1
  refine ok_seq fun K2 h2 => ok_region rfl (q_alloc _ ze29 rfl rfl rfl rfl (run_nil (h2 _ ?_))); clear h2 K2
  refine ok_seq fun K3 h3 => ok_region rfl (q_fa _ fd24_0 rfl rfl (by decide) (q_ld _ ag3 rfl rfl (q_fap fd29_0 rfl (by decide) (q_st _ sz3 rfl rfl (Nat.le_of_ble_eq_true rfl) rfl ⟨_, rfl, rfl⟩ rfl (run_nil (h3 _ ?_)))))); clear h3 K3
  refine ok_seq fun K4 h4 => ok_region rfl (q_fa _ fd24_1 rfl rfl (by decide) (q_ld _ ag22 rfl rfl (q_call (f88_ok x.nodes (hx)) cl88 rfl rfl (q_fap fd29_1 rfl (by decide) (q_st _ sz27 rfl rfl (Nat.le_of_ble_eq_true rfl) rfl ⟨_, rfl, rfl⟩ rfl (run_nil (h4 _ ?_))))))); clear h4 K4
  refine ok_seq fun K5 h5 => ok_region rfl (q_ldbs ag29 rfl rfl sz29 rfl rfl (q_sts _ rfl rfl rfl sz29 (Nat.le_of_ble_eq_true rfl) rfl (run_nil (h5 _ ?_)))); clear h5 K5
  exact ok_ret (ret_cell (l := [int x.copies, eRingNodeS x.nodes]) rfl rfl ag29 sz29 rfl rfl)
theorem f18_ok (x : Ring) (hx : SRing x) : PFn Try.prog 18 [eRing x, eRing x] (bool true) := by
  refine fn_ok' (n := 16) Try.func18 rfl rfl rfl (Nat.le_of_ble_eq_true rfl) rfl fun w0 O => ?_
  refine ok_seq fun K1 h1 => ok_region rfl (q_boxs _ rfl (Nat.zero_lt_succ _) (q_boxs _ rfl (Nat.zero_lt_succ _) (q_as _ rfl (run_nil (h1 _ ?_))))); clear h1 K1
  refine ok_seq fun K2 h2 => ?_
  refine ok_seq fun K3 h3 => ok_region rfl (q_fa _ fd29_0 rfl rfl (by decide) (q_ld _ ag3 rfl rfl (q_fa _ fd29_0 rfl rfl (by decide) (q_ld _ ag3 rfl rfl (q_bin _ _ _ rfl rfl rfl (run_nil (h3 _ ?_))))))); clear h3 K3
  refine ok_cond rfl (fun c4 => ?_) (fun c4 => ?_)
  · simp at c4
  · refine ok_skip (h2 _ ?_)
    refine ok_seq fun K6 h6 => ?_
    refine ok_seq fun K7 h7 => ok_region rfl (q_fa _ fd29_1 rfl rfl (by decide) (q_ld _ ag27 rfl rfl (q_fa _ fd29_1 rfl rfl (by decide) (q_ld _ ag27 rfl rfl (q_call (f91_ok x.nodes (hx)) cl91 rfl rfl (q_un _ _ rfl rfl (run_nil (h7 _ ?_)))))))); clear h7 K7
    refine ok_cond rfl (fun c8 => ?_) (fun c8 => ?_)
    · simp at c8
    · refine ok_skip (h6 _ ?_)
      refine ok_seq fun K10 h10 => ok_region rfl (q_as _ rfl (run_nil (h10 _ ?_))); clear h10 K10
      exact ok_ret ⟨_, rfl, rfl⟩
structure Label where
  name : ByteArray
  value : ByteArray
@[reducible] def eLabel (x : Label) : SV := .agg [str x.name, str x.value]
def LLabel (x : Label) : Prop := LB x.name.size ∧ LB x.value.size
def SLabel (x : Label) : Prop := x.name.size ≤ 1048576 ∧ x.value.size ≤ 1048576
theorem op_Label : Opens Try.prog 159 eLabel (fun y => LLabel y) :=
  op_iso (fun y : ByteArray × ByteArray × Unit => (⟨y.1, y.2.1⟩ : Label)) (fun _ => rfl) (fun y h => ⟨h.1, h.2.1⟩)
    (op_struct (n := 2) Try.underlying159 (by kernel_rfl) (ofs_cons (f := { name := "Name", type := 9, offset := 0, embedded := false, tag := "", pkgPath := "", byteOffset := 0 }) (n := 1) (m := 1) rfl (by kernel_rfl) (fun _ => ⟨.inr rfl, rfl⟩) (op_string Try.underlying9) (ofs_cons (f := { name := "Value", type := 9, offset := 1, embedded := false, tag := "", pkgPath := "", byteOffset := 16 }) (n := 1) (m := 0) rfl (by kernel_rfl) (fun _ => ⟨.inr rfl, rfl⟩) (op_string Try.underlying9) ofs_nil)))
def zLabel (x : Label) (n : Int) : Int := (stp (fun n => take n x.name.size) ((fun n => take n x.value.size))) n
theorem zLabel_ok (x : Label) : GOk (zLabel x) (SLabel x) := (stp_ok (take_ok _) (take_ok _))
theorem f101_ok (x : Label) (hx : LLabel x) (n : Int) (h0 : 0 ≤ n) (hn : n ≤ 1048576) : PFn Try.prog 101 [eLabel x, int n] (int (zLabel x n)) := by
  have e0 : zLabel x n = (stp (fun n => take n x.name.size) ((fun n => take n x.value.size))) n := rfl
  have a0 := h0
  have b0 := hn
  have l0 := hx.1; unfold LB at l0
  have l1 := hx.2; unfold LB at l1
  refine fn_ok' (n := 20) Try.func101 rfl rfl rfl (Nat.le_of_ble_eq_true rfl) rfl fun w0 O => ?_
  refine ok_seq fun K1 h1 => ok_region rfl (q_boxs _ rfl (Nat.zero_lt_succ _) (q_as _ rfl (run_nil (h1 _ ?_)))); clear h1 K1
  refine ok_seq fun K2 h2 => ok_region rfl (q_mv _ rfl (q_fa _ fd159_0 rfl rfl (by decide) (q_ld _ ag9 rfl rfl (q_lens st9 rfl (q_sub rfl rfl (by omega) (q_as _ rfl (run_nil (h2 _ ?_)))))))); clear h2 K2
  refine ok_seq fun K3 h3 => ?_
  refine ok_seq fun K4 h4 => ok_region rfl (q_mv _ rfl (q_bin _ _ _ rfl rfl rfl (run_nil (h4 _ ?_)))); clear h4 K4
  refine ok_cond rfl (fun c5 => ?_) (fun c5 => ?_)
  · refine ok_seq fun K6 h6 => ?_
    refine ok_region rfl (q_as _ rfl (run_nil (h6 _ ?_)))
    clear h6 K6
    refine ok_ret ⟨_, rfl, ?_⟩
    rw [e0, stp_pos (by show take _ _ < 0; rw [take_pos (of_decide_eq_true c5)]; decide)]; rfl
  · refine ok_skip (h3 _ ?_)
    have t0 := take_neg (of_decide_eq_false c5)
    have e1 : zLabel x n = ((fun n => take n x.value.size)) (n - (x.name.size : Int)) := by rw [e0, stp_neg (by show ¬ take _ _ < 0; rw [t0]; exact of_decide_eq_false c5)]; exact congrArg ((fun n => take n x.value.size)) t0
    have a1 : 0 ≤ (n - (x.name.size : Int)) := by have := of_decide_eq_false c5; omega
    have b1 : (n - (x.name.size : Int)) ≤ 1048576 := by omega
    refine ok_seq fun K7 h7 => ok_region rfl (q_mv _ rfl (q_fa _ fd159_1 rfl rfl (by decide) (q_ld _ ag9 rfl rfl (q_lens st9 rfl (q_sub rfl rfl (by omega) (q_as _ rfl (run_nil (h7 _ ?_)))))))); clear h7 K7
    refine ok_seq fun K8 h8 => ?_
    refine ok_seq fun K9 h9 => ok_region rfl (q_mv _ rfl (q_bin _ _ _ rfl rfl rfl (run_nil (h9 _ ?_)))); clear h9 K9
    refine ok_cond rfl (fun c10 => ?_) (fun c10 => ?_)
    · refine ok_seq fun K11 h11 => ?_
      refine ok_region rfl (q_as _ rfl (run_nil (h11 _ ?_)))
      clear h11 K11
      refine ok_ret ⟨_, rfl, ?_⟩
      rw [e1]; show _ = int (take _ _); rw [take_pos (of_decide_eq_true c10)]; rfl
    · refine ok_skip (h8 _ ?_)
      refine ok_seq fun K12 h12 => ok_region rfl (q_mv _ rfl (q_as _ rfl (run_nil (h12 _ ?_)))); clear h12 K12
      refine ok_ret ⟨_, rfl, ?_⟩
      rw [e1]; show _ = int (take _ _); rw [take_neg (of_decide_eq_false c10)]; rfl
theorem f103_ok (x : Label) (hx : SLabel x) : PFn Try.prog 103 [eLabel x] (eLabel x) := by
  refine fnr_ok (n := 11) Try.func103 rfl rfl rfl (Nat.le_of_ble_eq_true rfl) rfl fun w0 O => ?_
  refine ok_seq fun K1 h1 => ok_region rfl (q_boxs _ rfl (Nat.zero_lt_succ _) (q_alloc _ ze91 rfl rfl rfl rfl (run_nil (h1 _ ?_)))); clear h1 K1
  refine ok_seq fun K2 h2 => ok_region rfl (q_alloc _ ze91 rfl rfl rfl rfl (run_nil (h2 _ ?_))); clear h2 K2
  refine ok_seq fun K3 h3 => ok_region rfl (q_fa _ fd159_0 rfl rfl (by decide) (q_ld _ ag9 rfl rfl (q_fap fd91_0 rfl (by decide) (q_st _ sz9 rfl rfl (Nat.le_of_ble_eq_true rfl) rfl ⟨_, rfl, rfl⟩ rfl (run_nil (h3 _ ?_)))))); clear h3 K3
  refine ok_seq fun K4 h4 => ok_region rfl (q_fa _ fd159_1 rfl rfl (by decide) (q_ld _ ag9 rfl rfl (q_fap fd91_1 rfl (by decide) (q_st _ sz9 rfl rfl (Nat.le_of_ble_eq_true rfl) rfl ⟨_, rfl, rfl⟩ rfl (run_nil (h4 _ ?_)))))); clear h4 K4
  refine ok_seq fun K5 h5 => ok_region rfl (q_ldbs ag91 rfl rfl sz91 rfl rfl (q_sts _ rfl rfl rfl sz91 (Nat.le_of_ble_eq_true rfl) rfl (run_nil (h5 _ ?_)))); clear h5 K5
  exact ok_ret (ret_cell (l := [str x.name, str x.value]) rfl rfl ag91 sz91 rfl rfl)
theorem f105_ok (x : Label) (hx : SLabel x) : PFn Try.prog 105 [eLabel x, eLabel x] (bool true) := by
  refine fn_ok' (n := 15) Try.func105 rfl rfl rfl (Nat.le_of_ble_eq_true rfl) rfl fun w0 O => ?_
  refine ok_seq fun K1 h1 => ok_region rfl (q_boxs _ rfl (Nat.zero_lt_succ _) (q_boxs _ rfl (Nat.zero_lt_succ _) (q_as _ rfl (run_nil (h1 _ ?_))))); clear h1 K1
  refine ok_seq fun K2 h2 => ?_
  refine ok_seq fun K3 h3 => ok_region rfl (q_fa _ fd91_0 rfl rfl (by decide) (q_ld _ ag9 rfl rfl (q_fa _ fd91_0 rfl rfl (by decide) (q_ld _ ag9 rfl rfl (q_bin _ _ _ rfl rfl rfl (run_nil (h3 _ ?_))))))); clear h3 K3
  refine ok_cond rfl (fun c4 => ?_) (fun c4 => ?_)
  · simp at c4
  · refine ok_skip (h2 _ ?_)
    refine ok_seq fun K6 h6 => ?_
    refine ok_seq fun K7 h7 => ok_region rfl (q_fa _ fd91_1 rfl rfl (by decide) (q_ld _ ag9 rfl rfl (q_fa _ fd91_1 rfl rfl (by decide) (q_ld _ ag9 rfl rfl (q_bin _ _ _ rfl rfl rfl (run_nil (h7 _ ?_))))))); clear h7 K7
    refine ok_cond rfl (fun c8 => ?_) (fun c8 => ?_)
    · simp at c8
    · refine ok_skip (h6 _ ?_)
      refine ok_seq fun K10 h10 => ok_region rfl (q_as _ rfl (run_nil (h10 _ ?_))); clear h10 K10
      exact ok_ret ⟨_, rfl, rfl⟩
@[reducible] def eLabelS (l : List Label) : SV := .sl 2 (l.map eLabel)
theorem op_LabelS : Opens Try.prog 42 eLabelS (fun y => LB y.length ∧ ∀ z ∈ y, LLabel z) :=
  op_iso (fun y : List Label => y) (fun _ => rfl) (fun y h => h) (op_slice (n := 2) Try.underlying42 (by kernel_rfl) (by decide) (fun _ => ⟨.inl ⟨_, rfl⟩, rfl⟩) op_Label)
def zLabelS (x : List Label) (n : Int) : Int := szSl zLabel x n
theorem zLabelS_ok (x : List Label) : GOk (zLabelS x) (x.length ≤ 1048576 ∧ ∀ y ∈ x, SLabel y) := szSl_ok zLabel_ok x
theorem f24_ok (x : List Label) (hx : LB x.length ∧ ∀ y ∈ x, LLabel y) (n : Int) (h0 : 0 ≤ n) (hn : n ≤ 1048576) : PFn Try.prog 24 [eLabelS x, int n] (int (zLabelS x n)) := by
  have hx1 := hx.1
  unfold LB at hx1
  refine fn_ok' (n := 27) Try.func24 rfl rfl rfl (Nat.le_of_ble_eq_true rfl) rfl fun w0 O => ?_
  refine ok_seq fun K1 h1 => ok_region rfl (q_as _ rfl (run_nil (h1 _ ?_))); clear h1 K1
  refine ok_seq fun K2 h2 => ok_region rfl (q_mv _ rfl (q_mv _ rfl (q_len eS42 rfl (q_sub rfl rfl (by rw [List.length_map]; omega) (q_as _ rfl (run_nil (h2 _ ?_))))))); clear h2 K2
  rw [List.length_map]
  refine ok_seq fun K3 h3 => ?_
  refine ok_seq fun K4 h4 => ok_region rfl (q_mv _ rfl (q_bin _ _ _ rfl rfl rfl (run_nil (h4 _ ?_)))); clear h4 K4
  refine ok_cond rfl (fun c5 => ?_) (fun c5 => ?_)
  · refine ok_seq fun K6 h6 => ?_
    refine ok_region rfl (q_as _ rfl (run_nil (h6 _ ?_)))
    clear h6 K6
    refine ok_ret ⟨_, rfl, ?_⟩
    rw [zLabelS, szSl_pos (of_decide_eq_true c5)]; rfl
  · refine ok_skip (h3 _ ?_)
    refine ok_seq fun K7 h7 => ?_
    refine ok_seq fun K8 h8 => ok_region rfl (q_as _ rfl (run_nil (h8 _ ?_))); clear h8 K8
    refine ok_block ?_
    refine ok_loop (fun (s : Nat × Int) => ⟨[(0, .sv (eLabelS x)), (1, .sv (int s.2)), (5, .sv (int s.1))], []⟩) (fun s => 0 ≤ s.2 ∧ s.2 ≤ 1048576 ∧ szAll zLabel (x.drop s.1) s.2 = zLabelS x n) (fun s => x.length - s.1) (0, n - x.length) ⟨by have := of_decide_eq_false c5; simp only; omega, by simp only; omega, by simp only [List.drop_zero]; rw [zLabelS, szSl_neg (of_decide_eq_false c5)]⟩ (le_same ⟨rfl, rfl, rfl, trivial⟩) (fun s J => ?_)
    obtain ⟨k, a⟩ := s
    obtain ⟨J1, J2, J3⟩ := J
    simp only at J1 J2 J3
    refine ok_seq fun K9 h9 => ?_
    refine ok_seq fun K10 h10 => ok_region rfl (q_mv _ rfl (q_mv _ rfl (q_len eS42 rfl (q_bin _ _ _ rfl rfl rfl (run_nil (h10 _ ?_)))))); clear h10 K10
    rw [List.length_map]
    refine ok_cond rfl (fun c11 => ?_) (fun c11 => ?_)
    · refine ok_skip (h9 _ ?_)
      obtain ⟨u, hu⟩ := sget (l := x) (i := k) (by simpa using c11)
      rw [szAll_cons _ hu] at J3
      refine ok_seq fun K12 h12 => ?_
      refine ok_block ?_
      refine ok_seq fun K13 h13 => ok_region rfl (q_mv _ rfl (q_mv _ rfl (q_ia el42 rfl rfl (by omega) (mget hu) (q_lds _ ag159 rfl sz159 (q_mv _ rfl (q_call (f101_ok u (hx.2 u (smem hu)) a J1 J2) cl101 rfl rfl (q_as _ rfl (run_nil (h13 _ ?_))))))))); clear h13 K13
      refine ok_seq fun K14 h14 => ok_region rfl (q_mv _ rfl (q_bin _ _ _ rfl rfl rfl (run_nil (h14 _ ?_)))); clear h14 K14
      refine ok_cond rfl (fun c15 => ?_) (fun c15 => ?_)
      · refine ok_seq fun K16 h16 => ?_
        refine ok_region rfl (q_as _ rfl (run_nil (h16 _ ?_)))
        clear h16 K16
        refine ok_ret ⟨_, rfl, ?_⟩
        rw [if_pos (of_decide_eq_true c15)] at J3; rw [← J3]; rfl
      · refine ok_skip (h12 _ ?_)
        refine ok_region rfl (q_mv _ rfl (q_add rfl rfl (by have := slt hu; have := hx.1; unfold LB at this; omega) (q_as _ rfl (run_nil (⟨(k + 1, zLabel u a), by have := slt hu; simp only; omega, ⟨by have := of_decide_eq_false c15; simp only; omega, (zLabel_ok u a J2).1, by rw [if_neg (of_decide_eq_false c15)] at J3; exact J3⟩, le_same ⟨rfl, rfl, rfl, trivial⟩⟩)))))
    · refine ok_exit (h7 _ ?_)
      refine ok_seq fun K17 h17 => ok_region rfl (q_mv _ rfl (q_as _ rfl (run_nil (h17 _ ?_)))); clear h17 K17
      refine ok_ret ⟨_, rfl, ?_⟩
      rw [szAll_end _ (by simpa using c11)] at J3; rw [← J3]; rfl
theorem f26_ok (x : List Label) (hx : x.length ≤ 1048576 ∧ ∀ y ∈ x, SLabel y) : PFn Try.prog 26 [eLabelS x] (eLabelS x) := by
  have hle : x.length ≤ 1048576 := hx.1
  refine fnr_ok (n := 23) Try.func26 rfl rfl rfl (Nat.le_of_ble_eq_true rfl) rfl fun w0 O => ?_
  refine ok_seq fun K1 h1 => ok_region rfl (q_as _ rfl (run_nil (h1 _ ?_))); clear h1 K1
  refine ok_seq fun K2 h2 => ok_region rfl (q_mv _ rfl (q_len eS42 rfl (q_make _ _ el45 (by decide) ze91 rfl by91 rfl rfl rfl rfl (.inl ⟨rfl, rfl, rfl⟩) (by rw [List.length_map]; exact Nat.le_trans hle (by decide)) (by rw [List.length_map]; omega) (q_ao _ rfl (run_nil (h2 _ ?_)))))); clear h2 K2
  rw [List.length_map]
  refine ok_seq fun K3 h3 => ?_
  refine ok_seq fun K4 h4 => ok_region rfl (q_as _ rfl (run_nil (h4 _ ?_))); clear h4 K4
  refine ok_block ?_
  refine ok_loop (fun (k : Nat) => ⟨[(0, .sv (eLabelS x)), (3, .own 7), (4, .sv (int k))], [(7, .row 2 91 (fill eLabel (.agg [.raw (.string ⟨#[]⟩), .raw (.string ⟨#[]⟩)]) x k))]⟩) (fun k => k ≤ x.length) (fun k => x.length - k) 0 (Nat.zero_le _) (by rw [fill_zero]; exact le_sub ⟨rfl, rfl, rfl, trivial⟩ ⟨rfl, trivial⟩) (fun k J => ?_)
  refine ok_seq fun K5 h5 => ?_
  refine ok_seq fun K6 h6 => ok_region rfl (q_mv _ rfl (q_mv _ rfl (q_len eS42 rfl (q_bin _ _ _ rfl rfl rfl (run_nil (h6 _ ?_)))))); clear h6 K6
  rw [List.length_map]
  refine ok_cond rfl (fun c7 => ?_) (fun c7 => ?_)
  · refine ok_skip (h5 _ ?_)
    have hk : k < x.length := by simpa using c7
    obtain ⟨u, hu⟩ := sget hk
    refine ok_seq fun K8 h8 => ?_
    refine ok_block ?_
    refine ok_last fun K9 h9 => ok_region rfl (q_mo _ rfl (q_mv _ rfl (q_mv _ rfl (q_mv _ rfl (q_ia el42 rfl rfl (by omega) (mget hu) (q_lds _ ag159 rfl sz159 (q_call (f103_ok u (hx.2 u (smem hu))) cl103 rfl rfl (q_iao el45 rfl rfl rfl (by omega) (by rw [fill_len _ _ _ J]; exact hk) (
      q_ste sz91 rfl rfl (fill_get _ _ _ hk) rfl (.inl ⟨_, rfl⟩) rfl (run_nil (h9 _ (h8 _ ?_))))))))))))
    refine ok_region rfl (q_mv _ rfl (q_add rfl rfl (by omega) (q_as _ rfl (run_nil (⟨k + 1, by omega, hk, ?_⟩)))))
    rw [← fill_set eLabel (.agg [.raw (.string ⟨#[]⟩), .raw (.string ⟨#[]⟩)]) hu]
    exact le_sub ⟨rfl, rfl, rfl, trivial⟩ ⟨rfl, trivial⟩
  · refine ok_exit (h3 _ ?_)
    refine ok_seq fun K9 h9 => ok_region rfl (q_mo _ rfl (q_ao _ rfl (run_nil (h9 _ ?_)))); clear h9 K9
    refine ok_ret ⟨_, ⟨_, _, rfl, rfl, rfl⟩, ?_⟩
    rw [fill_all _ _ _ (by simpa using c7)]; rfl
theorem f28_ok (x : List Label) (hx : x.length ≤ 1048576 ∧ ∀ y ∈ x, SLabel y) : PFn Try.prog 28 [eLabelS x, eLabelS x] (bool true) := by
  have hle : x.length ≤ 1048576 := hx.1
  refine fn_ok' (n := 27) Try.func28 rfl rfl rfl (Nat.le_of_ble_eq_true rfl) rfl fun w0 O => ?_
  refine ok_seq fun K1 h1 => ok_region rfl (q_as _ rfl (run_nil (h1 _ ?_))); clear h1 K1
  refine ok_seq fun K2 h2 => ?_
  refine ok_seq fun K3 h3 => ok_region rfl (q_mv _ rfl (q_len eS45 rfl (q_mv _ rfl (q_len eS45 rfl (q_bin _ _ _ rfl rfl rfl (run_nil (h3 _ ?_))))))); clear h3 K3
  refine ok_cond rfl (fun c4 => ?_) (fun c4 => ?_)
  · simp at c4
  · refine ok_skip (h2 _ ?_)
    refine ok_seq fun K6 h6 => ?_
    refine ok_seq fun K7 h7 => ok_region rfl (q_as _ rfl (run_nil (h7 _ ?_))); clear h7 K7
    refine ok_block ?_
    refine ok_loop (fun (k : Nat) => ⟨[(0, .sv (eLabelS x)), (1, .sv (eLabelS x)), (5, .sv (int k))], []⟩) (fun k => True) (fun k => x.length - k) 0 trivial (le_same ⟨rfl, rfl, rfl, trivial⟩) (fun k J => ?_)
    refine ok_seq fun K8 h8 => ?_
    refine ok_seq fun K9 h9 => ok_region rfl (q_mv _ rfl (q_mv _ rfl (q_len eS45 rfl (q_bin _ _ _ rfl rfl rfl (run_nil (h9 _ ?_)))))); clear h9 K9
    rw [List.length_map]
    refine ok_cond rfl (fun c10 => ?_) (fun c10 => ?_)
    · refine ok_skip (h8 _ ?_)
      have hk : k < x.length := by simpa using c10
      obtain ⟨u, hu⟩ := sget hk
      refine ok_seq fun K11 h11 => ?_
      refine ok_block ?_
      refine ok_seq fun K12 h12 => ?_
      refine ok_region_i (by kernel_rfl) (by kernel_rfl) rfl (
        q_mv _ rfl (q_mv _ rfl (q_ia el45 rfl rfl (by omega) (mget hu) (q_lds _ ag91 rfl sz91 (q_mv _ rfl (q_mv _ rfl (q_ia el45 rfl rfl (by omega) (mget hu) (q_lds _ ag91 rfl sz91 (
        q_call (f105_ok u (hx.2 u (smem hu))) cl105 rfl rfl (q_un _ _ rfl rfl (run_nil (h12 _ ?_))))))))))))
      clear h12 K12
      refine ok_cond rfl (fun c13 => ?_) (fun c13 => ?_)
      · simp at c13
      · refine ok_skip (h11 _ ?_)
        refine ok_region rfl (q_mv _ rfl (q_add rfl rfl (by omega) (q_as _ rfl (run_nil (⟨k + 1, by omega, trivial, le_same ⟨rfl, rfl, rfl, trivial⟩⟩)))))
    · refine ok_exit (h6 _ ?_)
      refine ok_seq fun K15 h15 => ok_region rfl (q_as _ rfl (run_nil (h15 _ ?_))); clear h15 K15
      exact ok_ret ⟨_, rfl, rfl⟩
structure Sample where
  time : Int
  value : Int
@[reducible] def eSample (x : Sample) : SV := .agg [int x.time, int x.value]
theorem op_Sample : Opens Try.prog 327 eSample (fun y => True) :=
  op_iso (fun y : Int × Int × Unit => (⟨y.1, y.2.1⟩ : Sample)) (fun _ => rfl) (fun y h => trivial)
    (op_struct (n := 2) Try.underlying327 (by kernel_rfl) (ofs_cons (f := { name := "Time", type := 3, offset := 0, embedded := false, tag := "", pkgPath := "", byteOffset := 0 }) (n := 1) (m := 1) rfl (by kernel_rfl) (fun _ => ⟨.inr rfl, rfl⟩) (op_int Try.underlying3) (ofs_cons (f := { name := "Value", type := 3, offset := 1, embedded := false, tag := "", pkgPath := "", byteOffset := 8 }) (n := 1) (m := 0) rfl (by kernel_rfl) (fun _ => ⟨.inr rfl, rfl⟩) (op_int Try.underlying3) ofs_nil)))
theorem f292_ok (x : Sample) : PFn Try.prog 292 [eSample x] (eSample x) := by
  refine fnr_ok (n := 11) Try.func292 rfl rfl rfl (Nat.le_of_ble_eq_true rfl) rfl fun w0 O => ?_
  refine ok_seq fun K1 h1 => ok_region rfl (q_boxs _ rfl (Nat.zero_lt_succ _) (q_alloc _ ze168 rfl rfl rfl rfl (run_nil (h1 _ ?_)))); clear h1 K1
  refine ok_seq fun K2 h2 => ok_region rfl (q_alloc _ ze168 rfl rfl rfl rfl (run_nil (h2 _ ?_))); clear h2 K2
  refine ok_seq fun K3 h3 => ok_region rfl (q_fa _ fd327_0 rfl rfl (by decide) (q_ld _ ag3 rfl rfl (q_fap fd168_0 rfl (by decide) (q_st _ sz3 rfl rfl (Nat.le_of_ble_eq_true rfl) rfl ⟨_, rfl, rfl⟩ rfl (run_nil (h3 _ ?_)))))); clear h3 K3
  refine ok_seq fun K4 h4 => ok_region rfl (q_fa _ fd327_1 rfl rfl (by decide) (q_ld _ ag3 rfl rfl (q_fap fd168_1 rfl (by decide) (q_st _ sz3 rfl rfl (Nat.le_of_ble_eq_true rfl) rfl ⟨_, rfl, rfl⟩ rfl (run_nil (h4 _ ?_)))))); clear h4 K4
  refine ok_seq fun K5 h5 => ok_region rfl (q_ldbs ag168 rfl rfl sz168 rfl rfl (q_sts _ rfl rfl rfl sz168 (Nat.le_of_ble_eq_true rfl) rfl (run_nil (h5 _ ?_)))); clear h5 K5
  exact ok_ret (ret_cell (l := [int x.time, int x.value]) rfl rfl ag168 sz168 rfl rfl)
theorem f293_ok (x : Sample) : PFn Try.prog 293 [eSample x, eSample x] (bool true) := by
  refine fn_ok' (n := 15) Try.func293 rfl rfl rfl (Nat.le_of_ble_eq_true rfl) rfl fun w0 O => ?_
  refine ok_seq fun K1 h1 => ok_region rfl (q_boxs _ rfl (Nat.zero_lt_succ _) (q_boxs _ rfl (Nat.zero_lt_succ _) (q_as _ rfl (run_nil (h1 _ ?_))))); clear h1 K1
  refine ok_seq fun K2 h2 => ?_
  refine ok_seq fun K3 h3 => ok_region rfl (q_fa _ fd168_0 rfl rfl (by decide) (q_ld _ ag3 rfl rfl (q_fa _ fd168_0 rfl rfl (by decide) (q_ld _ ag3 rfl rfl (q_bin _ _ _ rfl rfl rfl (run_nil (h3 _ ?_))))))); clear h3 K3
  refine ok_cond rfl (fun c4 => ?_) (fun c4 => ?_)
  · simp at c4
  · refine ok_skip (h2 _ ?_)
    refine ok_seq fun K6 h6 => ?_
    refine ok_seq fun K7 h7 => ok_region rfl (q_fa _ fd168_1 rfl rfl (by decide) (q_ld _ ag3 rfl rfl (q_fa _ fd168_1 rfl rfl (by decide) (q_ld _ ag3 rfl rfl (q_bin _ _ _ rfl rfl rfl (run_nil (h7 _ ?_))))))); clear h7 K7
    refine ok_cond rfl (fun c8 => ?_) (fun c8 => ?_)
    · simp at c8
    · refine ok_skip (h6 _ ?_)
      refine ok_seq fun K10 h10 => ok_region rfl (q_as _ rfl (run_nil (h10 _ ?_))); clear h10 K10
      exact ok_ret ⟨_, rfl, rfl⟩
@[reducible] def eSampleS (l : List Sample) : SV := .sl 2 (l.map eSample)
theorem op_SampleS : Opens Try.prog 299 eSampleS (fun y => LB y.length) :=
  op_iso (fun y : List Sample => y) (fun _ => rfl) (fun y h => h.1) (op_slice (n := 2) Try.underlying299 (by kernel_rfl) (by decide) (fun _ => ⟨.inl ⟨_, rfl⟩, rfl⟩) op_Sample)
def zSampleS (x : List Sample) (n : Int) : Int := take n x.length
theorem zSampleS_ok (x : List Sample) : GOk (zSampleS x) (x.length ≤ 1048576) := take_ok _
theorem f288_ok (x : List Sample) (hx : LB x.length) (n : Int) (h0 : 0 ≤ n) (hn : n ≤ 1048576) : PFn Try.prog 288 [eSampleS x, int n] (int (zSampleS x n)) := by
  unfold LB at hx
  have hl : (x.map eSample).length = x.length := List.length_map _
  refine fn_ok' (n := 12) Try.func288 rfl rfl rfl (Nat.le_of_ble_eq_true rfl) rfl fun w0 O => ?_
  refine ok_seq fun K1 h1 => ok_region rfl (q_as _ rfl (run_nil (h1 _ ?_))); clear h1 K1
  refine ok_seq fun K2 h2 => ok_region rfl (q_mv _ rfl (q_mv _ rfl (q_len eS299 rfl (q_sub rfl rfl (by rw [hl]; omega) (q_as _ rfl (run_nil (h2 _ ?_))))))); clear h2 K2
  rw [List.length_map]
  refine ok_seq fun K3 h3 => ?_
  refine ok_seq fun K4 h4 => ok_region rfl (q_mv _ rfl (q_bin _ _ _ rfl rfl rfl (run_nil (h4 _ ?_)))); clear h4 K4
  refine ok_cond rfl (fun c5 => ?_) (fun c5 => ?_)
  · refine ok_seq fun K6 h6 => ?_
    refine ok_region rfl (q_as _ rfl (run_nil (h6 _ ?_)))
    clear h6 K6
    refine ok_ret ⟨_, rfl, ?_⟩
    rw [zSampleS, take_pos (of_decide_eq_true c5)]; rfl
  · refine ok_skip (h3 _ ?_)
    refine ok_seq fun K7 h7 => ok_region rfl (q_mv _ rfl (q_as _ rfl (run_nil (h7 _ ?_)))); clear h7 K7
    refine ok_ret ⟨_, rfl, ?_⟩
    rw [zSampleS, take_neg (of_decide_eq_false c5)]; rfl
theorem f289_ok (x : List Sample) (hx : x.length ≤ 1048576) : PFn Try.prog 289 [eSampleS x] (eSampleS x) := by
  have hle : x.length ≤ 1048576 := hx
  refine fnr_ok (n := 23) Try.func289 rfl rfl rfl (Nat.le_of_ble_eq_true rfl) rfl fun w0 O => ?_
  refine ok_seq fun K1 h1 => ok_region rfl (q_as _ rfl (run_nil (h1 _ ?_))); clear h1 K1
  refine ok_seq fun K2 h2 => ok_region rfl (q_mv _ rfl (q_len eS299 rfl (q_make _ _ el50 (by decide) ze168 rfl by168 rfl rfl rfl rfl (.inl ⟨rfl, rfl, rfl⟩) (by rw [List.length_map]; exact Nat.le_trans hle (by decide)) (by rw [List.length_map]; omega) (q_ao _ rfl (run_nil (h2 _ ?_)))))); clear h2 K2
  rw [List.length_map]
  refine ok_seq fun K3 h3 => ?_
  refine ok_seq fun K4 h4 => ok_region rfl (q_as _ rfl (run_nil (h4 _ ?_))); clear h4 K4
  refine ok_block ?_
  refine ok_loop (fun (k : Nat) => ⟨[(0, .sv (eSampleS x)), (3, .own 7), (4, .sv (int k))], [(7, .row 2 168 (fill eSample (.agg [.raw (.int .i64 0), .raw (.int .i64 0)]) x k))]⟩) (fun k => k ≤ x.length) (fun k => x.length - k) 0 (Nat.zero_le _) (by rw [fill_zero]; exact le_sub ⟨rfl, rfl, rfl, trivial⟩ ⟨rfl, trivial⟩) (fun k J => ?_)
  refine ok_seq fun K5 h5 => ?_
  refine ok_seq fun K6 h6 => ok_region rfl (q_mv _ rfl (q_mv _ rfl (q_len eS299 rfl (q_bin _ _ _ rfl rfl rfl (run_nil (h6 _ ?_)))))); clear h6 K6
  rw [List.length_map]
  refine ok_cond rfl (fun c7 => ?_) (fun c7 => ?_)
  · refine ok_skip (h5 _ ?_)
    have hk : k < x.length := by simpa using c7
    obtain ⟨u, hu⟩ := sget hk
    refine ok_seq fun K8 h8 => ?_
    refine ok_block ?_
    refine ok_last fun K9 h9 => ok_region rfl (q_mo _ rfl (q_mv _ rfl (q_mv _ rfl (q_mv _ rfl (q_ia el299 rfl rfl (by omega) (mget hu) (q_lds _ ag327 rfl sz327 (q_call (f292_ok u) cl292 rfl rfl (q_iao el50 rfl rfl rfl (by omega) (by rw [fill_len _ _ _ J]; exact hk) (
      q_ste sz168 rfl rfl (fill_get _ _ _ hk) rfl (.inl ⟨_, rfl⟩) rfl (run_nil (h9 _ (h8 _ ?_))))))))))))
    refine ok_region rfl (q_mv _ rfl (q_add rfl rfl (by omega) (q_as _ rfl (run_nil (⟨k + 1, by omega, hk, ?_⟩)))))
    rw [← fill_set eSample (.agg [.raw (.int .i64 0), .raw (.int .i64 0)]) hu]
    exact le_sub ⟨rfl, rfl, rfl, trivial⟩ ⟨rfl, trivial⟩
  · refine ok_exit (h3 _ ?_)
    refine ok_seq fun K9 h9 => ok_region rfl (q_mo _ rfl (q_ao _ rfl (run_nil (h9 _ ?_)))); clear h9 K9
    refine ok_ret ⟨_, ⟨_, _, rfl, rfl, rfl⟩, ?_⟩
    rw [fill_all _ _ _ (by simpa using c7)]; rfl
theorem f290_ok (x : List Sample) (hx : x.length ≤ 1048576) : PFn Try.prog 290 [eSampleS x, eSampleS x] (bool true) := by
  have hle : x.length ≤ 1048576 := hx
  refine fn_ok' (n := 27) Try.func290 rfl rfl rfl (Nat.le_of_ble_eq_true rfl) rfl fun w0 O => ?_
  refine ok_seq fun K1 h1 => ok_region rfl (q_as _ rfl (run_nil (h1 _ ?_))); clear h1 K1
  refine ok_seq fun K2 h2 => ?_
  refine ok_seq fun K3 h3 => ok_region rfl (q_mv _ rfl (q_len eS50 rfl (q_mv _ rfl (q_len eS50 rfl (q_bin _ _ _ rfl rfl rfl (run_nil (h3 _ ?_))))))); clear h3 K3
  refine ok_cond rfl (fun c4 => ?_) (fun c4 => ?_)
  · simp at c4
  · refine ok_skip (h2 _ ?_)
    refine ok_seq fun K6 h6 => ?_
    refine ok_seq fun K7 h7 => ok_region rfl (q_as _ rfl (run_nil (h7 _ ?_))); clear h7 K7
    refine ok_block ?_
    refine ok_loop (fun (k : Nat) => ⟨[(0, .sv (eSampleS x)), (1, .sv (eSampleS x)), (5, .sv (int k))], []⟩) (fun k => True) (fun k => x.length - k) 0 trivial (le_same ⟨rfl, rfl, rfl, trivial⟩) (fun k J => ?_)
    refine ok_seq fun K8 h8 => ?_
    refine ok_seq fun K9 h9 => ok_region rfl (q_mv _ rfl (q_mv _ rfl (q_len eS50 rfl (q_bin _ _ _ rfl rfl rfl (run_nil (h9 _ ?_)))))); clear h9 K9
    rw [List.length_map]
    refine ok_cond rfl (fun c10 => ?_) (fun c10 => ?_)
    · refine ok_skip (h8 _ ?_)
      have hk : k < x.length := by simpa using c10
      obtain ⟨u, hu⟩ := sget hk
      refine ok_seq fun K11 h11 => ?_
      refine ok_block ?_
      refine ok_seq fun K12 h12 => ?_
      refine ok_region_i (by kernel_rfl) (by kernel_rfl) rfl (
        q_mv _ rfl (q_mv _ rfl (q_ia el50 rfl rfl (by omega) (mget hu) (q_lds _ ag168 rfl sz168 (q_mv _ rfl (q_mv _ rfl (q_ia el50 rfl rfl (by omega) (mget hu) (q_lds _ ag168 rfl sz168 (
        q_call (f293_ok u) cl293 rfl rfl (q_un _ _ rfl rfl (run_nil (h12 _ ?_))))))))))))
      clear h12 K12
      refine ok_cond rfl (fun c13 => ?_) (fun c13 => ?_)
      · simp at c13
      · refine ok_skip (h11 _ ?_)
        refine ok_region rfl (q_mv _ rfl (q_add rfl rfl (by omega) (q_as _ rfl (run_nil (⟨k + 1, by omega, trivial, le_same ⟨rfl, rfl, rfl, trivial⟩⟩)))))
    · refine ok_exit (h6 _ ?_)
      refine ok_seq fun K15 h15 => ok_region rfl (q_as _ rfl (run_nil (h15 _ ?_))); clear h15 K15
      exact ok_ret ⟨_, rfl, rfl⟩
structure Series where
  labels : List Label
  samples : List Sample
@[reducible] def eSeries (x : Series) : SV := .agg [eLabelS x.labels, eSampleS x.samples]
def LSeries (x : Series) : Prop := (LB x.labels.length ∧ ∀ y ∈ x.labels, LLabel y) ∧ LB x.samples.length
def SSeries (x : Series) : Prop := (x.labels.length ≤ 1048576 ∧ ∀ y ∈ x.labels, SLabel y) ∧ x.samples.length ≤ 1048576
theorem op_Series : Opens Try.prog 301 eSeries (fun y => LSeries y) :=
  op_iso (fun y : (List Label) × (List Sample) × Unit => (⟨y.1, y.2.1⟩ : Series)) (fun _ => rfl) (fun y h => ⟨h.1, h.2.1⟩)
    (op_struct (n := 2) Try.underlying301 (by kernel_rfl) (ofs_cons (f := { name := "Labels", type := 42, offset := 0, embedded := false, tag := "", pkgPath := "", byteOffset := 0 }) (n := 1) (m := 1) rfl (by kernel_rfl) (fun _ => ⟨.inr rfl, rfl⟩) op_LabelS (ofs_cons (f := { name := "Samples", type := 299, offset := 1, embedded := false, tag := "", pkgPath := "", byteOffset := 24 }) (n := 1) (m := 0) rfl (by kernel_rfl) (fun _ => ⟨.inr rfl, rfl⟩) op_SampleS ofs_nil)))
def zSeries (x : Series) (n : Int) : Int := (stp (zLabelS x.labels) ((zSampleS x.samples))) n
theorem zSeries_ok (x : Series) : GOk (zSeries x) (SSeries x) := (stp_ok (zLabelS_ok x.labels) (zSampleS_ok x.samples))
theorem f268_ok (x : Series) (hx : LSeries x) (n : Int) (h0 : 0 ≤ n) (hn : n ≤ 1048576) : PFn Try.prog 268 [eSeries x, int n] (int (zSeries x n)) := by
  have e0 : zSeries x n = (stp (zLabelS x.labels) ((zSampleS x.samples))) n := rfl
  have a0 := h0
  have b0 := hn
  refine fn_ok' (n := 18) Try.func268 rfl rfl rfl (Nat.le_of_ble_eq_true rfl) rfl fun w0 O => ?_
  refine ok_seq fun K1 h1 => ok_region rfl (q_boxs _ rfl (Nat.zero_lt_succ _) (q_as _ rfl (run_nil (h1 _ ?_)))); clear h1 K1
  refine ok_seq fun K2 h2 => ok_region rfl (q_fa _ fd301_0 rfl rfl (by decide) (q_ld _ ag42 rfl rfl (q_mv _ rfl (q_call (f24_ok x.labels (hx.1) _ a0 b0) cl24 rfl rfl (q_as _ rfl (run_nil (h2 _ ?_))))))); clear h2 K2
  refine ok_seq fun K3 h3 => ?_
  refine ok_seq fun K4 h4 => ok_region rfl (q_mv _ rfl (q_bin _ _ _ rfl rfl rfl (run_nil (h4 _ ?_)))); clear h4 K4
  refine ok_cond rfl (fun c5 => ?_) (fun c5 => ?_)
  · refine ok_seq fun K6 h6 => ?_
    refine ok_region rfl (q_as _ rfl (run_nil (h6 _ ?_)))
    clear h6 K6
    refine ok_ret ⟨_, rfl, ?_⟩
    rw [e0, stp_pos (of_decide_eq_true c5)]; rfl
  · refine ok_skip (h3 _ ?_)
    have e1 : zSeries x n = ((zSampleS x.samples)) (zLabelS x.labels n) := by rw [e0, stp_neg (of_decide_eq_false c5)]
    have a1 : 0 ≤ zLabelS x.labels n := by have := of_decide_eq_false c5; omega
    have b1 : zLabelS x.labels n ≤ 1048576 := ((zLabelS_ok x.labels) _ b0).1
    refine ok_seq fun K7 h7 => ok_region rfl (q_fa _ fd301_1 rfl rfl (by decide) (q_ld _ ag299 rfl rfl (q_mv _ rfl (q_call (f288_ok x.samples (hx.2) _ a1 b1) cl288 rfl rfl (q_as _ rfl (run_nil (h7 _ ?_))))))); clear h7 K7
    refine ok_seq fun K8 h8 => ?_
    refine ok_seq fun K9 h9 => ok_region rfl (q_mv _ rfl (q_bin _ _ _ rfl rfl rfl (run_nil (h9 _ ?_)))); clear h9 K9
    refine ok_cond rfl (fun c10 => ?_) (fun c10 => ?_)
    · refine ok_seq fun K11 h11 => ?_
      refine ok_region rfl (q_as _ rfl (run_nil (h11 _ ?_)))
      clear h11 K11
      refine ok_ret ⟨_, rfl, ?_⟩
      rw [e1]; rw [((zSampleS_ok x.samples) _ b1).2.1 (of_decide_eq_true c10)]; rfl
    · refine ok_skip (h8 _ ?_)
      refine ok_seq fun K12 h12 => ok_region rfl (q_mv _ rfl (q_as _ rfl (run_nil (h12 _ ?_)))); clear h12 K12
      refine ok_ret ⟨_, rfl, ?_⟩
      rw [e1]; rfl
theorem f270_ok (x : Series) (hx : SSeries x) : PFn Try.prog 270 [eSeries x] (eSeries x) := by
  refine fnr_ok (n := 13) Try.func270 rfl rfl rfl (Nat.le_of_ble_eq_true rfl) rfl fun w0 O => ?_
  refine ok_seq fun K1 h1 => ok_region rfl (q_boxs _ rfl (Nat.zero_lt_succ _) (q_alloc _ ze274 rfl rfl rfl rfl (run_nil (h1 _ ?_)))); clear h1 K1
  refine ok_seq fun K2 h2 => ok_region rfl (q_alloc _ ze274 rfl rfl rfl rfl (run_nil (h2 _ ?_))); clear h2 K2
  refine ok_seq fun K3 h3 => ok_region rfl (q_fa _ fd301_0 rfl rfl (by decide) (q_ld _ ag42 rfl rfl (q_call (f26_ok x.labels (hx.1)) cl26 rfl rfl (q_fap fd274_0 rfl (by decide) (q_st _ sz45 rfl rfl (Nat.le_of_ble_eq_true rfl) rfl ⟨_, rfl, rfl⟩ rfl (run_nil (h3 _ ?_))))))); clear h3 K3
  refine ok_seq fun K4 h4 => ok_region rfl (q_fa _ fd301_1 rfl rfl (by decide) (q_ld _ ag299 rfl rfl (q_call (f289_ok x.samples (hx.2)) cl289 rfl rfl (q_fap fd274_1 rfl (by decide) (q_st _ sz50 rfl rfl (Nat.le_of_ble_eq_true rfl) rfl ⟨_, rfl, rfl⟩ rfl (run_nil (h4 _ ?_))))))); clear h4 K4
  refine ok_seq fun K5 h5 => ok_region rfl (q_ldbs ag274 rfl rfl sz274 rfl rfl (q_sts _ rfl rfl rfl sz274 (Nat.le_of_ble_eq_true rfl) rfl (run_nil (h5 _ ?_)))); clear h5 K5
  exact ok_ret (ret_cell (l := [eLabelS x.labels, eSampleS x.samples]) rfl rfl ag274 sz274 rfl rfl)
theorem f271_ok (x : Series) (hx : SSeries x) : PFn Try.prog 271 [eSeries x, eSeries x] (bool true) := by
  refine fn_ok' (n := 17) Try.func271 rfl rfl rfl (Nat.le_of_ble_eq_true rfl) rfl fun w0 O => ?_
  refine ok_seq fun K1 h1 => ok_region rfl (q_boxs _ rfl (Nat.zero_lt_succ _) (q_boxs _ rfl (Nat.zero_lt_succ _) (q_as _ rfl (run_nil (h1 _ ?_))))); clear h1 K1
  refine ok_seq fun K2 h2 => ?_
  refine ok_seq fun K3 h3 => ok_region rfl (q_fa _ fd274_0 rfl rfl (by decide) (q_ld _ ag45 rfl rfl (q_fa _ fd274_0 rfl rfl (by decide) (q_ld _ ag45 rfl rfl (q_call (f28_ok x.labels (hx.1)) cl28 rfl rfl (q_un _ _ rfl rfl (run_nil (h3 _ ?_)))))))); clear h3 K3
  refine ok_cond rfl (fun c4 => ?_) (fun c4 => ?_)
  · simp at c4
  · refine ok_skip (h2 _ ?_)
    refine ok_seq fun K6 h6 => ?_
    refine ok_seq fun K7 h7 => ok_region rfl (q_fa _ fd274_1 rfl rfl (by decide) (q_ld _ ag50 rfl rfl (q_fa _ fd274_1 rfl rfl (by decide) (q_ld _ ag50 rfl rfl (q_call (f290_ok x.samples (hx.2)) cl290 rfl rfl (q_un _ _ rfl rfl (run_nil (h7 _ ?_)))))))); clear h7 K7
    refine ok_cond rfl (fun c8 => ?_) (fun c8 => ?_)
    · simp at c8
    · refine ok_skip (h6 _ ?_)
      refine ok_seq fun K10 h10 => ok_region rfl (q_as _ rfl (run_nil (h10 _ ?_))); clear h10 K10
      exact ok_ret ⟨_, rfl, rfl⟩
@[reducible] def eSeriesS (l : List Series) : SV := .sl 2 (l.map eSeries)
theorem op_SeriesS : Opens Try.prog 226 eSeriesS (fun y => LB y.length ∧ ∀ z ∈ y, LSeries z) :=
  op_iso (fun y : List Series => y) (fun _ => rfl) (fun y h => h) (op_slice (n := 2) Try.underlying226 (by kernel_rfl) (by decide) (fun _ => ⟨.inl ⟨_, rfl⟩, rfl⟩) op_Series)
def zSeriesS (x : List Series) (n : Int) : Int := szSl zSeries x n
theorem zSeriesS_ok (x : List Series) : GOk (zSeriesS x) (x.length ≤ 1048576 ∧ ∀ y ∈ x, SSeries y) := szSl_ok zSeries_ok x
theorem f234_ok (x : List Series) (hx : LB x.length ∧ ∀ y ∈ x, LSeries y) (n : Int) (h0 : 0 ≤ n) (hn : n ≤ 1048576) : PFn Try.prog 234 [eSeriesS x, int n] (int (zSeriesS x n)) := by
  have hx1 := hx.1
  unfold LB at hx1
  refine fn_ok' (n := 27) Try.func234 rfl rfl rfl (Nat.le_of_ble_eq_true rfl) rfl fun w0 O => ?_
  refine ok_seq fun K1 h1 => ok_region rfl (q_as _ rfl (run_nil (h1 _ ?_))); clear h1 K1
  refine ok_seq fun K2 h2 => ok_region rfl (q_mv _ rfl (q_mv _ rfl (q_len eS226 rfl (q_sub rfl rfl (by rw [List.length_map]; omega) (q_as _ rfl (run_nil (h2 _ ?_))))))); clear h2 K2
  rw [List.length_map]
  refine ok_seq fun K3 h3 => ?_
  refine ok_seq fun K4 h4 => ok_region rfl (q_mv _ rfl (q_bin _ _ _ rfl rfl rfl (run_nil (h4 _ ?_)))); clear h4 K4
  refine ok_cond rfl (fun c5 => ?_) (fun c5 => ?_)
  · refine ok_seq fun K6 h6 => ?_
    refine ok_region rfl (q_as _ rfl (run_nil (h6 _ ?_)))
    clear h6 K6
    refine ok_ret ⟨_, rfl, ?_⟩
    rw [zSeriesS, szSl_pos (of_decide_eq_true c5)]; rfl
  · refine ok_skip (h3 _ ?_)
    refine ok_seq fun K7 h7 => ?_
    refine ok_seq fun K8 h8 => ok_region rfl (q_as _ rfl (run_nil (h8 _ ?_))); clear h8 K8
    refine ok_block ?_
    refine ok_loop (fun (s : Nat × Int) => ⟨[(0, .sv (eSeriesS x)), (1, .sv (int s.2)), (5, .sv (int s.1))], []⟩) (fun s => 0 ≤ s.2 ∧ s.2 ≤ 1048576 ∧ szAll zSeries (x.drop s.1) s.2 = zSeriesS x n) (fun s => x.length - s.1) (0, n - x.length) ⟨by have := of_decide_eq_false c5; simp only; omega, by simp only; omega, by simp only [List.drop_zero]; rw [zSeriesS, szSl_neg (of_decide_eq_false c5)]⟩ (le_same ⟨rfl, rfl, rfl, trivial⟩) (fun s J => ?_)
    obtain ⟨k, a⟩ := s
    obtain ⟨J1, J2, J3⟩ := J
    simp only at J1 J2 J3
    refine ok_seq fun K9 h9 => ?_
    refine ok_seq fun K10 h10 => ok_region rfl (q_mv _ rfl (q_mv _ rfl (q_len eS226 rfl (q_bin _ _ _ rfl rfl rfl (run_nil (h10 _ ?_)))))); clear h10 K10
    rw [List.length_map]
    refine ok_cond rfl (fun c11 => ?_) (fun c11 => ?_)
    · refine ok_skip (h9 _ ?_)
      obtain ⟨u, hu⟩ := sget (l := x) (i := k) (by simpa using c11)
      rw [szAll_cons _ hu] at J3
      refine ok_seq fun K12 h12 => ?_
      refine ok_block ?_
      refine ok_seq fun K13 h13 => ok_region rfl (q_mv _ rfl (q_mv _ rfl (q_ia el226 rfl rfl (by omega) (mget hu) (q_lds _ ag301 rfl sz301 (q_mv _ rfl (q_call (f268_ok u (hx.2 u (smem hu)) a J1 J2) cl268 rfl rfl (q_as _ rfl (run_nil (h13 _ ?_))))))))); clear h13 K13
      refine ok_seq fun K14 h14 => ok_region rfl (q_mv _ rfl (q_bin _ _ _ rfl rfl rfl (run_nil (h14 _ ?_)))); clear h14 K14
      refine ok_cond rfl (fun c15 => ?_) (fun c15 => ?_)
      · refine ok_seq fun K16 h16 => ?_
        refine ok_region rfl (q_as _ rfl (run_nil (h16 _ ?_)))
        clear h16 K16
        refine ok_ret ⟨_, rfl, ?_⟩
        rw [if_pos (of_decide_eq_true c15)] at J3; rw [← J3]; rfl
      · refine ok_skip (h12 _ ?_)
        refine ok_region rfl (q_mv _ rfl (q_add rfl rfl (by have := slt hu; have := hx.1; unfold LB at this; omega) (q_as _ rfl (run_nil (⟨(k + 1, zSeries u a), by have := slt hu; simp only; omega, ⟨by have := of_decide_eq_false c15; simp only; omega, (zSeries_ok u a J2).1, by rw [if_neg (of_decide_eq_false c15)] at J3; exact J3⟩, le_same ⟨rfl, rfl, rfl, trivial⟩⟩)))))
    · refine ok_exit (h7 _ ?_)
      refine ok_seq fun K17 h17 => ok_region rfl (q_mv _ rfl (q_as _ rfl (run_nil (h17 _ ?_)))); clear h17 K17
      refine ok_ret ⟨_, rfl, ?_⟩
      rw [szAll_end _ (by simpa using c11)] at J3; rw [← J3]; rfl
theorem f237_ok (x : List Series) (hx : x.length ≤ 1048576 ∧ ∀ y ∈ x, SSeries y) : PFn Try.prog 237 [eSeriesS x] (eSeriesS x) := by
  have hle : x.length ≤ 1048576 := hx.1
  refine fnr_ok (n := 23) Try.func237 rfl rfl rfl (Nat.le_of_ble_eq_true rfl) rfl fun w0 O => ?_
  refine ok_seq fun K1 h1 => ok_region rfl (q_as _ rfl (run_nil (h1 _ ?_))); clear h1 K1
  refine ok_seq fun K2 h2 => ok_region rfl (q_mv _ rfl (q_len eS226 rfl (q_make _ _ el220 (by decide) ze274 rfl by274 rfl rfl rfl rfl (.inl ⟨rfl, rfl, rfl⟩) (by rw [List.length_map]; exact Nat.le_trans hle (by decide)) (by rw [List.length_map]; omega) (q_ao _ rfl (run_nil (h2 _ ?_)))))); clear h2 K2
  rw [List.length_map]
  refine ok_seq fun K3 h3 => ?_
  refine ok_seq fun K4 h4 => ok_region rfl (q_as _ rfl (run_nil (h4 _ ?_))); clear h4 K4
  refine ok_block ?_
  refine ok_loop (fun (k : Nat) => ⟨[(0, .sv (eSeriesS x)), (3, .own 7), (4, .sv (int k))], [(7, .row 2 274 (fill eSeries (.agg [.raw (.slice none 0 0), .raw (.slice none 0 0)]) x k))]⟩) (fun k => k ≤ x.length) (fun k => x.length - k) 0 (Nat.zero_le _) (by rw [fill_zero]; exact le_sub ⟨rfl, rfl, rfl, trivial⟩ ⟨rfl, trivial⟩) (fun k J => ?_)
  refine ok_seq fun K5 h5 => ?_
  refine ok_seq fun K6 h6 => ok_region rfl (q_mv _ rfl (q_mv _ rfl (q_len eS226 rfl (q_bin _ _ _ rfl rfl rfl (run_nil (h6 _ ?_)))))); clear h6 K6
  rw [List.length_map]
  refine ok_cond rfl (fun c7 => ?_) (fun c7 => ?_)
  · refine ok_skip (h5 _ ?_)
    have hk : k < x.length := by simpa using c7
    obtain ⟨u, hu⟩ := sget hk
    refine ok_seq fun K8 h8 => ?_
    refine ok_block ?_
    refine ok_last fun K9 h9 => ok_region rfl (q_mo _ rfl (q_mv _ rfl (q_mv _ rfl (q_mv _ rfl (q_ia el226 rfl rfl (by omega) (mget hu) (q_lds _ ag301 rfl sz301 (q_call (f270_ok u (hx.2 u (smem hu))) cl270 rfl rfl (q_iao el220 rfl rfl rfl (by omega) (by rw [fill_len _ _ _ J]; exact hk) (
      q_ste sz274 rfl rfl (fill_get _ _ _ hk) rfl (.inl ⟨_, rfl⟩) rfl (run_nil (h9 _ (h8 _ ?_))))))))))))
    refine ok_region rfl (q_mv _ rfl (q_add rfl rfl (by omega) (q_as _ rfl (run_nil (⟨k + 1, by omega, hk, ?_⟩)))))
    rw [← fill_set eSeries (.agg [.raw (.slice none 0 0), .raw (.slice none 0 0)]) hu]
    exact le_sub ⟨rfl, rfl, rfl, trivial⟩ ⟨rfl, trivial⟩
  · refine ok_exit (h3 _ ?_)
    refine ok_seq fun K9 h9 => ok_region rfl (q_mo _ rfl (q_ao _ rfl (run_nil (h9 _ ?_)))); clear h9 K9
    refine ok_ret ⟨_, ⟨_, _, rfl, rfl, rfl⟩, ?_⟩
    rw [fill_all _ _ _ (by simpa using c7)]; rfl
theorem f239_ok (x : List Series) (hx : x.length ≤ 1048576 ∧ ∀ y ∈ x, SSeries y) : PFn Try.prog 239 [eSeriesS x, eSeriesS x] (bool true) := by
  have hle : x.length ≤ 1048576 := hx.1
  refine fn_ok' (n := 27) Try.func239 rfl rfl rfl (Nat.le_of_ble_eq_true rfl) rfl fun w0 O => ?_
  refine ok_seq fun K1 h1 => ok_region rfl (q_as _ rfl (run_nil (h1 _ ?_))); clear h1 K1
  refine ok_seq fun K2 h2 => ?_
  refine ok_seq fun K3 h3 => ok_region rfl (q_mv _ rfl (q_len eS220 rfl (q_mv _ rfl (q_len eS220 rfl (q_bin _ _ _ rfl rfl rfl (run_nil (h3 _ ?_))))))); clear h3 K3
  refine ok_cond rfl (fun c4 => ?_) (fun c4 => ?_)
  · simp at c4
  · refine ok_skip (h2 _ ?_)
    refine ok_seq fun K6 h6 => ?_
    refine ok_seq fun K7 h7 => ok_region rfl (q_as _ rfl (run_nil (h7 _ ?_))); clear h7 K7
    refine ok_block ?_
    refine ok_loop (fun (k : Nat) => ⟨[(0, .sv (eSeriesS x)), (1, .sv (eSeriesS x)), (5, .sv (int k))], []⟩) (fun k => True) (fun k => x.length - k) 0 trivial (le_same ⟨rfl, rfl, rfl, trivial⟩) (fun k J => ?_)
    refine ok_seq fun K8 h8 => ?_
    refine ok_seq fun K9 h9 => ok_region rfl (q_mv _ rfl (q_mv _ rfl (q_len eS220 rfl (q_bin _ _ _ rfl rfl rfl (run_nil (h9 _ ?_)))))); clear h9 K9
    rw [List.length_map]
    refine ok_cond rfl (fun c10 => ?_) (fun c10 => ?_)
    · refine ok_skip (h8 _ ?_)
      have hk : k < x.length := by simpa using c10
      obtain ⟨u, hu⟩ := sget hk
      refine ok_seq fun K11 h11 => ?_
      refine ok_block ?_
      refine ok_seq fun K12 h12 => ?_
      refine ok_region_i (by kernel_rfl) (by kernel_rfl) rfl (
        q_mv _ rfl (q_mv _ rfl (q_ia el220 rfl rfl (by omega) (mget hu) (q_lds _ ag274 rfl sz274 (q_mv _ rfl (q_mv _ rfl (q_ia el220 rfl rfl (by omega) (mget hu) (q_lds _ ag274 rfl sz274 (
        q_call (f271_ok u (hx.2 u (smem hu))) cl271 rfl rfl (q_un _ _ rfl rfl (run_nil (h12 _ ?_))))))))))))
      clear h12 K12
      refine ok_cond rfl (fun c13 => ?_) (fun c13 => ?_)
      · simp at c13
      · refine ok_skip (h11 _ ?_)
        refine ok_region rfl (q_mv _ rfl (q_add rfl rfl (by omega) (q_as _ rfl (run_nil (⟨k + 1, by omega, trivial, le_same ⟨rfl, rfl, rfl, trivial⟩⟩)))))
    · refine ok_exit (h6 _ ?_)
      refine ok_seq fun K15 h15 => ok_region rfl (q_as _ rfl (run_nil (h15 _ ?_))); clear h15 K15
      exact ok_ret ⟨_, rfl, rfl⟩
@[reducible] def eSeriesSS (l : List (List Series)) : SV := .sl 1 (l.map eSeriesS)
theorem op_SeriesSS : Opens Try.prog 114 eSeriesSS (fun y => LB y.length ∧ ∀ z ∈ y, LB z.length ∧ ∀ y ∈ z, LSeries y) :=
  op_iso (fun y : List (List Series) => y) (fun _ => rfl) (fun y h => h) (op_slice (n := 1) Try.underlying114 (by kernel_rfl) (by decide) (fun _ => ⟨.inr rfl, rfl⟩) op_SeriesS)
def zSeriesSS (x : List (List Series)) (n : Int) : Int := szSl zSeriesS x n
theorem zSeriesSS_ok (x : List (List Series)) : GOk (zSeriesSS x) (x.length ≤ 1048576 ∧ ∀ y ∈ x, y.length ≤ 1048576 ∧ ∀ z ∈ y, SSeries z) := szSl_ok zSeriesS_ok x
theorem f172_ok (x : List (List Series)) (hx : LB x.length ∧ ∀ y ∈ x, LB y.length ∧ ∀ z ∈ y, LSeries z) (n : Int) (h0 : 0 ≤ n) (hn : n ≤ 1048576) : PFn Try.prog 172 [eSeriesSS x, int n] (int (zSeriesSS x n)) := by
  have hx1 := hx.1
  unfold LB at hx1
  refine fn_ok' (n := 27) Try.func172 rfl rfl rfl (Nat.le_of_ble_eq_true rfl) rfl fun w0 O => ?_
  refine ok_seq fun K1 h1 => ok_region rfl (q_as _ rfl (run_nil (h1 _ ?_))); clear h1 K1
  refine ok_seq fun K2 h2 => ok_region rfl (q_mv _ rfl (q_mv _ rfl (q_len eS114 rfl (q_sub rfl rfl (by rw [List.length_map]; omega) (q_as _ rfl (run_nil (h2 _ ?_))))))); clear h2 K2
  rw [List.length_map]
  refine ok_seq fun K3 h3 => ?_
  refine ok_seq fun K4 h4 => ok_region rfl (q_mv _ rfl (q_bin _ _ _ rfl rfl rfl (run_nil (h4 _ ?_)))); clear h4 K4
  refine ok_cond rfl (fun c5 => ?_) (fun c5 => ?_)
  · refine ok_seq fun K6 h6 => ?_
    refine ok_region rfl (q_as _ rfl (run_nil (h6 _ ?_)))
    clear h6 K6
    refine ok_ret ⟨_, rfl, ?_⟩
    rw [zSeriesSS, szSl_pos (of_decide_eq_true c5)]; rfl
  · refine ok_skip (h3 _ ?_)
    refine ok_seq fun K7 h7 => ?_
    refine ok_seq fun K8 h8 => ok_region rfl (q_as _ rfl (run_nil (h8 _ ?_))); clear h8 K8
    refine ok_block ?_
    refine ok_loop (fun (s : Nat × Int) => ⟨[(0, .sv (eSeriesSS x)), (1, .sv (int s.2)), (5, .sv (int s.1))], []⟩) (fun s => 0 ≤ s.2 ∧ s.2 ≤ 1048576 ∧ szAll zSeriesS (x.drop s.1) s.2 = zSeriesSS x n) (fun s => x.length - s.1) (0, n - x.length) ⟨by have := of_decide_eq_false c5; simp only; omega, by simp only; omega, by simp only [List.drop_zero]; rw [zSeriesSS, szSl_neg (of_decide_eq_false c5)]⟩ (le_same ⟨rfl, rfl, rfl, trivial⟩) (fun s J => ?_)
    obtain ⟨k, a⟩ := s
    obtain ⟨J1, J2, J3⟩ := J
    simp only at J1 J2 J3
    refine ok_seq fun K9 h9 => ?_
    refine ok_seq fun K10 h10 => ok_region rfl (q_mv _ rfl (q_mv _ rfl (q_len eS114 rfl (q_bin _ _ _ rfl rfl rfl (run_nil (h10 _ ?_)))))); clear h10 K10
    rw [List.length_map]
    refine ok_cond rfl (fun c11 => ?_) (fun c11 => ?_)
    · refine ok_skip (h9 _ ?_)
      obtain ⟨u, hu⟩ := sget (l := x) (i := k) (by simpa using c11)
      rw [szAll_cons _ hu] at J3
      refine ok_seq fun K12 h12 => ?_
      refine ok_block ?_
      refine ok_seq fun K13 h13 => ok_region rfl (q_mv _ rfl (q_mv _ rfl (q_ia el114 rfl rfl (by omega) (mget hu) (q_ld _ ag226 rfl rfl (q_mv _ rfl (q_call (f234_ok u (hx.2 u (smem hu)) a J1 J2) cl234 rfl rfl (q_as _ rfl (run_nil (h13 _ ?_))))))))); clear h13 K13
      refine ok_seq fun K14 h14 => ok_region rfl (q_mv _ rfl (q_bin _ _ _ rfl rfl rfl (run_nil (h14 _ ?_)))); clear h14 K14
      refine ok_cond rfl (fun c15 => ?_) (fun c15 => ?_)
      · refine ok_seq fun K16 h16 => ?_
        refine ok_region rfl (q_as _ rfl (run_nil (h16 _ ?_)))
        clear h16 K16
        refine ok_ret ⟨_, rfl, ?_⟩
        rw [if_pos (of_decide_eq_true c15)] at J3; rw [← J3]; rfl
      · refine ok_skip (h12 _ ?_)
        refine ok_region rfl (q_mv _ rfl (q_add rfl rfl (by have := slt hu; have := hx.1; unfold LB at this; omega) (q_as _ rfl (run_nil (⟨(k + 1, zSeriesS u a), by have := slt hu; simp only; omega, ⟨by have := of_decide_eq_false c15; simp only; omega, (zSeriesS_ok u a J2).1, by rw [if_neg (of_decide_eq_false c15)] at J3; exact J3⟩, le_same ⟨rfl, rfl, rfl, trivial⟩⟩)))))
    · refine ok_exit (h7 _ ?_)
      refine ok_seq fun K17 h17 => ok_region rfl (q_mv _ rfl (q_as _ rfl (run_nil (h17 _ ?_)))); clear h17 K17
      refine ok_ret ⟨_, rfl, ?_⟩
      rw [szAll_end _ (by simpa using c11)] at J3; rw [← J3]; rfl
theorem f174_ok (x : List (List Series)) (hx : x.length ≤ 1048576 ∧ ∀ y ∈ x, y.length ≤ 1048576 ∧ ∀ z ∈ y, SSeries z) : PFn Try.prog 174 [eSeriesSS x] (eSeriesSS x) := by
  have hle : x.length ≤ 1048576 := hx.1
  refine fnr_ok (n := 23) Try.func174 rfl rfl rfl (Nat.le_of_ble_eq_true rfl) rfl fun w0 O => ?_
  refine ok_seq fun K1 h1 => ok_region rfl (q_as _ rfl (run_nil (h1 _ ?_))); clear h1 K1
  refine ok_seq fun K2 h2 => ok_region rfl (q_mv _ rfl (q_len eS114 rfl (q_make _ _ el119 (by decide) ze220 rfl by220 rfl rfl rfl rfl (.inr ⟨rfl, rfl⟩) (by rw [List.length_map]; exact Nat.le_trans hle (by decide)) (by rw [List.length_map]; omega) (q_ao _ rfl (run_nil (h2 _ ?_)))))); clear h2 K2
  rw [List.length_map]
  refine ok_seq fun K3 h3 => ?_
  refine ok_seq fun K4 h4 => ok_region rfl (q_as _ rfl (run_nil (h4 _ ?_))); clear h4 K4
  refine ok_block ?_
  refine ok_loop (fun (k : Nat) => ⟨[(0, .sv (eSeriesSS x)), (3, .own 7), (4, .sv (int k))], [(7, .row 1 220 (fill eSeriesS (.raw (.slice none 0 0)) x k))]⟩) (fun k => k ≤ x.length) (fun k => x.length - k) 0 (Nat.zero_le _) (by rw [fill_zero]; exact le_sub ⟨rfl, rfl, rfl, trivial⟩ ⟨rfl, trivial⟩) (fun k J => ?_)
  refine ok_seq fun K5 h5 => ?_
  refine ok_seq fun K6 h6 => ok_region rfl (q_mv _ rfl (q_mv _ rfl (q_len eS114 rfl (q_bin _ _ _ rfl rfl rfl (run_nil (h6 _ ?_)))))); clear h6 K6
  rw [List.length_map]
  refine ok_cond rfl (fun c7 => ?_) (fun c7 => ?_)
  · refine ok_skip (h5 _ ?_)
    have hk : k < x.length := by simpa using c7
    obtain ⟨u, hu⟩ := sget hk
    refine ok_seq fun K8 h8 => ?_
    refine ok_block ?_
    refine ok_last fun K9 h9 => ok_region rfl (q_mo _ rfl (q_mv _ rfl (q_mv _ rfl (q_mv _ rfl (q_ia el114 rfl rfl (by omega) (mget hu) (q_ld _ ag226 rfl rfl (q_call (f237_ok u (hx.2 u (smem hu))) cl237 rfl rfl (q_iao el119 rfl rfl rfl (by omega) (by rw [fill_len _ _ _ J]; exact hk) (
      q_ste sz220 rfl rfl (fill_get _ _ _ hk) rfl (.inr rfl) rfl (run_nil (h9 _ (h8 _ ?_))))))))))))
    refine ok_region rfl (q_mv _ rfl (q_add rfl rfl (by omega) (q_as _ rfl (run_nil (⟨k + 1, by omega, hk, ?_⟩)))))
    rw [← fill_set eSeriesS (.raw (.slice none 0 0)) hu]
    exact le_sub ⟨rfl, rfl, rfl, trivial⟩ ⟨rfl, trivial⟩
  · refine ok_exit (h3 _ ?_)
    refine ok_seq fun K9 h9 => ok_region rfl (q_mo _ rfl (q_ao _ rfl (run_nil (h9 _ ?_)))); clear h9 K9
    refine ok_ret ⟨_, ⟨_, _, rfl, rfl, rfl⟩, ?_⟩
    rw [fill_all _ _ _ (by simpa using c7)]; rfl
theorem f178_ok (x : List (List Series)) (hx : x.length ≤ 1048576 ∧ ∀ y ∈ x, y.length ≤ 1048576 ∧ ∀ z ∈ y, SSeries z) : PFn Try.prog 178 [eSeriesSS x, eSeriesSS x] (bool true) := by
  have hle : x.length ≤ 1048576 := hx.1
  refine fn_ok' (n := 27) Try.func178 rfl rfl rfl (Nat.le_of_ble_eq_true rfl) rfl fun w0 O => ?_
  refine ok_seq fun K1 h1 => ok_region rfl (q_as _ rfl (run_nil (h1 _ ?_))); clear h1 K1
  refine ok_seq fun K2 h2 => ?_
  refine ok_seq fun K3 h3 => ok_region rfl (q_mv _ rfl (q_len eS119 rfl (q_mv _ rfl (q_len eS119 rfl (q_bin _ _ _ rfl rfl rfl (run_nil (h3 _ ?_))))))); clear h3 K3
  refine ok_cond rfl (fun c4 => ?_) (fun c4 => ?_)
  · simp at c4
  · refine ok_skip (h2 _ ?_)
    refine ok_seq fun K6 h6 => ?_
    refine ok_seq fun K7 h7 => ok_region rfl (q_as _ rfl (run_nil (h7 _ ?_))); clear h7 K7
    refine ok_block ?_
    refine ok_loop (fun (k : Nat) => ⟨[(0, .sv (eSeriesSS x)), (1, .sv (eSeriesSS x)), (5, .sv (int k))], []⟩) (fun k => True) (fun k => x.length - k) 0 trivial (le_same ⟨rfl, rfl, rfl, trivial⟩) (fun k J => ?_)
    refine ok_seq fun K8 h8 => ?_
    refine ok_seq fun K9 h9 => ok_region rfl (q_mv _ rfl (q_mv _ rfl (q_len eS119 rfl (q_bin _ _ _ rfl rfl rfl (run_nil (h9 _ ?_)))))); clear h9 K9
    rw [List.length_map]
    refine ok_cond rfl (fun c10 => ?_) (fun c10 => ?_)
    · refine ok_skip (h8 _ ?_)
      have hk : k < x.length := by simpa using c10
      obtain ⟨u, hu⟩ := sget hk
      refine ok_seq fun K11 h11 => ?_
      refine ok_block ?_
      refine ok_seq fun K12 h12 => ?_
      refine ok_region_i (by kernel_rfl) (by kernel_rfl) rfl (
        q_mv _ rfl (q_mv _ rfl (q_ia el119 rfl rfl (by omega) (mget hu) (q_ld _ ag220 rfl rfl (q_mv _ rfl (q_mv _ rfl (q_ia el119 rfl rfl (by omega) (mget hu) (q_ld _ ag220 rfl rfl (
        q_call (f239_ok u (hx.2 u (smem hu))) cl239 rfl rfl (q_un _ _ rfl rfl (run_nil (h12 _ ?_))))))))))))
      clear h12 K12
      refine ok_cond rfl (fun c13 => ?_) (fun c13 => ?_)
      · simp at c13
      · refine ok_skip (h11 _ ?_)
        refine ok_region rfl (q_mv _ rfl (q_add rfl rfl (by omega) (q_as _ rfl (run_nil (⟨k + 1, by omega, trivial, le_same ⟨rfl, rfl, rfl, trivial⟩⟩)))))
    · refine ok_exit (h6 _ ?_)
      refine ok_seq fun K15 h15 => ok_region rfl (q_as _ rfl (run_nil (h15 _ ?_))); clear h15 K15
      exact ok_ret ⟨_, rfl, rfl⟩
structure Cluster where
  ring : Ring
  data : List (List Series)
@[reducible] def eCluster (x : Cluster) : SV := .agg [int x.ring.copies, eRingNodeS x.ring.nodes, eSeriesSS x.data]
def LCluster (x : Cluster) : Prop := LRing x.ring ∧ (LB x.data.length ∧ ∀ y ∈ x.data, LB y.length ∧ ∀ z ∈ y, LSeries z)
def SCluster (x : Cluster) : Prop := SRing x.ring ∧ (x.data.length ≤ 1048576 ∧ ∀ y ∈ x.data, y.length ≤ 1048576 ∧ ∀ z ∈ y, SSeries z)
theorem op_Cluster : Opens Try.prog 116 eCluster (fun y => LCluster y) :=
  op_iso (fun y : Ring × (List (List Series)) × Unit => (⟨y.1, y.2.1⟩ : Cluster)) (fun _ => rfl) (fun y h => ⟨h.1, h.2.1⟩)
    (op_struct (n := 3) Try.underlying116 (by kernel_rfl) (ofs_cons (f := { name := "Ring", type := 24, offset := 0, embedded := false, tag := "", pkgPath := "", byteOffset := 0 }) (n := 2) (m := 1) rfl (by kernel_rfl) (fun _ => ⟨.inl ⟨_, rfl⟩, rfl⟩) op_Ring (ofs_cons (f := { name := "Data", type := 114, offset := 2, embedded := false, tag := "", pkgPath := "", byteOffset := 32 }) (n := 1) (m := 0) rfl (by kernel_rfl) (fun _ => ⟨.inr rfl, rfl⟩) op_SeriesSS ofs_nil)))
def zCluster (x : Cluster) (n : Int) : Int := (stp (zRing x.ring) ((zSeriesSS x.data))) n
theorem zCluster_ok (x : Cluster) : GOk (zCluster x) (SCluster x) := (stp_ok (zRing_ok x.ring) (zSeriesSS_ok x.data))
theorem f74_ok (x : Cluster) (hx : LCluster x) (n : Int) (h0 : 0 ≤ n) (hn : n ≤ 1048576) : PFn Try.prog 74 [eCluster x, int n] (int (zCluster x n)) := by
  have e0 : zCluster x n = (stp (zRing x.ring) ((zSeriesSS x.data))) n := rfl
  have a0 := h0
  have b0 := hn
  refine fn_ok' (n := 18) Try.func74 rfl rfl rfl (Nat.le_of_ble_eq_true rfl) rfl fun w0 O => ?_
  refine ok_seq fun K1 h1 => ok_region rfl (q_boxs _ rfl (Nat.zero_lt_succ _) (q_as _ rfl (run_nil (h1 _ ?_)))); clear h1 K1
  refine ok_seq fun K2 h2 => ok_region rfl (q_fas fd116_0 rfl (by decide) (Nat.le_of_ble_eq_true rfl) rfl (q_lds _ ag24 rfl sz24 (q_mv _ rfl (q_call (f14_ok x.ring (hx.1) _ a0 b0) cl14 rfl rfl (q_as _ rfl (run_nil (h2 _ ?_))))))); clear h2 K2
  refine ok_seq fun K3 h3 => ?_
  refine ok_seq fun K4 h4 => ok_region rfl (q_mv _ rfl (q_bin _ _ _ rfl rfl rfl (run_nil (h4 _ ?_)))); clear h4 K4
  refine ok_cond rfl (fun c5 => ?_) (fun c5 => ?_)
  · refine ok_seq fun K6 h6 => ?_
    refine ok_region rfl (q_as _ rfl (run_nil (h6 _ ?_)))
    clear h6 K6
    refine ok_ret ⟨_, rfl, ?_⟩
    rw [e0, stp_pos (of_decide_eq_true c5)]; rfl
  · refine ok_skip (h3 _ ?_)
    have e1 : zCluster x n = ((zSeriesSS x.data)) (zRing x.ring n) := by rw [e0, stp_neg (of_decide_eq_false c5)]
    have a1 : 0 ≤ zRing x.ring n := by have := of_decide_eq_false c5; omega
    have b1 : zRing x.ring n ≤ 1048576 := ((zRing_ok x.ring) _ b0).1
    refine ok_seq fun K7 h7 => ok_region rfl (q_fa _ fd116_1 rfl rfl (by decide) (q_ld _ ag114 rfl rfl (q_mv _ rfl (q_call (f172_ok x.data (hx.2) _ a1 b1) cl172 rfl rfl (q_as _ rfl (run_nil (h7 _ ?_))))))); clear h7 K7
    refine ok_seq fun K8 h8 => ?_
    refine ok_seq fun K9 h9 => ok_region rfl (q_mv _ rfl (q_bin _ _ _ rfl rfl rfl (run_nil (h9 _ ?_)))); clear h9 K9
    refine ok_cond rfl (fun c10 => ?_) (fun c10 => ?_)
    · refine ok_seq fun K11 h11 => ?_
      refine ok_region rfl (q_as _ rfl (run_nil (h11 _ ?_)))
      clear h11 K11
      refine ok_ret ⟨_, rfl, ?_⟩
      rw [e1]; rw [((zSeriesSS_ok x.data) _ b1).2.1 (of_decide_eq_true c10)]; rfl
    · refine ok_skip (h8 _ ?_)
      refine ok_seq fun K12 h12 => ok_region rfl (q_mv _ rfl (q_as _ rfl (run_nil (h12 _ ?_)))); clear h12 K12
      refine ok_ret ⟨_, rfl, ?_⟩
      rw [e1]; rfl
theorem f76_ok (x : Cluster) (hx : SCluster x) : PFn Try.prog 76 [eCluster x] (eCluster x) := by
  refine fnr_ok (n := 13) Try.func76 rfl rfl rfl (Nat.le_of_ble_eq_true rfl) rfl fun w0 O => ?_
  refine ok_seq fun K1 h1 => ok_region rfl (q_boxs _ rfl (Nat.zero_lt_succ _) (q_alloc _ ze121 rfl rfl rfl rfl (run_nil (h1 _ ?_)))); clear h1 K1
  refine ok_seq fun K2 h2 => ok_region rfl (q_alloc _ ze121 rfl rfl rfl rfl (run_nil (h2 _ ?_))); clear h2 K2
  refine ok_seq fun K3 h3 => ok_region rfl (q_fas fd116_0 rfl (by decide) (Nat.le_of_ble_eq_true rfl) rfl (q_lds _ ag24 rfl sz24 (q_call (f16_ok x.ring (hx.1)) cl16 rfl rfl (q_fap fd121_0 rfl (by decide) (q_sts _ rfl rfl rfl sz29 (Nat.le_of_ble_eq_true rfl) rfl (run_nil (h3 _ ?_))))))); clear h3 K3
  refine ok_seq fun K4 h4 => ok_region rfl (q_fa _ fd116_1 rfl rfl (by decide) (q_ld _ ag114 rfl rfl (q_call (f174_ok x.data (hx.2)) cl174 rfl rfl (q_fap fd121_1 rfl (by decide) (q_st _ sz119 rfl rfl (Nat.le_of_ble_eq_true rfl) rfl ⟨_, rfl, rfl⟩ rfl (run_nil (h4 _ ?_))))))); clear h4 K4
  refine ok_seq fun K5 h5 => ok_region rfl (q_ldbs ag121 rfl rfl sz121 rfl rfl (q_sts _ rfl rfl rfl sz121 (Nat.le_of_ble_eq_true rfl) rfl (run_nil (h5 _ ?_)))); clear h5 K5
  exact ok_ret (ret_cell (l := [int x.ring.copies, eRingNodeS x.ring.nodes, eSeriesSS x.data]) rfl rfl ag121 sz121 rfl rfl)
theorem f78_ok (x : Cluster) (hx : SCluster x) : PFn Try.prog 78 [eCluster x, eCluster x] (bool true) := by
  refine fn_ok' (n := 17) Try.func78 rfl rfl rfl (Nat.le_of_ble_eq_true rfl) rfl fun w0 O => ?_
  refine ok_seq fun K1 h1 => ok_region rfl (q_boxs _ rfl (Nat.zero_lt_succ _) (q_boxs _ rfl (Nat.zero_lt_succ _) (q_as _ rfl (run_nil (h1 _ ?_))))); clear h1 K1
  refine ok_seq fun K2 h2 => ?_
  refine ok_seq fun K3 h3 => ?_
  refine ok_region rfl (q_fas fd121_0 rfl (by decide) (Nat.le_of_ble_eq_true rfl) rfl (q_lds _ ag29 rfl sz29 (q_fas fd121_0 rfl (by decide) (Nat.le_of_ble_eq_true rfl) rfl (q_lds _ ag29 rfl sz29 (
    q_call (f18_ok x.ring (hx.1)) cl18 rfl rfl (q_un _ _ rfl rfl (run_nil (h3 _ ?_))))))))
  clear h3 K3
  refine ok_cond rfl (fun c4 => ?_) (fun c4 => ?_)
  · simp at c4
  · refine ok_skip (h2 _ ?_)
    refine ok_seq fun K6 h6 => ?_
    refine ok_seq fun K7 h7 => ok_region rfl (q_fa _ fd121_1 rfl rfl (by decide) (q_ld _ ag119 rfl rfl (q_fa _ fd121_1 rfl rfl (by decide) (q_ld _ ag119 rfl rfl (q_call (f178_ok x.data (hx.2)) cl178 rfl rfl (q_un _ _ rfl rfl (run_nil (h7 _ ?_)))))))); clear h7 K7
    refine ok_cond rfl (fun c8 => ?_) (fun c8 => ?_)
    · simp at c8
    · refine ok_skip (h6 _ ?_)
      refine ok_seq fun K10 h10 => ok_region rfl (q_as _ rfl (run_nil (h10 _ ?_))); clear h10 K10
      exact ok_ret ⟨_, rfl, rfl⟩
structure Stone where
  labels : List Label
  from_ : Int
  to : Int
@[reducible] def eStone (x : Stone) : SV := .agg [eLabelS x.labels, int x.from_, int x.to]
def LStone (x : Stone) : Prop := LB x.labels.length ∧ ∀ y ∈ x.labels, LLabel y
def SStone (x : Stone) : Prop := x.labels.length ≤ 1048576 ∧ ∀ y ∈ x.labels, SLabel y
theorem op_Stone : Opens Try.prog 306 eStone (fun y => LStone y) :=
  op_iso (fun y : (List Label) × Int × Int × Unit => (⟨y.1, y.2.1, y.2.2.1⟩ : Stone)) (fun _ => rfl) (fun y h => h.1)
    (op_struct (n := 3) Try.underlying306 (by kernel_rfl) (ofs_cons (f := { name := "Labels", type := 42, offset := 0, embedded := false, tag := "", pkgPath := "", byteOffset := 0 }) (n := 1) (m := 2) rfl (by kernel_rfl) (fun _ => ⟨.inr rfl, rfl⟩) op_LabelS (ofs_cons (f := { name := "From", type := 3, offset := 1, embedded := false, tag := "", pkgPath := "", byteOffset := 24 }) (n := 1) (m := 1) rfl (by kernel_rfl) (fun _ => ⟨.inr rfl, rfl⟩) (op_int Try.underlying3) (ofs_cons (f := { name := "To", type := 3, offset := 2, embedded := false, tag := "", pkgPath := "", byteOffset := 32 }) (n := 1) (m := 0) rfl (by kernel_rfl) (fun _ => ⟨.inr rfl, rfl⟩) (op_int Try.underlying3) ofs_nil))))
def zStone (x : Stone) (n : Int) : Int := ((zLabelS x.labels)) n
theorem zStone_ok (x : Stone) : GOk (zStone x) (SStone x) := (zLabelS_ok x.labels)
theorem f272_ok (x : Stone) (hx : LStone x) (n : Int) (h0 : 0 ≤ n) (hn : n ≤ 1048576) : PFn Try.prog 272 [eStone x, int n] (int (zStone x n)) := by
  have e0 : zStone x n = ((zLabelS x.labels)) n := rfl
  have a0 := h0
  have b0 := hn
  refine fn_ok' (n := 12) Try.func272 rfl rfl rfl (Nat.le_of_ble_eq_true rfl) rfl fun w0 O => ?_
  refine ok_seq fun K1 h1 => ok_region rfl (q_boxs _ rfl (Nat.zero_lt_succ _) (q_as _ rfl (run_nil (h1 _ ?_)))); clear h1 K1
  refine ok_seq fun K2 h2 => ok_region rfl (q_fa _ fd306_0 rfl rfl (by decide) (q_ld _ ag42 rfl rfl (q_mv _ rfl (q_call (f24_ok x.labels (hx) _ a0 b0) cl24 rfl rfl (q_as _ rfl (run_nil (h2 _ ?_))))))); clear h2 K2
  refine ok_seq fun K3 h3 => ?_
  refine ok_seq fun K4 h4 => ok_region rfl (q_mv _ rfl (q_bin _ _ _ rfl rfl rfl (run_nil (h4 _ ?_)))); clear h4 K4
  refine ok_cond rfl (fun c5 => ?_) (fun c5 => ?_)
  · refine ok_seq fun K6 h6 => ?_
    refine ok_region rfl (q_as _ rfl (run_nil (h6 _ ?_)))
    clear h6 K6
    refine ok_ret ⟨_, rfl, ?_⟩
    rw [e0]; rw [((zLabelS_ok x.labels) _ b0).2.1 (of_decide_eq_true c5)]; rfl
  · refine ok_skip (h3 _ ?_)
    refine ok_seq fun K7 h7 => ok_region rfl (q_mv _ rfl (q_as _ rfl (run_nil (h7 _ ?_)))); clear h7 K7
    refine ok_ret ⟨_, rfl, ?_⟩
    rw [e0]; rfl
theorem f274_ok (x : Stone) (hx : SStone x) : PFn Try.prog 274 [eStone x] (eStone x) := by
  refine fnr_ok (n := 15) Try.func274 rfl rfl rfl (Nat.le_of_ble_eq_true rfl) rfl fun w0 O => ?_
  refine ok_seq fun K1 h1 => ok_region rfl (q_boxs _ rfl (Nat.zero_lt_succ _) (q_alloc _ ze280 rfl rfl rfl rfl (run_nil (h1 _ ?_)))); clear h1 K1
  refine ok_seq fun K2 h2 => ok_region rfl (q_alloc _ ze280 rfl rfl rfl rfl (run_nil (h2 _ ?_))); clear h2 K2
  refine ok_seq fun K3 h3 => ok_region rfl (q_fa _ fd306_0 rfl rfl (by decide) (q_ld _ ag42 rfl rfl (q_call (f26_ok x.labels (hx)) cl26 rfl rfl (q_fap fd280_0 rfl (by decide) (q_st _ sz45 rfl rfl (Nat.le_of_ble_eq_true rfl) rfl ⟨_, rfl, rfl⟩ rfl (run_nil (h3 _ ?_))))))); clear h3 K3
  refine ok_seq fun K4 h4 => ok_region rfl (q_fa _ fd306_1 rfl rfl (by decide) (q_ld _ ag3 rfl rfl (q_fap fd280_1 rfl (by decide) (q_st _ sz3 rfl rfl (Nat.le_of_ble_eq_true rfl) rfl ⟨_, rfl, rfl⟩ rfl (run_nil (h4 _ ?_)))))); clear h4 K4
  refine ok_seq fun K5 h5 => ok_region rfl (q_fa _ fd306_2 rfl rfl (by decide) (q_ld _ ag3 rfl rfl (q_fap fd280_2 rfl (by decide) (q_st _ sz3 rfl rfl (Nat.le_of_ble_eq_true rfl) rfl ⟨_, rfl, rfl⟩ rfl (run_nil (h5 _ ?_)))))); clear h5 K5
  refine ok_seq fun K6 h6 => ok_region rfl (q_ldbs ag280 rfl rfl sz280 rfl rfl (q_sts _ rfl rfl rfl sz280 (Nat.le_of_ble_eq_true rfl) rfl (run_nil (h6 _ ?_)))); clear h6 K6
  exact ok_ret (ret_cell (l := [eLabelS x.labels, int x.from_, int x.to]) rfl rfl ag280 sz280 rfl rfl)
theorem f277_ok (x : Stone) (hx : SStone x) : PFn Try.prog 277 [eStone x, eStone x] (bool true) := by
  refine fn_ok' (n := 21) Try.func277 rfl rfl rfl (Nat.le_of_ble_eq_true rfl) rfl fun w0 O => ?_
  refine ok_seq fun K1 h1 => ok_region rfl (q_boxs _ rfl (Nat.zero_lt_succ _) (q_boxs _ rfl (Nat.zero_lt_succ _) (q_as _ rfl (run_nil (h1 _ ?_))))); clear h1 K1
  refine ok_seq fun K2 h2 => ?_
  refine ok_seq fun K3 h3 => ok_region rfl (q_fa _ fd280_0 rfl rfl (by decide) (q_ld _ ag45 rfl rfl (q_fa _ fd280_0 rfl rfl (by decide) (q_ld _ ag45 rfl rfl (q_call (f28_ok x.labels (hx)) cl28 rfl rfl (q_un _ _ rfl rfl (run_nil (h3 _ ?_)))))))); clear h3 K3
  refine ok_cond rfl (fun c4 => ?_) (fun c4 => ?_)
  · simp at c4
  · refine ok_skip (h2 _ ?_)
    refine ok_seq fun K6 h6 => ?_
    refine ok_seq fun K7 h7 => ok_region rfl (q_fa _ fd280_1 rfl rfl (by decide) (q_ld _ ag3 rfl rfl (q_fa _ fd280_1 rfl rfl (by decide) (q_ld _ ag3 rfl rfl (q_bin _ _ _ rfl rfl rfl (run_nil (h7 _ ?_))))))); clear h7 K7
    refine ok_cond rfl (fun c8 => ?_) (fun c8 => ?_)
    · simp at c8
    · refine ok_skip (h6 _ ?_)
      refine ok_seq fun K10 h10 => ?_
      refine ok_seq fun K11 h11 => ok_region rfl (q_fa _ fd280_2 rfl rfl (by decide) (q_ld _ ag3 rfl rfl (q_fa _ fd280_2 rfl rfl (by decide) (q_ld _ ag3 rfl rfl (q_bin _ _ _ rfl rfl rfl (run_nil (h11 _ ?_))))))); clear h11 K11
      refine ok_cond rfl (fun c12 => ?_) (fun c12 => ?_)
      · simp at c12
      · refine ok_skip (h10 _ ?_)
        refine ok_seq fun K14 h14 => ok_region rfl (q_as _ rfl (run_nil (h14 _ ?_))); clear h14 K14
        exact ok_ret ⟨_, rfl, rfl⟩
@[reducible] def eStoneS (l : List Stone) : SV := .sl 3 (l.map eStone)
theorem op_StoneS : Opens Try.prog 227 eStoneS (fun y => LB y.length ∧ ∀ z ∈ y, LStone z) :=
  op_iso (fun y : List Stone => y) (fun _ => rfl) (fun y h => h) (op_slice (n := 3) Try.underlying227 (by kernel_rfl) (by decide) (fun _ => ⟨.inl ⟨_, rfl⟩, rfl⟩) op_Stone)
def zStoneS (x : List Stone) (n : Int) : Int := szSl zStone x n
theorem zStoneS_ok (x : List Stone) : GOk (zStoneS x) (x.length ≤ 1048576 ∧ ∀ y ∈ x, SStone y) := szSl_ok zStone_ok x
theorem f240_ok (x : List Stone) (hx : LB x.length ∧ ∀ y ∈ x, LStone y) (n : Int) (h0 : 0 ≤ n) (hn : n ≤ 1048576) : PFn Try.prog 240 [eStoneS x, int n] (int (zStoneS x n)) := by
  have hx1 := hx.1
  unfold LB at hx1
  refine fn_ok' (n := 27) Try.func240 rfl rfl rfl (Nat.le_of_ble_eq_true rfl) rfl fun w0 O => ?_
  refine ok_seq fun K1 h1 => ok_region rfl (q_as _ rfl (run_nil (h1 _ ?_))); clear h1 K1
  refine ok_seq fun K2 h2 => ok_region rfl (q_mv _ rfl (q_mv _ rfl (q_len eS227 rfl (q_sub rfl rfl (by rw [List.length_map]; omega) (q_as _ rfl (run_nil (h2 _ ?_))))))); clear h2 K2
  rw [List.length_map]
  refine ok_seq fun K3 h3 => ?_
  refine ok_seq fun K4 h4 => ok_region rfl (q_mv _ rfl (q_bin _ _ _ rfl rfl rfl (run_nil (h4 _ ?_)))); clear h4 K4
  refine ok_cond rfl (fun c5 => ?_) (fun c5 => ?_)
  · refine ok_seq fun K6 h6 => ?_
    refine ok_region rfl (q_as _ rfl (run_nil (h6 _ ?_)))
    clear h6 K6
    refine ok_ret ⟨_, rfl, ?_⟩
    rw [zStoneS, szSl_pos (of_decide_eq_true c5)]; rfl
  · refine ok_skip (h3 _ ?_)
    refine ok_seq fun K7 h7 => ?_
    refine ok_seq fun K8 h8 => ok_region rfl (q_as _ rfl (run_nil (h8 _ ?_))); clear h8 K8
    refine ok_block ?_
    refine ok_loop (fun (s : Nat × Int) => ⟨[(0, .sv (eStoneS x)), (1, .sv (int s.2)), (5, .sv (int s.1))], []⟩) (fun s => 0 ≤ s.2 ∧ s.2 ≤ 1048576 ∧ szAll zStone (x.drop s.1) s.2 = zStoneS x n) (fun s => x.length - s.1) (0, n - x.length) ⟨by have := of_decide_eq_false c5; simp only; omega, by simp only; omega, by simp only [List.drop_zero]; rw [zStoneS, szSl_neg (of_decide_eq_false c5)]⟩ (le_same ⟨rfl, rfl, rfl, trivial⟩) (fun s J => ?_)
    obtain ⟨k, a⟩ := s
    obtain ⟨J1, J2, J3⟩ := J
    simp only at J1 J2 J3
    refine ok_seq fun K9 h9 => ?_
    refine ok_seq fun K10 h10 => ok_region rfl (q_mv _ rfl (q_mv _ rfl (q_len eS227 rfl (q_bin _ _ _ rfl rfl rfl (run_nil (h10 _ ?_)))))); clear h10 K10
    rw [List.length_map]
    refine ok_cond rfl (fun c11 => ?_) (fun c11 => ?_)
    · refine ok_skip (h9 _ ?_)
      obtain ⟨u, hu⟩ := sget (l := x) (i := k) (by simpa using c11)
      rw [szAll_cons _ hu] at J3
      refine ok_seq fun K12 h12 => ?_
      refine ok_block ?_
      refine ok_seq fun K13 h13 => ok_region rfl (q_mv _ rfl (q_mv _ rfl (q_ia el227 rfl rfl (by omega) (mget hu) (q_lds _ ag306 rfl sz306 (q_mv _ rfl (q_call (f272_ok u (hx.2 u (smem hu)) a J1 J2) cl272 rfl rfl (q_as _ rfl (run_nil (h13 _ ?_))))))))); clear h13 K13
      refine ok_seq fun K14 h14 => ok_region rfl (q_mv _ rfl (q_bin _ _ _ rfl rfl rfl (run_nil (h14 _ ?_)))); clear h14 K14
      refine ok_cond rfl (fun c15 => ?_) (fun c15 => ?_)
      · refine ok_seq fun K16 h16 => ?_
        refine ok_region rfl (q_as _ rfl (run_nil (h16 _ ?_)))
        clear h16 K16
        refine ok_ret ⟨_, rfl, ?_⟩
        rw [if_pos (of_decide_eq_true c15)] at J3; rw [← J3]; rfl
      · refine ok_skip (h12 _ ?_)
        refine ok_region rfl (q_mv _ rfl (q_add rfl rfl (by have := slt hu; have := hx.1; unfold LB at this; omega) (q_as _ rfl (run_nil (⟨(k + 1, zStone u a), by have := slt hu; simp only; omega, ⟨by have := of_decide_eq_false c15; simp only; omega, (zStone_ok u a J2).1, by rw [if_neg (of_decide_eq_false c15)] at J3; exact J3⟩, le_same ⟨rfl, rfl, rfl, trivial⟩⟩)))))
    · refine ok_exit (h7 _ ?_)
      refine ok_seq fun K17 h17 => ok_region rfl (q_mv _ rfl (q_as _ rfl (run_nil (h17 _ ?_)))); clear h17 K17
      refine ok_ret ⟨_, rfl, ?_⟩
      rw [szAll_end _ (by simpa using c11)] at J3; rw [← J3]; rfl
theorem f242_ok (x : List Stone) (hx : x.length ≤ 1048576 ∧ ∀ y ∈ x, SStone y) : PFn Try.prog 242 [eStoneS x] (eStoneS x) := by
  have hle : x.length ≤ 1048576 := hx.1
  refine fnr_ok (n := 23) Try.func242 rfl rfl rfl (Nat.le_of_ble_eq_true rfl) rfl fun w0 O => ?_
  refine ok_seq fun K1 h1 => ok_region rfl (q_as _ rfl (run_nil (h1 _ ?_))); clear h1 K1
  refine ok_seq fun K2 h2 => ok_region rfl (q_mv _ rfl (q_len eS227 rfl (q_make _ _ el230 (by decide) ze280 rfl by280 rfl rfl rfl rfl (.inl ⟨rfl, rfl, rfl⟩) (by rw [List.length_map]; exact Nat.le_trans hle (by decide)) (by rw [List.length_map]; omega) (q_ao _ rfl (run_nil (h2 _ ?_)))))); clear h2 K2
  rw [List.length_map]
  refine ok_seq fun K3 h3 => ?_
  refine ok_seq fun K4 h4 => ok_region rfl (q_as _ rfl (run_nil (h4 _ ?_))); clear h4 K4
  refine ok_block ?_
  refine ok_loop (fun (k : Nat) => ⟨[(0, .sv (eStoneS x)), (3, .own 7), (4, .sv (int k))], [(7, .row 3 280 (fill eStone (.agg [.raw (.slice none 0 0), .raw (.int .i64 0), .raw (.int .i64 0)]) x k))]⟩) (fun k => k ≤ x.length) (fun k => x.length - k) 0 (Nat.zero_le _) (by rw [fill_zero]; exact le_sub ⟨rfl, rfl, rfl, trivial⟩ ⟨rfl, trivial⟩) (fun k J => ?_)
  refine ok_seq fun K5 h5 => ?_
  refine ok_seq fun K6 h6 => ok_region rfl (q_mv _ rfl (q_mv _ rfl (q_len eS227 rfl (q_bin _ _ _ rfl rfl rfl (run_nil (h6 _ ?_)))))); clear h6 K6
  rw [List.length_map]
  refine ok_cond rfl (fun c7 => ?_) (fun c7 => ?_)
  · refine ok_skip (h5 _ ?_)
    have hk : k < x.length := by simpa using c7
    obtain ⟨u, hu⟩ := sget hk
    refine ok_seq fun K8 h8 => ?_
    refine ok_block ?_
    refine ok_last fun K9 h9 => ok_region rfl (q_mo _ rfl (q_mv _ rfl (q_mv _ rfl (q_mv _ rfl (q_ia el227 rfl rfl (by omega) (mget hu) (q_lds _ ag306 rfl sz306 (q_call (f274_ok u (hx.2 u (smem hu))) cl274 rfl rfl (q_iao el230 rfl rfl rfl (by omega) (by rw [fill_len _ _ _ J]; exact hk) (
      q_ste sz280 rfl rfl (fill_get _ _ _ hk) rfl (.inl ⟨_, rfl⟩) rfl (run_nil (h9 _ (h8 _ ?_))))))))))))
    refine ok_region rfl (q_mv _ rfl (q_add rfl rfl (by omega) (q_as _ rfl (run_nil (⟨k + 1, by omega, hk, ?_⟩)))))
    rw [← fill_set eStone (.agg [.raw (.slice none 0 0), .raw (.int .i64 0), .raw (.int .i64 0)]) hu]
    exact le_sub ⟨rfl, rfl, rfl, trivial⟩ ⟨rfl, trivial⟩
  · refine ok_exit (h3 _ ?_)
    refine ok_seq fun K9 h9 => ok_region rfl (q_mo _ rfl (q_ao _ rfl (run_nil (h9 _ ?_)))); clear h9 K9
    refine ok_ret ⟨_, ⟨_, _, rfl, rfl, rfl⟩, ?_⟩
    rw [fill_all _ _ _ (by simpa using c7)]; rfl
theorem f244_ok (x : List Stone) (hx : x.length ≤ 1048576 ∧ ∀ y ∈ x, SStone y) : PFn Try.prog 244 [eStoneS x, eStoneS x] (bool true) := by
  have hle : x.length ≤ 1048576 := hx.1
  refine fn_ok' (n := 27) Try.func244 rfl rfl rfl (Nat.le_of_ble_eq_true rfl) rfl fun w0 O => ?_
  refine ok_seq fun K1 h1 => ok_region rfl (q_as _ rfl (run_nil (h1 _ ?_))); clear h1 K1
  refine ok_seq fun K2 h2 => ?_
  refine ok_seq fun K3 h3 => ok_region rfl (q_mv _ rfl (q_len eS230 rfl (q_mv _ rfl (q_len eS230 rfl (q_bin _ _ _ rfl rfl rfl (run_nil (h3 _ ?_))))))); clear h3 K3
  refine ok_cond rfl (fun c4 => ?_) (fun c4 => ?_)
  · simp at c4
  · refine ok_skip (h2 _ ?_)
    refine ok_seq fun K6 h6 => ?_
    refine ok_seq fun K7 h7 => ok_region rfl (q_as _ rfl (run_nil (h7 _ ?_))); clear h7 K7
    refine ok_block ?_
    refine ok_loop (fun (k : Nat) => ⟨[(0, .sv (eStoneS x)), (1, .sv (eStoneS x)), (5, .sv (int k))], []⟩) (fun k => True) (fun k => x.length - k) 0 trivial (le_same ⟨rfl, rfl, rfl, trivial⟩) (fun k J => ?_)
    refine ok_seq fun K8 h8 => ?_
    refine ok_seq fun K9 h9 => ok_region rfl (q_mv _ rfl (q_mv _ rfl (q_len eS230 rfl (q_bin _ _ _ rfl rfl rfl (run_nil (h9 _ ?_)))))); clear h9 K9
    rw [List.length_map]
    refine ok_cond rfl (fun c10 => ?_) (fun c10 => ?_)
    · refine ok_skip (h8 _ ?_)
      have hk : k < x.length := by simpa using c10
      obtain ⟨u, hu⟩ := sget hk
      refine ok_seq fun K11 h11 => ?_
      refine ok_block ?_
      refine ok_seq fun K12 h12 => ?_
      refine ok_region_i (by kernel_rfl) (by kernel_rfl) rfl (
        q_mv _ rfl (q_mv _ rfl (q_ia el230 rfl rfl (by omega) (mget hu) (q_lds _ ag280 rfl sz280 (q_mv _ rfl (q_mv _ rfl (q_ia el230 rfl rfl (by omega) (mget hu) (q_lds _ ag280 rfl sz280 (
        q_call (f277_ok u (hx.2 u (smem hu))) cl277 rfl rfl (q_un _ _ rfl rfl (run_nil (h12 _ ?_))))))))))))
      clear h12 K12
      refine ok_cond rfl (fun c13 => ?_) (fun c13 => ?_)
      · simp at c13
      · refine ok_skip (h11 _ ?_)
        refine ok_region rfl (q_mv _ rfl (q_add rfl rfl (by omega) (q_as _ rfl (run_nil (⟨k + 1, by omega, trivial, le_same ⟨rfl, rfl, rfl, trivial⟩⟩)))))
    · refine ok_exit (h6 _ ?_)
      refine ok_seq fun K15 h15 => ok_region rfl (q_as _ rfl (run_nil (h15 _ ?_))); clear h15 K15
      exact ok_ret ⟨_, rfl, rfl⟩
structure Block where
  from_ : Int
  to : Int
  level : Int
  series : List Series
  stones : List Stone
@[reducible] def eBlock (x : Block) : SV := .agg [int x.from_, int x.to, int x.level, eSeriesS x.series, eStoneS x.stones]
def LBlock (x : Block) : Prop := (LB x.series.length ∧ ∀ y ∈ x.series, LSeries y) ∧ (LB x.stones.length ∧ ∀ y ∈ x.stones, LStone y)
def SBlock (x : Block) : Prop := (x.series.length ≤ 1048576 ∧ ∀ y ∈ x.series, SSeries y) ∧ (x.stones.length ≤ 1048576 ∧ ∀ y ∈ x.stones, SStone y)
theorem op_Block : Opens Try.prog 229 eBlock (fun y => LBlock y) :=
  op_iso (fun y : Int × Int × Int × (List Series) × (List Stone) × Unit => (⟨y.1, y.2.1, y.2.2.1, y.2.2.2.1, y.2.2.2.2.1⟩ : Block)) (fun _ => rfl) (fun y h => ⟨h.2.2.2.1, h.2.2.2.2.1⟩)
    (op_struct (n := 5) Try.underlying229 (by kernel_rfl) (ofs_cons (f := { name := "From", type := 3, offset := 0, embedded := false, tag := "", pkgPath := "", byteOffset := 0 }) (n := 1) (m := 4) rfl (by kernel_rfl) (fun _ => ⟨.inr rfl, rfl⟩) (op_int Try.underlying3) (ofs_cons (f := { name := "To", type := 3, offset := 1, embedded := false, tag := "", pkgPath := "", byteOffset := 8 }) (n := 1) (m := 3) rfl (by kernel_rfl) (fun _ => ⟨.inr rfl, rfl⟩) (op_int Try.underlying3) (ofs_cons (f := { name := "Level", type := 3, offset := 2, embedded := false, tag := "", pkgPath := "", byteOffset := 16 }) (n := 1) (m := 2) rfl (by kernel_rfl) (fun _ => ⟨.inr rfl, rfl⟩) (op_int Try.underlying3) (ofs_cons (f := { name := "Series", type := 226, offset := 3, embedded := false, tag := "", pkgPath := "", byteOffset := 24 }) (n := 1) (m := 1) rfl (by kernel_rfl) (fun _ => ⟨.inr rfl, rfl⟩) op_SeriesS (ofs_cons (f := { name := "Stones", type := 227, offset := 4, embedded := false, tag := "", pkgPath := "", byteOffset := 48 }) (n := 1) (m := 0) rfl (by kernel_rfl) (fun _ => ⟨.inr rfl, rfl⟩) op_StoneS ofs_nil))))))
def zBlock (x : Block) (n : Int) : Int := (stp (zSeriesS x.series) ((zStoneS x.stones))) n
theorem zBlock_ok (x : Block) : GOk (zBlock x) (SBlock x) := (stp_ok (zSeriesS_ok x.series) (zStoneS_ok x.stones))
theorem f179_ok (x : Block) (hx : LBlock x) (n : Int) (h0 : 0 ≤ n) (hn : n ≤ 1048576) : PFn Try.prog 179 [eBlock x, int n] (int (zBlock x n)) := by
  have e0 : zBlock x n = (stp (zSeriesS x.series) ((zStoneS x.stones))) n := rfl
  have a0 := h0
  have b0 := hn
  refine fn_ok' (n := 18) Try.func179 rfl rfl rfl (Nat.le_of_ble_eq_true rfl) rfl fun w0 O => ?_
  refine ok_seq fun K1 h1 => ok_region rfl (q_boxs _ rfl (Nat.zero_lt_succ _) (q_as _ rfl (run_nil (h1 _ ?_)))); clear h1 K1
  refine ok_seq fun K2 h2 => ok_region rfl (q_fa _ fd229_3 rfl rfl (by decide) (q_ld _ ag226 rfl rfl (q_mv _ rfl (q_call (f234_ok x.series (hx.1) _ a0 b0) cl234 rfl rfl (q_as _ rfl (run_nil (h2 _ ?_))))))); clear h2 K2
  refine ok_seq fun K3 h3 => ?_
  refine ok_seq fun K4 h4 => ok_region rfl (q_mv _ rfl (q_bin _ _ _ rfl rfl rfl (run_nil (h4 _ ?_)))); clear h4 K4
  refine ok_cond rfl (fun c5 => ?_) (fun c5 => ?_)
  · refine ok_seq fun K6 h6 => ?_
    refine ok_region rfl (q_as _ rfl (run_nil (h6 _ ?_)))
    clear h6 K6
    refine ok_ret ⟨_, rfl, ?_⟩
    rw [e0, stp_pos (of_decide_eq_true c5)]; rfl
  · refine ok_skip (h3 _ ?_)
    have e1 : zBlock x n = ((zStoneS x.stones)) (zSeriesS x.series n) := by rw [e0, stp_neg (of_decide_eq_false c5)]
    have a1 : 0 ≤ zSeriesS x.series n := by have := of_decide_eq_false c5; omega
    have b1 : zSeriesS x.series n ≤ 1048576 := ((zSeriesS_ok x.series) _ b0).1
    refine ok_seq fun K7 h7 => ok_region rfl (q_fa _ fd229_4 rfl rfl (by decide) (q_ld _ ag227 rfl rfl (q_mv _ rfl (q_call (f240_ok x.stones (hx.2) _ a1 b1) cl240 rfl rfl (q_as _ rfl (run_nil (h7 _ ?_))))))); clear h7 K7
    refine ok_seq fun K8 h8 => ?_
    refine ok_seq fun K9 h9 => ok_region rfl (q_mv _ rfl (q_bin _ _ _ rfl rfl rfl (run_nil (h9 _ ?_)))); clear h9 K9
    refine ok_cond rfl (fun c10 => ?_) (fun c10 => ?_)
    · refine ok_seq fun K11 h11 => ?_
      refine ok_region rfl (q_as _ rfl (run_nil (h11 _ ?_)))
      clear h11 K11
      refine ok_ret ⟨_, rfl, ?_⟩
      rw [e1]; rw [((zStoneS_ok x.stones) _ b1).2.1 (of_decide_eq_true c10)]; rfl
    · refine ok_skip (h8 _ ?_)
      refine ok_seq fun K12 h12 => ok_region rfl (q_mv _ rfl (q_as _ rfl (run_nil (h12 _ ?_)))); clear h12 K12
      refine ok_ret ⟨_, rfl, ?_⟩
      rw [e1]; rfl
theorem f182_ok (x : Block) (hx : SBlock x) : PFn Try.prog 182 [eBlock x] (eBlock x) := by
  refine fnr_ok (n := 22) Try.func182 rfl rfl rfl (Nat.le_of_ble_eq_true rfl) rfl fun w0 O => ?_
  refine ok_seq fun K1 h1 => ok_region rfl (q_boxs _ rfl (Nat.zero_lt_succ _) (q_alloc _ ze232 rfl rfl rfl rfl (run_nil (h1 _ ?_)))); clear h1 K1
  refine ok_seq fun K2 h2 => ok_region rfl (q_alloc _ ze232 rfl rfl rfl rfl (run_nil (h2 _ ?_))); clear h2 K2
  refine ok_seq fun K3 h3 => ok_region rfl (q_fa _ fd229_0 rfl rfl (by decide) (q_ld _ ag3 rfl rfl (q_fap fd232_0 rfl (by decide) (q_st _ sz3 rfl rfl (Nat.le_of_ble_eq_true rfl) rfl ⟨_, rfl, rfl⟩ rfl (run_nil (h3 _ ?_)))))); clear h3 K3
  refine ok_seq fun K4 h4 => ok_region rfl (q_fa _ fd229_1 rfl rfl (by decide) (q_ld _ ag3 rfl rfl (q_fap fd232_1 rfl (by decide) (q_st _ sz3 rfl rfl (Nat.le_of_ble_eq_true rfl) rfl ⟨_, rfl, rfl⟩ rfl (run_nil (h4 _ ?_)))))); clear h4 K4
  refine ok_seq fun K5 h5 => ok_region rfl (q_fa _ fd229_2 rfl rfl (by decide) (q_ld _ ag3 rfl rfl (q_fap fd232_2 rfl (by decide) (q_st _ sz3 rfl rfl (Nat.le_of_ble_eq_true rfl) rfl ⟨_, rfl, rfl⟩ rfl (run_nil (h5 _ ?_)))))); clear h5 K5
  refine ok_seq fun K6 h6 => ok_region rfl (q_fa _ fd229_3 rfl rfl (by decide) (q_ld _ ag226 rfl rfl (q_call (f237_ok x.series (hx.1)) cl237 rfl rfl (q_fap fd232_3 rfl (by decide) (q_st _ sz220 rfl rfl (Nat.le_of_ble_eq_true rfl) rfl ⟨_, rfl, rfl⟩ rfl (run_nil (h6 _ ?_))))))); clear h6 K6
  refine ok_seq fun K7 h7 => ok_region rfl (q_fa _ fd229_4 rfl rfl (by decide) (q_ld _ ag227 rfl rfl (q_call (f242_ok x.stones (hx.2)) cl242 rfl rfl (q_fap fd232_4 rfl (by decide) (q_st _ sz230 rfl rfl (Nat.le_of_ble_eq_true rfl) rfl ⟨_, rfl, rfl⟩ rfl (run_nil (h7 _ ?_))))))); clear h7 K7
  refine ok_seq fun K8 h8 => ok_region rfl (q_ldbs ag232 rfl rfl sz232 rfl rfl (q_sts _ rfl rfl rfl sz232 (Nat.le_of_ble_eq_true rfl) rfl (run_nil (h8 _ ?_)))); clear h8 K8
  exact ok_ret (ret_cell (l := [int x.from_, int x.to, int x.level, eSeriesS x.series, eStoneS x.stones]) rfl rfl ag232 sz232 rfl rfl)
theorem f185_ok (x : Block) (hx : SBlock x) : PFn Try.prog 185 [eBlock x, eBlock x] (bool true) := by
  refine fn_ok' (n := 32) Try.func185 rfl rfl rfl (Nat.le_of_ble_eq_true rfl) rfl fun w0 O => ?_
  refine ok_seq fun K1 h1 => ok_region rfl (q_boxs _ rfl (Nat.zero_lt_succ _) (q_boxs _ rfl (Nat.zero_lt_succ _) (q_as _ rfl (run_nil (h1 _ ?_))))); clear h1 K1
  refine ok_seq fun K2 h2 => ?_
  refine ok_seq fun K3 h3 => ok_region rfl (q_fa _ fd232_0 rfl rfl (by decide) (q_ld _ ag3 rfl rfl (q_fa _ fd232_0 rfl rfl (by decide) (q_ld _ ag3 rfl rfl (q_bin _ _ _ rfl rfl rfl (run_nil (h3 _ ?_))))))); clear h3 K3
  refine ok_cond rfl (fun c4 => ?_) (fun c4 => ?_)
  · simp at c4
  · refine ok_skip (h2 _ ?_)
    refine ok_seq fun K6 h6 => ?_
    refine ok_seq fun K7 h7 => ok_region rfl (q_fa _ fd232_1 rfl rfl (by decide) (q_ld _ ag3 rfl rfl (q_fa _ fd232_1 rfl rfl (by decide) (q_ld _ ag3 rfl rfl (q_bin _ _ _ rfl rfl rfl (run_nil (h7 _ ?_))))))); clear h7 K7
    refine ok_cond rfl (fun c8 => ?_) (fun c8 => ?_)
    · simp at c8
    · refine ok_skip (h6 _ ?_)
      refine ok_seq fun K10 h10 => ?_
      refine ok_seq fun K11 h11 => ok_region rfl (q_fa _ fd232_2 rfl rfl (by decide) (q_ld _ ag3 rfl rfl (q_fa _ fd232_2 rfl rfl (by decide) (q_ld _ ag3 rfl rfl (q_bin _ _ _ rfl rfl rfl (run_nil (h11 _ ?_))))))); clear h11 K11
      refine ok_cond rfl (fun c12 => ?_) (fun c12 => ?_)
      · simp at c12
      · refine ok_skip (h10 _ ?_)
        refine ok_seq fun K14 h14 => ?_
        refine ok_seq fun K15 h15 => ok_region rfl (q_fa _ fd232_3 rfl rfl (by decide) (q_ld _ ag220 rfl rfl (q_fa _ fd232_3 rfl rfl (by decide) (q_ld _ ag220 rfl rfl (q_call (f239_ok x.series (hx.1)) cl239 rfl rfl (q_un _ _ rfl rfl (run_nil (h15 _ ?_)))))))); clear h15 K15
        refine ok_cond rfl (fun c16 => ?_) (fun c16 => ?_)
        · simp at c16
        · refine ok_skip (h14 _ ?_)
          refine ok_seq fun K18 h18 => ?_
          refine ok_seq fun K19 h19 => ok_region rfl (q_fa _ fd232_4 rfl rfl (by decide) (q_ld _ ag230 rfl rfl (q_fa _ fd232_4 rfl rfl (by decide) (q_ld _ ag230 rfl rfl (q_call (f244_ok x.stones (hx.2)) cl244 rfl rfl (q_un _ _ rfl rfl (run_nil (h19 _ ?_)))))))); clear h19 K19
          refine ok_cond rfl (fun c20 => ?_) (fun c20 => ?_)
          · simp at c20
          · refine ok_skip (h18 _ ?_)
            refine ok_seq fun K22 h22 => ok_region rfl (q_as _ rfl (run_nil (h22 _ ?_))); clear h22 K22
            exact ok_ret ⟨_, rfl, rfl⟩
@[reducible] def eBlockS (l : List Block) : SV := .sl 5 (l.map eBlock)
theorem op_BlockS : Opens Try.prog 125 eBlockS (fun y => LB y.length ∧ ∀ z ∈ y, LBlock z) :=
  op_iso (fun y : List Block => y) (fun _ => rfl) (fun y h => h) (op_slice (n := 5) Try.underlying125 (by kernel_rfl) (by decide) (fun _ => ⟨.inl ⟨_, rfl⟩, rfl⟩) op_Block)
def zBlockS (x : List Block) (n : Int) : Int := szSl zBlock x n
theorem zBlockS_ok (x : List Block) : GOk (zBlockS x) (x.length ≤ 1048576 ∧ ∀ y ∈ x, SBlock y) := szSl_ok zBlock_ok x
theorem f79_ok (x : List Block) (hx : LB x.length ∧ ∀ y ∈ x, LBlock y) (n : Int) (h0 : 0 ≤ n) (hn : n ≤ 1048576) : PFn Try.prog 79 [eBlockS x, int n] (int (zBlockS x n)) := by
  have hx1 := hx.1
  unfold LB at hx1
  refine fn_ok' (n := 27) Try.func79 rfl rfl rfl (Nat.le_of_ble_eq_true rfl) rfl fun w0 O => ?_
  refine ok_seq fun K1 h1 => ok_region rfl (q_as _ rfl (run_nil (h1 _ ?_))); clear h1 K1
  refine ok_seq fun K2 h2 => ok_region rfl (q_mv _ rfl (q_mv _ rfl (q_len eS125 rfl (q_sub rfl rfl (by rw [List.length_map]; omega) (q_as _ rfl (run_nil (h2 _ ?_))))))); clear h2 K2
  rw [List.length_map]
  refine ok_seq fun K3 h3 => ?_
  refine ok_seq fun K4 h4 => ok_region rfl (q_mv _ rfl (q_bin _ _ _ rfl rfl rfl (run_nil (h4 _ ?_)))); clear h4 K4
  refine ok_cond rfl (fun c5 => ?_) (fun c5 => ?_)
  · refine ok_seq fun K6 h6 => ?_
    refine ok_region rfl (q_as _ rfl (run_nil (h6 _ ?_)))
    clear h6 K6
    refine ok_ret ⟨_, rfl, ?_⟩
    rw [zBlockS, szSl_pos (of_decide_eq_true c5)]; rfl
  · refine ok_skip (h3 _ ?_)
    refine ok_seq fun K7 h7 => ?_
    refine ok_seq fun K8 h8 => ok_region rfl (q_as _ rfl (run_nil (h8 _ ?_))); clear h8 K8
    refine ok_block ?_
    refine ok_loop (fun (s : Nat × Int) => ⟨[(0, .sv (eBlockS x)), (1, .sv (int s.2)), (5, .sv (int s.1))], []⟩) (fun s => 0 ≤ s.2 ∧ s.2 ≤ 1048576 ∧ szAll zBlock (x.drop s.1) s.2 = zBlockS x n) (fun s => x.length - s.1) (0, n - x.length) ⟨by have := of_decide_eq_false c5; simp only; omega, by simp only; omega, by simp only [List.drop_zero]; rw [zBlockS, szSl_neg (of_decide_eq_false c5)]⟩ (le_same ⟨rfl, rfl, rfl, trivial⟩) (fun s J => ?_)
    obtain ⟨k, a⟩ := s
    obtain ⟨J1, J2, J3⟩ := J
    simp only at J1 J2 J3
    refine ok_seq fun K9 h9 => ?_
    refine ok_seq fun K10 h10 => ok_region rfl (q_mv _ rfl (q_mv _ rfl (q_len eS125 rfl (q_bin _ _ _ rfl rfl rfl (run_nil (h10 _ ?_)))))); clear h10 K10
    rw [List.length_map]
    refine ok_cond rfl (fun c11 => ?_) (fun c11 => ?_)
    · refine ok_skip (h9 _ ?_)
      obtain ⟨u, hu⟩ := sget (l := x) (i := k) (by simpa using c11)
      rw [szAll_cons _ hu] at J3
      refine ok_seq fun K12 h12 => ?_
      refine ok_block ?_
      refine ok_seq fun K13 h13 => ok_region rfl (q_mv _ rfl (q_mv _ rfl (q_ia el125 rfl rfl (by omega) (mget hu) (q_lds _ ag229 rfl sz229 (q_mv _ rfl (q_call (f179_ok u (hx.2 u (smem hu)) a J1 J2) cl179 rfl rfl (q_as _ rfl (run_nil (h13 _ ?_))))))))); clear h13 K13
      refine ok_seq fun K14 h14 => ok_region rfl (q_mv _ rfl (q_bin _ _ _ rfl rfl rfl (run_nil (h14 _ ?_)))); clear h14 K14
      refine ok_cond rfl (fun c15 => ?_) (fun c15 => ?_)
      · refine ok_seq fun K16 h16 => ?_
        refine ok_region rfl (q_as _ rfl (run_nil (h16 _ ?_)))
        clear h16 K16
        refine ok_ret ⟨_, rfl, ?_⟩
        rw [if_pos (of_decide_eq_true c15)] at J3; rw [← J3]; rfl
      · refine ok_skip (h12 _ ?_)
        refine ok_region rfl (q_mv _ rfl (q_add rfl rfl (by have := slt hu; have := hx.1; unfold LB at this; omega) (q_as _ rfl (run_nil (⟨(k + 1, zBlock u a), by have := slt hu; simp only; omega, ⟨by have := of_decide_eq_false c15; simp only; omega, (zBlock_ok u a J2).1, by rw [if_neg (of_decide_eq_false c15)] at J3; exact J3⟩, le_same ⟨rfl, rfl, rfl, trivial⟩⟩)))))
    · refine ok_exit (h7 _ ?_)
      refine ok_seq fun K17 h17 => ok_region rfl (q_mv _ rfl (q_as _ rfl (run_nil (h17 _ ?_)))); clear h17 K17
      refine ok_ret ⟨_, rfl, ?_⟩
      rw [szAll_end _ (by simpa using c11)] at J3; rw [← J3]; rfl
theorem f81_ok (x : List Block) (hx : x.length ≤ 1048576 ∧ ∀ y ∈ x, SBlock y) : PFn Try.prog 81 [eBlockS x] (eBlockS x) := by
  have hle : x.length ≤ 1048576 := hx.1
  refine fnr_ok (n := 23) Try.func81 rfl rfl rfl (Nat.le_of_ble_eq_true rfl) rfl fun w0 O => ?_
  refine ok_seq fun K1 h1 => ok_region rfl (q_as _ rfl (run_nil (h1 _ ?_))); clear h1 K1
  refine ok_seq fun K2 h2 => ok_region rfl (q_mv _ rfl (q_len eS125 rfl (q_make _ _ el128 (by decide) ze232 rfl by232 rfl rfl rfl rfl (.inl ⟨rfl, rfl, rfl⟩) (by rw [List.length_map]; exact Nat.le_trans hle (by decide)) (by rw [List.length_map]; omega) (q_ao _ rfl (run_nil (h2 _ ?_)))))); clear h2 K2
  rw [List.length_map]
  refine ok_seq fun K3 h3 => ?_
  refine ok_seq fun K4 h4 => ok_region rfl (q_as _ rfl (run_nil (h4 _ ?_))); clear h4 K4
  refine ok_block ?_
  refine ok_loop (fun (k : Nat) => ⟨[(0, .sv (eBlockS x)), (3, .own 7), (4, .sv (int k))], [(7, .row 5 232 (fill eBlock (.agg [.raw (.int .i64 0), .raw (.int .i64 0), .raw (.int .i64 0), .raw (.slice none 0 0), .raw (.slice none 0 0)]) x k))]⟩) (fun k => k ≤ x.length) (fun k => x.length - k) 0 (Nat.zero_le _) (by rw [fill_zero]; exact le_sub ⟨rfl, rfl, rfl, trivial⟩ ⟨rfl, trivial⟩) (fun k J => ?_)
  refine ok_seq fun K5 h5 => ?_
  refine ok_seq fun K6 h6 => ok_region rfl (q_mv _ rfl (q_mv _ rfl (q_len eS125 rfl (q_bin _ _ _ rfl rfl rfl (run_nil (h6 _ ?_)))))); clear h6 K6
  rw [List.length_map]
  refine ok_cond rfl (fun c7 => ?_) (fun c7 => ?_)
  · refine ok_skip (h5 _ ?_)
    have hk : k < x.length := by simpa using c7
    obtain ⟨u, hu⟩ := sget hk
    refine ok_seq fun K8 h8 => ?_
    refine ok_block ?_
    refine ok_last fun K9 h9 => ok_region rfl (q_mo _ rfl (q_mv _ rfl (q_mv _ rfl (q_mv _ rfl (q_ia el125 rfl rfl (by omega) (mget hu) (q_lds _ ag229 rfl sz229 (q_call (f182_ok u (hx.2 u (smem hu))) cl182 rfl rfl (q_iao el128 rfl rfl rfl (by omega) (by rw [fill_len _ _ _ J]; exact hk) (
      q_ste sz232 rfl rfl (fill_get _ _ _ hk) rfl (.inl ⟨_, rfl⟩) rfl (run_nil (h9 _ (h8 _ ?_))))))))))))
    refine ok_region rfl (q_mv _ rfl (q_add rfl rfl (by omega) (q_as _ rfl (run_nil (⟨k + 1, by omega, hk, ?_⟩)))))
    rw [← fill_set eBlock (.agg [.raw (.int .i64 0), .raw (.int .i64 0), .raw (.int .i64 0), .raw (.slice none 0 0), .raw (.slice none 0 0)]) hu]
    exact le_sub ⟨rfl, rfl, rfl, trivial⟩ ⟨rfl, trivial⟩
  · refine ok_exit (h3 _ ?_)
    refine ok_seq fun K9 h9 => ok_region rfl (q_mo _ rfl (q_ao _ rfl (run_nil (h9 _ ?_)))); clear h9 K9
    refine ok_ret ⟨_, ⟨_, _, rfl, rfl, rfl⟩, ?_⟩
    rw [fill_all _ _ _ (by simpa using c7)]; rfl
theorem f83_ok (x : List Block) (hx : x.length ≤ 1048576 ∧ ∀ y ∈ x, SBlock y) : PFn Try.prog 83 [eBlockS x, eBlockS x] (bool true) := by
  have hle : x.length ≤ 1048576 := hx.1
  refine fn_ok' (n := 27) Try.func83 rfl rfl rfl (Nat.le_of_ble_eq_true rfl) rfl fun w0 O => ?_
  refine ok_seq fun K1 h1 => ok_region rfl (q_as _ rfl (run_nil (h1 _ ?_))); clear h1 K1
  refine ok_seq fun K2 h2 => ?_
  refine ok_seq fun K3 h3 => ok_region rfl (q_mv _ rfl (q_len eS128 rfl (q_mv _ rfl (q_len eS128 rfl (q_bin _ _ _ rfl rfl rfl (run_nil (h3 _ ?_))))))); clear h3 K3
  refine ok_cond rfl (fun c4 => ?_) (fun c4 => ?_)
  · simp at c4
  · refine ok_skip (h2 _ ?_)
    refine ok_seq fun K6 h6 => ?_
    refine ok_seq fun K7 h7 => ok_region rfl (q_as _ rfl (run_nil (h7 _ ?_))); clear h7 K7
    refine ok_block ?_
    refine ok_loop (fun (k : Nat) => ⟨[(0, .sv (eBlockS x)), (1, .sv (eBlockS x)), (5, .sv (int k))], []⟩) (fun k => True) (fun k => x.length - k) 0 trivial (le_same ⟨rfl, rfl, rfl, trivial⟩) (fun k J => ?_)
    refine ok_seq fun K8 h8 => ?_
    refine ok_seq fun K9 h9 => ok_region rfl (q_mv _ rfl (q_mv _ rfl (q_len eS128 rfl (q_bin _ _ _ rfl rfl rfl (run_nil (h9 _ ?_)))))); clear h9 K9
    rw [List.length_map]
    refine ok_cond rfl (fun c10 => ?_) (fun c10 => ?_)
    · refine ok_skip (h8 _ ?_)
      have hk : k < x.length := by simpa using c10
      obtain ⟨u, hu⟩ := sget hk
      refine ok_seq fun K11 h11 => ?_
      refine ok_block ?_
      refine ok_seq fun K12 h12 => ?_
      refine ok_region_i (by kernel_rfl) (by kernel_rfl) rfl (
        q_mv _ rfl (q_mv _ rfl (q_ia el128 rfl rfl (by omega) (mget hu) (q_lds _ ag232 rfl sz232 (q_mv _ rfl (q_mv _ rfl (q_ia el128 rfl rfl (by omega) (mget hu) (q_lds _ ag232 rfl sz232 (
        q_call (f185_ok u (hx.2 u (smem hu))) cl185 rfl rfl (q_un _ _ rfl rfl (run_nil (h12 _ ?_))))))))))))
      clear h12 K12
      refine ok_cond rfl (fun c13 => ?_) (fun c13 => ?_)
      · simp at c13
      · refine ok_skip (h11 _ ?_)
        refine ok_region rfl (q_mv _ rfl (q_add rfl rfl (by omega) (q_as _ rfl (run_nil (⟨k + 1, by omega, trivial, le_same ⟨rfl, rfl, rfl, trivial⟩⟩)))))
    · refine ok_exit (h6 _ ?_)
      refine ok_seq fun K15 h15 => ok_region rfl (q_as _ rfl (run_nil (h15 _ ?_))); clear h15 K15
      exact ok_ret ⟨_, rfl, rfl⟩
end Go.Ring
