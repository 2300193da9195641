/- The laws' own types: their bulk, their copies, their likeness, and how they open. No condition. -/
import Derived.Test.YtlokejcoikddgaaFacts
namespace Go.Ring
open Go Go.RowKit Go.Eager Go.Abs Go.Proofs
set_option maxRecDepth 100000
set_option linter.unusedVariables false
set_option linter.unusedSimpArgs false
theorem op_IntS : Opens Try.prog 27 ints (fun y => LB y.length) :=
  op_iso (fun y : List Int => y) (fun _ => rfl) (fun y h => h.1) (op_slice (n := 1) Try.underlying27 (by kernel_rfl) (by decide) (fun _ => ⟨.inr rfl, rfl⟩) (op_int Try.underlying3))
def zIntS (x : List Int) (n : Int) : Int := take n x.length
theorem zIntS_ok (x : List Int) : GOk (zIntS x) (x.length ≤ 1048576) := take_ok _
theorem f143_ok (x : List Int) (hx : LB x.length) (n : Int) (h0 : 0 ≤ n) (hn : n ≤ 1048576) : PFn Try.prog 143 [ints x, int n] (int (zIntS x n)) := by
  unfold LB at hx
  have hl : (x.map int).length = x.length := List.length_map _
  refine fn_ok' (n := 12) Try.func143 rfl rfl rfl (Nat.le_of_ble_eq_true rfl) rfl fun w0 O => ?_
  refine ok_seq fun K1 h1 => ok_region rfl (q_as _ rfl (run_nil (h1 _ ?_))); clear h1 K1
  refine ok_seq fun K2 h2 => ok_region rfl (q_mv _ rfl (q_mv _ rfl (q_len eS27 rfl (q_sub rfl rfl (by rw [hl]; omega) (q_as _ rfl (run_nil (h2 _ ?_))))))); clear h2 K2
  rw [List.length_map]
  refine ok_seq fun K3 h3 => ?_
  refine ok_seq fun K4 h4 => ok_region rfl (q_mv _ rfl (q_bin _ _ _ rfl rfl rfl (run_nil (h4 _ ?_)))); clear h4 K4
  refine ok_cond rfl (fun c5 => ?_) (fun c5 => ?_)
  · refine ok_seq fun K6 h6 => ?_
    refine ok_region rfl (q_as _ rfl (run_nil (h6 _ ?_)))
    clear h6 K6
    refine ok_ret ⟨_, rfl, ?_⟩
    rw [zIntS, take_pos (of_decide_eq_true c5)]; rfl
  · refine ok_skip (h3 _ ?_)
    refine ok_seq fun K7 h7 => ok_region rfl (q_mv _ rfl (q_as _ rfl (run_nil (h7 _ ?_)))); clear h7 K7
    refine ok_ret ⟨_, rfl, ?_⟩
    rw [zIntS, take_neg (of_decide_eq_false c5)]; rfl
theorem f145_ok (x : List Int) (hx : x.length ≤ 1048576) : PFn Try.prog 145 [ints x] (ints x) := by
  have hle : x.length ≤ 1048576 := hx
  refine fnr_ok (n := 22) Try.func145 rfl rfl rfl (Nat.le_of_ble_eq_true rfl) rfl fun w0 O => ?_
  refine ok_seq fun K1 h1 => ok_region rfl (q_as _ rfl (run_nil (h1 _ ?_))); clear h1 K1
  refine ok_seq fun K2 h2 => ok_region rfl (q_mv _ rfl (q_len eS27 rfl (q_make _ _ el27 (by decide) ze3 rfl by3 rfl rfl rfl rfl (.inr ⟨rfl, rfl⟩) (by rw [List.length_map]; exact Nat.le_trans hle (by decide)) (by rw [List.length_map]; omega) (q_ao _ rfl (run_nil (h2 _ ?_)))))); clear h2 K2
  rw [List.length_map]
  refine ok_seq fun K3 h3 => ?_
  refine ok_seq fun K4 h4 => ok_region rfl (q_as _ rfl (run_nil (h4 _ ?_))); clear h4 K4
  refine ok_block ?_
  refine ok_loop (fun (k : Nat) => ⟨[(0, .sv (ints x)), (3, .own 7), (4, .sv (int k))], [(7, .row 1 3 (fill int (.raw (.int .i64 0)) x k))]⟩) (fun k => k ≤ x.length) (fun k => x.length - k) 0 (Nat.zero_le _) (by rw [fill_zero]; exact le_sub ⟨rfl, rfl, rfl, trivial⟩ ⟨rfl, trivial⟩) (fun k J => ?_)
  refine ok_seq fun K5 h5 => ?_
  refine ok_seq fun K6 h6 => ok_region rfl (q_mv _ rfl (q_mv _ rfl (q_len eS27 rfl (q_bin _ _ _ rfl rfl rfl (run_nil (h6 _ ?_)))))); clear h6 K6
  rw [List.length_map]
  refine ok_cond rfl (fun c7 => ?_) (fun c7 => ?_)
  · refine ok_skip (h5 _ ?_)
    have hk : k < x.length := by simpa using c7
    obtain ⟨u, hu⟩ := sget hk
    refine ok_seq fun K8 h8 => ?_
    refine ok_block ?_
    refine ok_last fun K9 h9 => ok_region rfl (q_mo _ rfl (q_mv _ rfl (q_mv _ rfl (q_mv _ rfl (q_ia (s := int u) el27 rfl rfl (by omega) (mget (f := int) hu) (q_ld _ ag3 rfl rfl (q_iao el27 rfl rfl rfl (by omega) (by rw [fill_len _ _ _ J]; exact hk) (q_ste sz3 rfl rfl (fill_get _ _ _ hk) rfl (.inr rfl) rfl (run_nil (h9 _ (h8 _ ?_)))))))))))
    refine ok_region rfl (q_mv _ rfl (q_add rfl rfl (by omega) (q_as _ rfl (run_nil (⟨k + 1, by omega, hk, ?_⟩)))))
    rw [← fill_set int (.raw (.int .i64 0)) hu]
    exact le_sub ⟨rfl, rfl, rfl, trivial⟩ ⟨rfl, trivial⟩
  · refine ok_exit (h3 _ ?_)
    refine ok_seq fun K9 h9 => ok_region rfl (q_mo _ rfl (q_ao _ rfl (run_nil (h9 _ ?_)))); clear h9 K9
    refine ok_ret ⟨_, ⟨_, _, rfl, rfl, rfl⟩, ?_⟩
    rw [fill_all _ _ _ (by simpa using c7)]; rfl
theorem f12_ok (x : List Int) (hx : x.length ≤ 1048576) : PFn Try.prog 12 [ints x, ints x] (bool true) := by
  have hle : x.length ≤ 1048576 := hx
  refine fn_ok' (n := 26) Try.func12 rfl rfl rfl (Nat.le_of_ble_eq_true rfl) rfl fun w0 O => ?_
  refine ok_seq fun K1 h1 => ok_region rfl (q_as _ rfl (run_nil (h1 _ ?_))); clear h1 K1
  refine ok_seq fun K2 h2 => ?_
  refine ok_seq fun K3 h3 => ok_region rfl (q_mv _ rfl (q_len eS27 rfl (q_mv _ rfl (q_len eS27 rfl (q_bin _ _ _ rfl rfl rfl (run_nil (h3 _ ?_))))))); clear h3 K3
  refine ok_cond rfl (fun c4 => ?_) (fun c4 => ?_)
  · simp at c4
  · refine ok_skip (h2 _ ?_)
    refine ok_seq fun K6 h6 => ?_
    refine ok_seq fun K7 h7 => ok_region rfl (q_as _ rfl (run_nil (h7 _ ?_))); clear h7 K7
    refine ok_block ?_
    refine ok_loop (fun (k : Nat) => ⟨[(0, .sv (ints x)), (1, .sv (ints x)), (5, .sv (int k))], []⟩) (fun k => True) (fun k => x.length - k) 0 trivial (le_same ⟨rfl, rfl, rfl, trivial⟩) (fun k J => ?_)
    refine ok_seq fun K8 h8 => ?_
    refine ok_seq fun K9 h9 => ok_region rfl (q_mv _ rfl (q_mv _ rfl (q_len eS27 rfl (q_bin _ _ _ rfl rfl rfl (run_nil (h9 _ ?_)))))); clear h9 K9
    rw [List.length_map]
    refine ok_cond rfl (fun c10 => ?_) (fun c10 => ?_)
    · refine ok_skip (h8 _ ?_)
      have hk : k < x.length := by simpa using c10
      obtain ⟨u, hu⟩ := sget hk
      refine ok_seq fun K11 h11 => ?_
      refine ok_block ?_
      refine ok_seq fun K12 h12 => ?_
      refine ok_region_i (by kernel_rfl) (by kernel_rfl) rfl (
        q_mv _ rfl (q_mv _ rfl (q_ia (s := int u) el27 rfl rfl (by omega) (mget (f := int) hu) (q_ld _ ag3 rfl rfl (q_mv _ rfl (q_mv _ rfl (q_ia (s := int u) el27 rfl rfl (by omega) (mget (f := int) hu) (q_ld _ ag3 rfl rfl (q_bin _ _ _ rfl rfl rfl (run_nil (h12 _ ?_)))))))))))
      clear h12 K12
      refine ok_cond rfl (fun c13 => ?_) (fun c13 => ?_)
      · simp at c13
      · refine ok_skip (h11 _ ?_)
        refine ok_region rfl (q_mv _ rfl (q_add rfl rfl (by omega) (q_as _ rfl (run_nil (⟨k + 1, by omega, trivial, le_same ⟨rfl, rfl, rfl, trivial⟩⟩)))))
    · refine ok_exit (h6 _ ?_)
      refine ok_seq fun K15 h15 => ok_region rfl (q_as _ rfl (run_nil (h15 _ ?_))); clear h15 K15
      exact ok_ret ⟨_, rfl, rfl⟩
structure RingNode where
  id : ByteArray
  st : Int
  toks : List Int
@[reducible] def eRingNode (x : RingNode) : SV := .agg [str x.id, int x.st, ints x.toks]
def LRingNode (x : RingNode) : Prop := LB x.id.size ∧ LB x.toks.length
def SRingNode (x : RingNode) : Prop := x.id.size ≤ 1048576 ∧ x.toks.length ≤ 1048576
theorem op_RingNode : Opens Try.prog 131 eRingNode (fun y => LRingNode y) :=
  op_iso (fun y : ByteArray × Int × (List Int) × Unit => (⟨y.1, y.2.1, y.2.2.1⟩ : RingNode)) (fun _ => rfl) (fun y h => ⟨h.1, h.2.2.1⟩)
    (op_struct (n := 3) Try.underlying131 (by kernel_rfl) (ofs_cons (f := { name := "Id", type := 9, offset := 0, embedded := false, tag := "", pkgPath := "", byteOffset := 0 }) (n := 1) (m := 2) rfl (by kernel_rfl) (fun _ => ⟨.inr rfl, rfl⟩) (op_string Try.underlying9) (ofs_cons (f := { name := "State", type := 3, offset := 1, embedded := false, tag := "", pkgPath := "", byteOffset := 16 }) (n := 1) (m := 1) rfl (by kernel_rfl) (fun _ => ⟨.inr rfl, rfl⟩) (op_int Try.underlying3) (ofs_cons (f := { name := "Tokens", type := 27, offset := 2, embedded := false, tag := "", pkgPath := "", byteOffset := 24 }) (n := 1) (m := 0) rfl (by kernel_rfl) (fun _ => ⟨.inr rfl, rfl⟩) op_IntS ofs_nil))))
def zRingNode (x : RingNode) (n : Int) : Int := (stp (fun n => take n x.id.size) ((zIntS x.toks))) n
theorem zRingNode_ok (x : RingNode) : GOk (zRingNode x) (SRingNode x) := (stp_ok (take_ok _) (zIntS_ok x.toks))
theorem f99_ok (x : RingNode) (hx : LRingNode x) (n : Int) (h0 : 0 ≤ n) (hn : n ≤ 1048576) : PFn Try.prog 99 [eRingNode x, int n] (int (zRingNode x n)) := by
  have e0 : zRingNode x n = (stp (fun n => take n x.id.size) ((zIntS x.toks))) n := rfl
  have a0 := h0
  have b0 := hn
  have l0 := hx.1; unfold LB at l0
  refine fn_ok' (n := 19) Try.func99 rfl rfl rfl (Nat.le_of_ble_eq_true rfl) rfl fun w0 O => ?_
  refine ok_seq fun K1 h1 => ok_region rfl (q_boxs _ rfl (Nat.zero_lt_succ _) (q_as _ rfl (run_nil (h1 _ ?_)))); clear h1 K1
  refine ok_seq fun K2 h2 => ok_region rfl (q_mv _ rfl (q_fa _ fd131_0 rfl rfl (by decide) (q_ld _ ag9 rfl rfl (q_lens st9 rfl (q_sub rfl rfl (by omega) (q_as _ rfl (run_nil (h2 _ ?_)))))))); clear h2 K2
  refine ok_seq fun K3 h3 => ?_
  refine ok_seq fun K4 h4 => ok_region rfl (q_mv _ rfl (q_bin _ _ _ rfl rfl rfl (run_nil (h4 _ ?_)))); clear h4 K4
  refine ok_cond rfl (fun c5 => ?_) (fun c5 => ?_)
  · refine ok_seq fun K6 h6 => ?_
    refine ok_region rfl (q_as _ rfl (run_nil (h6 _ ?_)))
    clear h6 K6
    refine ok_ret ⟨_, rfl, ?_⟩
    rw [e0, stp_pos (by show take _ _ < 0; rw [take_pos (of_decide_eq_true c5)]; decide)]; rfl
  · refine ok_skip (h3 _ ?_)
    have t0 := take_neg (of_decide_eq_false c5)
    have e1 : zRingNode x n = ((zIntS x.toks)) (n - (x.id.size : Int)) := by rw [e0, stp_neg (by show ¬ take _ _ < 0; rw [t0]; exact of_decide_eq_false c5)]; exact congrArg ((zIntS x.toks)) t0
    have a1 : 0 ≤ (n - (x.id.size : Int)) := by have := of_decide_eq_false c5; omega
    have b1 : (n - (x.id.size : Int)) ≤ 1048576 := by omega
    refine ok_seq fun K7 h7 => ok_region rfl (q_fa _ fd131_2 rfl rfl (by decide) (q_ld _ ag27 rfl rfl (q_mv _ rfl (q_call (f143_ok x.toks (hx.2) _ a1 b1) cl143 rfl rfl (q_as _ rfl (run_nil (h7 _ ?_))))))); clear h7 K7
    refine ok_seq fun K8 h8 => ?_
    refine ok_seq fun K9 h9 => ok_region rfl (q_mv _ rfl (q_bin _ _ _ rfl rfl rfl (run_nil (h9 _ ?_)))); clear h9 K9
    refine ok_cond rfl (fun c10 => ?_) (fun c10 => ?_)
    · refine ok_seq fun K11 h11 => ?_
      refine ok_region rfl (q_as _ rfl (run_nil (h11 _ ?_)))
      clear h11 K11
      refine ok_ret ⟨_, rfl, ?_⟩
      rw [e1]; rw [((zIntS_ok x.toks) _ b1).2.1 (of_decide_eq_true c10)]; rfl
    · refine ok_skip (h8 _ ?_)
      refine ok_seq fun K12 h12 => ok_region rfl (q_mv _ rfl (q_as _ rfl (run_nil (h12 _ ?_)))); clear h12 K12
      refine ok_ret ⟨_, rfl, ?_⟩
      rw [e1]; rfl
theorem f104_ok (x : RingNode) (hx : SRingNode x) : PFn Try.prog 104 [eRingNode x] (eRingNode x) := by
  refine fnr_ok (n := 15) Try.func104 rfl rfl rfl (Nat.le_of_ble_eq_true rfl) rfl fun w0 O => ?_
  refine ok_seq fun K1 h1 => ok_region rfl (q_boxs _ rfl (Nat.zero_lt_succ _) (q_alloc _ ze88 rfl rfl rfl rfl (run_nil (h1 _ ?_)))); clear h1 K1
  refine ok_seq fun K2 h2 => ok_region rfl (q_alloc _ ze88 rfl rfl rfl rfl (run_nil (h2 _ ?_))); clear h2 K2
  refine ok_seq fun K3 h3 => ok_region rfl (q_fa _ fd131_0 rfl rfl (by decide) (q_ld _ ag9 rfl rfl (q_fap fd88_0 rfl (by decide) (q_st _ sz9 rfl rfl (Nat.le_of_ble_eq_true rfl) rfl ⟨_, rfl, rfl⟩ rfl (run_nil (h3 _ ?_)))))); clear h3 K3
  refine ok_seq fun K4 h4 => ok_region rfl (q_fa _ fd131_1 rfl rfl (by decide) (q_ld _ ag3 rfl rfl (q_fap fd88_1 rfl (by decide) (q_st _ sz3 rfl rfl (Nat.le_of_ble_eq_true rfl) rfl ⟨_, rfl, rfl⟩ rfl (run_nil (h4 _ ?_)))))); clear h4 K4
  refine ok_seq fun K5 h5 => ok_region rfl (q_fa _ fd131_2 rfl rfl (by decide) (q_ld _ ag27 rfl rfl (q_call (f145_ok x.toks (hx.2)) cl145 rfl rfl (q_fap fd88_2 rfl (by decide) (q_st _ sz27 rfl rfl (Nat.le_of_ble_eq_true rfl) rfl ⟨_, rfl, rfl⟩ rfl (run_nil (h5 _ ?_))))))); clear h5 K5
  refine ok_seq fun K6 h6 => ok_region rfl (q_ldbs ag88 rfl rfl sz88 rfl rfl (q_sts _ rfl rfl rfl sz88 (Nat.le_of_ble_eq_true rfl) rfl (run_nil (h6 _ ?_)))); clear h6 K6
  exact ok_ret (ret_cell (l := [str x.id, int x.st, ints x.toks]) rfl rfl ag88 sz88 rfl rfl)
theorem f112_ok (x : RingNode) (hx : SRingNode x) : PFn Try.prog 112 [eRingNode x, eRingNode x] (bool true) := by
  refine fn_ok' (n := 21) Try.func112 rfl rfl rfl (Nat.le_of_ble_eq_true rfl) rfl fun w0 O => ?_
  refine ok_seq fun K1 h1 => ok_region rfl (q_boxs _ rfl (Nat.zero_lt_succ _) (q_boxs _ rfl (Nat.zero_lt_succ _) (q_as _ rfl (run_nil (h1 _ ?_))))); clear h1 K1
  refine ok_seq fun K2 h2 => ?_
  refine ok_seq fun K3 h3 => ok_region rfl (q_fa _ fd88_0 rfl rfl (by decide) (q_ld _ ag9 rfl rfl (q_fa _ fd88_0 rfl rfl (by decide) (q_ld _ ag9 rfl rfl (q_bin _ _ _ rfl rfl rfl (run_nil (h3 _ ?_))))))); clear h3 K3
  refine ok_cond rfl (fun c4 => ?_) (fun c4 => ?_)
  · simp at c4
  · refine ok_skip (h2 _ ?_)
    refine ok_seq fun K6 h6 => ?_
    refine ok_seq fun K7 h7 => ok_region rfl (q_fa _ fd88_1 rfl rfl (by decide) (q_ld _ ag3 rfl rfl (q_fa _ fd88_1 rfl rfl (by decide) (q_ld _ ag3 rfl rfl (q_bin _ _ _ rfl rfl rfl (run_nil (h7 _ ?_))))))); clear h7 K7
    refine ok_cond rfl (fun c8 => ?_) (fun c8 => ?_)
    · simp at c8
    · refine ok_skip (h6 _ ?_)
      refine ok_seq fun K10 h10 => ?_
      refine ok_seq fun K11 h11 => ok_region rfl (q_fa _ fd88_2 rfl rfl (by decide) (q_ld _ ag27 rfl rfl (q_fa _ fd88_2 rfl rfl (by decide) (q_ld _ ag27 rfl rfl (q_call (f12_ok x.toks (hx.2)) cl12 rfl rfl (q_un _ _ rfl rfl (run_nil (h11 _ ?_)))))))); clear h11 K11
      refine ok_cond rfl (fun c12 => ?_) (fun c12 => ?_)
      · simp at c12
      · refine ok_skip (h10 _ ?_)
        refine ok_seq fun K14 h14 => ok_region rfl (q_as _ rfl (run_nil (h14 _ ?_))); clear h14 K14
        exact ok_ret ⟨_, rfl, rfl⟩
@[reducible] def eRingNodeS (l : List RingNode) : SV := .sl 3 (l.map eRingNode)
theorem op_RingNodeS : Opens Try.prog 39 eRingNodeS (fun y => LB y.length ∧ ∀ z ∈ y, LRingNode z) :=
  op_iso (fun y : List RingNode => y) (fun _ => rfl) (fun y h => h) (op_slice (n := 3) Try.underlying39 (by kernel_rfl) (by decide) (fun _ => ⟨.inl ⟨_, rfl⟩, rfl⟩) op_RingNode)
def zRingNodeS (x : List RingNode) (n : Int) : Int := szSl zRingNode x n
theorem zRingNodeS_ok (x : List RingNode) : GOk (zRingNodeS x) (x.length ≤ 1048576 ∧ ∀ y ∈ x, SRingNode y) := szSl_ok zRingNode_ok x
theorem f50_ok (x : List RingNode) (hx : LB x.length ∧ ∀ y ∈ x, LRingNode y) (n : Int) (h0 : 0 ≤ n) (hn : n ≤ 1048576) : PFn Try.prog 50 [eRingNodeS x, int n] (int (zRingNodeS x n)) := by
  have hx1 := hx.1
  unfold LB at hx1
  refine fn_ok' (n := 27) Try.func50 rfl rfl rfl (Nat.le_of_ble_eq_true rfl) rfl fun w0 O => ?_
  refine ok_seq fun K1 h1 => ok_region rfl (q_as _ rfl (run_nil (h1 _ ?_))); clear h1 K1
  refine ok_seq fun K2 h2 => ok_region rfl (q_mv _ rfl (q_mv _ rfl (q_len eS39 rfl (q_sub rfl rfl (by rw [List.length_map]; omega) (q_as _ rfl (run_nil (h2 _ ?_))))))); clear h2 K2
  rw [List.length_map]
  refine ok_seq fun K3 h3 => ?_
  refine ok_seq fun K4 h4 => ok_region rfl (q_mv _ rfl (q_bin _ _ _ rfl rfl rfl (run_nil (h4 _ ?_)))); clear h4 K4
  refine ok_cond rfl (fun c5 => ?_) (fun c5 => ?_)
  · refine ok_seq fun K6 h6 => ?_
    refine ok_region rfl (q_as _ rfl (run_nil (h6 _ ?_)))
    clear h6 K6
    refine ok_ret ⟨_, rfl, ?_⟩
    rw [zRingNodeS, szSl_pos (of_decide_eq_true c5)]; rfl
  · refine ok_skip (h3 _ ?_)
    refine ok_seq fun K7 h7 => ?_
    refine ok_seq fun K8 h8 => ok_region rfl (q_as _ rfl (run_nil (h8 _ ?_))); clear h8 K8
    refine ok_block ?_
    refine ok_loop (fun (s : Nat × Int) => ⟨[(0, .sv (eRingNodeS x)), (1, .sv (int s.2)), (5, .sv (int s.1))], []⟩) (fun s => 0 ≤ s.2 ∧ s.2 ≤ 1048576 ∧ szAll zRingNode (x.drop s.1) s.2 = zRingNodeS x n) (fun s => x.length - s.1) (0, n - x.length) ⟨by have := of_decide_eq_false c5; simp only; omega, by simp only; omega, by simp only [List.drop_zero]; rw [zRingNodeS, szSl_neg (of_decide_eq_false c5)]⟩ (le_same ⟨rfl, rfl, rfl, trivial⟩) (fun s J => ?_)
    obtain ⟨k, a⟩ := s
    obtain ⟨J1, J2, J3⟩ := J
    simp only at J1 J2 J3
    refine ok_seq fun K9 h9 => ?_
    refine ok_seq fun K10 h10 => ok_region rfl (q_mv _ rfl (q_mv _ rfl (q_len eS39 rfl (q_bin _ _ _ rfl rfl rfl (run_nil (h10 _ ?_)))))); clear h10 K10
    rw [List.length_map]
    refine ok_cond rfl (fun c11 => ?_) (fun c11 => ?_)
    · refine ok_skip (h9 _ ?_)
      obtain ⟨u, hu⟩ := sget (l := x) (i := k) (by simpa using c11)
      rw [szAll_cons _ hu] at J3
      refine ok_seq fun K12 h12 => ?_
      refine ok_block ?_
      refine ok_seq fun K13 h13 => ok_region rfl (q_mv _ rfl (q_mv _ rfl (q_ia el39 rfl rfl (by omega) (mget hu) (q_lds _ ag131 rfl sz131 (q_mv _ rfl (q_call (f99_ok u (hx.2 u (smem hu)) a J1 J2) cl99 rfl rfl (q_as _ rfl (run_nil (h13 _ ?_))))))))); clear h13 K13
      refine ok_seq fun K14 h14 => ok_region rfl (q_mv _ rfl (q_bin _ _ _ rfl rfl rfl (run_nil (h14 _ ?_)))); clear h14 K14
      refine ok_cond rfl (fun c15 => ?_) (fun c15 => ?_)
      · refine ok_seq fun K16 h16 => ?_
        refine ok_region rfl (q_as _ rfl (run_nil (h16 _ ?_)))
        clear h16 K16
        refine ok_ret ⟨_, rfl, ?_⟩
        rw [if_pos (of_decide_eq_true c15)] at J3; rw [← J3]; rfl
      · refine ok_skip (h12 _ ?_)
        refine ok_region rfl (q_mv _ rfl (q_add rfl rfl (by have := slt hu; have := hx.1; unfold LB at this; omega) (q_as _ rfl (run_nil (⟨(k + 1, zRingNode u a), by have := slt hu; simp only; omega, ⟨by have := of_decide_eq_false c15; simp only; omega, (zRingNode_ok u a J2).1, by rw [if_neg (of_decide_eq_false c15)] at J3; exact J3⟩, le_same ⟨rfl, rfl, rfl, trivial⟩⟩)))))
    · refine ok_exit (h7 _ ?_)
      refine ok_seq fun K17 h17 => ok_region rfl (q_mv _ rfl (q_as _ rfl (run_nil (h17 _ ?_)))); clear h17 K17
      refine ok_ret ⟨_, rfl, ?_⟩
      rw [szAll_end _ (by simpa using c11)] at J3; rw [← J3]; rfl
theorem f53_ok (x : List RingNode) (hx : x.length ≤ 1048576 ∧ ∀ y ∈ x, SRingNode y) : PFn Try.prog 53 [eRingNodeS x] (eRingNodeS x) := by
  have hle : x.length ≤ 1048576 := hx.1
  refine fnr_ok (n := 23) Try.func53 rfl rfl rfl (Nat.le_of_ble_eq_true rfl) rfl fun w0 O => ?_
  refine ok_seq fun K1 h1 => ok_region rfl (q_as _ rfl (run_nil (h1 _ ?_))); clear h1 K1
  refine ok_seq fun K2 h2 => ok_region rfl (q_mv _ rfl (q_len eS39 rfl (q_make _ _ el44 (by decide) ze88 rfl by88 rfl rfl rfl rfl (.inl ⟨rfl, rfl, rfl⟩) (by rw [List.length_map]; exact Nat.le_trans hle (by decide)) (by rw [List.length_map]; omega) (q_ao _ rfl (run_nil (h2 _ ?_)))))); clear h2 K2
  rw [List.length_map]
  refine ok_seq fun K3 h3 => ?_
  refine ok_seq fun K4 h4 => ok_region rfl (q_as _ rfl (run_nil (h4 _ ?_))); clear h4 K4
  refine ok_block ?_
  refine ok_loop (fun (k : Nat) => ⟨[(0, .sv (eRingNodeS x)), (3, .own 7), (4, .sv (int k))], [(7, .row 3 88 (fill eRingNode (.agg [.raw (.string ⟨#[]⟩), .raw (.int .i64 0), .raw (.slice none 0 0)]) x k))]⟩) (fun k => k ≤ x.length) (fun k => x.length - k) 0 (Nat.zero_le _) (by rw [fill_zero]; exact le_sub ⟨rfl, rfl, rfl, trivial⟩ ⟨rfl, trivial⟩) (fun k J => ?_)
  refine ok_seq fun K5 h5 => ?_
  refine ok_seq fun K6 h6 => ok_region rfl (q_mv _ rfl (q_mv _ rfl (q_len eS39 rfl (q_bin _ _ _ rfl rfl rfl (run_nil (h6 _ ?_)))))); clear h6 K6
  rw [List.length_map]
  refine ok_cond rfl (fun c7 => ?_) (fun c7 => ?_)
  · refine ok_skip (h5 _ ?_)
    have hk : k < x.length := by simpa using c7
    obtain ⟨u, hu⟩ := sget hk
    refine ok_seq fun K8 h8 => ?_
    refine ok_block ?_
    refine ok_last fun K9 h9 => ok_region rfl (q_mo _ rfl (q_mv _ rfl (q_mv _ rfl (q_mv _ rfl (q_ia el39 rfl rfl (by omega) (mget hu) (q_lds _ ag131 rfl sz131 (q_call (f104_ok u (hx.2 u (smem hu))) cl104 rfl rfl (q_iao el44 rfl rfl rfl (by omega) (by rw [fill_len _ _ _ J]; exact hk) (
      q_ste sz88 rfl rfl (fill_get _ _ _ hk) rfl (.inl ⟨_, rfl⟩) rfl (run_nil (h9 _ (h8 _ ?_))))))))))))
    refine ok_region rfl (q_mv _ rfl (q_add rfl rfl (by omega) (q_as _ rfl (run_nil (⟨k + 1, by omega, hk, ?_⟩)))))
    rw [← fill_set eRingNode (.agg [.raw (.string ⟨#[]⟩), .raw (.int .i64 0), .raw (.slice none 0 0)]) hu]
    exact le_sub ⟨rfl, rfl, rfl, trivial⟩ ⟨rfl, trivial⟩
  · refine ok_exit (h3 _ ?_)
    refine ok_seq fun K9 h9 => ok_region rfl (q_mo _ rfl (q_ao _ rfl (run_nil (h9 _ ?_)))); clear h9 K9
    refine ok_ret ⟨_, ⟨_, _, rfl, rfl, rfl⟩, ?_⟩
    rw [fill_all _ _ _ (by simpa using c7)]; rfl
theorem f57_ok (x : List RingNode) (hx : x.length ≤ 1048576 ∧ ∀ y ∈ x, SRingNode y) : PFn Try.prog 57 [eRingNodeS x, eRingNodeS x] (bool true) := by
  have hle : x.length ≤ 1048576 := hx.1
  refine fn_ok' (n := 27) Try.func57 rfl rfl rfl (Nat.le_of_ble_eq_true rfl) rfl fun w0 O => ?_
  refine ok_seq fun K1 h1 => ok_region rfl (q_as _ rfl (run_nil (h1 _ ?_))); clear h1 K1
  refine ok_seq fun K2 h2 => ?_
  refine ok_seq fun K3 h3 => ok_region rfl (q_mv _ rfl (q_len eS44 rfl (q_mv _ rfl (q_len eS44 rfl (q_bin _ _ _ rfl rfl rfl (run_nil (h3 _ ?_))))))); clear h3 K3
  refine ok_cond rfl (fun c4 => ?_) (fun c4 => ?_)
  · simp at c4
  · refine ok_skip (h2 _ ?_)
    refine ok_seq fun K6 h6 => ?_
    refine ok_seq fun K7 h7 => ok_region rfl (q_as _ rfl (run_nil (h7 _ ?_))); clear h7 K7
    refine ok_block ?_
    refine ok_loop (fun (k : Nat) => ⟨[(0, .sv (eRingNodeS x)), (1, .sv (eRingNodeS x)), (5, .sv (int k))], []⟩) (fun k => True) (fun k => x.length - k) 0 trivial (le_same ⟨rfl, rfl, rfl, trivial⟩) (fun k J => ?_)
    refine ok_seq fun K8 h8 => ?_
    refine ok_seq fun K9 h9 => ok_region rfl (q_mv _ rfl (q_mv _ rfl (q_len eS44 rfl (q_bin _ _ _ rfl rfl rfl (run_nil (h9 _ ?_)))))); clear h9 K9
    rw [List.length_map]
    refine ok_cond rfl (fun c10 => ?_) (fun c10 => ?_)
    · refine ok_skip (h8 _ ?_)
      have hk : k < x.length := by simpa using c10
      obtain ⟨u, hu⟩ := sget hk
      refine ok_seq fun K11 h11 => ?_
      refine ok_block ?_
      refine ok_seq fun K12 h12 => ?_
      refine ok_region_i (by kernel_rfl) (by kernel_rfl) rfl (
        q_mv _ rfl (q_mv _ rfl (q_ia el44 rfl rfl (by omega) (mget hu) (q_lds _ ag88 rfl sz88 (q_mv _ rfl (q_mv _ rfl (q_ia el44 rfl rfl (by omega) (mget hu) (q_lds _ ag88 rfl sz88 (
        q_call (f112_ok u (hx.2 u (smem hu))) cl112 rfl rfl (q_un _ _ rfl rfl (run_nil (h12 _ ?_))))))))))))
      clear h12 K12
      refine ok_cond rfl (fun c13 => ?_) (fun c13 => ?_)
      · simp at c13
      · refine ok_skip (h11 _ ?_)
        refine ok_region rfl (q_mv _ rfl (q_add rfl rfl (by omega) (q_as _ rfl (run_nil (⟨k + 1, by omega, trivial, le_same ⟨rfl, rfl, rfl, trivial⟩⟩)))))
    · refine ok_exit (h6 _ ?_)
      refine ok_seq fun K15 h15 => ok_region rfl (q_as _ rfl (run_nil (h15 _ ?_))); clear h15 K15
      exact ok_ret ⟨_, rfl, rfl⟩
structure Ring where
  copies : Int
  nodes : List RingNode
@[reducible] def eRing (x : Ring) : SV := .agg [int x.copies, eRingNodeS x.nodes]
def LRing (x : Ring) : Prop := LB x.nodes.length ∧ ∀ y ∈ x.nodes, LRingNode y
def SRing (x : Ring) : Prop := x.nodes.length ≤ 1048576 ∧ ∀ y ∈ x.nodes, SRingNode y
theorem op_Ring : Opens Try.prog 41 eRing (fun y => LRing y) :=
  op_iso (fun y : Int × (List RingNode) × Unit => (⟨y.1, y.2.1⟩ : Ring)) (fun _ => rfl) (fun y h => h.2.1)
    (op_struct (n := 2) Try.underlying41 (by kernel_rfl) (ofs_cons (f := { name := "Copies", type := 3, offset := 0, embedded := false, tag := "", pkgPath := "", byteOffset := 0 }) (n := 1) (m := 1) rfl (by kernel_rfl) (fun _ => ⟨.inr rfl, rfl⟩) (op_int Try.underlying3) (ofs_cons (f := { name := "Nodes", type := 39, offset := 1, embedded := false, tag := "", pkgPath := "", byteOffset := 8 }) (n := 1) (m := 0) rfl (by kernel_rfl) (fun _ => ⟨.inr rfl, rfl⟩) op_RingNodeS ofs_nil)))
def zRing (x : Ring) (n : Int) : Int := ((zRingNodeS x.nodes)) n
theorem zRing_ok (x : Ring) : GOk (zRing x) (SRing x) := (zRingNodeS_ok x.nodes)
theorem f17_ok (x : Ring) (hx : LRing x) (n : Int) (h0 : 0 ≤ n) (hn : n ≤ 1048576) : PFn Try.prog 17 [eRing x, int n] (int (zRing x n)) := by
  have e0 : zRing x n = ((zRingNodeS x.nodes)) n := rfl
  have a0 := h0
  have b0 := hn
  refine fn_ok' (n := 12) Try.func17 rfl rfl rfl (Nat.le_of_ble_eq_true rfl) rfl fun w0 O => ?_
  refine ok_seq fun K1 h1 => ok_region rfl (q_boxs _ rfl (Nat.zero_lt_succ _) (q_as _ rfl (run_nil (h1 _ ?_)))); clear h1 K1
  refine ok_seq fun K2 h2 => ok_region rfl (q_fa _ fd41_1 rfl rfl (by decide) (q_ld _ ag39 rfl rfl (q_mv _ rfl (q_call (f50_ok x.nodes (hx) _ a0 b0) cl50 rfl rfl (q_as _ rfl (run_nil (h2 _ ?_))))))); clear h2 K2
  refine ok_seq fun K3 h3 => ?_
  refine ok_seq fun K4 h4 => ok_region rfl (q_mv _ rfl (q_bin _ _ _ rfl rfl rfl (run_nil (h4 _ ?_)))); clear h4 K4
  refine ok_cond rfl (fun c5 => ?_) (fun c5 => ?_)
  · refine ok_seq fun K6 h6 => ?_
    refine ok_region rfl (q_as _ rfl (run_nil (h6 _ ?_)))
    clear h6 K6
    refine ok_ret ⟨_, rfl, ?_⟩
    rw [e0]; rw [((zRingNodeS_ok x.nodes) _ b0).2.1 (of_decide_eq_true c5)]; rfl
  · refine ok_skip (h3 _ ?_)
    refine ok_seq fun K7 h7 => ok_region rfl (q_mv _ rfl (q_as _ rfl (run_nil (h7 _ ?_)))); clear h7 K7
    refine ok_ret ⟨_, rfl, ?_⟩
    rw [e0]; rfl
theorem f19_ok (x : Ring) (hx : SRing x) : PFn Try.prog 19 [eRing x] (eRing x) := by
  refine fnr_ok (n := 12) Try.func19 rfl rfl rfl (Nat.le_of_ble_eq_true rfl) rfl fun w0 O => ?_
  refine ok_seq fun K1 h1 => ok_region rfl (q_boxs _ rfl (Nat.zero_lt_succ _) (q_alloc _ ze46 rfl rfl rfl rfl (run_nil (h1 _ ?_)))); clear h1 K1
  refine ok_seq fun K2 h2 => ok_region rfl (q_alloc _ ze46 rfl rfl rfl rfl (run_nil (h2 _ ?_))); clear h2 K2
  refine ok_seq fun K3 h3 => ok_region rfl (q_fa _ fd41_0 rfl rfl (by decide) (q_ld _ ag3 rfl rfl (q_fap fd46_0 rfl (by decide) (q_st _ sz3 rfl rfl (Nat.le_of_ble_eq_true rfl) rfl ⟨_, rfl, rfl⟩ rfl (run_nil (h3 _ ?_)))))); clear h3 K3
  refine ok_seq fun K4 h4 => ok_region rfl (q_fa _ fd41_1 rfl rfl (by decide) (q_ld _ ag39 rfl rfl (q_call (f53_ok x.nodes (hx)) cl53 rfl rfl (q_fap fd46_1 rfl (by decide) (q_st _ sz44 rfl rfl (Nat.le_of_ble_eq_true rfl) rfl ⟨_, rfl, rfl⟩ rfl (run_nil (h4 _ ?_))))))); clear h4 K4
  refine ok_seq fun K5 h5 => ok_region rfl (q_ldbs ag46 rfl rfl sz46 rfl rfl (q_sts _ rfl rfl rfl sz46 (Nat.le_of_ble_eq_true rfl) rfl (run_nil (h5 _ ?_)))); clear h5 K5
  exact ok_ret (ret_cell (l := [int x.copies, eRingNodeS x.nodes]) rfl rfl ag46 sz46 rfl rfl)
theorem f21_ok (x : Ring) (hx : SRing x) : PFn Try.prog 21 [eRing x, eRing x] (bool true) := by
  refine fn_ok' (n := 16) Try.func21 rfl rfl rfl (Nat.le_of_ble_eq_true rfl) rfl fun w0 O => ?_
  refine ok_seq fun K1 h1 => ok_region rfl (q_boxs _ rfl (Nat.zero_lt_succ _) (q_boxs _ rfl (Nat.zero_lt_succ _) (q_as _ rfl (run_nil (h1 _ ?_))))); clear h1 K1
  refine ok_seq fun K2 h2 => ?_
  refine ok_seq fun K3 h3 => ok_region rfl (q_fa _ fd46_0 rfl rfl (by decide) (q_ld _ ag3 rfl rfl (q_fa _ fd46_0 rfl rfl (by decide) (q_ld _ ag3 rfl rfl (q_bin _ _ _ rfl rfl rfl (run_nil (h3 _ ?_))))))); clear h3 K3
  refine ok_cond rfl (fun c4 => ?_) (fun c4 => ?_)
  · simp at c4
  · refine ok_skip (h2 _ ?_)
    refine ok_seq fun K6 h6 => ?_
    refine ok_seq fun K7 h7 => ok_region rfl (q_fa _ fd46_1 rfl rfl (by decide) (q_ld _ ag44 rfl rfl (q_fa _ fd46_1 rfl rfl (by decide) (q_ld _ ag44 rfl rfl (q_call (f57_ok x.nodes (hx)) cl57 rfl rfl (q_un _ _ rfl rfl (run_nil (h7 _ ?_)))))))); clear h7 K7
    refine ok_cond rfl (fun c8 => ?_) (fun c8 => ?_)
    · simp at c8
    · refine ok_skip (h6 _ ?_)
      refine ok_seq fun K10 h10 => ok_region rfl (q_as _ rfl (run_nil (h10 _ ?_))); clear h10 K10
      exact ok_ret ⟨_, rfl, rfl⟩
structure Label where
  name : ByteArray
  value : ByteArray
@[reducible] def eLabel (x : Label) : SV := .agg [str x.name, str x.value]
def LLabel (x : Label) : Prop := LB x.name.size ∧ LB x.value.size
def SLabel (x : Label) : Prop := x.name.size ≤ 1048576 ∧ x.value.size ≤ 1048576
theorem op_Label : Opens Try.prog 168 eLabel (fun y => LLabel y) :=
  op_iso (fun y : ByteArray × ByteArray × Unit => (⟨y.1, y.2.1⟩ : Label)) (fun _ => rfl) (fun y h => ⟨h.1, h.2.1⟩)
    (op_struct (n := 2) Try.underlying168 (by kernel_rfl) (ofs_cons (f := { name := "Name", type := 9, offset := 0, embedded := false, tag := "", pkgPath := "", byteOffset := 0 }) (n := 1) (m := 1) rfl (by kernel_rfl) (fun _ => ⟨.inr rfl, rfl⟩) (op_string Try.underlying9) (ofs_cons (f := { name := "Value", type := 9, offset := 1, embedded := false, tag := "", pkgPath := "", byteOffset := 16 }) (n := 1) (m := 0) rfl (by kernel_rfl) (fun _ => ⟨.inr rfl, rfl⟩) (op_string Try.underlying9) ofs_nil)))
def zLabel (x : Label) (n : Int) : Int := (stp (fun n => take n x.name.size) ((fun n => take n x.value.size))) n
theorem zLabel_ok (x : Label) : GOk (zLabel x) (SLabel x) := (stp_ok (take_ok _) (take_ok _))
theorem f150_ok (x : Label) (hx : LLabel x) (n : Int) (h0 : 0 ≤ n) (hn : n ≤ 1048576) : PFn Try.prog 150 [eLabel x, int n] (int (zLabel x n)) := by
  have e0 : zLabel x n = (stp (fun n => take n x.name.size) ((fun n => take n x.value.size))) n := rfl
  have a0 := h0
  have b0 := hn
  have l0 := hx.1; unfold LB at l0
  have l1 := hx.2; unfold LB at l1
  refine fn_ok' (n := 20) Try.func150 rfl rfl rfl (Nat.le_of_ble_eq_true rfl) rfl fun w0 O => ?_
  refine ok_seq fun K1 h1 => ok_region rfl (q_boxs _ rfl (Nat.zero_lt_succ _) (q_as _ rfl (run_nil (h1 _ ?_)))); clear h1 K1
  refine ok_seq fun K2 h2 => ok_region rfl (q_mv _ rfl (q_fa _ fd168_0 rfl rfl (by decide) (q_ld _ ag9 rfl rfl (q_lens st9 rfl (q_sub rfl rfl (by omega) (q_as _ rfl (run_nil (h2 _ ?_)))))))); clear h2 K2
  refine ok_seq fun K3 h3 => ?_
  refine ok_seq fun K4 h4 => ok_region rfl (q_mv _ rfl (q_bin _ _ _ rfl rfl rfl (run_nil (h4 _ ?_)))); clear h4 K4
  refine ok_cond rfl (fun c5 => ?_) (fun c5 => ?_)
  · refine ok_seq fun K6 h6 => ?_
    refine ok_region rfl (q_as _ rfl (run_nil (h6 _ ?_)))
    clear h6 K6
    refine ok_ret ⟨_, rfl, ?_⟩
    rw [e0, stp_pos (by show take _ _ < 0; rw [take_pos (of_decide_eq_true c5)]; decide)]; rfl
  · refine ok_skip (h3 _ ?_)
    have t0 := take_neg (of_decide_eq_false c5)
    have e1 : zLabel x n = ((fun n => take n x.value.size)) (n - (x.name.size : Int)) := by rw [e0, stp_neg (by show ¬ take _ _ < 0; rw [t0]; exact of_decide_eq_false c5)]; exact congrArg ((fun n => take n x.value.size)) t0
    have a1 : 0 ≤ (n - (x.name.size : Int)) := by have := of_decide_eq_false c5; omega
    have b1 : (n - (x.name.size : Int)) ≤ 1048576 := by omega
    refine ok_seq fun K7 h7 => ok_region rfl (q_mv _ rfl (q_fa _ fd168_1 rfl rfl (by decide) (q_ld _ ag9 rfl rfl (q_lens st9 rfl (q_sub rfl rfl (by omega) (q_as _ rfl (run_nil (h7 _ ?_)))))))); clear h7 K7
    refine ok_seq fun K8 h8 => ?_
    refine ok_seq fun K9 h9 => ok_region rfl (q_mv _ rfl (q_bin _ _ _ rfl rfl rfl (run_nil (h9 _ ?_)))); clear h9 K9
    refine ok_cond rfl (fun c10 => ?_) (fun c10 => ?_)
    · refine ok_seq fun K11 h11 => ?_
      refine ok_region rfl (q_as _ rfl (run_nil (h11 _ ?_)))
      clear h11 K11
      refine ok_ret ⟨_, rfl, ?_⟩
      rw [e1]; show _ = int (take _ _); rw [take_pos (of_decide_eq_true c10)]; rfl
    · refine ok_skip (h8 _ ?_)
      refine ok_seq fun K12 h12 => ok_region rfl (q_mv _ rfl (q_as _ rfl (run_nil (h12 _ ?_)))); clear h12 K12
      refine ok_ret ⟨_, rfl, ?_⟩
      rw [e1]; show _ = int (take _ _); rw [take_neg (of_decide_eq_false c10)]; rfl
theorem f152_ok (x : Label) (hx : SLabel x) : PFn Try.prog 152 [eLabel x] (eLabel x) := by
  refine fnr_ok (n := 11) Try.func152 rfl rfl rfl (Nat.le_of_ble_eq_true rfl) rfl fun w0 O => ?_
  refine ok_seq fun K1 h1 => ok_region rfl (q_boxs _ rfl (Nat.zero_lt_succ _) (q_alloc _ ze127 rfl rfl rfl rfl (run_nil (h1 _ ?_)))); clear h1 K1
  refine ok_seq fun K2 h2 => ok_region rfl (q_alloc _ ze127 rfl rfl rfl rfl (run_nil (h2 _ ?_))); clear h2 K2
  refine ok_seq fun K3 h3 => ok_region rfl (q_fa _ fd168_0 rfl rfl (by decide) (q_ld _ ag9 rfl rfl (q_fap fd127_0 rfl (by decide) (q_st _ sz9 rfl rfl (Nat.le_of_ble_eq_true rfl) rfl ⟨_, rfl, rfl⟩ rfl (run_nil (h3 _ ?_)))))); clear h3 K3
  refine ok_seq fun K4 h4 => ok_region rfl (q_fa _ fd168_1 rfl rfl (by decide) (q_ld _ ag9 rfl rfl (q_fap fd127_1 rfl (by decide) (q_st _ sz9 rfl rfl (Nat.le_of_ble_eq_true rfl) rfl ⟨_, rfl, rfl⟩ rfl (run_nil (h4 _ ?_)))))); clear h4 K4
  refine ok_seq fun K5 h5 => ok_region rfl (q_ldbs ag127 rfl rfl sz127 rfl rfl (q_sts _ rfl rfl rfl sz127 (Nat.le_of_ble_eq_true rfl) rfl (run_nil (h5 _ ?_)))); clear h5 K5
  exact ok_ret (ret_cell (l := [str x.name, str x.value]) rfl rfl ag127 sz127 rfl rfl)
theorem f160_ok (x : Label) (hx : SLabel x) : PFn Try.prog 160 [eLabel x, eLabel x] (bool true) := by
  refine fn_ok' (n := 15) Try.func160 rfl rfl rfl (Nat.le_of_ble_eq_true rfl) rfl fun w0 O => ?_
  refine ok_seq fun K1 h1 => ok_region rfl (q_boxs _ rfl (Nat.zero_lt_succ _) (q_boxs _ rfl (Nat.zero_lt_succ _) (q_as _ rfl (run_nil (h1 _ ?_))))); clear h1 K1
  refine ok_seq fun K2 h2 => ?_
  refine ok_seq fun K3 h3 => ok_region rfl (q_fa _ fd127_0 rfl rfl (by decide) (q_ld _ ag9 rfl rfl (q_fa _ fd127_0 rfl rfl (by decide) (q_ld _ ag9 rfl rfl (q_bin _ _ _ rfl rfl rfl (run_nil (h3 _ ?_))))))); clear h3 K3
  refine ok_cond rfl (fun c4 => ?_) (fun c4 => ?_)
  · simp at c4
  · refine ok_skip (h2 _ ?_)
    refine ok_seq fun K6 h6 => ?_
    refine ok_seq fun K7 h7 => ok_region rfl (q_fa _ fd127_1 rfl rfl (by decide) (q_ld _ ag9 rfl rfl (q_fa _ fd127_1 rfl rfl (by decide) (q_ld _ ag9 rfl rfl (q_bin _ _ _ rfl rfl rfl (run_nil (h7 _ ?_))))))); clear h7 K7
    refine ok_cond rfl (fun c8 => ?_) (fun c8 => ?_)
    · simp at c8
    · refine ok_skip (h6 _ ?_)
      refine ok_seq fun K10 h10 => ok_region rfl (q_as _ rfl (run_nil (h10 _ ?_))); clear h10 K10
      exact ok_ret ⟨_, rfl, rfl⟩
@[reducible] def eLabelS (l : List Label) : SV := .sl 2 (l.map eLabel)
theorem op_LabelS : Opens Try.prog 94 eLabelS (fun y => LB y.length ∧ ∀ z ∈ y, LLabel z) :=
  op_iso (fun y : List Label => y) (fun _ => rfl) (fun y h => h) (op_slice (n := 2) Try.underlying94 (by kernel_rfl) (by decide) (fun _ => ⟨.inl ⟨_, rfl⟩, rfl⟩) op_Label)
def zLabelS (x : List Label) (n : Int) : Int := szSl zLabel x n
theorem zLabelS_ok (x : List Label) : GOk (zLabelS x) (x.length ≤ 1048576 ∧ ∀ y ∈ x, SLabel y) := szSl_ok zLabel_ok x
theorem f114_ok (x : List Label) (hx : LB x.length ∧ ∀ y ∈ x, LLabel y) (n : Int) (h0 : 0 ≤ n) (hn : n ≤ 1048576) : PFn Try.prog 114 [eLabelS x, int n] (int (zLabelS x n)) := by
  have hx1 := hx.1
  unfold LB at hx1
  refine fn_ok' (n := 27) Try.func114 rfl rfl rfl (Nat.le_of_ble_eq_true rfl) rfl fun w0 O => ?_
  refine ok_seq fun K1 h1 => ok_region rfl (q_as _ rfl (run_nil (h1 _ ?_))); clear h1 K1
  refine ok_seq fun K2 h2 => ok_region rfl (q_mv _ rfl (q_mv _ rfl (q_len eS94 rfl (q_sub rfl rfl (by rw [List.length_map]; omega) (q_as _ rfl (run_nil (h2 _ ?_))))))); clear h2 K2
  rw [List.length_map]
  refine ok_seq fun K3 h3 => ?_
  refine ok_seq fun K4 h4 => ok_region rfl (q_mv _ rfl (q_bin _ _ _ rfl rfl rfl (run_nil (h4 _ ?_)))); clear h4 K4
  refine ok_cond rfl (fun c5 => ?_) (fun c5 => ?_)
  · refine ok_seq fun K6 h6 => ?_
    refine ok_region rfl (q_as _ rfl (run_nil (h6 _ ?_)))
    clear h6 K6
    refine ok_ret ⟨_, rfl, ?_⟩
    rw [zLabelS, szSl_pos (of_decide_eq_true c5)]; rfl
  · refine ok_skip (h3 _ ?_)
    refine ok_seq fun K7 h7 => ?_
    refine ok_seq fun K8 h8 => ok_region rfl (q_as _ rfl (run_nil (h8 _ ?_))); clear h8 K8
    refine ok_block ?_
    refine ok_loop (fun (s : Nat × Int) => ⟨[(0, .sv (eLabelS x)), (1, .sv (int s.2)), (5, .sv (int s.1))], []⟩) (fun s => 0 ≤ s.2 ∧ s.2 ≤ 1048576 ∧ szAll zLabel (x.drop s.1) s.2 = zLabelS x n) (fun s => x.length - s.1) (0, n - x.length) ⟨by have := of_decide_eq_false c5; simp only; omega, by simp only; omega, by simp only [List.drop_zero]; rw [zLabelS, szSl_neg (of_decide_eq_false c5)]⟩ (le_same ⟨rfl, rfl, rfl, trivial⟩) (fun s J => ?_)
    obtain ⟨k, a⟩ := s
    obtain ⟨J1, J2, J3⟩ := J
    simp only at J1 J2 J3
    refine ok_seq fun K9 h9 => ?_
    refine ok_seq fun K10 h10 => ok_region rfl (q_mv _ rfl (q_mv _ rfl (q_len eS94 rfl (q_bin _ _ _ rfl rfl rfl (run_nil (h10 _ ?_)))))); clear h10 K10
    rw [List.length_map]
    refine ok_cond rfl (fun c11 => ?_) (fun c11 => ?_)
    · refine ok_skip (h9 _ ?_)
      obtain ⟨u, hu⟩ := sget (l := x) (i := k) (by simpa using c11)
      rw [szAll_cons _ hu] at J3
      refine ok_seq fun K12 h12 => ?_
      refine ok_block ?_
      refine ok_seq fun K13 h13 => ok_region rfl (q_mv _ rfl (q_mv _ rfl (q_ia el94 rfl rfl (by omega) (mget hu) (q_lds _ ag168 rfl sz168 (q_mv _ rfl (q_call (f150_ok u (hx.2 u (smem hu)) a J1 J2) cl150 rfl rfl (q_as _ rfl (run_nil (h13 _ ?_))))))))); clear h13 K13
      refine ok_seq fun K14 h14 => ok_region rfl (q_mv _ rfl (q_bin _ _ _ rfl rfl rfl (run_nil (h14 _ ?_)))); clear h14 K14
      refine ok_cond rfl (fun c15 => ?_) (fun c15 => ?_)
      · refine ok_seq fun K16 h16 => ?_
        refine ok_region rfl (q_as _ rfl (run_nil (h16 _ ?_)))
        clear h16 K16
        refine ok_ret ⟨_, rfl, ?_⟩
        rw [if_pos (of_decide_eq_true c15)] at J3; rw [← J3]; rfl
      · refine ok_skip (h12 _ ?_)
        refine ok_region rfl (q_mv _ rfl (q_add rfl rfl (by have := slt hu; have := hx.1; unfold LB at this; omega) (q_as _ rfl (run_nil (⟨(k + 1, zLabel u a), by have := slt hu; simp only; omega, ⟨by have := of_decide_eq_false c15; simp only; omega, (zLabel_ok u a J2).1, by rw [if_neg (of_decide_eq_false c15)] at J3; exact J3⟩, le_same ⟨rfl, rfl, rfl, trivial⟩⟩)))))
    · refine ok_exit (h7 _ ?_)
      refine ok_seq fun K17 h17 => ok_region rfl (q_mv _ rfl (q_as _ rfl (run_nil (h17 _ ?_)))); clear h17 K17
      refine ok_ret ⟨_, rfl, ?_⟩
      rw [szAll_end _ (by simpa using c11)] at J3; rw [← J3]; rfl
theorem f121_ok (x : List Label) (hx : x.length ≤ 1048576 ∧ ∀ y ∈ x, SLabel y) : PFn Try.prog 121 [eLabelS x] (eLabelS x) := by
  have hle : x.length ≤ 1048576 := hx.1
  refine fnr_ok (n := 23) Try.func121 rfl rfl rfl (Nat.le_of_ble_eq_true rfl) rfl fun w0 O => ?_
  refine ok_seq fun K1 h1 => ok_region rfl (q_as _ rfl (run_nil (h1 _ ?_))); clear h1 K1
  refine ok_seq fun K2 h2 => ok_region rfl (q_mv _ rfl (q_len eS94 rfl (q_make _ _ el72 (by decide) ze127 rfl by127 rfl rfl rfl rfl (.inl ⟨rfl, rfl, rfl⟩) (by rw [List.length_map]; exact Nat.le_trans hle (by decide)) (by rw [List.length_map]; omega) (q_ao _ rfl (run_nil (h2 _ ?_)))))); clear h2 K2
  rw [List.length_map]
  refine ok_seq fun K3 h3 => ?_
  refine ok_seq fun K4 h4 => ok_region rfl (q_as _ rfl (run_nil (h4 _ ?_))); clear h4 K4
  refine ok_block ?_
  refine ok_loop (fun (k : Nat) => ⟨[(0, .sv (eLabelS x)), (3, .own 7), (4, .sv (int k))], [(7, .row 2 127 (fill eLabel (.agg [.raw (.string ⟨#[]⟩), .raw (.string ⟨#[]⟩)]) x k))]⟩) (fun k => k ≤ x.length) (fun k => x.length - k) 0 (Nat.zero_le _) (by rw [fill_zero]; exact le_sub ⟨rfl, rfl, rfl, trivial⟩ ⟨rfl, trivial⟩) (fun k J => ?_)
  refine ok_seq fun K5 h5 => ?_
  refine ok_seq fun K6 h6 => ok_region rfl (q_mv _ rfl (q_mv _ rfl (q_len eS94 rfl (q_bin _ _ _ rfl rfl rfl (run_nil (h6 _ ?_)))))); clear h6 K6
  rw [List.length_map]
  refine ok_cond rfl (fun c7 => ?_) (fun c7 => ?_)
  · refine ok_skip (h5 _ ?_)
    have hk : k < x.length := by simpa using c7
    obtain ⟨u, hu⟩ := sget hk
    refine ok_seq fun K8 h8 => ?_
    refine ok_block ?_
    refine ok_last fun K9 h9 => ok_region rfl (q_mo _ rfl (q_mv _ rfl (q_mv _ rfl (q_mv _ rfl (q_ia el94 rfl rfl (by omega) (mget hu) (q_lds _ ag168 rfl sz168 (q_call (f152_ok u (hx.2 u (smem hu))) cl152 rfl rfl (q_iao el72 rfl rfl rfl (by omega) (by rw [fill_len _ _ _ J]; exact hk) (
      q_ste sz127 rfl rfl (fill_get _ _ _ hk) rfl (.inl ⟨_, rfl⟩) rfl (run_nil (h9 _ (h8 _ ?_))))))))))))
    refine ok_region rfl (q_mv _ rfl (q_add rfl rfl (by omega) (q_as _ rfl (run_nil (⟨k + 1, by omega, hk, ?_⟩)))))
    rw [← fill_set eLabel (.agg [.raw (.string ⟨#[]⟩), .raw (.string ⟨#[]⟩)]) hu]
    exact le_sub ⟨rfl, rfl, rfl, trivial⟩ ⟨rfl, trivial⟩
  · refine ok_exit (h3 _ ?_)
    refine ok_seq fun K9 h9 => ok_region rfl (q_mo _ rfl (q_ao _ rfl (run_nil (h9 _ ?_)))); clear h9 K9
    refine ok_ret ⟨_, ⟨_, _, rfl, rfl, rfl⟩, ?_⟩
    rw [fill_all _ _ _ (by simpa using c7)]; rfl
theorem f132_ok (x : List Label) (hx : x.length ≤ 1048576 ∧ ∀ y ∈ x, SLabel y) : PFn Try.prog 132 [eLabelS x, eLabelS x] (bool true) := by
  have hle : x.length ≤ 1048576 := hx.1
  refine fn_ok' (n := 27) Try.func132 rfl rfl rfl (Nat.le_of_ble_eq_true rfl) rfl fun w0 O => ?_
  refine ok_seq fun K1 h1 => ok_region rfl (q_as _ rfl (run_nil (h1 _ ?_))); clear h1 K1
  refine ok_seq fun K2 h2 => ?_
  refine ok_seq fun K3 h3 => ok_region rfl (q_mv _ rfl (q_len eS72 rfl (q_mv _ rfl (q_len eS72 rfl (q_bin _ _ _ rfl rfl rfl (run_nil (h3 _ ?_))))))); clear h3 K3
  refine ok_cond rfl (fun c4 => ?_) (fun c4 => ?_)
  · simp at c4
  · refine ok_skip (h2 _ ?_)
    refine ok_seq fun K6 h6 => ?_
    refine ok_seq fun K7 h7 => ok_region rfl (q_as _ rfl (run_nil (h7 _ ?_))); clear h7 K7
    refine ok_block ?_
    refine ok_loop (fun (k : Nat) => ⟨[(0, .sv (eLabelS x)), (1, .sv (eLabelS x)), (5, .sv (int k))], []⟩) (fun k => True) (fun k => x.length - k) 0 trivial (le_same ⟨rfl, rfl, rfl, trivial⟩) (fun k J => ?_)
    refine ok_seq fun K8 h8 => ?_
    refine ok_seq fun K9 h9 => ok_region rfl (q_mv _ rfl (q_mv _ rfl (q_len eS72 rfl (q_bin _ _ _ rfl rfl rfl (run_nil (h9 _ ?_)))))); clear h9 K9
    rw [List.length_map]
    refine ok_cond rfl (fun c10 => ?_) (fun c10 => ?_)
    · refine ok_skip (h8 _ ?_)
      have hk : k < x.length := by simpa using c10
      obtain ⟨u, hu⟩ := sget hk
      refine ok_seq fun K11 h11 => ?_
      refine ok_block ?_
      refine ok_seq fun K12 h12 => ?_
      refine ok_region_i (by kernel_rfl) (by kernel_rfl) rfl (
        q_mv _ rfl (q_mv _ rfl (q_ia el72 rfl rfl (by omega) (mget hu) (q_lds _ ag127 rfl sz127 (q_mv _ rfl (q_mv _ rfl (q_ia el72 rfl rfl (by omega) (mget hu) (q_lds _ ag127 rfl sz127 (
        q_call (f160_ok u (hx.2 u (smem hu))) cl160 rfl rfl (q_un _ _ rfl rfl (run_nil (h12 _ ?_))))))))))))
      clear h12 K12
      refine ok_cond rfl (fun c13 => ?_) (fun c13 => ?_)
      · simp at c13
      · refine ok_skip (h11 _ ?_)
        refine ok_region rfl (q_mv _ rfl (q_add rfl rfl (by omega) (q_as _ rfl (run_nil (⟨k + 1, by omega, trivial, le_same ⟨rfl, rfl, rfl, trivial⟩⟩)))))
    · refine ok_exit (h6 _ ?_)
      refine ok_seq fun K15 h15 => ok_region rfl (q_as _ rfl (run_nil (h15 _ ?_))); clear h15 K15
      exact ok_ret ⟨_, rfl, rfl⟩
structure Sample where
  time : Int
  value : Int
@[reducible] def eSample (x : Sample) : SV := .agg [int x.time, int x.value]
theorem op_Sample : Opens Try.prog 171 eSample (fun y => True) :=
  op_iso (fun y : Int × Int × Unit => (⟨y.1, y.2.1⟩ : Sample)) (fun _ => rfl) (fun y h => trivial)
    (op_struct (n := 2) Try.underlying171 (by kernel_rfl) (ofs_cons (f := { name := "Time", type := 3, offset := 0, embedded := false, tag := "", pkgPath := "", byteOffset := 0 }) (n := 1) (m := 1) rfl (by kernel_rfl) (fun _ => ⟨.inr rfl, rfl⟩) (op_int Try.underlying3) (ofs_cons (f := { name := "Value", type := 3, offset := 1, embedded := false, tag := "", pkgPath := "", byteOffset := 8 }) (n := 1) (m := 0) rfl (by kernel_rfl) (fun _ => ⟨.inr rfl, rfl⟩) (op_int Try.underlying3) ofs_nil)))
theorem f153_ok (x : Sample) : PFn Try.prog 153 [eSample x] (eSample x) := by
  refine fnr_ok (n := 11) Try.func153 rfl rfl rfl (Nat.le_of_ble_eq_true rfl) rfl fun w0 O => ?_
  refine ok_seq fun K1 h1 => ok_region rfl (q_boxs _ rfl (Nat.zero_lt_succ _) (q_alloc _ ze110 rfl rfl rfl rfl (run_nil (h1 _ ?_)))); clear h1 K1
  refine ok_seq fun K2 h2 => ok_region rfl (q_alloc _ ze110 rfl rfl rfl rfl (run_nil (h2 _ ?_))); clear h2 K2
  refine ok_seq fun K3 h3 => ok_region rfl (q_fa _ fd171_0 rfl rfl (by decide) (q_ld _ ag3 rfl rfl (q_fap fd110_0 rfl (by decide) (q_st _ sz3 rfl rfl (Nat.le_of_ble_eq_true rfl) rfl ⟨_, rfl, rfl⟩ rfl (run_nil (h3 _ ?_)))))); clear h3 K3
  refine ok_seq fun K4 h4 => ok_region rfl (q_fa _ fd171_1 rfl rfl (by decide) (q_ld _ ag3 rfl rfl (q_fap fd110_1 rfl (by decide) (q_st _ sz3 rfl rfl (Nat.le_of_ble_eq_true rfl) rfl ⟨_, rfl, rfl⟩ rfl (run_nil (h4 _ ?_)))))); clear h4 K4
  refine ok_seq fun K5 h5 => ok_region rfl (q_ldbs ag110 rfl rfl sz110 rfl rfl (q_sts _ rfl rfl rfl sz110 (Nat.le_of_ble_eq_true rfl) rfl (run_nil (h5 _ ?_)))); clear h5 K5
  exact ok_ret (ret_cell (l := [int x.time, int x.value]) rfl rfl ag110 sz110 rfl rfl)
theorem f161_ok (x : Sample) : PFn Try.prog 161 [eSample x, eSample x] (bool true) := by
  refine fn_ok' (n := 15) Try.func161 rfl rfl rfl (Nat.le_of_ble_eq_true rfl) rfl fun w0 O => ?_
  refine ok_seq fun K1 h1 => ok_region rfl (q_boxs _ rfl (Nat.zero_lt_succ _) (q_boxs _ rfl (Nat.zero_lt_succ _) (q_as _ rfl (run_nil (h1 _ ?_))))); clear h1 K1
  refine ok_seq fun K2 h2 => ?_
  refine ok_seq fun K3 h3 => ok_region rfl (q_fa _ fd110_0 rfl rfl (by decide) (q_ld _ ag3 rfl rfl (q_fa _ fd110_0 rfl rfl (by decide) (q_ld _ ag3 rfl rfl (q_bin _ _ _ rfl rfl rfl (run_nil (h3 _ ?_))))))); clear h3 K3
  refine ok_cond rfl (fun c4 => ?_) (fun c4 => ?_)
  · simp at c4
  · refine ok_skip (h2 _ ?_)
    refine ok_seq fun K6 h6 => ?_
    refine ok_seq fun K7 h7 => ok_region rfl (q_fa _ fd110_1 rfl rfl (by decide) (q_ld _ ag3 rfl rfl (q_fa _ fd110_1 rfl rfl (by decide) (q_ld _ ag3 rfl rfl (q_bin _ _ _ rfl rfl rfl (run_nil (h7 _ ?_))))))); clear h7 K7
    refine ok_cond rfl (fun c8 => ?_) (fun c8 => ?_)
    · simp at c8
    · refine ok_skip (h6 _ ?_)
      refine ok_seq fun K10 h10 => ok_region rfl (q_as _ rfl (run_nil (h10 _ ?_))); clear h10 K10
      exact ok_ret ⟨_, rfl, rfl⟩
@[reducible] def eSampleS (l : List Sample) : SV := .sl 2 (l.map eSample)
theorem op_SampleS : Opens Try.prog 95 eSampleS (fun y => LB y.length) :=
  op_iso (fun y : List Sample => y) (fun _ => rfl) (fun y h => h.1) (op_slice (n := 2) Try.underlying95 (by kernel_rfl) (by decide) (fun _ => ⟨.inl ⟨_, rfl⟩, rfl⟩) op_Sample)
def zSampleS (x : List Sample) (n : Int) : Int := take n x.length
theorem zSampleS_ok (x : List Sample) : GOk (zSampleS x) (x.length ≤ 1048576) := take_ok _
theorem f115_ok (x : List Sample) (hx : LB x.length) (n : Int) (h0 : 0 ≤ n) (hn : n ≤ 1048576) : PFn Try.prog 115 [eSampleS x, int n] (int (zSampleS x n)) := by
  unfold LB at hx
  have hl : (x.map eSample).length = x.length := List.length_map _
  refine fn_ok' (n := 12) Try.func115 rfl rfl rfl (Nat.le_of_ble_eq_true rfl) rfl fun w0 O => ?_
  refine ok_seq fun K1 h1 => ok_region rfl (q_as _ rfl (run_nil (h1 _ ?_))); clear h1 K1
  refine ok_seq fun K2 h2 => ok_region rfl (q_mv _ rfl (q_mv _ rfl (q_len eS95 rfl (q_sub rfl rfl (by rw [hl]; omega) (q_as _ rfl (run_nil (h2 _ ?_))))))); clear h2 K2
  rw [List.length_map]
  refine ok_seq fun K3 h3 => ?_
  refine ok_seq fun K4 h4 => ok_region rfl (q_mv _ rfl (q_bin _ _ _ rfl rfl rfl (run_nil (h4 _ ?_)))); clear h4 K4
  refine ok_cond rfl (fun c5 => ?_) (fun c5 => ?_)
  · refine ok_seq fun K6 h6 => ?_
    refine ok_region rfl (q_as _ rfl (run_nil (h6 _ ?_)))
    clear h6 K6
    refine ok_ret ⟨_, rfl, ?_⟩
    rw [zSampleS, take_pos (of_decide_eq_true c5)]; rfl
  · refine ok_skip (h3 _ ?_)
    refine ok_seq fun K7 h7 => ok_region rfl (q_mv _ rfl (q_as _ rfl (run_nil (h7 _ ?_)))); clear h7 K7
    refine ok_ret ⟨_, rfl, ?_⟩
    rw [zSampleS, take_neg (of_decide_eq_false c5)]; rfl
theorem f122_ok (x : List Sample) (hx : x.length ≤ 1048576) : PFn Try.prog 122 [eSampleS x] (eSampleS x) := by
  have hle : x.length ≤ 1048576 := hx
  refine fnr_ok (n := 23) Try.func122 rfl rfl rfl (Nat.le_of_ble_eq_true rfl) rfl fun w0 O => ?_
  refine ok_seq fun K1 h1 => ok_region rfl (q_as _ rfl (run_nil (h1 _ ?_))); clear h1 K1
  refine ok_seq fun K2 h2 => ok_region rfl (q_mv _ rfl (q_len eS95 rfl (q_make _ _ el73 (by decide) ze110 rfl by110 rfl rfl rfl rfl (.inl ⟨rfl, rfl, rfl⟩) (by rw [List.length_map]; exact Nat.le_trans hle (by decide)) (by rw [List.length_map]; omega) (q_ao _ rfl (run_nil (h2 _ ?_)))))); clear h2 K2
  rw [List.length_map]
  refine ok_seq fun K3 h3 => ?_
  refine ok_seq fun K4 h4 => ok_region rfl (q_as _ rfl (run_nil (h4 _ ?_))); clear h4 K4
  refine ok_block ?_
  refine ok_loop (fun (k : Nat) => ⟨[(0, .sv (eSampleS x)), (3, .own 7), (4, .sv (int k))], [(7, .row 2 110 (fill eSample (.agg [.raw (.int .i64 0), .raw (.int .i64 0)]) x k))]⟩) (fun k => k ≤ x.length) (fun k => x.length - k) 0 (Nat.zero_le _) (by rw [fill_zero]; exact le_sub ⟨rfl, rfl, rfl, trivial⟩ ⟨rfl, trivial⟩) (fun k J => ?_)
  refine ok_seq fun K5 h5 => ?_
  refine ok_seq fun K6 h6 => ok_region rfl (q_mv _ rfl (q_mv _ rfl (q_len eS95 rfl (q_bin _ _ _ rfl rfl rfl (run_nil (h6 _ ?_)))))); clear h6 K6
  rw [List.length_map]
  refine ok_cond rfl (fun c7 => ?_) (fun c7 => ?_)
  · refine ok_skip (h5 _ ?_)
    have hk : k < x.length := by simpa using c7
    obtain ⟨u, hu⟩ := sget hk
    refine ok_seq fun K8 h8 => ?_
    refine ok_block ?_
    refine ok_last fun K9 h9 => ok_region rfl (q_mo _ rfl (q_mv _ rfl (q_mv _ rfl (q_mv _ rfl (q_ia el95 rfl rfl (by omega) (mget hu) (q_lds _ ag171 rfl sz171 (q_call (f153_ok u) cl153 rfl rfl (q_iao el73 rfl rfl rfl (by omega) (by rw [fill_len _ _ _ J]; exact hk) (
      q_ste sz110 rfl rfl (fill_get _ _ _ hk) rfl (.inl ⟨_, rfl⟩) rfl (run_nil (h9 _ (h8 _ ?_))))))))))))
    refine ok_region rfl (q_mv _ rfl (q_add rfl rfl (by omega) (q_as _ rfl (run_nil (⟨k + 1, by omega, hk, ?_⟩)))))
    rw [← fill_set eSample (.agg [.raw (.int .i64 0), .raw (.int .i64 0)]) hu]
    exact le_sub ⟨rfl, rfl, rfl, trivial⟩ ⟨rfl, trivial⟩
  · refine ok_exit (h3 _ ?_)
    refine ok_seq fun K9 h9 => ok_region rfl (q_mo _ rfl (q_ao _ rfl (run_nil (h9 _ ?_)))); clear h9 K9
    refine ok_ret ⟨_, ⟨_, _, rfl, rfl, rfl⟩, ?_⟩
    rw [fill_all _ _ _ (by simpa using c7)]; rfl
theorem f133_ok (x : List Sample) (hx : x.length ≤ 1048576) : PFn Try.prog 133 [eSampleS x, eSampleS x] (bool true) := by
  have hle : x.length ≤ 1048576 := hx
  refine fn_ok' (n := 27) Try.func133 rfl rfl rfl (Nat.le_of_ble_eq_true rfl) rfl fun w0 O => ?_
  refine ok_seq fun K1 h1 => ok_region rfl (q_as _ rfl (run_nil (h1 _ ?_))); clear h1 K1
  refine ok_seq fun K2 h2 => ?_
  refine ok_seq fun K3 h3 => ok_region rfl (q_mv _ rfl (q_len eS73 rfl (q_mv _ rfl (q_len eS73 rfl (q_bin _ _ _ rfl rfl rfl (run_nil (h3 _ ?_))))))); clear h3 K3
  refine ok_cond rfl (fun c4 => ?_) (fun c4 => ?_)
  · simp at c4
  · refine ok_skip (h2 _ ?_)
    refine ok_seq fun K6 h6 => ?_
    refine ok_seq fun K7 h7 => ok_region rfl (q_as _ rfl (run_nil (h7 _ ?_))); clear h7 K7
    refine ok_block ?_
    refine ok_loop (fun (k : Nat) => ⟨[(0, .sv (eSampleS x)), (1, .sv (eSampleS x)), (5, .sv (int k))], []⟩) (fun k => True) (fun k => x.length - k) 0 trivial (le_same ⟨rfl, rfl, rfl, trivial⟩) (fun k J => ?_)
    refine ok_seq fun K8 h8 => ?_
    refine ok_seq fun K9 h9 => ok_region rfl (q_mv _ rfl (q_mv _ rfl (q_len eS73 rfl (q_bin _ _ _ rfl rfl rfl (run_nil (h9 _ ?_)))))); clear h9 K9
    rw [List.length_map]
    refine ok_cond rfl (fun c10 => ?_) (fun c10 => ?_)
    · refine ok_skip (h8 _ ?_)
      have hk : k < x.length := by simpa using c10
      obtain ⟨u, hu⟩ := sget hk
      refine ok_seq fun K11 h11 => ?_
      refine ok_block ?_
      refine ok_seq fun K12 h12 => ?_
      refine ok_region_i (by kernel_rfl) (by kernel_rfl) rfl (
        q_mv _ rfl (q_mv _ rfl (q_ia el73 rfl rfl (by omega) (mget hu) (q_lds _ ag110 rfl sz110 (q_mv _ rfl (q_mv _ rfl (q_ia el73 rfl rfl (by omega) (mget hu) (q_lds _ ag110 rfl sz110 (
        q_call (f161_ok u) cl161 rfl rfl (q_un _ _ rfl rfl (run_nil (h12 _ ?_))))))))))))
      clear h12 K12
      refine ok_cond rfl (fun c13 => ?_) (fun c13 => ?_)
      · simp at c13
      · refine ok_skip (h11 _ ?_)
        refine ok_region rfl (q_mv _ rfl (q_add rfl rfl (by omega) (q_as _ rfl (run_nil (⟨k + 1, by omega, trivial, le_same ⟨rfl, rfl, rfl, trivial⟩⟩)))))
    · refine ok_exit (h6 _ ?_)
      refine ok_seq fun K15 h15 => ok_region rfl (q_as _ rfl (run_nil (h15 _ ?_))); clear h15 K15
      exact ok_ret ⟨_, rfl, rfl⟩
structure Series where
  labels : List Label
  samples : List Sample
@[reducible] def eSeries (x : Series) : SV := .agg [eLabelS x.labels, eSampleS x.samples]
def LSeries (x : Series) : Prop := (LB x.labels.length ∧ ∀ y ∈ x.labels, LLabel y) ∧ LB x.samples.length
def SSeries (x : Series) : Prop := (x.labels.length ≤ 1048576 ∧ ∀ y ∈ x.labels, SLabel y) ∧ x.samples.length ≤ 1048576
theorem op_Series : Opens Try.prog 97 eSeries (fun y => LSeries y) :=
  op_iso (fun y : (List Label) × (List Sample) × Unit => (⟨y.1, y.2.1⟩ : Series)) (fun _ => rfl) (fun y h => ⟨h.1, h.2.1⟩)
    (op_struct (n := 2) Try.underlying97 (by kernel_rfl) (ofs_cons (f := { name := "Labels", type := 94, offset := 0, embedded := false, tag := "", pkgPath := "", byteOffset := 0 }) (n := 1) (m := 1) rfl (by kernel_rfl) (fun _ => ⟨.inr rfl, rfl⟩) op_LabelS (ofs_cons (f := { name := "Samples", type := 95, offset := 1, embedded := false, tag := "", pkgPath := "", byteOffset := 24 }) (n := 1) (m := 0) rfl (by kernel_rfl) (fun _ => ⟨.inr rfl, rfl⟩) op_SampleS ofs_nil)))
def zSeries (x : Series) (n : Int) : Int := (stp (zLabelS x.labels) ((zSampleS x.samples))) n
theorem zSeries_ok (x : Series) : GOk (zSeries x) (SSeries x) := (stp_ok (zLabelS_ok x.labels) (zSampleS_ok x.samples))
theorem f61_ok (x : Series) (hx : LSeries x) (n : Int) (h0 : 0 ≤ n) (hn : n ≤ 1048576) : PFn Try.prog 61 [eSeries x, int n] (int (zSeries x n)) := by
  have e0 : zSeries x n = (stp (zLabelS x.labels) ((zSampleS x.samples))) n := rfl
  have a0 := h0
  have b0 := hn
  refine fn_ok' (n := 18) Try.func61 rfl rfl rfl (Nat.le_of_ble_eq_true rfl) rfl fun w0 O => ?_
  refine ok_seq fun K1 h1 => ok_region rfl (q_boxs _ rfl (Nat.zero_lt_succ _) (q_as _ rfl (run_nil (h1 _ ?_)))); clear h1 K1
  refine ok_seq fun K2 h2 => ok_region rfl (q_fa _ fd97_0 rfl rfl (by decide) (q_ld _ ag94 rfl rfl (q_mv _ rfl (q_call (f114_ok x.labels (hx.1) _ a0 b0) cl114 rfl rfl (q_as _ rfl (run_nil (h2 _ ?_))))))); clear h2 K2
  refine ok_seq fun K3 h3 => ?_
  refine ok_seq fun K4 h4 => ok_region rfl (q_mv _ rfl (q_bin _ _ _ rfl rfl rfl (run_nil (h4 _ ?_)))); clear h4 K4
  refine ok_cond rfl (fun c5 => ?_) (fun c5 => ?_)
  · refine ok_seq fun K6 h6 => ?_
    refine ok_region rfl (q_as _ rfl (run_nil (h6 _ ?_)))
    clear h6 K6
    refine ok_ret ⟨_, rfl, ?_⟩
    rw [e0, stp_pos (of_decide_eq_true c5)]; rfl
  · refine ok_skip (h3 _ ?_)
    have e1 : zSeries x n = ((zSampleS x.samples)) (zLabelS x.labels n) := by rw [e0, stp_neg (of_decide_eq_false c5)]
    have a1 : 0 ≤ zLabelS x.labels n := by have := of_decide_eq_false c5; omega
    have b1 : zLabelS x.labels n ≤ 1048576 := ((zLabelS_ok x.labels) _ b0).1
    refine ok_seq fun K7 h7 => ok_region rfl (q_fa _ fd97_1 rfl rfl (by decide) (q_ld _ ag95 rfl rfl (q_mv _ rfl (q_call (f115_ok x.samples (hx.2) _ a1 b1) cl115 rfl rfl (q_as _ rfl (run_nil (h7 _ ?_))))))); clear h7 K7
    refine ok_seq fun K8 h8 => ?_
    refine ok_seq fun K9 h9 => ok_region rfl (q_mv _ rfl (q_bin _ _ _ rfl rfl rfl (run_nil (h9 _ ?_)))); clear h9 K9
    refine ok_cond rfl (fun c10 => ?_) (fun c10 => ?_)
    · refine ok_seq fun K11 h11 => ?_
      refine ok_region rfl (q_as _ rfl (run_nil (h11 _ ?_)))
      clear h11 K11
      refine ok_ret ⟨_, rfl, ?_⟩
      rw [e1]; rw [((zSampleS_ok x.samples) _ b1).2.1 (of_decide_eq_true c10)]; rfl
    · refine ok_skip (h8 _ ?_)
      refine ok_seq fun K12 h12 => ok_region rfl (q_mv _ rfl (q_as _ rfl (run_nil (h12 _ ?_)))); clear h12 K12
      refine ok_ret ⟨_, rfl, ?_⟩
      rw [e1]; rfl
theorem f68_ok (x : Series) (hx : SSeries x) : PFn Try.prog 68 [eSeries x] (eSeries x) := by
  refine fnr_ok (n := 13) Try.func68 rfl rfl rfl (Nat.le_of_ble_eq_true rfl) rfl fun w0 O => ?_
  refine ok_seq fun K1 h1 => ok_region rfl (q_boxs _ rfl (Nat.zero_lt_succ _) (q_alloc _ ze75 rfl rfl rfl rfl (run_nil (h1 _ ?_)))); clear h1 K1
  refine ok_seq fun K2 h2 => ok_region rfl (q_alloc _ ze75 rfl rfl rfl rfl (run_nil (h2 _ ?_))); clear h2 K2
  refine ok_seq fun K3 h3 => ok_region rfl (q_fa _ fd97_0 rfl rfl (by decide) (q_ld _ ag94 rfl rfl (q_call (f121_ok x.labels (hx.1)) cl121 rfl rfl (q_fap fd75_0 rfl (by decide) (q_st _ sz72 rfl rfl (Nat.le_of_ble_eq_true rfl) rfl ⟨_, rfl, rfl⟩ rfl (run_nil (h3 _ ?_))))))); clear h3 K3
  refine ok_seq fun K4 h4 => ok_region rfl (q_fa _ fd97_1 rfl rfl (by decide) (q_ld _ ag95 rfl rfl (q_call (f122_ok x.samples (hx.2)) cl122 rfl rfl (q_fap fd75_1 rfl (by decide) (q_st _ sz73 rfl rfl (Nat.le_of_ble_eq_true rfl) rfl ⟨_, rfl, rfl⟩ rfl (run_nil (h4 _ ?_))))))); clear h4 K4
  refine ok_seq fun K5 h5 => ok_region rfl (q_ldbs ag75 rfl rfl sz75 rfl rfl (q_sts _ rfl rfl rfl sz75 (Nat.le_of_ble_eq_true rfl) rfl (run_nil (h5 _ ?_)))); clear h5 K5
  exact ok_ret (ret_cell (l := [eLabelS x.labels, eSampleS x.samples]) rfl rfl ag75 sz75 rfl rfl)
theorem f77_ok (x : Series) (hx : SSeries x) : PFn Try.prog 77 [eSeries x, eSeries x] (bool true) := by
  refine fn_ok' (n := 17) Try.func77 rfl rfl rfl (Nat.le_of_ble_eq_true rfl) rfl fun w0 O => ?_
  refine ok_seq fun K1 h1 => ok_region rfl (q_boxs _ rfl (Nat.zero_lt_succ _) (q_boxs _ rfl (Nat.zero_lt_succ _) (q_as _ rfl (run_nil (h1 _ ?_))))); clear h1 K1
  refine ok_seq fun K2 h2 => ?_
  refine ok_seq fun K3 h3 => ok_region rfl (q_fa _ fd75_0 rfl rfl (by decide) (q_ld _ ag72 rfl rfl (q_fa _ fd75_0 rfl rfl (by decide) (q_ld _ ag72 rfl rfl (q_call (f132_ok x.labels (hx.1)) cl132 rfl rfl (q_un _ _ rfl rfl (run_nil (h3 _ ?_)))))))); clear h3 K3
  refine ok_cond rfl (fun c4 => ?_) (fun c4 => ?_)
  · simp at c4
  · refine ok_skip (h2 _ ?_)
    refine ok_seq fun K6 h6 => ?_
    refine ok_seq fun K7 h7 => ok_region rfl (q_fa _ fd75_1 rfl rfl (by decide) (q_ld _ ag73 rfl rfl (q_fa _ fd75_1 rfl rfl (by decide) (q_ld _ ag73 rfl rfl (q_call (f133_ok x.samples (hx.2)) cl133 rfl rfl (q_un _ _ rfl rfl (run_nil (h7 _ ?_)))))))); clear h7 K7
    refine ok_cond rfl (fun c8 => ?_) (fun c8 => ?_)
    · simp at c8
    · refine ok_skip (h6 _ ?_)
      refine ok_seq fun K10 h10 => ok_region rfl (q_as _ rfl (run_nil (h10 _ ?_))); clear h10 K10
      exact ok_ret ⟨_, rfl, rfl⟩
@[reducible] def eSeriesS (l : List Series) : SV := .sl 2 (l.map eSeries)
theorem op_SeriesS : Opens Try.prog 22 eSeriesS (fun y => LB y.length ∧ ∀ z ∈ y, LSeries z) :=
  op_iso (fun y : List Series => y) (fun _ => rfl) (fun y h => h) (op_slice (n := 2) Try.underlying22 (by kernel_rfl) (by decide) (fun _ => ⟨.inl ⟨_, rfl⟩, rfl⟩) op_Series)
def zSeriesS (x : List Series) (n : Int) : Int := szSl zSeries x n
theorem zSeriesS_ok (x : List Series) : GOk (zSeriesS x) (x.length ≤ 1048576 ∧ ∀ y ∈ x, SSeries y) := szSl_ok zSeries_ok x
theorem f28_ok (x : List Series) (hx : LB x.length ∧ ∀ y ∈ x, LSeries y) (n : Int) (h0 : 0 ≤ n) (hn : n ≤ 1048576) : PFn Try.prog 28 [eSeriesS x, int n] (int (zSeriesS x n)) := by
  have hx1 := hx.1
  unfold LB at hx1
  refine fn_ok' (n := 27) Try.func28 rfl rfl rfl (Nat.le_of_ble_eq_true rfl) rfl fun w0 O => ?_
  refine ok_seq fun K1 h1 => ok_region rfl (q_as _ rfl (run_nil (h1 _ ?_))); clear h1 K1
  refine ok_seq fun K2 h2 => ok_region rfl (q_mv _ rfl (q_mv _ rfl (q_len eS22 rfl (q_sub rfl rfl (by rw [List.length_map]; omega) (q_as _ rfl (run_nil (h2 _ ?_))))))); clear h2 K2
  rw [List.length_map]
  refine ok_seq fun K3 h3 => ?_
  refine ok_seq fun K4 h4 => ok_region rfl (q_mv _ rfl (q_bin _ _ _ rfl rfl rfl (run_nil (h4 _ ?_)))); clear h4 K4
  refine ok_cond rfl (fun c5 => ?_) (fun c5 => ?_)
  · refine ok_seq fun K6 h6 => ?_
    refine ok_region rfl (q_as _ rfl (run_nil (h6 _ ?_)))
    clear h6 K6
    refine ok_ret ⟨_, rfl, ?_⟩
    rw [zSeriesS, szSl_pos (of_decide_eq_true c5)]; rfl
  · refine ok_skip (h3 _ ?_)
    refine ok_seq fun K7 h7 => ?_
    refine ok_seq fun K8 h8 => ok_region rfl (q_as _ rfl (run_nil (h8 _ ?_))); clear h8 K8
    refine ok_block ?_
    refine ok_loop (fun (s : Nat × Int) => ⟨[(0, .sv (eSeriesS x)), (1, .sv (int s.2)), (5, .sv (int s.1))], []⟩) (fun s => 0 ≤ s.2 ∧ s.2 ≤ 1048576 ∧ szAll zSeries (x.drop s.1) s.2 = zSeriesS x n) (fun s => x.length - s.1) (0, n - x.length) ⟨by have := of_decide_eq_false c5; simp only; omega, by simp only; omega, by simp only [List.drop_zero]; rw [zSeriesS, szSl_neg (of_decide_eq_false c5)]⟩ (le_same ⟨rfl, rfl, rfl, trivial⟩) (fun s J => ?_)
    obtain ⟨k, a⟩ := s
    obtain ⟨J1, J2, J3⟩ := J
    simp only at J1 J2 J3
    refine ok_seq fun K9 h9 => ?_
    refine ok_seq fun K10 h10 => ok_region rfl (q_mv _ rfl (q_mv _ rfl (q_len eS22 rfl (q_bin _ _ _ rfl rfl rfl (run_nil (h10 _ ?_)))))); clear h10 K10
    rw [List.length_map]
    refine ok_cond rfl (fun c11 => ?_) (fun c11 => ?_)
    · refine ok_skip (h9 _ ?_)
      obtain ⟨u, hu⟩ := sget (l := x) (i := k) (by simpa using c11)
      rw [szAll_cons _ hu] at J3
      refine ok_seq fun K12 h12 => ?_
      refine ok_block ?_
      refine ok_seq fun K13 h13 => ok_region rfl (q_mv _ rfl (q_mv _ rfl (q_ia el22 rfl rfl (by omega) (mget hu) (q_lds _ ag97 rfl sz97 (q_mv _ rfl (q_call (f61_ok u (hx.2 u (smem hu)) a J1 J2) cl61 rfl rfl (q_as _ rfl (run_nil (h13 _ ?_))))))))); clear h13 K13
      refine ok_seq fun K14 h14 => ok_region rfl (q_mv _ rfl (q_bin _ _ _ rfl rfl rfl (run_nil (h14 _ ?_)))); clear h14 K14
      refine ok_cond rfl (fun c15 => ?_) (fun c15 => ?_)
      · refine ok_seq fun K16 h16 => ?_
        refine ok_region rfl (q_as _ rfl (run_nil (h16 _ ?_)))
        clear h16 K16
        refine ok_ret ⟨_, rfl, ?_⟩
        rw [if_pos (of_decide_eq_true c15)] at J3; rw [← J3]; rfl
      · refine ok_skip (h12 _ ?_)
        refine ok_region rfl (q_mv _ rfl (q_add rfl rfl (by have := slt hu; have := hx.1; unfold LB at this; omega) (q_as _ rfl (run_nil (⟨(k + 1, zSeries u a), by have := slt hu; simp only; omega, ⟨by have := of_decide_eq_false c15; simp only; omega, (zSeries_ok u a J2).1, by rw [if_neg (of_decide_eq_false c15)] at J3; exact J3⟩, le_same ⟨rfl, rfl, rfl, trivial⟩⟩)))))
    · refine ok_exit (h7 _ ?_)
      refine ok_seq fun K17 h17 => ok_region rfl (q_mv _ rfl (q_as _ rfl (run_nil (h17 _ ?_)))); clear h17 K17
      refine ok_ret ⟨_, rfl, ?_⟩
      rw [szAll_end _ (by simpa using c11)] at J3; rw [← J3]; rfl
theorem f30_ok (x : List Series) (hx : x.length ≤ 1048576 ∧ ∀ y ∈ x, SSeries y) : PFn Try.prog 30 [eSeriesS x] (eSeriesS x) := by
  have hle : x.length ≤ 1048576 := hx.1
  refine fnr_ok (n := 23) Try.func30 rfl rfl rfl (Nat.le_of_ble_eq_true rfl) rfl fun w0 O => ?_
  refine ok_seq fun K1 h1 => ok_region rfl (q_as _ rfl (run_nil (h1 _ ?_))); clear h1 K1
  refine ok_seq fun K2 h2 => ok_region rfl (q_mv _ rfl (q_len eS22 rfl (q_make _ _ el29 (by decide) ze75 rfl by75 rfl rfl rfl rfl (.inl ⟨rfl, rfl, rfl⟩) (by rw [List.length_map]; exact Nat.le_trans hle (by decide)) (by rw [List.length_map]; omega) (q_ao _ rfl (run_nil (h2 _ ?_)))))); clear h2 K2
  rw [List.length_map]
  refine ok_seq fun K3 h3 => ?_
  refine ok_seq fun K4 h4 => ok_region rfl (q_as _ rfl (run_nil (h4 _ ?_))); clear h4 K4
  refine ok_block ?_
  refine ok_loop (fun (k : Nat) => ⟨[(0, .sv (eSeriesS x)), (3, .own 7), (4, .sv (int k))], [(7, .row 2 75 (fill eSeries (.agg [.raw (.slice none 0 0), .raw (.slice none 0 0)]) x k))]⟩) (fun k => k ≤ x.length) (fun k => x.length - k) 0 (Nat.zero_le _) (by rw [fill_zero]; exact le_sub ⟨rfl, rfl, rfl, trivial⟩ ⟨rfl, trivial⟩) (fun k J => ?_)
  refine ok_seq fun K5 h5 => ?_
  refine ok_seq fun K6 h6 => ok_region rfl (q_mv _ rfl (q_mv _ rfl (q_len eS22 rfl (q_bin _ _ _ rfl rfl rfl (run_nil (h6 _ ?_)))))); clear h6 K6
  rw [List.length_map]
  refine ok_cond rfl (fun c7 => ?_) (fun c7 => ?_)
  · refine ok_skip (h5 _ ?_)
    have hk : k < x.length := by simpa using c7
    obtain ⟨u, hu⟩ := sget hk
    refine ok_seq fun K8 h8 => ?_
    refine ok_block ?_
    refine ok_last fun K9 h9 => ok_region rfl (q_mo _ rfl (q_mv _ rfl (q_mv _ rfl (q_mv _ rfl (q_ia el22 rfl rfl (by omega) (mget hu) (q_lds _ ag97 rfl sz97 (q_call (f68_ok u (hx.2 u (smem hu))) cl68 rfl rfl (q_iao el29 rfl rfl rfl (by omega) (by rw [fill_len _ _ _ J]; exact hk) (
      q_ste sz75 rfl rfl (fill_get _ _ _ hk) rfl (.inl ⟨_, rfl⟩) rfl (run_nil (h9 _ (h8 _ ?_))))))))))))
    refine ok_region rfl (q_mv _ rfl (q_add rfl rfl (by omega) (q_as _ rfl (run_nil (⟨k + 1, by omega, hk, ?_⟩)))))
    rw [← fill_set eSeries (.agg [.raw (.slice none 0 0), .raw (.slice none 0 0)]) hu]
    exact le_sub ⟨rfl, rfl, rfl, trivial⟩ ⟨rfl, trivial⟩
  · refine ok_exit (h3 _ ?_)
    refine ok_seq fun K9 h9 => ok_region rfl (q_mo _ rfl (q_ao _ rfl (run_nil (h9 _ ?_)))); clear h9 K9
    refine ok_ret ⟨_, ⟨_, _, rfl, rfl, rfl⟩, ?_⟩
    rw [fill_all _ _ _ (by simpa using c7)]; rfl
theorem f32_ok (x : List Series) (hx : x.length ≤ 1048576 ∧ ∀ y ∈ x, SSeries y) : PFn Try.prog 32 [eSeriesS x, eSeriesS x] (bool true) := by
  have hle : x.length ≤ 1048576 := hx.1
  refine fn_ok' (n := 27) Try.func32 rfl rfl rfl (Nat.le_of_ble_eq_true rfl) rfl fun w0 O => ?_
  refine ok_seq fun K1 h1 => ok_region rfl (q_as _ rfl (run_nil (h1 _ ?_))); clear h1 K1
  refine ok_seq fun K2 h2 => ?_
  refine ok_seq fun K3 h3 => ok_region rfl (q_mv _ rfl (q_len eS29 rfl (q_mv _ rfl (q_len eS29 rfl (q_bin _ _ _ rfl rfl rfl (run_nil (h3 _ ?_))))))); clear h3 K3
  refine ok_cond rfl (fun c4 => ?_) (fun c4 => ?_)
  · simp at c4
  · refine ok_skip (h2 _ ?_)
    refine ok_seq fun K6 h6 => ?_
    refine ok_seq fun K7 h7 => ok_region rfl (q_as _ rfl (run_nil (h7 _ ?_))); clear h7 K7
    refine ok_block ?_
    refine ok_loop (fun (k : Nat) => ⟨[(0, .sv (eSeriesS x)), (1, .sv (eSeriesS x)), (5, .sv (int k))], []⟩) (fun k => True) (fun k => x.length - k) 0 trivial (le_same ⟨rfl, rfl, rfl, trivial⟩) (fun k J => ?_)
    refine ok_seq fun K8 h8 => ?_
    refine ok_seq fun K9 h9 => ok_region rfl (q_mv _ rfl (q_mv _ rfl (q_len eS29 rfl (q_bin _ _ _ rfl rfl rfl (run_nil (h9 _ ?_)))))); clear h9 K9
    rw [List.length_map]
    refine ok_cond rfl (fun c10 => ?_) (fun c10 => ?_)
    · refine ok_skip (h8 _ ?_)
      have hk : k < x.length := by simpa using c10
      obtain ⟨u, hu⟩ := sget hk
      refine ok_seq fun K11 h11 => ?_
      refine ok_block ?_
      refine ok_seq fun K12 h12 => ?_
      refine ok_region_i (by kernel_rfl) (by kernel_rfl) rfl (
        q_mv _ rfl (q_mv _ rfl (q_ia el29 rfl rfl (by omega) (mget hu) (q_lds _ ag75 rfl sz75 (q_mv _ rfl (q_mv _ rfl (q_ia el29 rfl rfl (by omega) (mget hu) (q_lds _ ag75 rfl sz75 (
        q_call (f77_ok u (hx.2 u (smem hu))) cl77 rfl rfl (q_un _ _ rfl rfl (run_nil (h12 _ ?_))))))))))))
      clear h12 K12
      refine ok_cond rfl (fun c13 => ?_) (fun c13 => ?_)
      · simp at c13
      · refine ok_skip (h11 _ ?_)
        refine ok_region rfl (q_mv _ rfl (q_add rfl rfl (by omega) (q_as _ rfl (run_nil (⟨k + 1, by omega, trivial, le_same ⟨rfl, rfl, rfl, trivial⟩⟩)))))
    · refine ok_exit (h6 _ ?_)
      refine ok_seq fun K15 h15 => ok_region rfl (q_as _ rfl (run_nil (h15 _ ?_))); clear h15 K15
      exact ok_ret ⟨_, rfl, rfl⟩
structure Stone where
  labels : List Label
  from_ : Int
  to : Int
@[reducible] def eStone (x : Stone) : SV := .agg [eLabelS x.labels, int x.from_, int x.to]
def LStone (x : Stone) : Prop := LB x.labels.length ∧ ∀ y ∈ x.labels, LLabel y
def SStone (x : Stone) : Prop := x.labels.length ≤ 1048576 ∧ ∀ y ∈ x.labels, SLabel y
theorem op_Stone : Opens Try.prog 120 eStone (fun y => LStone y) :=
  op_iso (fun y : (List Label) × Int × Int × Unit => (⟨y.1, y.2.1, y.2.2.1⟩ : Stone)) (fun _ => rfl) (fun y h => h.1)
    (op_struct (n := 3) Try.underlying120 (by kernel_rfl) (ofs_cons (f := { name := "Labels", type := 94, offset := 0, embedded := false, tag := "", pkgPath := "", byteOffset := 0 }) (n := 1) (m := 2) rfl (by kernel_rfl) (fun _ => ⟨.inr rfl, rfl⟩) op_LabelS (ofs_cons (f := { name := "From", type := 3, offset := 1, embedded := false, tag := "", pkgPath := "", byteOffset := 24 }) (n := 1) (m := 1) rfl (by kernel_rfl) (fun _ => ⟨.inr rfl, rfl⟩) (op_int Try.underlying3) (ofs_cons (f := { name := "To", type := 3, offset := 2, embedded := false, tag := "", pkgPath := "", byteOffset := 32 }) (n := 1) (m := 0) rfl (by kernel_rfl) (fun _ => ⟨.inr rfl, rfl⟩) (op_int Try.underlying3) ofs_nil))))
def zStone (x : Stone) (n : Int) : Int := ((zLabelS x.labels)) n
theorem zStone_ok (x : Stone) : GOk (zStone x) (SStone x) := (zLabelS_ok x.labels)
theorem f89_ok (x : Stone) (hx : LStone x) (n : Int) (h0 : 0 ≤ n) (hn : n ≤ 1048576) : PFn Try.prog 89 [eStone x, int n] (int (zStone x n)) := by
  have e0 : zStone x n = ((zLabelS x.labels)) n := rfl
  have a0 := h0
  have b0 := hn
  refine fn_ok' (n := 12) Try.func89 rfl rfl rfl (Nat.le_of_ble_eq_true rfl) rfl fun w0 O => ?_
  refine ok_seq fun K1 h1 => ok_region rfl (q_boxs _ rfl (Nat.zero_lt_succ _) (q_as _ rfl (run_nil (h1 _ ?_)))); clear h1 K1
  refine ok_seq fun K2 h2 => ok_region rfl (q_fa _ fd120_0 rfl rfl (by decide) (q_ld _ ag94 rfl rfl (q_mv _ rfl (q_call (f114_ok x.labels (hx) _ a0 b0) cl114 rfl rfl (q_as _ rfl (run_nil (h2 _ ?_))))))); clear h2 K2
  refine ok_seq fun K3 h3 => ?_
  refine ok_seq fun K4 h4 => ok_region rfl (q_mv _ rfl (q_bin _ _ _ rfl rfl rfl (run_nil (h4 _ ?_)))); clear h4 K4
  refine ok_cond rfl (fun c5 => ?_) (fun c5 => ?_)
  · refine ok_seq fun K6 h6 => ?_
    refine ok_region rfl (q_as _ rfl (run_nil (h6 _ ?_)))
    clear h6 K6
    refine ok_ret ⟨_, rfl, ?_⟩
    rw [e0]; rw [((zLabelS_ok x.labels) _ b0).2.1 (of_decide_eq_true c5)]; rfl
  · refine ok_skip (h3 _ ?_)
    refine ok_seq fun K7 h7 => ok_region rfl (q_mv _ rfl (q_as _ rfl (run_nil (h7 _ ?_)))); clear h7 K7
    refine ok_ret ⟨_, rfl, ?_⟩
    rw [e0]; rfl
theorem f94_ok (x : Stone) (hx : SStone x) : PFn Try.prog 94 [eStone x] (eStone x) := by
  refine fnr_ok (n := 15) Try.func94 rfl rfl rfl (Nat.le_of_ble_eq_true rfl) rfl fun w0 O => ?_
  refine ok_seq fun K1 h1 => ok_region rfl (q_boxs _ rfl (Nat.zero_lt_succ _) (q_alloc _ ze122 rfl rfl rfl rfl (run_nil (h1 _ ?_)))); clear h1 K1
  refine ok_seq fun K2 h2 => ok_region rfl (q_alloc _ ze122 rfl rfl rfl rfl (run_nil (h2 _ ?_))); clear h2 K2
  refine ok_seq fun K3 h3 => ok_region rfl (q_fa _ fd120_0 rfl rfl (by decide) (q_ld _ ag94 rfl rfl (q_call (f121_ok x.labels (hx)) cl121 rfl rfl (q_fap fd122_0 rfl (by decide) (q_st _ sz72 rfl rfl (Nat.le_of_ble_eq_true rfl) rfl ⟨_, rfl, rfl⟩ rfl (run_nil (h3 _ ?_))))))); clear h3 K3
  refine ok_seq fun K4 h4 => ok_region rfl (q_fa _ fd120_1 rfl rfl (by decide) (q_ld _ ag3 rfl rfl (q_fap fd122_1 rfl (by decide) (q_st _ sz3 rfl rfl (Nat.le_of_ble_eq_true rfl) rfl ⟨_, rfl, rfl⟩ rfl (run_nil (h4 _ ?_)))))); clear h4 K4
  refine ok_seq fun K5 h5 => ok_region rfl (q_fa _ fd120_2 rfl rfl (by decide) (q_ld _ ag3 rfl rfl (q_fap fd122_2 rfl (by decide) (q_st _ sz3 rfl rfl (Nat.le_of_ble_eq_true rfl) rfl ⟨_, rfl, rfl⟩ rfl (run_nil (h5 _ ?_)))))); clear h5 K5
  refine ok_seq fun K6 h6 => ok_region rfl (q_ldbs ag122 rfl rfl sz122 rfl rfl (q_sts _ rfl rfl rfl sz122 (Nat.le_of_ble_eq_true rfl) rfl (run_nil (h6 _ ?_)))); clear h6 K6
  exact ok_ret (ret_cell (l := [eLabelS x.labels, int x.from_, int x.to]) rfl rfl ag122 sz122 rfl rfl)
theorem f98_ok (x : Stone) (hx : SStone x) : PFn Try.prog 98 [eStone x, eStone x] (bool true) := by
  refine fn_ok' (n := 21) Try.func98 rfl rfl rfl (Nat.le_of_ble_eq_true rfl) rfl fun w0 O => ?_
  refine ok_seq fun K1 h1 => ok_region rfl (q_boxs _ rfl (Nat.zero_lt_succ _) (q_boxs _ rfl (Nat.zero_lt_succ _) (q_as _ rfl (run_nil (h1 _ ?_))))); clear h1 K1
  refine ok_seq fun K2 h2 => ?_
  refine ok_seq fun K3 h3 => ok_region rfl (q_fa _ fd122_0 rfl rfl (by decide) (q_ld _ ag72 rfl rfl (q_fa _ fd122_0 rfl rfl (by decide) (q_ld _ ag72 rfl rfl (q_call (f132_ok x.labels (hx)) cl132 rfl rfl (q_un _ _ rfl rfl (run_nil (h3 _ ?_)))))))); clear h3 K3
  refine ok_cond rfl (fun c4 => ?_) (fun c4 => ?_)
  · simp at c4
  · refine ok_skip (h2 _ ?_)
    refine ok_seq fun K6 h6 => ?_
    refine ok_seq fun K7 h7 => ok_region rfl (q_fa _ fd122_1 rfl rfl (by decide) (q_ld _ ag3 rfl rfl (q_fa _ fd122_1 rfl rfl (by decide) (q_ld _ ag3 rfl rfl (q_bin _ _ _ rfl rfl rfl (run_nil (h7 _ ?_))))))); clear h7 K7
    refine ok_cond rfl (fun c8 => ?_) (fun c8 => ?_)
    · simp at c8
    · refine ok_skip (h6 _ ?_)
      refine ok_seq fun K10 h10 => ?_
      refine ok_seq fun K11 h11 => ok_region rfl (q_fa _ fd122_2 rfl rfl (by decide) (q_ld _ ag3 rfl rfl (q_fa _ fd122_2 rfl rfl (by decide) (q_ld _ ag3 rfl rfl (q_bin _ _ _ rfl rfl rfl (run_nil (h11 _ ?_))))))); clear h11 K11
      refine ok_cond rfl (fun c12 => ?_) (fun c12 => ?_)
      · simp at c12
      · refine ok_skip (h10 _ ?_)
        refine ok_seq fun K14 h14 => ok_region rfl (q_as _ rfl (run_nil (h14 _ ?_))); clear h14 K14
        exact ok_ret ⟨_, rfl, rfl⟩
@[reducible] def eStoneS (l : List Stone) : SV := .sl 3 (l.map eStone)
theorem op_StoneS : Opens Try.prog 23 eStoneS (fun y => LB y.length ∧ ∀ z ∈ y, LStone z) :=
  op_iso (fun y : List Stone => y) (fun _ => rfl) (fun y h => h) (op_slice (n := 3) Try.underlying23 (by kernel_rfl) (by decide) (fun _ => ⟨.inl ⟨_, rfl⟩, rfl⟩) op_Stone)
def zStoneS (x : List Stone) (n : Int) : Int := szSl zStone x n
theorem zStoneS_ok (x : List Stone) : GOk (zStoneS x) (x.length ≤ 1048576 ∧ ∀ y ∈ x, SStone y) := szSl_ok zStone_ok x
theorem f42_ok (x : List Stone) (hx : LB x.length ∧ ∀ y ∈ x, LStone y) (n : Int) (h0 : 0 ≤ n) (hn : n ≤ 1048576) : PFn Try.prog 42 [eStoneS x, int n] (int (zStoneS x n)) := by
  have hx1 := hx.1
  unfold LB at hx1
  refine fn_ok' (n := 27) Try.func42 rfl rfl rfl (Nat.le_of_ble_eq_true rfl) rfl fun w0 O => ?_
  refine ok_seq fun K1 h1 => ok_region rfl (q_as _ rfl (run_nil (h1 _ ?_))); clear h1 K1
  refine ok_seq fun K2 h2 => ok_region rfl (q_mv _ rfl (q_mv _ rfl (q_len eS23 rfl (q_sub rfl rfl (by rw [List.length_map]; omega) (q_as _ rfl (run_nil (h2 _ ?_))))))); clear h2 K2
  rw [List.length_map]
  refine ok_seq fun K3 h3 => ?_
  refine ok_seq fun K4 h4 => ok_region rfl (q_mv _ rfl (q_bin _ _ _ rfl rfl rfl (run_nil (h4 _ ?_)))); clear h4 K4
  refine ok_cond rfl (fun c5 => ?_) (fun c5 => ?_)
  · refine ok_seq fun K6 h6 => ?_
    refine ok_region rfl (q_as _ rfl (run_nil (h6 _ ?_)))
    clear h6 K6
    refine ok_ret ⟨_, rfl, ?_⟩
    rw [zStoneS, szSl_pos (of_decide_eq_true c5)]; rfl
  · refine ok_skip (h3 _ ?_)
    refine ok_seq fun K7 h7 => ?_
    refine ok_seq fun K8 h8 => ok_region rfl (q_as _ rfl (run_nil (h8 _ ?_))); clear h8 K8
    refine ok_block ?_
    refine ok_loop (fun (s : Nat × Int) => ⟨[(0, .sv (eStoneS x)), (1, .sv (int s.2)), (5, .sv (int s.1))], []⟩) (fun s => 0 ≤ s.2 ∧ s.2 ≤ 1048576 ∧ szAll zStone (x.drop s.1) s.2 = zStoneS x n) (fun s => x.length - s.1) (0, n - x.length) ⟨by have := of_decide_eq_false c5; simp only; omega, by simp only; omega, by simp only [List.drop_zero]; rw [zStoneS, szSl_neg (of_decide_eq_false c5)]⟩ (le_same ⟨rfl, rfl, rfl, trivial⟩) (fun s J => ?_)
    obtain ⟨k, a⟩ := s
    obtain ⟨J1, J2, J3⟩ := J
    simp only at J1 J2 J3
    refine ok_seq fun K9 h9 => ?_
    refine ok_seq fun K10 h10 => ok_region rfl (q_mv _ rfl (q_mv _ rfl (q_len eS23 rfl (q_bin _ _ _ rfl rfl rfl (run_nil (h10 _ ?_)))))); clear h10 K10
    rw [List.length_map]
    refine ok_cond rfl (fun c11 => ?_) (fun c11 => ?_)
    · refine ok_skip (h9 _ ?_)
      obtain ⟨u, hu⟩ := sget (l := x) (i := k) (by simpa using c11)
      rw [szAll_cons _ hu] at J3
      refine ok_seq fun K12 h12 => ?_
      refine ok_block ?_
      refine ok_seq fun K13 h13 => ok_region rfl (q_mv _ rfl (q_mv _ rfl (q_ia el23 rfl rfl (by omega) (mget hu) (q_lds _ ag120 rfl sz120 (q_mv _ rfl (q_call (f89_ok u (hx.2 u (smem hu)) a J1 J2) cl89 rfl rfl (q_as _ rfl (run_nil (h13 _ ?_))))))))); clear h13 K13
      refine ok_seq fun K14 h14 => ok_region rfl (q_mv _ rfl (q_bin _ _ _ rfl rfl rfl (run_nil (h14 _ ?_)))); clear h14 K14
      refine ok_cond rfl (fun c15 => ?_) (fun c15 => ?_)
      · refine ok_seq fun K16 h16 => ?_
        refine ok_region rfl (q_as _ rfl (run_nil (h16 _ ?_)))
        clear h16 K16
        refine ok_ret ⟨_, rfl, ?_⟩
        rw [if_pos (of_decide_eq_true c15)] at J3; rw [← J3]; rfl
      · refine ok_skip (h12 _ ?_)
        refine ok_region rfl (q_mv _ rfl (q_add rfl rfl (by have := slt hu; have := hx.1; unfold LB at this; omega) (q_as _ rfl (run_nil (⟨(k + 1, zStone u a), by have := slt hu; simp only; omega, ⟨by have := of_decide_eq_false c15; simp only; omega, (zStone_ok u a J2).1, by rw [if_neg (of_decide_eq_false c15)] at J3; exact J3⟩, le_same ⟨rfl, rfl, rfl, trivial⟩⟩)))))
    · refine ok_exit (h7 _ ?_)
      refine ok_seq fun K17 h17 => ok_region rfl (q_mv _ rfl (q_as _ rfl (run_nil (h17 _ ?_)))); clear h17 K17
      refine ok_ret ⟨_, rfl, ?_⟩
      rw [szAll_end _ (by simpa using c11)] at J3; rw [← J3]; rfl
theorem f45_ok (x : List Stone) (hx : x.length ≤ 1048576 ∧ ∀ y ∈ x, SStone y) : PFn Try.prog 45 [eStoneS x] (eStoneS x) := by
  have hle : x.length ≤ 1048576 := hx.1
  refine fnr_ok (n := 23) Try.func45 rfl rfl rfl (Nat.le_of_ble_eq_true rfl) rfl fun w0 O => ?_
  refine ok_seq fun K1 h1 => ok_region rfl (q_as _ rfl (run_nil (h1 _ ?_))); clear h1 K1
  refine ok_seq fun K2 h2 => ok_region rfl (q_mv _ rfl (q_len eS23 rfl (q_make _ _ el30 (by decide) ze122 rfl by122 rfl rfl rfl rfl (.inl ⟨rfl, rfl, rfl⟩) (by rw [List.length_map]; exact Nat.le_trans hle (by decide)) (by rw [List.length_map]; omega) (q_ao _ rfl (run_nil (h2 _ ?_)))))); clear h2 K2
  rw [List.length_map]
  refine ok_seq fun K3 h3 => ?_
  refine ok_seq fun K4 h4 => ok_region rfl (q_as _ rfl (run_nil (h4 _ ?_))); clear h4 K4
  refine ok_block ?_
  refine ok_loop (fun (k : Nat) => ⟨[(0, .sv (eStoneS x)), (3, .own 7), (4, .sv (int k))], [(7, .row 3 122 (fill eStone (.agg [.raw (.slice none 0 0), .raw (.int .i64 0), .raw (.int .i64 0)]) x k))]⟩) (fun k => k ≤ x.length) (fun k => x.length - k) 0 (Nat.zero_le _) (by rw [fill_zero]; exact le_sub ⟨rfl, rfl, rfl, trivial⟩ ⟨rfl, trivial⟩) (fun k J => ?_)
  refine ok_seq fun K5 h5 => ?_
  refine ok_seq fun K6 h6 => ok_region rfl (q_mv _ rfl (q_mv _ rfl (q_len eS23 rfl (q_bin _ _ _ rfl rfl rfl (run_nil (h6 _ ?_)))))); clear h6 K6
  rw [List.length_map]
  refine ok_cond rfl (fun c7 => ?_) (fun c7 => ?_)
  · refine ok_skip (h5 _ ?_)
    have hk : k < x.length := by simpa using c7
    obtain ⟨u, hu⟩ := sget hk
    refine ok_seq fun K8 h8 => ?_
    refine ok_block ?_
    refine ok_last fun K9 h9 => ok_region rfl (q_mo _ rfl (q_mv _ rfl (q_mv _ rfl (q_mv _ rfl (q_ia el23 rfl rfl (by omega) (mget hu) (q_lds _ ag120 rfl sz120 (q_call (f94_ok u (hx.2 u (smem hu))) cl94 rfl rfl (q_iao el30 rfl rfl rfl (by omega) (by rw [fill_len _ _ _ J]; exact hk) (
      q_ste sz122 rfl rfl (fill_get _ _ _ hk) rfl (.inl ⟨_, rfl⟩) rfl (run_nil (h9 _ (h8 _ ?_))))))))))))
    refine ok_region rfl (q_mv _ rfl (q_add rfl rfl (by omega) (q_as _ rfl (run_nil (⟨k + 1, by omega, hk, ?_⟩)))))
    rw [← fill_set eStone (.agg [.raw (.slice none 0 0), .raw (.int .i64 0), .raw (.int .i64 0)]) hu]
    exact le_sub ⟨rfl, rfl, rfl, trivial⟩ ⟨rfl, trivial⟩
  · refine ok_exit (h3 _ ?_)
    refine ok_seq fun K9 h9 => ok_region rfl (q_mo _ rfl (q_ao _ rfl (run_nil (h9 _ ?_)))); clear h9 K9
    refine ok_ret ⟨_, ⟨_, _, rfl, rfl, rfl⟩, ?_⟩
    rw [fill_all _ _ _ (by simpa using c7)]; rfl
theorem f48_ok (x : List Stone) (hx : x.length ≤ 1048576 ∧ ∀ y ∈ x, SStone y) : PFn Try.prog 48 [eStoneS x, eStoneS x] (bool true) := by
  have hle : x.length ≤ 1048576 := hx.1
  refine fn_ok' (n := 27) Try.func48 rfl rfl rfl (Nat.le_of_ble_eq_true rfl) rfl fun w0 O => ?_
  refine ok_seq fun K1 h1 => ok_region rfl (q_as _ rfl (run_nil (h1 _ ?_))); clear h1 K1
  refine ok_seq fun K2 h2 => ?_
  refine ok_seq fun K3 h3 => ok_region rfl (q_mv _ rfl (q_len eS30 rfl (q_mv _ rfl (q_len eS30 rfl (q_bin _ _ _ rfl rfl rfl (run_nil (h3 _ ?_))))))); clear h3 K3
  refine ok_cond rfl (fun c4 => ?_) (fun c4 => ?_)
  · simp at c4
  · refine ok_skip (h2 _ ?_)
    refine ok_seq fun K6 h6 => ?_
    refine ok_seq fun K7 h7 => ok_region rfl (q_as _ rfl (run_nil (h7 _ ?_))); clear h7 K7
    refine ok_block ?_
    refine ok_loop (fun (k : Nat) => ⟨[(0, .sv (eStoneS x)), (1, .sv (eStoneS x)), (5, .sv (int k))], []⟩) (fun k => True) (fun k => x.length - k) 0 trivial (le_same ⟨rfl, rfl, rfl, trivial⟩) (fun k J => ?_)
    refine ok_seq fun K8 h8 => ?_
    refine ok_seq fun K9 h9 => ok_region rfl (q_mv _ rfl (q_mv _ rfl (q_len eS30 rfl (q_bin _ _ _ rfl rfl rfl (run_nil (h9 _ ?_)))))); clear h9 K9
    rw [List.length_map]
    refine ok_cond rfl (fun c10 => ?_) (fun c10 => ?_)
    · refine ok_skip (h8 _ ?_)
      have hk : k < x.length := by simpa using c10
      obtain ⟨u, hu⟩ := sget hk
      refine ok_seq fun K11 h11 => ?_
      refine ok_block ?_
      refine ok_seq fun K12 h12 => ?_
      refine ok_region_i (by kernel_rfl) (by kernel_rfl) rfl (
        q_mv _ rfl (q_mv _ rfl (q_ia el30 rfl rfl (by omega) (mget hu) (q_lds _ ag122 rfl sz122 (q_mv _ rfl (q_mv _ rfl (q_ia el30 rfl rfl (by omega) (mget hu) (q_lds _ ag122 rfl sz122 (
        q_call (f98_ok u (hx.2 u (smem hu))) cl98 rfl rfl (q_un _ _ rfl rfl (run_nil (h12 _ ?_))))))))))))
      clear h12 K12
      refine ok_cond rfl (fun c13 => ?_) (fun c13 => ?_)
      · simp at c13
      · refine ok_skip (h11 _ ?_)
        refine ok_region rfl (q_mv _ rfl (q_add rfl rfl (by omega) (q_as _ rfl (run_nil (⟨k + 1, by omega, trivial, le_same ⟨rfl, rfl, rfl, trivial⟩⟩)))))
    · refine ok_exit (h6 _ ?_)
      refine ok_seq fun K15 h15 => ok_region rfl (q_as _ rfl (run_nil (h15 _ ?_))); clear h15 K15
      exact ok_ret ⟨_, rfl, rfl⟩
structure Block where
  from_ : Int
  to : Int
  level : Int
  series : List Series
  stones : List Stone
@[reducible] def eBlock (x : Block) : SV := .agg [int x.from_, int x.to, int x.level, eSeriesS x.series, eStoneS x.stones]
def LBlock (x : Block) : Prop := (LB x.series.length ∧ ∀ y ∈ x.series, LSeries y) ∧ (LB x.stones.length ∧ ∀ y ∈ x.stones, LStone y)
def SBlock (x : Block) : Prop := (x.series.length ≤ 1048576 ∧ ∀ y ∈ x.series, SSeries y) ∧ (x.stones.length ≤ 1048576 ∧ ∀ y ∈ x.stones, SStone y)
theorem op_Block : Opens Try.prog 25 eBlock (fun y => LBlock y) :=
  op_iso (fun y : Int × Int × Int × (List Series) × (List Stone) × Unit => (⟨y.1, y.2.1, y.2.2.1, y.2.2.2.1, y.2.2.2.2.1⟩ : Block)) (fun _ => rfl) (fun y h => ⟨h.2.2.2.1, h.2.2.2.2.1⟩)
    (op_struct (n := 5) Try.underlying25 (by kernel_rfl) (ofs_cons (f := { name := "From", type := 3, offset := 0, embedded := false, tag := "", pkgPath := "", byteOffset := 0 }) (n := 1) (m := 4) rfl (by kernel_rfl) (fun _ => ⟨.inr rfl, rfl⟩) (op_int Try.underlying3) (ofs_cons (f := { name := "To", type := 3, offset := 1, embedded := false, tag := "", pkgPath := "", byteOffset := 8 }) (n := 1) (m := 3) rfl (by kernel_rfl) (fun _ => ⟨.inr rfl, rfl⟩) (op_int Try.underlying3) (ofs_cons (f := { name := "Level", type := 3, offset := 2, embedded := false, tag := "", pkgPath := "", byteOffset := 16 }) (n := 1) (m := 2) rfl (by kernel_rfl) (fun _ => ⟨.inr rfl, rfl⟩) (op_int Try.underlying3) (ofs_cons (f := { name := "Series", type := 22, offset := 3, embedded := false, tag := "", pkgPath := "", byteOffset := 24 }) (n := 1) (m := 1) rfl (by kernel_rfl) (fun _ => ⟨.inr rfl, rfl⟩) op_SeriesS (ofs_cons (f := { name := "Stones", type := 23, offset := 4, embedded := false, tag := "", pkgPath := "", byteOffset := 48 }) (n := 1) (m := 0) rfl (by kernel_rfl) (fun _ => ⟨.inr rfl, rfl⟩) op_StoneS ofs_nil))))))
def zBlock (x : Block) (n : Int) : Int := (stp (zSeriesS x.series) ((zStoneS x.stones))) n
theorem zBlock_ok (x : Block) : GOk (zBlock x) (SBlock x) := (stp_ok (zSeriesS_ok x.series) (zStoneS_ok x.stones))
theorem f8_ok (x : Block) (hx : LBlock x) (n : Int) (h0 : 0 ≤ n) (hn : n ≤ 1048576) : PFn Try.prog 8 [eBlock x, int n] (int (zBlock x n)) := by
  have e0 : zBlock x n = (stp (zSeriesS x.series) ((zStoneS x.stones))) n := rfl
  have a0 := h0
  have b0 := hn
  refine fn_ok' (n := 18) Try.func8 rfl rfl rfl (Nat.le_of_ble_eq_true rfl) rfl fun w0 O => ?_
  refine ok_seq fun K1 h1 => ok_region rfl (q_boxs _ rfl (Nat.zero_lt_succ _) (q_as _ rfl (run_nil (h1 _ ?_)))); clear h1 K1
  refine ok_seq fun K2 h2 => ok_region rfl (q_fa _ fd25_3 rfl rfl (by decide) (q_ld _ ag22 rfl rfl (q_mv _ rfl (q_call (f28_ok x.series (hx.1) _ a0 b0) cl28 rfl rfl (q_as _ rfl (run_nil (h2 _ ?_))))))); clear h2 K2
  refine ok_seq fun K3 h3 => ?_
  refine ok_seq fun K4 h4 => ok_region rfl (q_mv _ rfl (q_bin _ _ _ rfl rfl rfl (run_nil (h4 _ ?_)))); clear h4 K4
  refine ok_cond rfl (fun c5 => ?_) (fun c5 => ?_)
  · refine ok_seq fun K6 h6 => ?_
    refine ok_region rfl (q_as _ rfl (run_nil (h6 _ ?_)))
    clear h6 K6
    refine ok_ret ⟨_, rfl, ?_⟩
    rw [e0, stp_pos (of_decide_eq_true c5)]; rfl
  · refine ok_skip (h3 _ ?_)
    have e1 : zBlock x n = ((zStoneS x.stones)) (zSeriesS x.series n) := by rw [e0, stp_neg (of_decide_eq_false c5)]
    have a1 : 0 ≤ zSeriesS x.series n := by have := of_decide_eq_false c5; omega
    have b1 : zSeriesS x.series n ≤ 1048576 := ((zSeriesS_ok x.series) _ b0).1
    refine ok_seq fun K7 h7 => ok_region rfl (q_fa _ fd25_4 rfl rfl (by decide) (q_ld _ ag23 rfl rfl (q_mv _ rfl (q_call (f42_ok x.stones (hx.2) _ a1 b1) cl42 rfl rfl (q_as _ rfl (run_nil (h7 _ ?_))))))); clear h7 K7
    refine ok_seq fun K8 h8 => ?_
    refine ok_seq fun K9 h9 => ok_region rfl (q_mv _ rfl (q_bin _ _ _ rfl rfl rfl (run_nil (h9 _ ?_)))); clear h9 K9
    refine ok_cond rfl (fun c10 => ?_) (fun c10 => ?_)
    · refine ok_seq fun K11 h11 => ?_
      refine ok_region rfl (q_as _ rfl (run_nil (h11 _ ?_)))
      clear h11 K11
      refine ok_ret ⟨_, rfl, ?_⟩
      rw [e1]; rw [((zStoneS_ok x.stones) _ b1).2.1 (of_decide_eq_true c10)]; rfl
    · refine ok_skip (h8 _ ?_)
      refine ok_seq fun K12 h12 => ok_region rfl (q_mv _ rfl (q_as _ rfl (run_nil (h12 _ ?_)))); clear h12 K12
      refine ok_ret ⟨_, rfl, ?_⟩
      rw [e1]; rfl
theorem f10_ok (x : Block) (hx : SBlock x) : PFn Try.prog 10 [eBlock x] (eBlock x) := by
  refine fnr_ok (n := 22) Try.func10 rfl rfl rfl (Nat.le_of_ble_eq_true rfl) rfl fun w0 O => ?_
  refine ok_seq fun K1 h1 => ok_region rfl (q_boxs _ rfl (Nat.zero_lt_succ _) (q_alloc _ ze32 rfl rfl rfl rfl (run_nil (h1 _ ?_)))); clear h1 K1
  refine ok_seq fun K2 h2 => ok_region rfl (q_alloc _ ze32 rfl rfl rfl rfl (run_nil (h2 _ ?_))); clear h2 K2
  refine ok_seq fun K3 h3 => ok_region rfl (q_fa _ fd25_0 rfl rfl (by decide) (q_ld _ ag3 rfl rfl (q_fap fd32_0 rfl (by decide) (q_st _ sz3 rfl rfl (Nat.le_of_ble_eq_true rfl) rfl ⟨_, rfl, rfl⟩ rfl (run_nil (h3 _ ?_)))))); clear h3 K3
  refine ok_seq fun K4 h4 => ok_region rfl (q_fa _ fd25_1 rfl rfl (by decide) (q_ld _ ag3 rfl rfl (q_fap fd32_1 rfl (by decide) (q_st _ sz3 rfl rfl (Nat.le_of_ble_eq_true rfl) rfl ⟨_, rfl, rfl⟩ rfl (run_nil (h4 _ ?_)))))); clear h4 K4
  refine ok_seq fun K5 h5 => ok_region rfl (q_fa _ fd25_2 rfl rfl (by decide) (q_ld _ ag3 rfl rfl (q_fap fd32_2 rfl (by decide) (q_st _ sz3 rfl rfl (Nat.le_of_ble_eq_true rfl) rfl ⟨_, rfl, rfl⟩ rfl (run_nil (h5 _ ?_)))))); clear h5 K5
  refine ok_seq fun K6 h6 => ok_region rfl (q_fa _ fd25_3 rfl rfl (by decide) (q_ld _ ag22 rfl rfl (q_call (f30_ok x.series (hx.1)) cl30 rfl rfl (q_fap fd32_3 rfl (by decide) (q_st _ sz29 rfl rfl (Nat.le_of_ble_eq_true rfl) rfl ⟨_, rfl, rfl⟩ rfl (run_nil (h6 _ ?_))))))); clear h6 K6
  refine ok_seq fun K7 h7 => ok_region rfl (q_fa _ fd25_4 rfl rfl (by decide) (q_ld _ ag23 rfl rfl (q_call (f45_ok x.stones (hx.2)) cl45 rfl rfl (q_fap fd32_4 rfl (by decide) (q_st _ sz30 rfl rfl (Nat.le_of_ble_eq_true rfl) rfl ⟨_, rfl, rfl⟩ rfl (run_nil (h7 _ ?_))))))); clear h7 K7
  refine ok_seq fun K8 h8 => ok_region rfl (q_ldbs ag32 rfl rfl sz32 rfl rfl (q_sts _ rfl rfl rfl sz32 (Nat.le_of_ble_eq_true rfl) rfl (run_nil (h8 _ ?_)))); clear h8 K8
  exact ok_ret (ret_cell (l := [int x.from_, int x.to, int x.level, eSeriesS x.series, eStoneS x.stones]) rfl rfl ag32 sz32 rfl rfl)
theorem f13_ok (x : Block) (hx : SBlock x) : PFn Try.prog 13 [eBlock x, eBlock x] (bool true) := by
  refine fn_ok' (n := 32) Try.func13 rfl rfl rfl (Nat.le_of_ble_eq_true rfl) rfl fun w0 O => ?_
  refine ok_seq fun K1 h1 => ok_region rfl (q_boxs _ rfl (Nat.zero_lt_succ _) (q_boxs _ rfl (Nat.zero_lt_succ _) (q_as _ rfl (run_nil (h1 _ ?_))))); clear h1 K1
  refine ok_seq fun K2 h2 => ?_
  refine ok_seq fun K3 h3 => ok_region rfl (q_fa _ fd32_0 rfl rfl (by decide) (q_ld _ ag3 rfl rfl (q_fa _ fd32_0 rfl rfl (by decide) (q_ld _ ag3 rfl rfl (q_bin _ _ _ rfl rfl rfl (run_nil (h3 _ ?_))))))); clear h3 K3
  refine ok_cond rfl (fun c4 => ?_) (fun c4 => ?_)
  · simp at c4
  · refine ok_skip (h2 _ ?_)
    refine ok_seq fun K6 h6 => ?_
    refine ok_seq fun K7 h7 => ok_region rfl (q_fa _ fd32_1 rfl rfl (by decide) (q_ld _ ag3 rfl rfl (q_fa _ fd32_1 rfl rfl (by decide) (q_ld _ ag3 rfl rfl (q_bin _ _ _ rfl rfl rfl (run_nil (h7 _ ?_))))))); clear h7 K7
    refine ok_cond rfl (fun c8 => ?_) (fun c8 => ?_)
    · simp at c8
    · refine ok_skip (h6 _ ?_)
      refine ok_seq fun K10 h10 => ?_
      refine ok_seq fun K11 h11 => ok_region rfl (q_fa _ fd32_2 rfl rfl (by decide) (q_ld _ ag3 rfl rfl (q_fa _ fd32_2 rfl rfl (by decide) (q_ld _ ag3 rfl rfl (q_bin _ _ _ rfl rfl rfl (run_nil (h11 _ ?_))))))); clear h11 K11
      refine ok_cond rfl (fun c12 => ?_) (fun c12 => ?_)
      · simp at c12
      · refine ok_skip (h10 _ ?_)
        refine ok_seq fun K14 h14 => ?_
        refine ok_seq fun K15 h15 => ok_region rfl (q_fa _ fd32_3 rfl rfl (by decide) (q_ld _ ag29 rfl rfl (q_fa _ fd32_3 rfl rfl (by decide) (q_ld _ ag29 rfl rfl (q_call (f32_ok x.series (hx.1)) cl32 rfl rfl (q_un _ _ rfl rfl (run_nil (h15 _ ?_)))))))); clear h15 K15
        refine ok_cond rfl (fun c16 => ?_) (fun c16 => ?_)
        · simp at c16
        · refine ok_skip (h14 _ ?_)
          refine ok_seq fun K18 h18 => ?_
          refine ok_seq fun K19 h19 => ok_region rfl (q_fa _ fd32_4 rfl rfl (by decide) (q_ld _ ag30 rfl rfl (q_fa _ fd32_4 rfl rfl (by decide) (q_ld _ ag30 rfl rfl (q_call (f48_ok x.stones (hx.2)) cl48 rfl rfl (q_un _ _ rfl rfl (run_nil (h19 _ ?_)))))))); clear h19 K19
          refine ok_cond rfl (fun c20 => ?_) (fun c20 => ?_)
          · simp at c20
          · refine ok_skip (h18 _ ?_)
            refine ok_seq fun K22 h22 => ok_region rfl (q_as _ rfl (run_nil (h22 _ ?_))); clear h22 K22
            exact ok_ret ⟨_, rfl, rfl⟩
@[reducible] def eBlockS (l : List Block) : SV := .sl 5 (l.map eBlock)
theorem op_BlockS : Opens Try.prog 62 eBlockS (fun y => LB y.length ∧ ∀ z ∈ y, LBlock z) :=
  op_iso (fun y : List Block => y) (fun _ => rfl) (fun y h => h) (op_slice (n := 5) Try.underlying62 (by kernel_rfl) (by decide) (fun _ => ⟨.inl ⟨_, rfl⟩, rfl⟩) op_Block)
def zBlockS (x : List Block) (n : Int) : Int := szSl zBlock x n
theorem zBlockS_ok (x : List Block) : GOk (zBlockS x) (x.length ≤ 1048576 ∧ ∀ y ∈ x, SBlock y) := szSl_ok zBlock_ok x
theorem f35_ok (x : List Block) (hx : LB x.length ∧ ∀ y ∈ x, LBlock y) (n : Int) (h0 : 0 ≤ n) (hn : n ≤ 1048576) : PFn Try.prog 35 [eBlockS x, int n] (int (zBlockS x n)) := by
  have hx1 := hx.1
  unfold LB at hx1
  refine fn_ok' (n := 27) Try.func35 rfl rfl rfl (Nat.le_of_ble_eq_true rfl) rfl fun w0 O => ?_
  refine ok_seq fun K1 h1 => ok_region rfl (q_as _ rfl (run_nil (h1 _ ?_))); clear h1 K1
  refine ok_seq fun K2 h2 => ok_region rfl (q_mv _ rfl (q_mv _ rfl (q_len eS62 rfl (q_sub rfl rfl (by rw [List.length_map]; omega) (q_as _ rfl (run_nil (h2 _ ?_))))))); clear h2 K2
  rw [List.length_map]
  refine ok_seq fun K3 h3 => ?_
  refine ok_seq fun K4 h4 => ok_region rfl (q_mv _ rfl (q_bin _ _ _ rfl rfl rfl (run_nil (h4 _ ?_)))); clear h4 K4
  refine ok_cond rfl (fun c5 => ?_) (fun c5 => ?_)
  · refine ok_seq fun K6 h6 => ?_
    refine ok_region rfl (q_as _ rfl (run_nil (h6 _ ?_)))
    clear h6 K6
    refine ok_ret ⟨_, rfl, ?_⟩
    rw [zBlockS, szSl_pos (of_decide_eq_true c5)]; rfl
  · refine ok_skip (h3 _ ?_)
    refine ok_seq fun K7 h7 => ?_
    refine ok_seq fun K8 h8 => ok_region rfl (q_as _ rfl (run_nil (h8 _ ?_))); clear h8 K8
    refine ok_block ?_
    refine ok_loop (fun (s : Nat × Int) => ⟨[(0, .sv (eBlockS x)), (1, .sv (int s.2)), (5, .sv (int s.1))], []⟩) (fun s => 0 ≤ s.2 ∧ s.2 ≤ 1048576 ∧ szAll zBlock (x.drop s.1) s.2 = zBlockS x n) (fun s => x.length - s.1) (0, n - x.length) ⟨by have := of_decide_eq_false c5; simp only; omega, by simp only; omega, by simp only [List.drop_zero]; rw [zBlockS, szSl_neg (of_decide_eq_false c5)]⟩ (le_same ⟨rfl, rfl, rfl, trivial⟩) (fun s J => ?_)
    obtain ⟨k, a⟩ := s
    obtain ⟨J1, J2, J3⟩ := J
    simp only at J1 J2 J3
    refine ok_seq fun K9 h9 => ?_
    refine ok_seq fun K10 h10 => ok_region rfl (q_mv _ rfl (q_mv _ rfl (q_len eS62 rfl (q_bin _ _ _ rfl rfl rfl (run_nil (h10 _ ?_)))))); clear h10 K10
    rw [List.length_map]
    refine ok_cond rfl (fun c11 => ?_) (fun c11 => ?_)
    · refine ok_skip (h9 _ ?_)
      obtain ⟨u, hu⟩ := sget (l := x) (i := k) (by simpa using c11)
      rw [szAll_cons _ hu] at J3
      refine ok_seq fun K12 h12 => ?_
      refine ok_block ?_
      refine ok_seq fun K13 h13 => ok_region rfl (q_mv _ rfl (q_mv _ rfl (q_ia el62 rfl rfl (by omega) (mget hu) (q_lds _ ag25 rfl sz25 (q_mv _ rfl (q_call (f8_ok u (hx.2 u (smem hu)) a J1 J2) cl8 rfl rfl (q_as _ rfl (run_nil (h13 _ ?_))))))))); clear h13 K13
      refine ok_seq fun K14 h14 => ok_region rfl (q_mv _ rfl (q_bin _ _ _ rfl rfl rfl (run_nil (h14 _ ?_)))); clear h14 K14
      refine ok_cond rfl (fun c15 => ?_) (fun c15 => ?_)
      · refine ok_seq fun K16 h16 => ?_
        refine ok_region rfl (q_as _ rfl (run_nil (h16 _ ?_)))
        clear h16 K16
        refine ok_ret ⟨_, rfl, ?_⟩
        rw [if_pos (of_decide_eq_true c15)] at J3; rw [← J3]; rfl
      · refine ok_skip (h12 _ ?_)
        refine ok_region rfl (q_mv _ rfl (q_add rfl rfl (by have := slt hu; have := hx.1; unfold LB at this; omega) (q_as _ rfl (run_nil (⟨(k + 1, zBlock u a), by have := slt hu; simp only; omega, ⟨by have := of_decide_eq_false c15; simp only; omega, (zBlock_ok u a J2).1, by rw [if_neg (of_decide_eq_false c15)] at J3; exact J3⟩, le_same ⟨rfl, rfl, rfl, trivial⟩⟩)))))
    · refine ok_exit (h7 _ ?_)
      refine ok_seq fun K17 h17 => ok_region rfl (q_mv _ rfl (q_as _ rfl (run_nil (h17 _ ?_)))); clear h17 K17
      refine ok_ret ⟨_, rfl, ?_⟩
      rw [szAll_end _ (by simpa using c11)] at J3; rw [← J3]; rfl
theorem f37_ok (x : List Block) (hx : x.length ≤ 1048576 ∧ ∀ y ∈ x, SBlock y) : PFn Try.prog 37 [eBlockS x] (eBlockS x) := by
  have hle : x.length ≤ 1048576 := hx.1
  refine fnr_ok (n := 23) Try.func37 rfl rfl rfl (Nat.le_of_ble_eq_true rfl) rfl fun w0 O => ?_
  refine ok_seq fun K1 h1 => ok_region rfl (q_as _ rfl (run_nil (h1 _ ?_))); clear h1 K1
  refine ok_seq fun K2 h2 => ok_region rfl (q_mv _ rfl (q_len eS62 rfl (q_make _ _ el64 (by decide) ze32 rfl by32 rfl rfl rfl rfl (.inl ⟨rfl, rfl, rfl⟩) (by rw [List.length_map]; exact Nat.le_trans hle (by decide)) (by rw [List.length_map]; omega) (q_ao _ rfl (run_nil (h2 _ ?_)))))); clear h2 K2
  rw [List.length_map]
  refine ok_seq fun K3 h3 => ?_
  refine ok_seq fun K4 h4 => ok_region rfl (q_as _ rfl (run_nil (h4 _ ?_))); clear h4 K4
  refine ok_block ?_
  refine ok_loop (fun (k : Nat) => ⟨[(0, .sv (eBlockS x)), (3, .own 7), (4, .sv (int k))], [(7, .row 5 32 (fill eBlock (.agg [.raw (.int .i64 0), .raw (.int .i64 0), .raw (.int .i64 0), .raw (.slice none 0 0), .raw (.slice none 0 0)]) x k))]⟩) (fun k => k ≤ x.length) (fun k => x.length - k) 0 (Nat.zero_le _) (by rw [fill_zero]; exact le_sub ⟨rfl, rfl, rfl, trivial⟩ ⟨rfl, trivial⟩) (fun k J => ?_)
  refine ok_seq fun K5 h5 => ?_
  refine ok_seq fun K6 h6 => ok_region rfl (q_mv _ rfl (q_mv _ rfl (q_len eS62 rfl (q_bin _ _ _ rfl rfl rfl (run_nil (h6 _ ?_)))))); clear h6 K6
  rw [List.length_map]
  refine ok_cond rfl (fun c7 => ?_) (fun c7 => ?_)
  · refine ok_skip (h5 _ ?_)
    have hk : k < x.length := by simpa using c7
    obtain ⟨u, hu⟩ := sget hk
    refine ok_seq fun K8 h8 => ?_
    refine ok_block ?_
    refine ok_last fun K9 h9 => ok_region rfl (q_mo _ rfl (q_mv _ rfl (q_mv _ rfl (q_mv _ rfl (q_ia el62 rfl rfl (by omega) (mget hu) (q_lds _ ag25 rfl sz25 (q_call (f10_ok u (hx.2 u (smem hu))) cl10 rfl rfl (q_iao el64 rfl rfl rfl (by omega) (by rw [fill_len _ _ _ J]; exact hk) (
      q_ste sz32 rfl rfl (fill_get _ _ _ hk) rfl (.inl ⟨_, rfl⟩) rfl (run_nil (h9 _ (h8 _ ?_))))))))))))
    refine ok_region rfl (q_mv _ rfl (q_add rfl rfl (by omega) (q_as _ rfl (run_nil (⟨k + 1, by omega, hk, ?_⟩)))))
    rw [← fill_set eBlock (.agg [.raw (.int .i64 0), .raw (.int .i64 0), .raw (.int .i64 0), .raw (.slice none 0 0), .raw (.slice none 0 0)]) hu]
    exact le_sub ⟨rfl, rfl, rfl, trivial⟩ ⟨rfl, trivial⟩
  · refine ok_exit (h3 _ ?_)
    refine ok_seq fun K9 h9 => ok_region rfl (q_mo _ rfl (q_ao _ rfl (run_nil (h9 _ ?_)))); clear h9 K9
    refine ok_ret ⟨_, ⟨_, _, rfl, rfl, rfl⟩, ?_⟩
    rw [fill_all _ _ _ (by simpa using c7)]; rfl
theorem f39_ok (x : List Block) (hx : x.length ≤ 1048576 ∧ ∀ y ∈ x, SBlock y) : PFn Try.prog 39 [eBlockS x, eBlockS x] (bool true) := by
  have hle : x.length ≤ 1048576 := hx.1
  refine fn_ok' (n := 27) Try.func39 rfl rfl rfl (Nat.le_of_ble_eq_true rfl) rfl fun w0 O => ?_
  refine ok_seq fun K1 h1 => ok_region rfl (q_as _ rfl (run_nil (h1 _ ?_))); clear h1 K1
  refine ok_seq fun K2 h2 => ?_
  refine ok_seq fun K3 h3 => ok_region rfl (q_mv _ rfl (q_len eS64 rfl (q_mv _ rfl (q_len eS64 rfl (q_bin _ _ _ rfl rfl rfl (run_nil (h3 _ ?_))))))); clear h3 K3
  refine ok_cond rfl (fun c4 => ?_) (fun c4 => ?_)
  · simp at c4
  · refine ok_skip (h2 _ ?_)
    refine ok_seq fun K6 h6 => ?_
    refine ok_seq fun K7 h7 => ok_region rfl (q_as _ rfl (run_nil (h7 _ ?_))); clear h7 K7
    refine ok_block ?_
    refine ok_loop (fun (k : Nat) => ⟨[(0, .sv (eBlockS x)), (1, .sv (eBlockS x)), (5, .sv (int k))], []⟩) (fun k => True) (fun k => x.length - k) 0 trivial (le_same ⟨rfl, rfl, rfl, trivial⟩) (fun k J => ?_)
    refine ok_seq fun K8 h8 => ?_
    refine ok_seq fun K9 h9 => ok_region rfl (q_mv _ rfl (q_mv _ rfl (q_len eS64 rfl (q_bin _ _ _ rfl rfl rfl (run_nil (h9 _ ?_)))))); clear h9 K9
    rw [List.length_map]
    refine ok_cond rfl (fun c10 => ?_) (fun c10 => ?_)
    · refine ok_skip (h8 _ ?_)
      have hk : k < x.length := by simpa using c10
      obtain ⟨u, hu⟩ := sget hk
      refine ok_seq fun K11 h11 => ?_
      refine ok_block ?_
      refine ok_seq fun K12 h12 => ?_
      refine ok_region_i (by kernel_rfl) (by kernel_rfl) rfl (
        q_mv _ rfl (q_mv _ rfl (q_ia el64 rfl rfl (by omega) (mget hu) (q_lds _ ag32 rfl sz32 (q_mv _ rfl (q_mv _ rfl (q_ia el64 rfl rfl (by omega) (mget hu) (q_lds _ ag32 rfl sz32 (
        q_call (f13_ok u (hx.2 u (smem hu))) cl13 rfl rfl (q_un _ _ rfl rfl (run_nil (h12 _ ?_))))))))))))
      clear h12 K12
      refine ok_cond rfl (fun c13 => ?_) (fun c13 => ?_)
      · simp at c13
      · refine ok_skip (h11 _ ?_)
        refine ok_region rfl (q_mv _ rfl (q_add rfl rfl (by omega) (q_as _ rfl (run_nil (⟨k + 1, by omega, trivial, le_same ⟨rfl, rfl, rfl, trivial⟩⟩)))))
    · refine ok_exit (h6 _ ?_)
      refine ok_seq fun K15 h15 => ok_region rfl (q_as _ rfl (run_nil (h15 _ ?_))); clear h15 K15
      exact ok_ret ⟨_, rfl, rfl⟩
end Go.Ring
