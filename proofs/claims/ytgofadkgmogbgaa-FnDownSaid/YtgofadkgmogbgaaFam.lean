/- The laws' own types: their bulk, their copies, their likeness, and how they open. No condition. -/
import Derived.Test.YtgofadkgmogbgaaFacts
namespace Go.Ring
open Go Go.RowKit Go.Eager Go.Abs Go.Proofs
set_option maxRecDepth 100000
set_option linter.unusedVariables false
set_option linter.unusedSimpArgs false
structure Label where
  name : ByteArray
  value : ByteArray
@[reducible] def eLabel (x : Label) : SV := .agg [str x.name, str x.value]
def LLabel (x : Label) : Prop := LB x.name.size ∧ LB x.value.size
def SLabel (x : Label) : Prop := x.name.size ≤ 1048576 ∧ x.value.size ≤ 1048576
theorem op_Label : Opens Try.prog 254 eLabel (fun y => LLabel y) :=
  op_iso (fun y : ByteArray × ByteArray × Unit => (⟨y.1, y.2.1⟩ : Label)) (fun _ => rfl) (fun y h => ⟨h.1, h.2.1⟩)
    (op_struct (n := 2) Try.underlying254 (by kernel_rfl) (ofs_cons (f := { name := "Name", type := 9, offset := 0, embedded := false, tag := "", pkgPath := "", byteOffset := 0 }) (n := 1) (m := 1) rfl (by kernel_rfl) (fun _ => ⟨.inr rfl, rfl⟩) (op_string Try.underlying9) (ofs_cons (f := { name := "Value", type := 9, offset := 1, embedded := false, tag := "", pkgPath := "", byteOffset := 16 }) (n := 1) (m := 0) rfl (by kernel_rfl) (fun _ => ⟨.inr rfl, rfl⟩) (op_string Try.underlying9) ofs_nil)))
def zLabel (x : Label) (n : Int) : Int := (stp (fun n => take n x.name.size) ((fun n => take n x.value.size))) n
theorem zLabel_ok (x : Label) : GOk (zLabel x) (SLabel x) := (stp_ok (take_ok _) (take_ok _))
theorem f223_ok (x : Label) (hx : LLabel x) (n : Int) (h0 : 0 ≤ n) (hn : n ≤ 1048576) : PFn Try.prog 223 [eLabel x, int n] (int (zLabel x n)) := by
  have e0 : zLabel x n = (stp (fun n => take n x.name.size) ((fun n => take n x.value.size))) n := rfl
  have a0 := h0
  have b0 := hn
  have l0 := hx.1; unfold LB at l0
  have l1 := hx.2; unfold LB at l1
  refine fn_ok' (n := 20) Try.func223 rfl rfl rfl (Nat.le_of_ble_eq_true rfl) rfl fun w0 O => ?_
  refine ok_seq fun K1 h1 => ok_region rfl (q_boxs _ rfl (Nat.zero_lt_succ _) (q_as _ rfl (run_nil (h1 _ ?_)))); clear h1 K1
  refine ok_seq fun K2 h2 => ok_region rfl (q_mv _ rfl (q_fa _ fd254_0 rfl rfl (by decide) (q_ld _ ag9 rfl rfl (q_lens st9 rfl (q_sub rfl rfl (by omega) (q_as _ rfl (run_nil (h2 _ ?_)))))))); clear h2 K2
  refine ok_seq fun K3 h3 => ?_
  refine ok_seq fun K4 h4 => ok_region rfl (q_mv _ rfl (q_bin _ _ _ rfl rfl rfl (run_nil (h4 _ ?_)))); clear h4 K4
  refine ok_cond rfl (fun c5 => ?_) (fun c5 => ?_)
  · refine ok_seq fun K6 h6 => ?_
    refine ok_region rfl (q_as _ rfl (run_nil (h6 _ ?_)))
    clear h6 K6
    refine ok_ret ⟨_, rfl, ?_⟩
    rw [e0, stp_pos (by show take _ _ < 0; rw [take_pos (of_decide_eq_true c5)]; decide)]; rfl
  · refine ok_skip (h3 _ ?_)
    have t0 := take_neg (of_decide_eq_false c5)
    have e1 : zLabel x n = ((fun n => take n x.value.size)) (n - (x.name.size : Int)) := by rw [e0, stp_neg (by show ¬ take _ _ < 0; rw [t0]; exact of_decide_eq_false c5)]; exact congrArg ((fun n => take n x.value.size)) t0
    have a1 : 0 ≤ (n - (x.name.size : Int)) := by have := of_decide_eq_false c5; omega
    have b1 : (n - (x.name.size : Int)) ≤ 1048576 := by omega
    refine ok_seq fun K7 h7 => ok_region rfl (q_mv _ rfl (q_fa _ fd254_1 rfl rfl (by decide) (q_ld _ ag9 rfl rfl (q_lens st9 rfl (q_sub rfl rfl (by omega) (q_as _ rfl (run_nil (h7 _ ?_)))))))); clear h7 K7
    refine ok_seq fun K8 h8 => ?_
    refine ok_seq fun K9 h9 => ok_region rfl (q_mv _ rfl (q_bin _ _ _ rfl rfl rfl (run_nil (h9 _ ?_)))); clear h9 K9
    refine ok_cond rfl (fun c10 => ?_) (fun c10 => ?_)
    · refine ok_seq fun K11 h11 => ?_
      refine ok_region rfl (q_as _ rfl (run_nil (h11 _ ?_)))
      clear h11 K11
      refine ok_ret ⟨_, rfl, ?_⟩
      rw [e1]; show _ = int (take _ _); rw [take_pos (of_decide_eq_true c10)]; rfl
    · refine ok_skip (h8 _ ?_)
      refine ok_seq fun K12 h12 => ok_region rfl (q_mv _ rfl (q_as _ rfl (run_nil (h12 _ ?_)))); clear h12 K12
      refine ok_ret ⟨_, rfl, ?_⟩
      rw [e1]; show _ = int (take _ _); rw [take_neg (of_decide_eq_false c10)]; rfl
theorem f225_ok (x : Label) (hx : SLabel x) : PFn Try.prog 225 [eLabel x] (eLabel x) := by
  refine fnr_ok (n := 11) Try.func225 rfl rfl rfl (Nat.le_of_ble_eq_true rfl) rfl fun w0 O => ?_
  refine ok_seq fun K1 h1 => ok_region rfl (q_boxs _ rfl (Nat.zero_lt_succ _) (q_alloc _ ze71 rfl rfl rfl rfl (run_nil (h1 _ ?_)))); clear h1 K1
  refine ok_seq fun K2 h2 => ok_region rfl (q_alloc _ ze71 rfl rfl rfl rfl (run_nil (h2 _ ?_))); clear h2 K2
  refine ok_seq fun K3 h3 => ok_region rfl (q_fa _ fd254_0 rfl rfl (by decide) (q_ld _ ag9 rfl rfl (q_fap fd71_0 rfl (by decide) (q_st _ sz9 rfl rfl (Nat.le_of_ble_eq_true rfl) rfl ⟨_, rfl, rfl⟩ rfl (run_nil (h3 _ ?_)))))); clear h3 K3
  refine ok_seq fun K4 h4 => ok_region rfl (q_fa _ fd254_1 rfl rfl (by decide) (q_ld _ ag9 rfl rfl (q_fap fd71_1 rfl (by decide) (q_st _ sz9 rfl rfl (Nat.le_of_ble_eq_true rfl) rfl ⟨_, rfl, rfl⟩ rfl (run_nil (h4 _ ?_)))))); clear h4 K4
  refine ok_seq fun K5 h5 => ok_region rfl (q_ldbs ag71 rfl rfl sz71 rfl rfl (q_sts _ rfl rfl rfl sz71 (Nat.le_of_ble_eq_true rfl) rfl (run_nil (h5 _ ?_)))); clear h5 K5
  exact ok_ret (ret_cell (l := [str x.name, str x.value]) rfl rfl ag71 sz71 rfl rfl)
theorem f226_ok (x : Label) (hx : SLabel x) : PFn Try.prog 226 [eLabel x, eLabel x] (bool true) := by
  refine fn_ok' (n := 15) Try.func226 rfl rfl rfl (Nat.le_of_ble_eq_true rfl) rfl fun w0 O => ?_
  refine ok_seq fun K1 h1 => ok_region rfl (q_boxs _ rfl (Nat.zero_lt_succ _) (q_boxs _ rfl (Nat.zero_lt_succ _) (q_as _ rfl (run_nil (h1 _ ?_))))); clear h1 K1
  refine ok_seq fun K2 h2 => ?_
  refine ok_seq fun K3 h3 => ok_region rfl (q_fa _ fd71_0 rfl rfl (by decide) (q_ld _ ag9 rfl rfl (q_fa _ fd71_0 rfl rfl (by decide) (q_ld _ ag9 rfl rfl (q_bin _ _ _ rfl rfl rfl (run_nil (h3 _ ?_))))))); clear h3 K3
  refine ok_cond rfl (fun c4 => ?_) (fun c4 => ?_)
  · simp at c4
  · refine ok_skip (h2 _ ?_)
    refine ok_seq fun K6 h6 => ?_
    refine ok_seq fun K7 h7 => ok_region rfl (q_fa _ fd71_1 rfl rfl (by decide) (q_ld _ ag9 rfl rfl (q_fa _ fd71_1 rfl rfl (by decide) (q_ld _ ag9 rfl rfl (q_bin _ _ _ rfl rfl rfl (run_nil (h7 _ ?_))))))); clear h7 K7
    refine ok_cond rfl (fun c8 => ?_) (fun c8 => ?_)
    · simp at c8
    · refine ok_skip (h6 _ ?_)
      refine ok_seq fun K10 h10 => ok_region rfl (q_as _ rfl (run_nil (h10 _ ?_))); clear h10 K10
      exact ok_ret ⟨_, rfl, rfl⟩
@[reducible] def eLabelS (l : List Label) : SV := .sl 2 (l.map eLabel)
theorem op_LabelS : Opens Try.prog 172 eLabelS (fun y => LB y.length ∧ ∀ z ∈ y, LLabel z) :=
  op_iso (fun y : List Label => y) (fun _ => rfl) (fun y h => h) (op_slice (n := 2) Try.underlying172 (by kernel_rfl) (by decide) (fun _ => ⟨.inl ⟨_, rfl⟩, rfl⟩) op_Label)
def zLabelS (x : List Label) (n : Int) : Int := szSl zLabel x n
theorem zLabelS_ok (x : List Label) : GOk (zLabelS x) (x.length ≤ 1048576 ∧ ∀ y ∈ x, SLabel y) := szSl_ok zLabel_ok x
theorem f188_ok (x : List Label) (hx : LB x.length ∧ ∀ y ∈ x, LLabel y) (n : Int) (h0 : 0 ≤ n) (hn : n ≤ 1048576) : PFn Try.prog 188 [eLabelS x, int n] (int (zLabelS x n)) := by
  have hx1 := hx.1
  unfold LB at hx1
  refine fn_ok' (n := 27) Try.func188 rfl rfl rfl (Nat.le_of_ble_eq_true rfl) rfl fun w0 O => ?_
  refine ok_seq fun K1 h1 => ok_region rfl (q_as _ rfl (run_nil (h1 _ ?_))); clear h1 K1
  refine ok_seq fun K2 h2 => ok_region rfl (q_mv _ rfl (q_mv _ rfl (q_len eS172 rfl (q_sub rfl rfl (by rw [List.length_map]; omega) (q_as _ rfl (run_nil (h2 _ ?_))))))); clear h2 K2
  rw [List.length_map]
  refine ok_seq fun K3 h3 => ?_
  refine ok_seq fun K4 h4 => ok_region rfl (q_mv _ rfl (q_bin _ _ _ rfl rfl rfl (run_nil (h4 _ ?_)))); clear h4 K4
  refine ok_cond rfl (fun c5 => ?_) (fun c5 => ?_)
  · refine ok_seq fun K6 h6 => ?_
    refine ok_region rfl (q_as _ rfl (run_nil (h6 _ ?_)))
    clear h6 K6
    refine ok_ret ⟨_, rfl, ?_⟩
    rw [zLabelS, szSl_pos (of_decide_eq_true c5)]; rfl
  · refine ok_skip (h3 _ ?_)
    refine ok_seq fun K7 h7 => ?_
    refine ok_seq fun K8 h8 => ok_region rfl (q_as _ rfl (run_nil (h8 _ ?_))); clear h8 K8
    refine ok_block ?_
    refine ok_loop (fun (s : Nat × Int) => ⟨[(0, .sv (eLabelS x)), (1, .sv (int s.2)), (5, .sv (int s.1))], []⟩) (fun s => 0 ≤ s.2 ∧ s.2 ≤ 1048576 ∧ szAll zLabel (x.drop s.1) s.2 = zLabelS x n) (fun s => x.length - s.1) (0, n - x.length) ⟨by have := of_decide_eq_false c5; simp only; omega, by simp only; omega, by simp only [List.drop_zero]; rw [zLabelS, szSl_neg (of_decide_eq_false c5)]⟩ (le_same ⟨rfl, rfl, rfl, trivial⟩) (fun s J => ?_)
    obtain ⟨k, a⟩ := s
    obtain ⟨J1, J2, J3⟩ := J
    simp only at J1 J2 J3
    refine ok_seq fun K9 h9 => ?_
    refine ok_seq fun K10 h10 => ok_region rfl (q_mv _ rfl (q_mv _ rfl (q_len eS172 rfl (q_bin _ _ _ rfl rfl rfl (run_nil (h10 _ ?_)))))); clear h10 K10
    rw [List.length_map]
    refine ok_cond rfl (fun c11 => ?_) (fun c11 => ?_)
    · refine ok_skip (h9 _ ?_)
      obtain ⟨u, hu⟩ := sget (l := x) (i := k) (by simpa using c11)
      rw [szAll_cons _ hu] at J3
      refine ok_seq fun K12 h12 => ?_
      refine ok_block ?_
      refine ok_seq fun K13 h13 => ok_region rfl (q_mv _ rfl (q_mv _ rfl (q_ia el172 rfl rfl (by omega) (mget hu) (q_lds _ ag254 rfl sz254 (q_mv _ rfl (q_call (f223_ok u (hx.2 u (smem hu)) a J1 J2) cl223 rfl rfl (q_as _ rfl (run_nil (h13 _ ?_))))))))); clear h13 K13
      refine ok_seq fun K14 h14 => ok_region rfl (q_mv _ rfl (q_bin _ _ _ rfl rfl rfl (run_nil (h14 _ ?_)))); clear h14 K14
      refine ok_cond rfl (fun c15 => ?_) (fun c15 => ?_)
      · refine ok_seq fun K16 h16 => ?_
        refine ok_region rfl (q_as _ rfl (run_nil (h16 _ ?_)))
        clear h16 K16
        refine ok_ret ⟨_, rfl, ?_⟩
        rw [if_pos (of_decide_eq_true c15)] at J3; rw [← J3]; rfl
      · refine ok_skip (h12 _ ?_)
        refine ok_region rfl (q_mv _ rfl (q_add rfl rfl (by have := slt hu; have := hx.1; unfold LB at this; omega) (q_as _ rfl (run_nil (⟨(k + 1, zLabel u a), by have := slt hu; simp only; omega, ⟨by have := of_decide_eq_false c15; simp only; omega, (zLabel_ok u a J2).1, by rw [if_neg (of_decide_eq_false c15)] at J3; exact J3⟩, le_same ⟨rfl, rfl, rfl, trivial⟩⟩)))))
    · refine ok_exit (h7 _ ?_)
      refine ok_seq fun K17 h17 => ok_region rfl (q_mv _ rfl (q_as _ rfl (run_nil (h17 _ ?_)))); clear h17 K17
      refine ok_ret ⟨_, rfl, ?_⟩
      rw [szAll_end _ (by simpa using c11)] at J3; rw [← J3]; rfl
theorem f192_ok (x : List Label) (hx : x.length ≤ 1048576 ∧ ∀ y ∈ x, SLabel y) : PFn Try.prog 192 [eLabelS x] (eLabelS x) := by
  have hle : x.length ≤ 1048576 := hx.1
  refine fnr_ok (n := 23) Try.func192 rfl rfl rfl (Nat.le_of_ble_eq_true rfl) rfl fun w0 O => ?_
  refine ok_seq fun K1 h1 => ok_region rfl (q_as _ rfl (run_nil (h1 _ ?_))); clear h1 K1
  refine ok_seq fun K2 h2 => ok_region rfl (q_mv _ rfl (q_len eS172 rfl (q_make _ _ el61 (by decide) ze71 rfl by71 rfl rfl rfl rfl (.inl ⟨rfl, rfl, rfl⟩) (by rw [List.length_map]; exact Nat.le_trans hle (by decide)) (by rw [List.length_map]; omega) (q_ao _ rfl (run_nil (h2 _ ?_)))))); clear h2 K2
  rw [List.length_map]
  refine ok_seq fun K3 h3 => ?_
  refine ok_seq fun K4 h4 => ok_region rfl (q_as _ rfl (run_nil (h4 _ ?_))); clear h4 K4
  refine ok_block ?_
  refine ok_loop (fun (k : Nat) => ⟨[(0, .sv (eLabelS x)), (3, .own 7), (4, .sv (int k))], [(7, .row 2 71 (fill eLabel (.agg [.raw (.string ⟨#[]⟩), .raw (.string ⟨#[]⟩)]) x k))]⟩) (fun k => k ≤ x.length) (fun k => x.length - k) 0 (Nat.zero_le _) (by rw [fill_zero]; exact le_sub ⟨rfl, rfl, rfl, trivial⟩ ⟨rfl, trivial⟩) (fun k J => ?_)
  refine ok_seq fun K5 h5 => ?_
  refine ok_seq fun K6 h6 => ok_region rfl (q_mv _ rfl (q_mv _ rfl (q_len eS172 rfl (q_bin _ _ _ rfl rfl rfl (run_nil (h6 _ ?_)))))); clear h6 K6
  rw [List.length_map]
  refine ok_cond rfl (fun c7 => ?_) (fun c7 => ?_)
  · refine ok_skip (h5 _ ?_)
    have hk : k < x.length := by simpa using c7
    obtain ⟨u, hu⟩ := sget hk
    refine ok_seq fun K8 h8 => ?_
    refine ok_block ?_
    refine ok_last fun K9 h9 => ok_region rfl (q_mo _ rfl (q_mv _ rfl (q_mv _ rfl (q_mv _ rfl (q_ia el172 rfl rfl (by omega) (mget hu) (q_lds _ ag254 rfl sz254 (q_call (f225_ok u (hx.2 u (smem hu))) cl225 rfl rfl (q_iao el61 rfl rfl rfl (by omega) (by rw [fill_len _ _ _ J]; exact hk) (
      q_ste sz71 rfl rfl (fill_get _ _ _ hk) rfl (.inl ⟨_, rfl⟩) rfl (run_nil (h9 _ (h8 _ ?_))))))))))))
    refine ok_region rfl (q_mv _ rfl (q_add rfl rfl (by omega) (q_as _ rfl (run_nil (⟨k + 1, by omega, hk, ?_⟩)))))
    rw [← fill_set eLabel (.agg [.raw (.string ⟨#[]⟩), .raw (.string ⟨#[]⟩)]) hu]
    exact le_sub ⟨rfl, rfl, rfl, trivial⟩ ⟨rfl, trivial⟩
  · refine ok_exit (h3 _ ?_)
    refine ok_seq fun K9 h9 => ok_region rfl (q_mo _ rfl (q_ao _ rfl (run_nil (h9 _ ?_)))); clear h9 K9
    refine ok_ret ⟨_, ⟨_, _, rfl, rfl, rfl⟩, ?_⟩
    rw [fill_all _ _ _ (by simpa using c7)]; rfl
theorem f194_ok (x : List Label) (hx : x.length ≤ 1048576 ∧ ∀ y ∈ x, SLabel y) : PFn Try.prog 194 [eLabelS x, eLabelS x] (bool true) := by
  have hle : x.length ≤ 1048576 := hx.1
  refine fn_ok' (n := 27) Try.func194 rfl rfl rfl (Nat.le_of_ble_eq_true rfl) rfl fun w0 O => ?_
  refine ok_seq fun K1 h1 => ok_region rfl (q_as _ rfl (run_nil (h1 _ ?_))); clear h1 K1
  refine ok_seq fun K2 h2 => ?_
  refine ok_seq fun K3 h3 => ok_region rfl (q_mv _ rfl (q_len eS61 rfl (q_mv _ rfl (q_len eS61 rfl (q_bin _ _ _ rfl rfl rfl (run_nil (h3 _ ?_))))))); clear h3 K3
  refine ok_cond rfl (fun c4 => ?_) (fun c4 => ?_)
  · simp at c4
  · refine ok_skip (h2 _ ?_)
    refine ok_seq fun K6 h6 => ?_
    refine ok_seq fun K7 h7 => ok_region rfl (q_as _ rfl (run_nil (h7 _ ?_))); clear h7 K7
    refine ok_block ?_
    refine ok_loop (fun (k : Nat) => ⟨[(0, .sv (eLabelS x)), (1, .sv (eLabelS x)), (5, .sv (int k))], []⟩) (fun k => True) (fun k => x.length - k) 0 trivial (le_same ⟨rfl, rfl, rfl, trivial⟩) (fun k J => ?_)
    refine ok_seq fun K8 h8 => ?_
    refine ok_seq fun K9 h9 => ok_region rfl (q_mv _ rfl (q_mv _ rfl (q_len eS61 rfl (q_bin _ _ _ rfl rfl rfl (run_nil (h9 _ ?_)))))); clear h9 K9
    rw [List.length_map]
    refine ok_cond rfl (fun c10 => ?_) (fun c10 => ?_)
    · refine ok_skip (h8 _ ?_)
      have hk : k < x.length := by simpa using c10
      obtain ⟨u, hu⟩ := sget hk
      refine ok_seq fun K11 h11 => ?_
      refine ok_block ?_
      refine ok_seq fun K12 h12 => ?_
      refine ok_region_i (by kernel_rfl) (by kernel_rfl) rfl (
        q_mv _ rfl (q_mv _ rfl (q_ia el61 rfl rfl (by omega) (mget hu) (q_lds _ ag71 rfl sz71 (q_mv _ rfl (q_mv _ rfl (q_ia el61 rfl rfl (by omega) (mget hu) (q_lds _ ag71 rfl sz71 (
        q_call (f226_ok u (hx.2 u (smem hu))) cl226 rfl rfl (q_un _ _ rfl rfl (run_nil (h12 _ ?_))))))))))))
      clear h12 K12
      refine ok_cond rfl (fun c13 => ?_) (fun c13 => ?_)
      · simp at c13
      · refine ok_skip (h11 _ ?_)
        refine ok_region rfl (q_mv _ rfl (q_add rfl rfl (by omega) (q_as _ rfl (run_nil (⟨k + 1, by omega, trivial, le_same ⟨rfl, rfl, rfl, trivial⟩⟩)))))
    · refine ok_exit (h6 _ ?_)
      refine ok_seq fun K15 h15 => ok_region rfl (q_as _ rfl (run_nil (h15 _ ?_))); clear h15 K15
      exact ok_ret ⟨_, rfl, rfl⟩
structure Put where
  labels : List Label
  time : Int
  value : Int
@[reducible] def ePut (x : Put) : SV := .agg [eLabelS x.labels, int x.time, int x.value]
def LPut (x : Put) : Prop := LB x.labels.length ∧ ∀ y ∈ x.labels, LLabel y
def SPut (x : Put) : Prop := x.labels.length ≤ 1048576 ∧ ∀ y ∈ x.labels, SLabel y
theorem op_Put : Opens Try.prog 174 ePut (fun y => LPut y) :=
  op_iso (fun y : (List Label) × Int × Int × Unit => (⟨y.1, y.2.1, y.2.2.1⟩ : Put)) (fun _ => rfl) (fun y h => h.1)
    (op_struct (n := 3) Try.underlying174 (by kernel_rfl) (ofs_cons (f := { name := "Labels", type := 172, offset := 0, embedded := false, tag := "", pkgPath := "", byteOffset := 0 }) (n := 1) (m := 2) rfl (by kernel_rfl) (fun _ => ⟨.inr rfl, rfl⟩) op_LabelS (ofs_cons (f := { name := "Time", type := 3, offset := 1, embedded := false, tag := "", pkgPath := "", byteOffset := 24 }) (n := 1) (m := 1) rfl (by kernel_rfl) (fun _ => ⟨.inr rfl, rfl⟩) (op_int Try.underlying3) (ofs_cons (f := { name := "Value", type := 3, offset := 2, embedded := false, tag := "", pkgPath := "", byteOffset := 32 }) (n := 1) (m := 0) rfl (by kernel_rfl) (fun _ => ⟨.inr rfl, rfl⟩) (op_int Try.underlying3) ofs_nil))))
def zPut (x : Put) (n : Int) : Int := ((zLabelS x.labels)) n
theorem zPut_ok (x : Put) : GOk (zPut x) (SPut x) := (zLabelS_ok x.labels)
theorem f122_ok (x : Put) (hx : LPut x) (n : Int) (h0 : 0 ≤ n) (hn : n ≤ 1048576) : PFn Try.prog 122 [ePut x, int n] (int (zPut x n)) := by
  have e0 : zPut x n = ((zLabelS x.labels)) n := rfl
  have a0 := h0
  have b0 := hn
  refine fn_ok' (n := 12) Try.func122 rfl rfl rfl (Nat.le_of_ble_eq_true rfl) rfl fun w0 O => ?_
  refine ok_seq fun K1 h1 => ok_region rfl (q_boxs _ rfl (Nat.zero_lt_succ _) (q_as _ rfl (run_nil (h1 _ ?_)))); clear h1 K1
  refine ok_seq fun K2 h2 => ok_region rfl (q_fa _ fd174_0 rfl rfl (by decide) (q_ld _ ag172 rfl rfl (q_mv _ rfl (q_call (f188_ok x.labels (hx) _ a0 b0) cl188 rfl rfl (q_as _ rfl (run_nil (h2 _ ?_))))))); clear h2 K2
  refine ok_seq fun K3 h3 => ?_
  refine ok_seq fun K4 h4 => ok_region rfl (q_mv _ rfl (q_bin _ _ _ rfl rfl rfl (run_nil (h4 _ ?_)))); clear h4 K4
  refine ok_cond rfl (fun c5 => ?_) (fun c5 => ?_)
  · refine ok_seq fun K6 h6 => ?_
    refine ok_region rfl (q_as _ rfl (run_nil (h6 _ ?_)))
    clear h6 K6
    refine ok_ret ⟨_, rfl, ?_⟩
    rw [e0]; rw [((zLabelS_ok x.labels) _ b0).2.1 (of_decide_eq_true c5)]; rfl
  · refine ok_skip (h3 _ ?_)
    refine ok_seq fun K7 h7 => ok_region rfl (q_mv _ rfl (q_as _ rfl (run_nil (h7 _ ?_)))); clear h7 K7
    refine ok_ret ⟨_, rfl, ?_⟩
    rw [e0]; rfl
theorem f125_ok (x : Put) (hx : SPut x) : PFn Try.prog 125 [ePut x] (ePut x) := by
  refine fnr_ok (n := 15) Try.func125 rfl rfl rfl (Nat.le_of_ble_eq_true rfl) rfl fun w0 O => ?_
  refine ok_seq fun K1 h1 => ok_region rfl (q_boxs _ rfl (Nat.zero_lt_succ _) (q_alloc _ ze152 rfl rfl rfl rfl (run_nil (h1 _ ?_)))); clear h1 K1
  refine ok_seq fun K2 h2 => ok_region rfl (q_alloc _ ze152 rfl rfl rfl rfl (run_nil (h2 _ ?_))); clear h2 K2
  refine ok_seq fun K3 h3 => ok_region rfl (q_fa _ fd174_0 rfl rfl (by decide) (q_ld _ ag172 rfl rfl (q_call (f192_ok x.labels (hx)) cl192 rfl rfl (q_fap fd152_0 rfl (by decide) (q_st _ sz61 rfl rfl (Nat.le_of_ble_eq_true rfl) rfl ⟨_, rfl, rfl⟩ rfl (run_nil (h3 _ ?_))))))); clear h3 K3
  refine ok_seq fun K4 h4 => ok_region rfl (q_fa _ fd174_1 rfl rfl (by decide) (q_ld _ ag3 rfl rfl (q_fap fd152_1 rfl (by decide) (q_st _ sz3 rfl rfl (Nat.le_of_ble_eq_true rfl) rfl ⟨_, rfl, rfl⟩ rfl (run_nil (h4 _ ?_)))))); clear h4 K4
  refine ok_seq fun K5 h5 => ok_region rfl (q_fa _ fd174_2 rfl rfl (by decide) (q_ld _ ag3 rfl rfl (q_fap fd152_2 rfl (by decide) (q_st _ sz3 rfl rfl (Nat.le_of_ble_eq_true rfl) rfl ⟨_, rfl, rfl⟩ rfl (run_nil (h5 _ ?_)))))); clear h5 K5
  refine ok_seq fun K6 h6 => ok_region rfl (q_ldbs ag152 rfl rfl sz152 rfl rfl (q_sts _ rfl rfl rfl sz152 (Nat.le_of_ble_eq_true rfl) rfl (run_nil (h6 _ ?_)))); clear h6 K6
  exact ok_ret (ret_cell (l := [eLabelS x.labels, int x.time, int x.value]) rfl rfl ag152 sz152 rfl rfl)
theorem f128_ok (x : Put) (hx : SPut x) : PFn Try.prog 128 [ePut x, ePut x] (bool true) := by
  refine fn_ok' (n := 21) Try.func128 rfl rfl rfl (Nat.le_of_ble_eq_true rfl) rfl fun w0 O => ?_
  refine ok_seq fun K1 h1 => ok_region rfl (q_boxs _ rfl (Nat.zero_lt_succ _) (q_boxs _ rfl (Nat.zero_lt_succ _) (q_as _ rfl (run_nil (h1 _ ?_))))); clear h1 K1
  refine ok_seq fun K2 h2 => ?_
  refine ok_seq fun K3 h3 => ok_region rfl (q_fa _ fd152_0 rfl rfl (by decide) (q_ld _ ag61 rfl rfl (q_fa _ fd152_0 rfl rfl (by decide) (q_ld _ ag61 rfl rfl (q_call (f194_ok x.labels (hx)) cl194 rfl rfl (q_un _ _ rfl rfl (run_nil (h3 _ ?_)))))))); clear h3 K3
  refine ok_cond rfl (fun c4 => ?_) (fun c4 => ?_)
  · simp at c4
  · refine ok_skip (h2 _ ?_)
    refine ok_seq fun K6 h6 => ?_
    refine ok_seq fun K7 h7 => ok_region rfl (q_fa _ fd152_1 rfl rfl (by decide) (q_ld _ ag3 rfl rfl (q_fa _ fd152_1 rfl rfl (by decide) (q_ld _ ag3 rfl rfl (q_bin _ _ _ rfl rfl rfl (run_nil (h7 _ ?_))))))); clear h7 K7
    refine ok_cond rfl (fun c8 => ?_) (fun c8 => ?_)
    · simp at c8
    · refine ok_skip (h6 _ ?_)
      refine ok_seq fun K10 h10 => ?_
      refine ok_seq fun K11 h11 => ok_region rfl (q_fa _ fd152_2 rfl rfl (by decide) (q_ld _ ag3 rfl rfl (q_fa _ fd152_2 rfl rfl (by decide) (q_ld _ ag3 rfl rfl (q_bin _ _ _ rfl rfl rfl (run_nil (h11 _ ?_))))))); clear h11 K11
      refine ok_cond rfl (fun c12 => ?_) (fun c12 => ?_)
      · simp at c12
      · refine ok_skip (h10 _ ?_)
        refine ok_seq fun K14 h14 => ok_region rfl (q_as _ rfl (run_nil (h14 _ ?_))); clear h14 K14
        exact ok_ret ⟨_, rfl, rfl⟩
@[reducible] def ePutS (l : List Put) : SV := .sl 3 (l.map ePut)
theorem op_PutS : Opens Try.prog 75 ePutS (fun y => LB y.length ∧ ∀ z ∈ y, LPut z) :=
  op_iso (fun y : List Put => y) (fun _ => rfl) (fun y h => h) (op_slice (n := 3) Try.underlying75 (by kernel_rfl) (by decide) (fun _ => ⟨.inl ⟨_, rfl⟩, rfl⟩) op_Put)
def zPutS (x : List Put) (n : Int) : Int := szSl zPut x n
theorem zPutS_ok (x : List Put) : GOk (zPutS x) (x.length ≤ 1048576 ∧ ∀ y ∈ x, SPut y) := szSl_ok zPut_ok x
theorem f38_ok (x : List Put) (hx : LB x.length ∧ ∀ y ∈ x, LPut y) (n : Int) (h0 : 0 ≤ n) (hn : n ≤ 1048576) : PFn Try.prog 38 [ePutS x, int n] (int (zPutS x n)) := by
  have hx1 := hx.1
  unfold LB at hx1
  refine fn_ok' (n := 27) Try.func38 rfl rfl rfl (Nat.le_of_ble_eq_true rfl) rfl fun w0 O => ?_
  refine ok_seq fun K1 h1 => ok_region rfl (q_as _ rfl (run_nil (h1 _ ?_))); clear h1 K1
  refine ok_seq fun K2 h2 => ok_region rfl (q_mv _ rfl (q_mv _ rfl (q_len eS75 rfl (q_sub rfl rfl (by rw [List.length_map]; omega) (q_as _ rfl (run_nil (h2 _ ?_))))))); clear h2 K2
  rw [List.length_map]
  refine ok_seq fun K3 h3 => ?_
  refine ok_seq fun K4 h4 => ok_region rfl (q_mv _ rfl (q_bin _ _ _ rfl rfl rfl (run_nil (h4 _ ?_)))); clear h4 K4
  refine ok_cond rfl (fun c5 => ?_) (fun c5 => ?_)
  · refine ok_seq fun K6 h6 => ?_
    refine ok_region rfl (q_as _ rfl (run_nil (h6 _ ?_)))
    clear h6 K6
    refine ok_ret ⟨_, rfl, ?_⟩
    rw [zPutS, szSl_pos (of_decide_eq_true c5)]; rfl
  · refine ok_skip (h3 _ ?_)
    refine ok_seq fun K7 h7 => ?_
    refine ok_seq fun K8 h8 => ok_region rfl (q_as _ rfl (run_nil (h8 _ ?_))); clear h8 K8
    refine ok_block ?_
    refine ok_loop (fun (s : Nat × Int) => ⟨[(0, .sv (ePutS x)), (1, .sv (int s.2)), (5, .sv (int s.1))], []⟩) (fun s => 0 ≤ s.2 ∧ s.2 ≤ 1048576 ∧ szAll zPut (x.drop s.1) s.2 = zPutS x n) (fun s => x.length - s.1) (0, n - x.length) ⟨by have := of_decide_eq_false c5; simp only; omega, by simp only; omega, by simp only [List.drop_zero]; rw [zPutS, szSl_neg (of_decide_eq_false c5)]⟩ (le_same ⟨rfl, rfl, rfl, trivial⟩) (fun s J => ?_)
    obtain ⟨k, a⟩ := s
    obtain ⟨J1, J2, J3⟩ := J
    simp only at J1 J2 J3
    refine ok_seq fun K9 h9 => ?_
    refine ok_seq fun K10 h10 => ok_region rfl (q_mv _ rfl (q_mv _ rfl (q_len eS75 rfl (q_bin _ _ _ rfl rfl rfl (run_nil (h10 _ ?_)))))); clear h10 K10
    rw [List.length_map]
    refine ok_cond rfl (fun c11 => ?_) (fun c11 => ?_)
    · refine ok_skip (h9 _ ?_)
      obtain ⟨u, hu⟩ := sget (l := x) (i := k) (by simpa using c11)
      rw [szAll_cons _ hu] at J3
      refine ok_seq fun K12 h12 => ?_
      refine ok_block ?_
      refine ok_seq fun K13 h13 => ok_region rfl (q_mv _ rfl (q_mv _ rfl (q_ia el75 rfl rfl (by omega) (mget hu) (q_lds _ ag174 rfl sz174 (q_mv _ rfl (q_call (f122_ok u (hx.2 u (smem hu)) a J1 J2) cl122 rfl rfl (q_as _ rfl (run_nil (h13 _ ?_))))))))); clear h13 K13
      refine ok_seq fun K14 h14 => ok_region rfl (q_mv _ rfl (q_bin _ _ _ rfl rfl rfl (run_nil (h14 _ ?_)))); clear h14 K14
      refine ok_cond rfl (fun c15 => ?_) (fun c15 => ?_)
      · refine ok_seq fun K16 h16 => ?_
        refine ok_region rfl (q_as _ rfl (run_nil (h16 _ ?_)))
        clear h16 K16
        refine ok_ret ⟨_, rfl, ?_⟩
        rw [if_pos (of_decide_eq_true c15)] at J3; rw [← J3]; rfl
      · refine ok_skip (h12 _ ?_)
        refine ok_region rfl (q_mv _ rfl (q_add rfl rfl (by have := slt hu; have := hx.1; unfold LB at this; omega) (q_as _ rfl (run_nil (⟨(k + 1, zPut u a), by have := slt hu; simp only; omega, ⟨by have := of_decide_eq_false c15; simp only; omega, (zPut_ok u a J2).1, by rw [if_neg (of_decide_eq_false c15)] at J3; exact J3⟩, le_same ⟨rfl, rfl, rfl, trivial⟩⟩)))))
    · refine ok_exit (h7 _ ?_)
      refine ok_seq fun K17 h17 => ok_region rfl (q_mv _ rfl (q_as _ rfl (run_nil (h17 _ ?_)))); clear h17 K17
      refine ok_ret ⟨_, rfl, ?_⟩
      rw [szAll_end _ (by simpa using c11)] at J3; rw [← J3]; rfl
theorem f40_ok (x : List Put) (hx : x.length ≤ 1048576 ∧ ∀ y ∈ x, SPut y) : PFn Try.prog 40 [ePutS x] (ePutS x) := by
  have hle : x.length ≤ 1048576 := hx.1
  refine fnr_ok (n := 23) Try.func40 rfl rfl rfl (Nat.le_of_ble_eq_true rfl) rfl fun w0 O => ?_
  refine ok_seq fun K1 h1 => ok_region rfl (q_as _ rfl (run_nil (h1 _ ?_))); clear h1 K1
  refine ok_seq fun K2 h2 => ok_region rfl (q_mv _ rfl (q_len eS75 rfl (q_make _ _ el53 (by decide) ze152 rfl by152 rfl rfl rfl rfl (.inl ⟨rfl, rfl, rfl⟩) (by rw [List.length_map]; exact Nat.le_trans hle (by decide)) (by rw [List.length_map]; omega) (q_ao _ rfl (run_nil (h2 _ ?_)))))); clear h2 K2
  rw [List.length_map]
  refine ok_seq fun K3 h3 => ?_
  refine ok_seq fun K4 h4 => ok_region rfl (q_as _ rfl (run_nil (h4 _ ?_))); clear h4 K4
  refine ok_block ?_
  refine ok_loop (fun (k : Nat) => ⟨[(0, .sv (ePutS x)), (3, .own 7), (4, .sv (int k))], [(7, .row 3 152 (fill ePut (.agg [.raw (.slice none 0 0), .raw (.int .i64 0), .raw (.int .i64 0)]) x k))]⟩) (fun k => k ≤ x.length) (fun k => x.length - k) 0 (Nat.zero_le _) (by rw [fill_zero]; exact le_sub ⟨rfl, rfl, rfl, trivial⟩ ⟨rfl, trivial⟩) (fun k J => ?_)
  refine ok_seq fun K5 h5 => ?_
  refine ok_seq fun K6 h6 => ok_region rfl (q_mv _ rfl (q_mv _ rfl (q_len eS75 rfl (q_bin _ _ _ rfl rfl rfl (run_nil (h6 _ ?_)))))); clear h6 K6
  rw [List.length_map]
  refine ok_cond rfl (fun c7 => ?_) (fun c7 => ?_)
  · refine ok_skip (h5 _ ?_)
    have hk : k < x.length := by simpa using c7
    obtain ⟨u, hu⟩ := sget hk
    refine ok_seq fun K8 h8 => ?_
    refine ok_block ?_
    refine ok_last fun K9 h9 => ok_region rfl (q_mo _ rfl (q_mv _ rfl (q_mv _ rfl (q_mv _ rfl (q_ia el75 rfl rfl (by omega) (mget hu) (q_lds _ ag174 rfl sz174 (q_call (f125_ok u (hx.2 u (smem hu))) cl125 rfl rfl (q_iao el53 rfl rfl rfl (by omega) (by rw [fill_len _ _ _ J]; exact hk) (
      q_ste sz152 rfl rfl (fill_get _ _ _ hk) rfl (.inl ⟨_, rfl⟩) rfl (run_nil (h9 _ (h8 _ ?_))))))))))))
    refine ok_region rfl (q_mv _ rfl (q_add rfl rfl (by omega) (q_as _ rfl (run_nil (⟨k + 1, by omega, hk, ?_⟩)))))
    rw [← fill_set ePut (.agg [.raw (.slice none 0 0), .raw (.int .i64 0), .raw (.int .i64 0)]) hu]
    exact le_sub ⟨rfl, rfl, rfl, trivial⟩ ⟨rfl, trivial⟩
  · refine ok_exit (h3 _ ?_)
    refine ok_seq fun K9 h9 => ok_region rfl (q_mo _ rfl (q_ao _ rfl (run_nil (h9 _ ?_)))); clear h9 K9
    refine ok_ret ⟨_, ⟨_, _, rfl, rfl, rfl⟩, ?_⟩
    rw [fill_all _ _ _ (by simpa using c7)]; rfl
theorem f43_ok (x : List Put) (hx : x.length ≤ 1048576 ∧ ∀ y ∈ x, SPut y) : PFn Try.prog 43 [ePutS x, ePutS x] (bool true) := by
  have hle : x.length ≤ 1048576 := hx.1
  refine fn_ok' (n := 27) Try.func43 rfl rfl rfl (Nat.le_of_ble_eq_true rfl) rfl fun w0 O => ?_
  refine ok_seq fun K1 h1 => ok_region rfl (q_as _ rfl (run_nil (h1 _ ?_))); clear h1 K1
  refine ok_seq fun K2 h2 => ?_
  refine ok_seq fun K3 h3 => ok_region rfl (q_mv _ rfl (q_len eS53 rfl (q_mv _ rfl (q_len eS53 rfl (q_bin _ _ _ rfl rfl rfl (run_nil (h3 _ ?_))))))); clear h3 K3
  refine ok_cond rfl (fun c4 => ?_) (fun c4 => ?_)
  · simp at c4
  · refine ok_skip (h2 _ ?_)
    refine ok_seq fun K6 h6 => ?_
    refine ok_seq fun K7 h7 => ok_region rfl (q_as _ rfl (run_nil (h7 _ ?_))); clear h7 K7
    refine ok_block ?_
    refine ok_loop (fun (k : Nat) => ⟨[(0, .sv (ePutS x)), (1, .sv (ePutS x)), (5, .sv (int k))], []⟩) (fun k => True) (fun k => x.length - k) 0 trivial (le_same ⟨rfl, rfl, rfl, trivial⟩) (fun k J => ?_)
    refine ok_seq fun K8 h8 => ?_
    refine ok_seq fun K9 h9 => ok_region rfl (q_mv _ rfl (q_mv _ rfl (q_len eS53 rfl (q_bin _ _ _ rfl rfl rfl (run_nil (h9 _ ?_)))))); clear h9 K9
    rw [List.length_map]
    refine ok_cond rfl (fun c10 => ?_) (fun c10 => ?_)
    · refine ok_skip (h8 _ ?_)
      have hk : k < x.length := by simpa using c10
      obtain ⟨u, hu⟩ := sget hk
      refine ok_seq fun K11 h11 => ?_
      refine ok_block ?_
      refine ok_seq fun K12 h12 => ?_
      refine ok_region_i (by kernel_rfl) (by kernel_rfl) rfl (
        q_mv _ rfl (q_mv _ rfl (q_ia el53 rfl rfl (by omega) (mget hu) (q_lds _ ag152 rfl sz152 (q_mv _ rfl (q_mv _ rfl (q_ia el53 rfl rfl (by omega) (mget hu) (q_lds _ ag152 rfl sz152 (
        q_call (f128_ok u (hx.2 u (smem hu))) cl128 rfl rfl (q_un _ _ rfl rfl (run_nil (h12 _ ?_))))))))))))
      clear h12 K12
      refine ok_cond rfl (fun c13 => ?_) (fun c13 => ?_)
      · simp at c13
      · refine ok_skip (h11 _ ?_)
        refine ok_region rfl (q_mv _ rfl (q_add rfl rfl (by omega) (q_as _ rfl (run_nil (⟨k + 1, by omega, trivial, le_same ⟨rfl, rfl, rfl, trivial⟩⟩)))))
    · refine ok_exit (h6 _ ?_)
      refine ok_seq fun K15 h15 => ok_region rfl (q_as _ rfl (run_nil (h15 _ ?_))); clear h15 K15
      exact ok_ret ⟨_, rfl, rfl⟩
end Go.Ring
