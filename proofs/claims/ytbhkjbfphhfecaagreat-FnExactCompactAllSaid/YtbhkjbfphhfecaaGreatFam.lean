/- The laws' own types: their bulk, their copies, their likeness, and how they open. No condition. -/
import Derived.Test.YtbhkjbfphhfecaaGreatFacts
namespace Go.Ring
open Go Go.RowKit Go.Eager Go.Abs Go.Proofs
set_option maxRecDepth 100000
set_option linter.unusedVariables false
set_option linter.unusedSimpArgs false
structure Label where
  name : ByteArray
  value : ByteArray
@[reducible] def eLabel (x : Label) : SV := .agg [str x.name, str x.value]
def LLabel (x : Label) : Prop := LB x.name.size ∧ LB x.value.size
def SLabel (x : Label) : Prop := x.name.size ≤ 1048576 ∧ x.value.size ≤ 1048576
theorem op_Label : Opens Tryz.prog 214 eLabel (fun y => LLabel y) :=
  op_iso (fun y : ByteArray × ByteArray × Unit => (⟨y.1, y.2.1⟩ : Label)) (fun _ => rfl) (fun y h => ⟨h.1, h.2.1⟩)
    (op_struct (n := 2) Tryz.underlying214 (by kernel_rfl) (ofs_cons (f := { name := "Name", type := 9, offset := 0, embedded := false, tag := "", pkgPath := "", byteOffset := 0 }) (n := 1) (m := 1) rfl (by kernel_rfl) (fun _ => ⟨.inr rfl, rfl⟩) (op_string Tryz.underlying9) (ofs_cons (f := { name := "Value", type := 9, offset := 1, embedded := false, tag := "", pkgPath := "", byteOffset := 16 }) (n := 1) (m := 0) rfl (by kernel_rfl) (fun _ => ⟨.inr rfl, rfl⟩) (op_string Tryz.underlying9) ofs_nil)))
def zLabel (x : Label) (n : Int) : Int := (stp (fun n => take n x.name.size) ((fun n => take n x.value.size))) n
theorem zLabel_ok (x : Label) : GOk (zLabel x) (SLabel x) := (stp_ok (take_ok _) (take_ok _))
theorem f212_ok (x : Label) (hx : LLabel x) (n : Int) (h0 : 0 ≤ n) (hn : n ≤ 1048576) : PFn Tryz.prog 212 [eLabel x, int n] (int (zLabel x n)) := by
  have e0 : zLabel x n = (stp (fun n => take n x.name.size) ((fun n => take n x.value.size))) n := rfl
  have a0 := h0
  have b0 := hn
  have l0 := hx.1; unfold LB at l0
  have l1 := hx.2; unfold LB at l1
  refine fn_ok' (n := 20) Tryz.func212 rfl rfl rfl (Nat.le_of_ble_eq_true rfl) rfl fun w0 O => ?_
  refine ok_seq fun K1 h1 => ok_region rfl (q_boxs _ rfl (Nat.zero_lt_succ _) (q_as _ rfl (run_nil (h1 _ ?_)))); clear h1 K1
  refine ok_seq fun K2 h2 => ok_region rfl (q_mv _ rfl (q_fa _ fd214_0 rfl rfl (by decide) (q_ld _ ag9 rfl rfl (q_lens st9 rfl (q_sub rfl rfl (by omega) (q_as _ rfl (run_nil (h2 _ ?_)))))))); clear h2 K2
  refine ok_seq fun K3 h3 => ?_
  refine ok_seq fun K4 h4 => ok_region rfl (q_mv _ rfl (q_bin _ _ _ rfl rfl rfl (run_nil (h4 _ ?_)))); clear h4 K4
  refine ok_cond rfl (fun c5 => ?_) (fun c5 => ?_)
  · refine ok_seq fun K6 h6 => ?_
    refine ok_region rfl (q_as _ rfl (run_nil (h6 _ ?_)))
    clear h6 K6
    refine ok_ret ⟨_, rfl, ?_⟩
    rw [e0, stp_pos (by show take _ _ < 0; rw [take_pos (of_decide_eq_true c5)]; decide)]; rfl
  · refine ok_skip (h3 _ ?_)
    have t0 := take_neg (of_decide_eq_false c5)
    have e1 : zLabel x n = ((fun n => take n x.value.size)) (n - (x.name.size : Int)) := by rw [e0, stp_neg (by show ¬ take _ _ < 0; rw [t0]; exact of_decide_eq_false c5)]; exact congrArg ((fun n => take n x.value.size)) t0
    have a1 : 0 ≤ (n - (x.name.size : Int)) := by have := of_decide_eq_false c5; omega
    have b1 : (n - (x.name.size : Int)) ≤ 1048576 := by omega
    refine ok_seq fun K7 h7 => ok_region rfl (q_mv _ rfl (q_fa _ fd214_1 rfl rfl (by decide) (q_ld _ ag9 rfl rfl (q_lens st9 rfl (q_sub rfl rfl (by omega) (q_as _ rfl (run_nil (h7 _ ?_)))))))); clear h7 K7
    refine ok_seq fun K8 h8 => ?_
    refine ok_seq fun K9 h9 => ok_region rfl (q_mv _ rfl (q_bin _ _ _ rfl rfl rfl (run_nil (h9 _ ?_)))); clear h9 K9
    refine ok_cond rfl (fun c10 => ?_) (fun c10 => ?_)
    · refine ok_seq fun K11 h11 => ?_
      refine ok_region rfl (q_as _ rfl (run_nil (h11 _ ?_)))
      clear h11 K11
      refine ok_ret ⟨_, rfl, ?_⟩
      rw [e1]; show _ = int (take _ _); rw [take_pos (of_decide_eq_true c10)]; rfl
    · refine ok_skip (h8 _ ?_)
      refine ok_seq fun K12 h12 => ok_region rfl (q_mv _ rfl (q_as _ rfl (run_nil (h12 _ ?_)))); clear h12 K12
      refine ok_ret ⟨_, rfl, ?_⟩
      rw [e1]; show _ = int (take _ _); rw [take_neg (of_decide_eq_false c10)]; rfl
theorem f214_ok (x : Label) (hx : SLabel x) : PFn Tryz.prog 214 [eLabel x] (eLabel x) := by
  refine fnr_ok (n := 11) Tryz.func214 rfl rfl rfl (Nat.le_of_ble_eq_true rfl) rfl fun w0 O => ?_
  refine ok_seq fun K1 h1 => ok_region rfl (q_boxs _ rfl (Nat.zero_lt_succ _) (q_alloc _ ze101 rfl rfl rfl rfl (run_nil (h1 _ ?_)))); clear h1 K1
  refine ok_seq fun K2 h2 => ok_region rfl (q_alloc _ ze101 rfl rfl rfl rfl (run_nil (h2 _ ?_))); clear h2 K2
  refine ok_seq fun K3 h3 => ok_region rfl (q_fa _ fd214_0 rfl rfl (by decide) (q_ld _ ag9 rfl rfl (q_fap fd101_0 rfl (by decide) (q_st _ sz9 rfl rfl (Nat.le_of_ble_eq_true rfl) rfl ⟨_, rfl, rfl⟩ rfl (run_nil (h3 _ ?_)))))); clear h3 K3
  refine ok_seq fun K4 h4 => ok_region rfl (q_fa _ fd214_1 rfl rfl (by decide) (q_ld _ ag9 rfl rfl (q_fap fd101_1 rfl (by decide) (q_st _ sz9 rfl rfl (Nat.le_of_ble_eq_true rfl) rfl ⟨_, rfl, rfl⟩ rfl (run_nil (h4 _ ?_)))))); clear h4 K4
  refine ok_seq fun K5 h5 => ok_region rfl (q_ldbs ag101 rfl rfl sz101 rfl rfl (q_sts _ rfl rfl rfl sz101 (Nat.le_of_ble_eq_true rfl) rfl (run_nil (h5 _ ?_)))); clear h5 K5
  exact ok_ret (ret_cell (l := [str x.name, str x.value]) rfl rfl ag101 sz101 rfl rfl)
theorem f189_ok (x : Label) (hx : SLabel x) : PFn Tryz.prog 189 [eLabel x, eLabel x] (bool true) := by
  refine fn_ok' (n := 15) Tryz.func189 rfl rfl rfl (Nat.le_of_ble_eq_true rfl) rfl fun w0 O => ?_
  refine ok_seq fun K1 h1 => ok_region rfl (q_boxs _ rfl (Nat.zero_lt_succ _) (q_boxs _ rfl (Nat.zero_lt_succ _) (q_as _ rfl (run_nil (h1 _ ?_))))); clear h1 K1
  refine ok_seq fun K2 h2 => ?_
  refine ok_seq fun K3 h3 => ok_region rfl (q_fa _ fd101_0 rfl rfl (by decide) (q_ld _ ag9 rfl rfl (q_fa _ fd101_0 rfl rfl (by decide) (q_ld _ ag9 rfl rfl (q_bin _ _ _ rfl rfl rfl (run_nil (h3 _ ?_))))))); clear h3 K3
  refine ok_cond rfl (fun c4 => ?_) (fun c4 => ?_)
  · simp at c4
  · refine ok_skip (h2 _ ?_)
    refine ok_seq fun K6 h6 => ?_
    refine ok_seq fun K7 h7 => ok_region rfl (q_fa _ fd101_1 rfl rfl (by decide) (q_ld _ ag9 rfl rfl (q_fa _ fd101_1 rfl rfl (by decide) (q_ld _ ag9 rfl rfl (q_bin _ _ _ rfl rfl rfl (run_nil (h7 _ ?_))))))); clear h7 K7
    refine ok_cond rfl (fun c8 => ?_) (fun c8 => ?_)
    · simp at c8
    · refine ok_skip (h6 _ ?_)
      refine ok_seq fun K10 h10 => ok_region rfl (q_as _ rfl (run_nil (h10 _ ?_))); clear h10 K10
      exact ok_ret ⟨_, rfl, rfl⟩
@[reducible] def eLabelS (l : List Label) : SV := .sl 2 (l.map eLabel)
theorem op_LabelS : Opens Tryz.prog 132 eLabelS (fun y => LB y.length ∧ ∀ z ∈ y, LLabel z) :=
  op_iso (fun y : List Label => y) (fun _ => rfl) (fun y h => h) (op_slice (n := 2) Tryz.underlying132 (by kernel_rfl) (by decide) (fun _ => ⟨.inl ⟨_, rfl⟩, rfl⟩) op_Label)
def zLabelS (x : List Label) (n : Int) : Int := szSl zLabel x n
theorem zLabelS_ok (x : List Label) : GOk (zLabelS x) (x.length ≤ 1048576 ∧ ∀ y ∈ x, SLabel y) := szSl_ok zLabel_ok x
theorem f166_ok (x : List Label) (hx : LB x.length ∧ ∀ y ∈ x, LLabel y) (n : Int) (h0 : 0 ≤ n) (hn : n ≤ 1048576) : PFn Tryz.prog 166 [eLabelS x, int n] (int (zLabelS x n)) := by
  have hx1 := hx.1
  unfold LB at hx1
  refine fn_ok' (n := 27) Tryz.func166 rfl rfl rfl (Nat.le_of_ble_eq_true rfl) rfl fun w0 O => ?_
  refine ok_seq fun K1 h1 => ok_region rfl (q_as _ rfl (run_nil (h1 _ ?_))); clear h1 K1
  refine ok_seq fun K2 h2 => ok_region rfl (q_mv _ rfl (q_mv _ rfl (q_len eS132 rfl (q_sub rfl rfl (by rw [List.length_map]; omega) (q_as _ rfl (run_nil (h2 _ ?_))))))); clear h2 K2
  rw [List.length_map]
  refine ok_seq fun K3 h3 => ?_
  refine ok_seq fun K4 h4 => ok_region rfl (q_mv _ rfl (q_bin _ _ _ rfl rfl rfl (run_nil (h4 _ ?_)))); clear h4 K4
  refine ok_cond rfl (fun c5 => ?_) (fun c5 => ?_)
  · refine ok_seq fun K6 h6 => ?_
    refine ok_region rfl (q_as _ rfl (run_nil (h6 _ ?_)))
    clear h6 K6
    refine ok_ret ⟨_, rfl, ?_⟩
    rw [zLabelS, szSl_pos (of_decide_eq_true c5)]; rfl
  · refine ok_skip (h3 _ ?_)
    refine ok_seq fun K7 h7 => ?_
    refine ok_seq fun K8 h8 => ok_region rfl (q_as _ rfl (run_nil (h8 _ ?_))); clear h8 K8
    refine ok_block ?_
    refine ok_loop (fun (s : Nat × Int) => ⟨[(0, .sv (eLabelS x)), (1, .sv (int s.2)), (5, .sv (int s.1))], []⟩) (fun s => 0 ≤ s.2 ∧ s.2 ≤ 1048576 ∧ szAll zLabel (x.drop s.1) s.2 = zLabelS x n) (fun s => x.length - s.1) (0, n - x.length) ⟨by have := of_decide_eq_false c5; simp only; omega, by simp only; omega, by simp only [List.drop_zero]; rw [zLabelS, szSl_neg (of_decide_eq_false c5)]⟩ (le_same ⟨rfl, rfl, rfl, trivial⟩) (fun s J => ?_)
    obtain ⟨k, a⟩ := s
    obtain ⟨J1, J2, J3⟩ := J
    simp only at J1 J2 J3
    refine ok_seq fun K9 h9 => ?_
    refine ok_seq fun K10 h10 => ok_region rfl (q_mv _ rfl (q_mv _ rfl (q_len eS132 rfl (q_bin _ _ _ rfl rfl rfl (run_nil (h10 _ ?_)))))); clear h10 K10
    rw [List.length_map]
    refine ok_cond rfl (fun c11 => ?_) (fun c11 => ?_)
    · refine ok_skip (h9 _ ?_)
      obtain ⟨u, hu⟩ := sget (l := x) (i := k) (by simpa using c11)
      rw [szAll_cons _ hu] at J3
      refine ok_seq fun K12 h12 => ?_
      refine ok_block ?_
      refine ok_seq fun K13 h13 => ok_region rfl (q_mv _ rfl (q_mv _ rfl (q_ia el132 rfl rfl (by omega) (mget hu) (q_lds _ ag214 rfl sz214 (q_mv _ rfl (q_call (f212_ok u (hx.2 u (smem hu)) a J1 J2) cl212 rfl rfl (q_as _ rfl (run_nil (h13 _ ?_))))))))); clear h13 K13
      refine ok_seq fun K14 h14 => ok_region rfl (q_mv _ rfl (q_bin _ _ _ rfl rfl rfl (run_nil (h14 _ ?_)))); clear h14 K14
      refine ok_cond rfl (fun c15 => ?_) (fun c15 => ?_)
      · refine ok_seq fun K16 h16 => ?_
        refine ok_region rfl (q_as _ rfl (run_nil (h16 _ ?_)))
        clear h16 K16
        refine ok_ret ⟨_, rfl, ?_⟩
        rw [if_pos (of_decide_eq_true c15)] at J3; rw [← J3]; rfl
      · refine ok_skip (h12 _ ?_)
        refine ok_region rfl (q_mv _ rfl (q_add rfl rfl (by have := slt hu; have := hx.1; unfold LB at this; omega) (q_as _ rfl (run_nil (⟨(k + 1, zLabel u a), by have := slt hu; simp only; omega, ⟨by have := of_decide_eq_false c15; simp only; omega, (zLabel_ok u a J2).1, by rw [if_neg (of_decide_eq_false c15)] at J3; exact J3⟩, le_same ⟨rfl, rfl, rfl, trivial⟩⟩)))))
    · refine ok_exit (h7 _ ?_)
      refine ok_seq fun K17 h17 => ok_region rfl (q_mv _ rfl (q_as _ rfl (run_nil (h17 _ ?_)))); clear h17 K17
      refine ok_ret ⟨_, rfl, ?_⟩
      rw [szAll_end _ (by simpa using c11)] at J3; rw [← J3]; rfl
theorem f176_ok (x : List Label) (hx : x.length ≤ 1048576 ∧ ∀ y ∈ x, SLabel y) : PFn Tryz.prog 176 [eLabelS x] (eLabelS x) := by
  have hle : x.length ≤ 1048576 := hx.1
  refine fnr_ok (n := 23) Tryz.func176 rfl rfl rfl (Nat.le_of_ble_eq_true rfl) rfl fun w0 O => ?_
  refine ok_seq fun K1 h1 => ok_region rfl (q_as _ rfl (run_nil (h1 _ ?_))); clear h1 K1
  refine ok_seq fun K2 h2 => ok_region rfl (q_mv _ rfl (q_len eS132 rfl (q_make _ _ el80 (by decide) ze101 rfl by101 rfl rfl rfl rfl (.inl ⟨rfl, rfl, rfl⟩) (by rw [List.length_map]; exact Nat.le_trans hle (by decide)) (by rw [List.length_map]; omega) (q_ao _ rfl (run_nil (h2 _ ?_)))))); clear h2 K2
  rw [List.length_map]
  refine ok_seq fun K3 h3 => ?_
  refine ok_seq fun K4 h4 => ok_region rfl (q_as _ rfl (run_nil (h4 _ ?_))); clear h4 K4
  refine ok_block ?_
  refine ok_loop (fun (k : Nat) => ⟨[(0, .sv (eLabelS x)), (3, .own 7), (4, .sv (int k))], [(7, .row 2 101 (fill eLabel (.agg [.raw (.string ⟨#[]⟩), .raw (.string ⟨#[]⟩)]) x k))]⟩) (fun k => k ≤ x.length) (fun k => x.length - k) 0 (Nat.zero_le _) (by rw [fill_zero]; exact le_sub ⟨rfl, rfl, rfl, trivial⟩ ⟨rfl, trivial⟩) (fun k J => ?_)
  refine ok_seq fun K5 h5 => ?_
  refine ok_seq fun K6 h6 => ok_region rfl (q_mv _ rfl (q_mv _ rfl (q_len eS132 rfl (q_bin _ _ _ rfl rfl rfl (run_nil (h6 _ ?_)))))); clear h6 K6
  rw [List.length_map]
  refine ok_cond rfl (fun c7 => ?_) (fun c7 => ?_)
  · refine ok_skip (h5 _ ?_)
    have hk : k < x.length := by simpa using c7
    obtain ⟨u, hu⟩ := sget hk
    refine ok_seq fun K8 h8 => ?_
    refine ok_block ?_
    refine ok_last fun K9 h9 => ok_region rfl (q_mo _ rfl (q_mv _ rfl (q_mv _ rfl (q_mv _ rfl (q_ia el132 rfl rfl (by omega) (mget hu) (q_lds _ ag214 rfl sz214 (q_call (f214_ok u (hx.2 u (smem hu))) cl214 rfl rfl (q_iao el80 rfl rfl rfl (by omega) (by rw [fill_len _ _ _ J]; exact hk) (
      q_ste sz101 rfl rfl (fill_get _ _ _ hk) rfl (.inl ⟨_, rfl⟩) rfl (run_nil (h9 _ (h8 _ ?_))))))))))))
    refine ok_region rfl (q_mv _ rfl (q_add rfl rfl (by omega) (q_as _ rfl (run_nil (⟨k + 1, by omega, hk, ?_⟩)))))
    rw [← fill_set eLabel (.agg [.raw (.string ⟨#[]⟩), .raw (.string ⟨#[]⟩)]) hu]
    exact le_sub ⟨rfl, rfl, rfl, trivial⟩ ⟨rfl, trivial⟩
  · refine ok_exit (h3 _ ?_)
    refine ok_seq fun K9 h9 => ok_region rfl (q_mo _ rfl (q_ao _ rfl (run_nil (h9 _ ?_)))); clear h9 K9
    refine ok_ret ⟨_, ⟨_, _, rfl, rfl, rfl⟩, ?_⟩
    rw [fill_all _ _ _ (by simpa using c7)]; rfl
theorem f136_ok (x : List Label) (hx : x.length ≤ 1048576 ∧ ∀ y ∈ x, SLabel y) : PFn Tryz.prog 136 [eLabelS x, eLabelS x] (bool true) := by
  have hle : x.length ≤ 1048576 := hx.1
  refine fn_ok' (n := 27) Tryz.func136 rfl rfl rfl (Nat.le_of_ble_eq_true rfl) rfl fun w0 O => ?_
  refine ok_seq fun K1 h1 => ok_region rfl (q_as _ rfl (run_nil (h1 _ ?_))); clear h1 K1
  refine ok_seq fun K2 h2 => ?_
  refine ok_seq fun K3 h3 => ok_region rfl (q_mv _ rfl (q_len eS80 rfl (q_mv _ rfl (q_len eS80 rfl (q_bin _ _ _ rfl rfl rfl (run_nil (h3 _ ?_))))))); clear h3 K3
  refine ok_cond rfl (fun c4 => ?_) (fun c4 => ?_)
  · simp at c4
  · refine ok_skip (h2 _ ?_)
    refine ok_seq fun K6 h6 => ?_
    refine ok_seq fun K7 h7 => ok_region rfl (q_as _ rfl (run_nil (h7 _ ?_))); clear h7 K7
    refine ok_block ?_
    refine ok_loop (fun (k : Nat) => ⟨[(0, .sv (eLabelS x)), (1, .sv (eLabelS x)), (5, .sv (int k))], []⟩) (fun k => True) (fun k => x.length - k) 0 trivial (le_same ⟨rfl, rfl, rfl, trivial⟩) (fun k J => ?_)
    refine ok_seq fun K8 h8 => ?_
    refine ok_seq fun K9 h9 => ok_region rfl (q_mv _ rfl (q_mv _ rfl (q_len eS80 rfl (q_bin _ _ _ rfl rfl rfl (run_nil (h9 _ ?_)))))); clear h9 K9
    rw [List.length_map]
    refine ok_cond rfl (fun c10 => ?_) (fun c10 => ?_)
    · refine ok_skip (h8 _ ?_)
      have hk : k < x.length := by simpa using c10
      obtain ⟨u, hu⟩ := sget hk
      refine ok_seq fun K11 h11 => ?_
      refine ok_block ?_
      refine ok_seq fun K12 h12 => ?_
      refine ok_region_i (by kernel_rfl) (by kernel_rfl) rfl (
        q_mv _ rfl (q_mv _ rfl (q_ia el80 rfl rfl (by omega) (mget hu) (q_lds _ ag101 rfl sz101 (q_mv _ rfl (q_mv _ rfl (q_ia el80 rfl rfl (by omega) (mget hu) (q_lds _ ag101 rfl sz101 (
        q_call (f189_ok u (hx.2 u (smem hu))) cl189 rfl rfl (q_un _ _ rfl rfl (run_nil (h12 _ ?_))))))))))))
      clear h12 K12
      refine ok_cond rfl (fun c13 => ?_) (fun c13 => ?_)
      · simp at c13
      · refine ok_skip (h11 _ ?_)
        refine ok_region rfl (q_mv _ rfl (q_add rfl rfl (by omega) (q_as _ rfl (run_nil (⟨k + 1, by omega, trivial, le_same ⟨rfl, rfl, rfl, trivial⟩⟩)))))
    · refine ok_exit (h6 _ ?_)
      refine ok_seq fun K15 h15 => ok_region rfl (q_as _ rfl (run_nil (h15 _ ?_))); clear h15 K15
      exact ok_ret ⟨_, rfl, rfl⟩
structure Sample where
  time : Int
  value : Int
@[reducible] def eSample (x : Sample) : SV := .agg [int x.time, int x.value]
theorem op_Sample : Opens Tryz.prog 219 eSample (fun y => True) :=
  op_iso (fun y : Int × Int × Unit => (⟨y.1, y.2.1⟩ : Sample)) (fun _ => rfl) (fun y h => trivial)
    (op_struct (n := 2) Tryz.underlying219 (by kernel_rfl) (ofs_cons (f := { name := "Time", type := 3, offset := 0, embedded := false, tag := "", pkgPath := "", byteOffset := 0 }) (n := 1) (m := 1) rfl (by kernel_rfl) (fun _ => ⟨.inr rfl, rfl⟩) (op_int Tryz.underlying3) (ofs_cons (f := { name := "Value", type := 3, offset := 1, embedded := false, tag := "", pkgPath := "", byteOffset := 8 }) (n := 1) (m := 0) rfl (by kernel_rfl) (fun _ => ⟨.inr rfl, rfl⟩) (op_int Tryz.underlying3) ofs_nil)))
theorem f215_ok (x : Sample) : PFn Tryz.prog 215 [eSample x] (eSample x) := by
  refine fnr_ok (n := 11) Tryz.func215 rfl rfl rfl (Nat.le_of_ble_eq_true rfl) rfl fun w0 O => ?_
  refine ok_seq fun K1 h1 => ok_region rfl (q_boxs _ rfl (Nat.zero_lt_succ _) (q_alloc _ ze128 rfl rfl rfl rfl (run_nil (h1 _ ?_)))); clear h1 K1
  refine ok_seq fun K2 h2 => ok_region rfl (q_alloc _ ze128 rfl rfl rfl rfl (run_nil (h2 _ ?_))); clear h2 K2
  refine ok_seq fun K3 h3 => ok_region rfl (q_fa _ fd219_0 rfl rfl (by decide) (q_ld _ ag3 rfl rfl (q_fap fd128_0 rfl (by decide) (q_st _ sz3 rfl rfl (Nat.le_of_ble_eq_true rfl) rfl ⟨_, rfl, rfl⟩ rfl (run_nil (h3 _ ?_)))))); clear h3 K3
  refine ok_seq fun K4 h4 => ok_region rfl (q_fa _ fd219_1 rfl rfl (by decide) (q_ld _ ag3 rfl rfl (q_fap fd128_1 rfl (by decide) (q_st _ sz3 rfl rfl (Nat.le_of_ble_eq_true rfl) rfl ⟨_, rfl, rfl⟩ rfl (run_nil (h4 _ ?_)))))); clear h4 K4
  refine ok_seq fun K5 h5 => ok_region rfl (q_ldbs ag128 rfl rfl sz128 rfl rfl (q_sts _ rfl rfl rfl sz128 (Nat.le_of_ble_eq_true rfl) rfl (run_nil (h5 _ ?_)))); clear h5 K5
  exact ok_ret (ret_cell (l := [int x.time, int x.value]) rfl rfl ag128 sz128 rfl rfl)
theorem f190_ok (x : Sample) : PFn Tryz.prog 190 [eSample x, eSample x] (bool true) := by
  refine fn_ok' (n := 15) Tryz.func190 rfl rfl rfl (Nat.le_of_ble_eq_true rfl) rfl fun w0 O => ?_
  refine ok_seq fun K1 h1 => ok_region rfl (q_boxs _ rfl (Nat.zero_lt_succ _) (q_boxs _ rfl (Nat.zero_lt_succ _) (q_as _ rfl (run_nil (h1 _ ?_))))); clear h1 K1
  refine ok_seq fun K2 h2 => ?_
  refine ok_seq fun K3 h3 => ok_region rfl (q_fa _ fd128_0 rfl rfl (by decide) (q_ld _ ag3 rfl rfl (q_fa _ fd128_0 rfl rfl (by decide) (q_ld _ ag3 rfl rfl (q_bin _ _ _ rfl rfl rfl (run_nil (h3 _ ?_))))))); clear h3 K3
  refine ok_cond rfl (fun c4 => ?_) (fun c4 => ?_)
  · simp at c4
  · refine ok_skip (h2 _ ?_)
    refine ok_seq fun K6 h6 => ?_
    refine ok_seq fun K7 h7 => ok_region rfl (q_fa _ fd128_1 rfl rfl (by decide) (q_ld _ ag3 rfl rfl (q_fa _ fd128_1 rfl rfl (by decide) (q_ld _ ag3 rfl rfl (q_bin _ _ _ rfl rfl rfl (run_nil (h7 _ ?_))))))); clear h7 K7
    refine ok_cond rfl (fun c8 => ?_) (fun c8 => ?_)
    · simp at c8
    · refine ok_skip (h6 _ ?_)
      refine ok_seq fun K10 h10 => ok_region rfl (q_as _ rfl (run_nil (h10 _ ?_))); clear h10 K10
      exact ok_ret ⟨_, rfl, rfl⟩
@[reducible] def eSampleS (l : List Sample) : SV := .sl 2 (l.map eSample)
theorem op_SampleS : Opens Tryz.prog 133 eSampleS (fun y => LB y.length) :=
  op_iso (fun y : List Sample => y) (fun _ => rfl) (fun y h => h.1) (op_slice (n := 2) Tryz.underlying133 (by kernel_rfl) (by decide) (fun _ => ⟨.inl ⟨_, rfl⟩, rfl⟩) op_Sample)
def zSampleS (x : List Sample) (n : Int) : Int := take n x.length
theorem zSampleS_ok (x : List Sample) : GOk (zSampleS x) (x.length ≤ 1048576) := take_ok _
theorem f167_ok (x : List Sample) (hx : LB x.length) (n : Int) (h0 : 0 ≤ n) (hn : n ≤ 1048576) : PFn Tryz.prog 167 [eSampleS x, int n] (int (zSampleS x n)) := by
  unfold LB at hx
  have hl : (x.map eSample).length = x.length := List.length_map _
  refine fn_ok' (n := 12) Tryz.func167 rfl rfl rfl (Nat.le_of_ble_eq_true rfl) rfl fun w0 O => ?_
  refine ok_seq fun K1 h1 => ok_region rfl (q_as _ rfl (run_nil (h1 _ ?_))); clear h1 K1
  refine ok_seq fun K2 h2 => ok_region rfl (q_mv _ rfl (q_mv _ rfl (q_len eS133 rfl (q_sub rfl rfl (by rw [hl]; omega) (q_as _ rfl (run_nil (h2 _ ?_))))))); clear h2 K2
  rw [List.length_map]
  refine ok_seq fun K3 h3 => ?_
  refine ok_seq fun K4 h4 => ok_region rfl (q_mv _ rfl (q_bin _ _ _ rfl rfl rfl (run_nil (h4 _ ?_)))); clear h4 K4
  refine ok_cond rfl (fun c5 => ?_) (fun c5 => ?_)
  · refine ok_seq fun K6 h6 => ?_
    refine ok_region rfl (q_as _ rfl (run_nil (h6 _ ?_)))
    clear h6 K6
    refine ok_ret ⟨_, rfl, ?_⟩
    rw [zSampleS, take_pos (of_decide_eq_true c5)]; rfl
  · refine ok_skip (h3 _ ?_)
    refine ok_seq fun K7 h7 => ok_region rfl (q_mv _ rfl (q_as _ rfl (run_nil (h7 _ ?_)))); clear h7 K7
    refine ok_ret ⟨_, rfl, ?_⟩
    rw [zSampleS, take_neg (of_decide_eq_false c5)]; rfl
theorem f177_ok (x : List Sample) (hx : x.length ≤ 1048576) : PFn Tryz.prog 177 [eSampleS x] (eSampleS x) := by
  have hle : x.length ≤ 1048576 := hx
  refine fnr_ok (n := 23) Tryz.func177 rfl rfl rfl (Nat.le_of_ble_eq_true rfl) rfl fun w0 O => ?_
  refine ok_seq fun K1 h1 => ok_region rfl (q_as _ rfl (run_nil (h1 _ ?_))); clear h1 K1
  refine ok_seq fun K2 h2 => ok_region rfl (q_mv _ rfl (q_len eS133 rfl (q_make _ _ el81 (by decide) ze128 rfl by128 rfl rfl rfl rfl (.inl ⟨rfl, rfl, rfl⟩) (by rw [List.length_map]; exact Nat.le_trans hle (by decide)) (by rw [List.length_map]; omega) (q_ao _ rfl (run_nil (h2 _ ?_)))))); clear h2 K2
  rw [List.length_map]
  refine ok_seq fun K3 h3 => ?_
  refine ok_seq fun K4 h4 => ok_region rfl (q_as _ rfl (run_nil (h4 _ ?_))); clear h4 K4
  refine ok_block ?_
  refine ok_loop (fun (k : Nat) => ⟨[(0, .sv (eSampleS x)), (3, .own 7), (4, .sv (int k))], [(7, .row 2 128 (fill eSample (.agg [.raw (.int .i64 0), .raw (.int .i64 0)]) x k))]⟩) (fun k => k ≤ x.length) (fun k => x.length - k) 0 (Nat.zero_le _) (by rw [fill_zero]; exact le_sub ⟨rfl, rfl, rfl, trivial⟩ ⟨rfl, trivial⟩) (fun k J => ?_)
  refine ok_seq fun K5 h5 => ?_
  refine ok_seq fun K6 h6 => ok_region rfl (q_mv _ rfl (q_mv _ rfl (q_len eS133 rfl (q_bin _ _ _ rfl rfl rfl (run_nil (h6 _ ?_)))))); clear h6 K6
  rw [List.length_map]
  refine ok_cond rfl (fun c7 => ?_) (fun c7 => ?_)
  · refine ok_skip (h5 _ ?_)
    have hk : k < x.length := by simpa using c7
    obtain ⟨u, hu⟩ := sget hk
    refine ok_seq fun K8 h8 => ?_
    refine ok_block ?_
    refine ok_last fun K9 h9 => ok_region rfl (q_mo _ rfl (q_mv _ rfl (q_mv _ rfl (q_mv _ rfl (q_ia el133 rfl rfl (by omega) (mget hu) (q_lds _ ag219 rfl sz219 (q_call (f215_ok u) cl215 rfl rfl (q_iao el81 rfl rfl rfl (by omega) (by rw [fill_len _ _ _ J]; exact hk) (
      q_ste sz128 rfl rfl (fill_get _ _ _ hk) rfl (.inl ⟨_, rfl⟩) rfl (run_nil (h9 _ (h8 _ ?_))))))))))))
    refine ok_region rfl (q_mv _ rfl (q_add rfl rfl (by omega) (q_as _ rfl (run_nil (⟨k + 1, by omega, hk, ?_⟩)))))
    rw [← fill_set eSample (.agg [.raw (.int .i64 0), .raw (.int .i64 0)]) hu]
    exact le_sub ⟨rfl, rfl, rfl, trivial⟩ ⟨rfl, trivial⟩
  · refine ok_exit (h3 _ ?_)
    refine ok_seq fun K9 h9 => ok_region rfl (q_mo _ rfl (q_ao _ rfl (run_nil (h9 _ ?_)))); clear h9 K9
    refine ok_ret ⟨_, ⟨_, _, rfl, rfl, rfl⟩, ?_⟩
    rw [fill_all _ _ _ (by simpa using c7)]; rfl
theorem f137_ok (x : List Sample) (hx : x.length ≤ 1048576) : PFn Tryz.prog 137 [eSampleS x, eSampleS x] (bool true) := by
  have hle : x.length ≤ 1048576 := hx
  refine fn_ok' (n := 27) Tryz.func137 rfl rfl rfl (Nat.le_of_ble_eq_true rfl) rfl fun w0 O => ?_
  refine ok_seq fun K1 h1 => ok_region rfl (q_as _ rfl (run_nil (h1 _ ?_))); clear h1 K1
  refine ok_seq fun K2 h2 => ?_
  refine ok_seq fun K3 h3 => ok_region rfl (q_mv _ rfl (q_len eS81 rfl (q_mv _ rfl (q_len eS81 rfl (q_bin _ _ _ rfl rfl rfl (run_nil (h3 _ ?_))))))); clear h3 K3
  refine ok_cond rfl (fun c4 => ?_) (fun c4 => ?_)
  · simp at c4
  · refine ok_skip (h2 _ ?_)
    refine ok_seq fun K6 h6 => ?_
    refine ok_seq fun K7 h7 => ok_region rfl (q_as _ rfl (run_nil (h7 _ ?_))); clear h7 K7
    refine ok_block ?_
    refine ok_loop (fun (k : Nat) => ⟨[(0, .sv (eSampleS x)), (1, .sv (eSampleS x)), (5, .sv (int k))], []⟩) (fun k => True) (fun k => x.length - k) 0 trivial (le_same ⟨rfl, rfl, rfl, trivial⟩) (fun k J => ?_)
    refine ok_seq fun K8 h8 => ?_
    refine ok_seq fun K9 h9 => ok_region rfl (q_mv _ rfl (q_mv _ rfl (q_len eS81 rfl (q_bin _ _ _ rfl rfl rfl (run_nil (h9 _ ?_)))))); clear h9 K9
    rw [List.length_map]
    refine ok_cond rfl (fun c10 => ?_) (fun c10 => ?_)
    · refine ok_skip (h8 _ ?_)
      have hk : k < x.length := by simpa using c10
      obtain ⟨u, hu⟩ := sget hk
      refine ok_seq fun K11 h11 => ?_
      refine ok_block ?_
      refine ok_seq fun K12 h12 => ?_
      refine ok_region_i (by kernel_rfl) (by kernel_rfl) rfl (
        q_mv _ rfl (q_mv _ rfl (q_ia el81 rfl rfl (by omega) (mget hu) (q_lds _ ag128 rfl sz128 (q_mv _ rfl (q_mv _ rfl (q_ia el81 rfl rfl (by omega) (mget hu) (q_lds _ ag128 rfl sz128 (
        q_call (f190_ok u) cl190 rfl rfl (q_un _ _ rfl rfl (run_nil (h12 _ ?_))))))))))))
      clear h12 K12
      refine ok_cond rfl (fun c13 => ?_) (fun c13 => ?_)
      · simp at c13
      · refine ok_skip (h11 _ ?_)
        refine ok_region rfl (q_mv _ rfl (q_add rfl rfl (by omega) (q_as _ rfl (run_nil (⟨k + 1, by omega, trivial, le_same ⟨rfl, rfl, rfl, trivial⟩⟩)))))
    · refine ok_exit (h6 _ ?_)
      refine ok_seq fun K15 h15 => ok_region rfl (q_as _ rfl (run_nil (h15 _ ?_))); clear h15 K15
      exact ok_ret ⟨_, rfl, rfl⟩
structure Series where
  labels : List Label
  samples : List Sample
@[reducible] def eSeries (x : Series) : SV := .agg [eLabelS x.labels, eSampleS x.samples]
def LSeries (x : Series) : Prop := (LB x.labels.length ∧ ∀ y ∈ x.labels, LLabel y) ∧ LB x.samples.length
def SSeries (x : Series) : Prop := (x.labels.length ≤ 1048576 ∧ ∀ y ∈ x.labels, SLabel y) ∧ x.samples.length ≤ 1048576
theorem op_Series : Opens Tryz.prog 135 eSeries (fun y => LSeries y) :=
  op_iso (fun y : (List Label) × (List Sample) × Unit => (⟨y.1, y.2.1⟩ : Series)) (fun _ => rfl) (fun y h => ⟨h.1, h.2.1⟩)
    (op_struct (n := 2) Tryz.underlying135 (by kernel_rfl) (ofs_cons (f := { name := "Labels", type := 132, offset := 0, embedded := false, tag := "", pkgPath := "", byteOffset := 0 }) (n := 1) (m := 1) rfl (by kernel_rfl) (fun _ => ⟨.inr rfl, rfl⟩) op_LabelS (ofs_cons (f := { name := "Samples", type := 133, offset := 1, embedded := false, tag := "", pkgPath := "", byteOffset := 24 }) (n := 1) (m := 0) rfl (by kernel_rfl) (fun _ => ⟨.inr rfl, rfl⟩) op_SampleS ofs_nil)))
def zSeries (x : Series) (n : Int) : Int := (stp (zLabelS x.labels) ((zSampleS x.samples))) n
theorem zSeries_ok (x : Series) : GOk (zSeries x) (SSeries x) := (stp_ok (zLabelS_ok x.labels) (zSampleS_ok x.samples))
theorem f110_ok (x : Series) (hx : LSeries x) (n : Int) (h0 : 0 ≤ n) (hn : n ≤ 1048576) : PFn Tryz.prog 110 [eSeries x, int n] (int (zSeries x n)) := by
  have e0 : zSeries x n = (stp (zLabelS x.labels) ((zSampleS x.samples))) n := rfl
  have a0 := h0
  have b0 := hn
  refine fn_ok' (n := 18) Tryz.func110 rfl rfl rfl (Nat.le_of_ble_eq_true rfl) rfl fun w0 O => ?_
  refine ok_seq fun K1 h1 => ok_region rfl (q_boxs _ rfl (Nat.zero_lt_succ _) (q_as _ rfl (run_nil (h1 _ ?_)))); clear h1 K1
  refine ok_seq fun K2 h2 => ok_region rfl (q_fa _ fd135_0 rfl rfl (by decide) (q_ld _ ag132 rfl rfl (q_mv _ rfl (q_call (f166_ok x.labels (hx.1) _ a0 b0) cl166 rfl rfl (q_as _ rfl (run_nil (h2 _ ?_))))))); clear h2 K2
  refine ok_seq fun K3 h3 => ?_
  refine ok_seq fun K4 h4 => ok_region rfl (q_mv _ rfl (q_bin _ _ _ rfl rfl rfl (run_nil (h4 _ ?_)))); clear h4 K4
  refine ok_cond rfl (fun c5 => ?_) (fun c5 => ?_)
  · refine ok_seq fun K6 h6 => ?_
    refine ok_region rfl (q_as _ rfl (run_nil (h6 _ ?_)))
    clear h6 K6
    refine ok_ret ⟨_, rfl, ?_⟩
    rw [e0, stp_pos (of_decide_eq_true c5)]; rfl
  · refine ok_skip (h3 _ ?_)
    have e1 : zSeries x n = ((zSampleS x.samples)) (zLabelS x.labels n) := by rw [e0, stp_neg (of_decide_eq_false c5)]
    have a1 : 0 ≤ zLabelS x.labels n := by have := of_decide_eq_false c5; omega
    have b1 : zLabelS x.labels n ≤ 1048576 := ((zLabelS_ok x.labels) _ b0).1
    refine ok_seq fun K7 h7 => ok_region rfl (q_fa _ fd135_1 rfl rfl (by decide) (q_ld _ ag133 rfl rfl (q_mv _ rfl (q_call (f167_ok x.samples (hx.2) _ a1 b1) cl167 rfl rfl (q_as _ rfl (run_nil (h7 _ ?_))))))); clear h7 K7
    refine ok_seq fun K8 h8 => ?_
    refine ok_seq fun K9 h9 => ok_region rfl (q_mv _ rfl (q_bin _ _ _ rfl rfl rfl (run_nil (h9 _ ?_)))); clear h9 K9
    refine ok_cond rfl (fun c10 => ?_) (fun c10 => ?_)
    · refine ok_seq fun K11 h11 => ?_
      refine ok_region rfl (q_as _ rfl (run_nil (h11 _ ?_)))
      clear h11 K11
      refine ok_ret ⟨_, rfl, ?_⟩
      rw [e1]; rw [((zSampleS_ok x.samples) _ b1).2.1 (of_decide_eq_true c10)]; rfl
    · refine ok_skip (h8 _ ?_)
      refine ok_seq fun K12 h12 => ok_region rfl (q_mv _ rfl (q_as _ rfl (run_nil (h12 _ ?_)))); clear h12 K12
      refine ok_ret ⟨_, rfl, ?_⟩
      rw [e1]; rfl
theorem f120_ok (x : Series) (hx : SSeries x) : PFn Tryz.prog 120 [eSeries x] (eSeries x) := by
  refine fnr_ok (n := 13) Tryz.func120 rfl rfl rfl (Nat.le_of_ble_eq_true rfl) rfl fun w0 O => ?_
  refine ok_seq fun K1 h1 => ok_region rfl (q_boxs _ rfl (Nat.zero_lt_succ _) (q_alloc _ ze83 rfl rfl rfl rfl (run_nil (h1 _ ?_)))); clear h1 K1
  refine ok_seq fun K2 h2 => ok_region rfl (q_alloc _ ze83 rfl rfl rfl rfl (run_nil (h2 _ ?_))); clear h2 K2
  refine ok_seq fun K3 h3 => ok_region rfl (q_fa _ fd135_0 rfl rfl (by decide) (q_ld _ ag132 rfl rfl (q_call (f176_ok x.labels (hx.1)) cl176 rfl rfl (q_fap fd83_0 rfl (by decide) (q_st _ sz80 rfl rfl (Nat.le_of_ble_eq_true rfl) rfl ⟨_, rfl, rfl⟩ rfl (run_nil (h3 _ ?_))))))); clear h3 K3
  refine ok_seq fun K4 h4 => ok_region rfl (q_fa _ fd135_1 rfl rfl (by decide) (q_ld _ ag133 rfl rfl (q_call (f177_ok x.samples (hx.2)) cl177 rfl rfl (q_fap fd83_1 rfl (by decide) (q_st _ sz81 rfl rfl (Nat.le_of_ble_eq_true rfl) rfl ⟨_, rfl, rfl⟩ rfl (run_nil (h4 _ ?_))))))); clear h4 K4
  refine ok_seq fun K5 h5 => ok_region rfl (q_ldbs ag83 rfl rfl sz83 rfl rfl (q_sts _ rfl rfl rfl sz83 (Nat.le_of_ble_eq_true rfl) rfl (run_nil (h5 _ ?_)))); clear h5 K5
  exact ok_ret (ret_cell (l := [eLabelS x.labels, eSampleS x.samples]) rfl rfl ag83 sz83 rfl rfl)
theorem f71_ok (x : Series) (hx : SSeries x) : PFn Tryz.prog 71 [eSeries x, eSeries x] (bool true) := by
  refine fn_ok' (n := 17) Tryz.func71 rfl rfl rfl (Nat.le_of_ble_eq_true rfl) rfl fun w0 O => ?_
  refine ok_seq fun K1 h1 => ok_region rfl (q_boxs _ rfl (Nat.zero_lt_succ _) (q_boxs _ rfl (Nat.zero_lt_succ _) (q_as _ rfl (run_nil (h1 _ ?_))))); clear h1 K1
  refine ok_seq fun K2 h2 => ?_
  refine ok_seq fun K3 h3 => ok_region rfl (q_fa _ fd83_0 rfl rfl (by decide) (q_ld _ ag80 rfl rfl (q_fa _ fd83_0 rfl rfl (by decide) (q_ld _ ag80 rfl rfl (q_call (f136_ok x.labels (hx.1)) cl136 rfl rfl (q_un _ _ rfl rfl (run_nil (h3 _ ?_)))))))); clear h3 K3
  refine ok_cond rfl (fun c4 => ?_) (fun c4 => ?_)
  · simp at c4
  · refine ok_skip (h2 _ ?_)
    refine ok_seq fun K6 h6 => ?_
    refine ok_seq fun K7 h7 => ok_region rfl (q_fa _ fd83_1 rfl rfl (by decide) (q_ld _ ag81 rfl rfl (q_fa _ fd83_1 rfl rfl (by decide) (q_ld _ ag81 rfl rfl (q_call (f137_ok x.samples (hx.2)) cl137 rfl rfl (q_un _ _ rfl rfl (run_nil (h7 _ ?_)))))))); clear h7 K7
    refine ok_cond rfl (fun c8 => ?_) (fun c8 => ?_)
    · simp at c8
    · refine ok_skip (h6 _ ?_)
      refine ok_seq fun K10 h10 => ok_region rfl (q_as _ rfl (run_nil (h10 _ ?_))); clear h10 K10
      exact ok_ret ⟨_, rfl, rfl⟩
@[reducible] def eSeriesS (l : List Series) : SV := .sl 2 (l.map eSeries)
theorem op_SeriesS : Opens Tryz.prog 22 eSeriesS (fun y => LB y.length ∧ ∀ z ∈ y, LSeries z) :=
  op_iso (fun y : List Series => y) (fun _ => rfl) (fun y h => h) (op_slice (n := 2) Tryz.underlying22 (by kernel_rfl) (by decide) (fun _ => ⟨.inl ⟨_, rfl⟩, rfl⟩) op_Series)
def zSeriesS (x : List Series) (n : Int) : Int := szSl zSeries x n
theorem zSeriesS_ok (x : List Series) : GOk (zSeriesS x) (x.length ≤ 1048576 ∧ ∀ y ∈ x, SSeries y) := szSl_ok zSeries_ok x
theorem f52_ok (x : List Series) (hx : LB x.length ∧ ∀ y ∈ x, LSeries y) (n : Int) (h0 : 0 ≤ n) (hn : n ≤ 1048576) : PFn Tryz.prog 52 [eSeriesS x, int n] (int (zSeriesS x n)) := by
  have hx1 := hx.1
  unfold LB at hx1
  refine fn_ok' (n := 27) Tryz.func52 rfl rfl rfl (Nat.le_of_ble_eq_true rfl) rfl fun w0 O => ?_
  refine ok_seq fun K1 h1 => ok_region rfl (q_as _ rfl (run_nil (h1 _ ?_))); clear h1 K1
  refine ok_seq fun K2 h2 => ok_region rfl (q_mv _ rfl (q_mv _ rfl (q_len eS22 rfl (q_sub rfl rfl (by rw [List.length_map]; omega) (q_as _ rfl (run_nil (h2 _ ?_))))))); clear h2 K2
  rw [List.length_map]
  refine ok_seq fun K3 h3 => ?_
  refine ok_seq fun K4 h4 => ok_region rfl (q_mv _ rfl (q_bin _ _ _ rfl rfl rfl (run_nil (h4 _ ?_)))); clear h4 K4
  refine ok_cond rfl (fun c5 => ?_) (fun c5 => ?_)
  · refine ok_seq fun K6 h6 => ?_
    refine ok_region rfl (q_as _ rfl (run_nil (h6 _ ?_)))
    clear h6 K6
    refine ok_ret ⟨_, rfl, ?_⟩
    rw [zSeriesS, szSl_pos (of_decide_eq_true c5)]; rfl
  · refine ok_skip (h3 _ ?_)
    refine ok_seq fun K7 h7 => ?_
    refine ok_seq fun K8 h8 => ok_region rfl (q_as _ rfl (run_nil (h8 _ ?_))); clear h8 K8
    refine ok_block ?_
    refine ok_loop (fun (s : Nat × Int) => ⟨[(0, .sv (eSeriesS x)), (1, .sv (int s.2)), (5, .sv (int s.1))], []⟩) (fun s => 0 ≤ s.2 ∧ s.2 ≤ 1048576 ∧ szAll zSeries (x.drop s.1) s.2 = zSeriesS x n) (fun s => x.length - s.1) (0, n - x.length) ⟨by have := of_decide_eq_false c5; simp only; omega, by simp only; omega, by simp only [List.drop_zero]; rw [zSeriesS, szSl_neg (of_decide_eq_false c5)]⟩ (le_same ⟨rfl, rfl, rfl, trivial⟩) (fun s J => ?_)
    obtain ⟨k, a⟩ := s
    obtain ⟨J1, J2, J3⟩ := J
    simp only at J1 J2 J3
    refine ok_seq fun K9 h9 => ?_
    refine ok_seq fun K10 h10 => ok_region rfl (q_mv _ rfl (q_mv _ rfl (q_len eS22 rfl (q_bin _ _ _ rfl rfl rfl (run_nil (h10 _ ?_)))))); clear h10 K10
    rw [List.length_map]
    refine ok_cond rfl (fun c11 => ?_) (fun c11 => ?_)
    · refine ok_skip (h9 _ ?_)
      obtain ⟨u, hu⟩ := sget (l := x) (i := k) (by simpa using c11)
      rw [szAll_cons _ hu] at J3
      refine ok_seq fun K12 h12 => ?_
      refine ok_block ?_
      refine ok_seq fun K13 h13 => ok_region rfl (q_mv _ rfl (q_mv _ rfl (q_ia el22 rfl rfl (by omega) (mget hu) (q_lds _ ag135 rfl sz135 (q_mv _ rfl (q_call (f110_ok u (hx.2 u (smem hu)) a J1 J2) cl110 rfl rfl (q_as _ rfl (run_nil (h13 _ ?_))))))))); clear h13 K13
      refine ok_seq fun K14 h14 => ok_region rfl (q_mv _ rfl (q_bin _ _ _ rfl rfl rfl (run_nil (h14 _ ?_)))); clear h14 K14
      refine ok_cond rfl (fun c15 => ?_) (fun c15 => ?_)
      · refine ok_seq fun K16 h16 => ?_
        refine ok_region rfl (q_as _ rfl (run_nil (h16 _ ?_)))
        clear h16 K16
        refine ok_ret ⟨_, rfl, ?_⟩
        rw [if_pos (of_decide_eq_true c15)] at J3; rw [← J3]; rfl
      · refine ok_skip (h12 _ ?_)
        refine ok_region rfl (q_mv _ rfl (q_add rfl rfl (by have := slt hu; have := hx.1; unfold LB at this; omega) (q_as _ rfl (run_nil (⟨(k + 1, zSeries u a), by have := slt hu; simp only; omega, ⟨by have := of_decide_eq_false c15; simp only; omega, (zSeries_ok u a J2).1, by rw [if_neg (of_decide_eq_false c15)] at J3; exact J3⟩, le_same ⟨rfl, rfl, rfl, trivial⟩⟩)))))
    · refine ok_exit (h7 _ ?_)
      refine ok_seq fun K17 h17 => ok_region rfl (q_mv _ rfl (q_as _ rfl (run_nil (h17 _ ?_)))); clear h17 K17
      refine ok_ret ⟨_, rfl, ?_⟩
      rw [szAll_end _ (by simpa using c11)] at J3; rw [← J3]; rfl
theorem f58_ok (x : List Series) (hx : x.length ≤ 1048576 ∧ ∀ y ∈ x, SSeries y) : PFn Tryz.prog 58 [eSeriesS x] (eSeriesS x) := by
  have hle : x.length ≤ 1048576 := hx.1
  refine fnr_ok (n := 23) Tryz.func58 rfl rfl rfl (Nat.le_of_ble_eq_true rfl) rfl fun w0 O => ?_
  refine ok_seq fun K1 h1 => ok_region rfl (q_as _ rfl (run_nil (h1 _ ?_))); clear h1 K1
  refine ok_seq fun K2 h2 => ok_region rfl (q_mv _ rfl (q_len eS22 rfl (q_make _ _ el31 (by decide) ze83 rfl by83 rfl rfl rfl rfl (.inl ⟨rfl, rfl, rfl⟩) (by rw [List.length_map]; exact Nat.le_trans hle (by decide)) (by rw [List.length_map]; omega) (q_ao _ rfl (run_nil (h2 _ ?_)))))); clear h2 K2
  rw [List.length_map]
  refine ok_seq fun K3 h3 => ?_
  refine ok_seq fun K4 h4 => ok_region rfl (q_as _ rfl (run_nil (h4 _ ?_))); clear h4 K4
  refine ok_block ?_
  refine ok_loop (fun (k : Nat) => ⟨[(0, .sv (eSeriesS x)), (3, .own 7), (4, .sv (int k))], [(7, .row 2 83 (fill eSeries (.agg [.raw (.slice none 0 0), .raw (.slice none 0 0)]) x k))]⟩) (fun k => k ≤ x.length) (fun k => x.length - k) 0 (Nat.zero_le _) (by rw [fill_zero]; exact le_sub ⟨rfl, rfl, rfl, trivial⟩ ⟨rfl, trivial⟩) (fun k J => ?_)
  refine ok_seq fun K5 h5 => ?_
  refine ok_seq fun K6 h6 => ok_region rfl (q_mv _ rfl (q_mv _ rfl (q_len eS22 rfl (q_bin _ _ _ rfl rfl rfl (run_nil (h6 _ ?_)))))); clear h6 K6
  rw [List.length_map]
  refine ok_cond rfl (fun c7 => ?_) (fun c7 => ?_)
  · refine ok_skip (h5 _ ?_)
    have hk : k < x.length := by simpa using c7
    obtain ⟨u, hu⟩ := sget hk
    refine ok_seq fun K8 h8 => ?_
    refine ok_block ?_
    refine ok_last fun K9 h9 => ok_region rfl (q_mo _ rfl (q_mv _ rfl (q_mv _ rfl (q_mv _ rfl (q_ia el22 rfl rfl (by omega) (mget hu) (q_lds _ ag135 rfl sz135 (q_call (f120_ok u (hx.2 u (smem hu))) cl120 rfl rfl (q_iao el31 rfl rfl rfl (by omega) (by rw [fill_len _ _ _ J]; exact hk) (
      q_ste sz83 rfl rfl (fill_get _ _ _ hk) rfl (.inl ⟨_, rfl⟩) rfl (run_nil (h9 _ (h8 _ ?_))))))))))))
    refine ok_region rfl (q_mv _ rfl (q_add rfl rfl (by omega) (q_as _ rfl (run_nil (⟨k + 1, by omega, hk, ?_⟩)))))
    rw [← fill_set eSeries (.agg [.raw (.slice none 0 0), .raw (.slice none 0 0)]) hu]
    exact le_sub ⟨rfl, rfl, rfl, trivial⟩ ⟨rfl, trivial⟩
  · refine ok_exit (h3 _ ?_)
    refine ok_seq fun K9 h9 => ok_region rfl (q_mo _ rfl (q_ao _ rfl (run_nil (h9 _ ?_)))); clear h9 K9
    refine ok_ret ⟨_, ⟨_, _, rfl, rfl, rfl⟩, ?_⟩
    rw [fill_all _ _ _ (by simpa using c7)]; rfl
theorem f26_ok (x : List Series) (hx : x.length ≤ 1048576 ∧ ∀ y ∈ x, SSeries y) : PFn Tryz.prog 26 [eSeriesS x, eSeriesS x] (bool true) := by
  have hle : x.length ≤ 1048576 := hx.1
  refine fn_ok' (n := 27) Tryz.func26 rfl rfl rfl (Nat.le_of_ble_eq_true rfl) rfl fun w0 O => ?_
  refine ok_seq fun K1 h1 => ok_region rfl (q_as _ rfl (run_nil (h1 _ ?_))); clear h1 K1
  refine ok_seq fun K2 h2 => ?_
  refine ok_seq fun K3 h3 => ok_region rfl (q_mv _ rfl (q_len eS31 rfl (q_mv _ rfl (q_len eS31 rfl (q_bin _ _ _ rfl rfl rfl (run_nil (h3 _ ?_))))))); clear h3 K3
  refine ok_cond rfl (fun c4 => ?_) (fun c4 => ?_)
  · simp at c4
  · refine ok_skip (h2 _ ?_)
    refine ok_seq fun K6 h6 => ?_
    refine ok_seq fun K7 h7 => ok_region rfl (q_as _ rfl (run_nil (h7 _ ?_))); clear h7 K7
    refine ok_block ?_
    refine ok_loop (fun (k : Nat) => ⟨[(0, .sv (eSeriesS x)), (1, .sv (eSeriesS x)), (5, .sv (int k))], []⟩) (fun k => True) (fun k => x.length - k) 0 trivial (le_same ⟨rfl, rfl, rfl, trivial⟩) (fun k J => ?_)
    refine ok_seq fun K8 h8 => ?_
    refine ok_seq fun K9 h9 => ok_region rfl (q_mv _ rfl (q_mv _ rfl (q_len eS31 rfl (q_bin _ _ _ rfl rfl rfl (run_nil (h9 _ ?_)))))); clear h9 K9
    rw [List.length_map]
    refine ok_cond rfl (fun c10 => ?_) (fun c10 => ?_)
    · refine ok_skip (h8 _ ?_)
      have hk : k < x.length := by simpa using c10
      obtain ⟨u, hu⟩ := sget hk
      refine ok_seq fun K11 h11 => ?_
      refine ok_block ?_
      refine ok_seq fun K12 h12 => ?_
      refine ok_region_i (by kernel_rfl) (by kernel_rfl) rfl (
        q_mv _ rfl (q_mv _ rfl (q_ia el31 rfl rfl (by omega) (mget hu) (q_lds _ ag83 rfl sz83 (q_mv _ rfl (q_mv _ rfl (q_ia el31 rfl rfl (by omega) (mget hu) (q_lds _ ag83 rfl sz83 (
        q_call (f71_ok u (hx.2 u (smem hu))) cl71 rfl rfl (q_un _ _ rfl rfl (run_nil (h12 _ ?_))))))))))))
      clear h12 K12
      refine ok_cond rfl (fun c13 => ?_) (fun c13 => ?_)
      · simp at c13
      · refine ok_skip (h11 _ ?_)
        refine ok_region rfl (q_mv _ rfl (q_add rfl rfl (by omega) (q_as _ rfl (run_nil (⟨k + 1, by omega, trivial, le_same ⟨rfl, rfl, rfl, trivial⟩⟩)))))
    · refine ok_exit (h6 _ ?_)
      refine ok_seq fun K15 h15 => ok_region rfl (q_as _ rfl (run_nil (h15 _ ?_))); clear h15 K15
      exact ok_ret ⟨_, rfl, rfl⟩
structure Stone where
  labels : List Label
  from_ : Int
  to : Int
@[reducible] def eStone (x : Stone) : SV := .agg [eLabelS x.labels, int x.from_, int x.to]
def LStone (x : Stone) : Prop := LB x.labels.length ∧ ∀ y ∈ x.labels, LLabel y
def SStone (x : Stone) : Prop := x.labels.length ≤ 1048576 ∧ ∀ y ∈ x.labels, SLabel y
theorem op_Stone : Opens Tryz.prog 138 eStone (fun y => LStone y) :=
  op_iso (fun y : (List Label) × Int × Int × Unit => (⟨y.1, y.2.1, y.2.2.1⟩ : Stone)) (fun _ => rfl) (fun y h => h.1)
    (op_struct (n := 3) Tryz.underlying138 (by kernel_rfl) (ofs_cons (f := { name := "Labels", type := 132, offset := 0, embedded := false, tag := "", pkgPath := "", byteOffset := 0 }) (n := 1) (m := 2) rfl (by kernel_rfl) (fun _ => ⟨.inr rfl, rfl⟩) op_LabelS (ofs_cons (f := { name := "From", type := 3, offset := 1, embedded := false, tag := "", pkgPath := "", byteOffset := 24 }) (n := 1) (m := 1) rfl (by kernel_rfl) (fun _ => ⟨.inr rfl, rfl⟩) (op_int Tryz.underlying3) (ofs_cons (f := { name := "To", type := 3, offset := 2, embedded := false, tag := "", pkgPath := "", byteOffset := 32 }) (n := 1) (m := 0) rfl (by kernel_rfl) (fun _ => ⟨.inr rfl, rfl⟩) (op_int Tryz.underlying3) ofs_nil))))
def zStone (x : Stone) (n : Int) : Int := ((zLabelS x.labels)) n
theorem zStone_ok (x : Stone) : GOk (zStone x) (SStone x) := (zLabelS_ok x.labels)
theorem f111_ok (x : Stone) (hx : LStone x) (n : Int) (h0 : 0 ≤ n) (hn : n ≤ 1048576) : PFn Tryz.prog 111 [eStone x, int n] (int (zStone x n)) := by
  have e0 : zStone x n = ((zLabelS x.labels)) n := rfl
  have a0 := h0
  have b0 := hn
  refine fn_ok' (n := 12) Tryz.func111 rfl rfl rfl (Nat.le_of_ble_eq_true rfl) rfl fun w0 O => ?_
  refine ok_seq fun K1 h1 => ok_region rfl (q_boxs _ rfl (Nat.zero_lt_succ _) (q_as _ rfl (run_nil (h1 _ ?_)))); clear h1 K1
  refine ok_seq fun K2 h2 => ok_region rfl (q_fa _ fd138_0 rfl rfl (by decide) (q_ld _ ag132 rfl rfl (q_mv _ rfl (q_call (f166_ok x.labels (hx) _ a0 b0) cl166 rfl rfl (q_as _ rfl (run_nil (h2 _ ?_))))))); clear h2 K2
  refine ok_seq fun K3 h3 => ?_
  refine ok_seq fun K4 h4 => ok_region rfl (q_mv _ rfl (q_bin _ _ _ rfl rfl rfl (run_nil (h4 _ ?_)))); clear h4 K4
  refine ok_cond rfl (fun c5 => ?_) (fun c5 => ?_)
  · refine ok_seq fun K6 h6 => ?_
    refine ok_region rfl (q_as _ rfl (run_nil (h6 _ ?_)))
    clear h6 K6
    refine ok_ret ⟨_, rfl, ?_⟩
    rw [e0]; rw [((zLabelS_ok x.labels) _ b0).2.1 (of_decide_eq_true c5)]; rfl
  · refine ok_skip (h3 _ ?_)
    refine ok_seq fun K7 h7 => ok_region rfl (q_mv _ rfl (q_as _ rfl (run_nil (h7 _ ?_)))); clear h7 K7
    refine ok_ret ⟨_, rfl, ?_⟩
    rw [e0]; rfl
theorem f121_ok (x : Stone) (hx : SStone x) : PFn Tryz.prog 121 [eStone x] (eStone x) := by
  refine fnr_ok (n := 15) Tryz.func121 rfl rfl rfl (Nat.le_of_ble_eq_true rfl) rfl fun w0 O => ?_
  refine ok_seq fun K1 h1 => ok_region rfl (q_boxs _ rfl (Nat.zero_lt_succ _) (q_alloc _ ze103 rfl rfl rfl rfl (run_nil (h1 _ ?_)))); clear h1 K1
  refine ok_seq fun K2 h2 => ok_region rfl (q_alloc _ ze103 rfl rfl rfl rfl (run_nil (h2 _ ?_))); clear h2 K2
  refine ok_seq fun K3 h3 => ok_region rfl (q_fa _ fd138_0 rfl rfl (by decide) (q_ld _ ag132 rfl rfl (q_call (f176_ok x.labels (hx)) cl176 rfl rfl (q_fap fd103_0 rfl (by decide) (q_st _ sz80 rfl rfl (Nat.le_of_ble_eq_true rfl) rfl ⟨_, rfl, rfl⟩ rfl (run_nil (h3 _ ?_))))))); clear h3 K3
  refine ok_seq fun K4 h4 => ok_region rfl (q_fa _ fd138_1 rfl rfl (by decide) (q_ld _ ag3 rfl rfl (q_fap fd103_1 rfl (by decide) (q_st _ sz3 rfl rfl (Nat.le_of_ble_eq_true rfl) rfl ⟨_, rfl, rfl⟩ rfl (run_nil (h4 _ ?_)))))); clear h4 K4
  refine ok_seq fun K5 h5 => ok_region rfl (q_fa _ fd138_2 rfl rfl (by decide) (q_ld _ ag3 rfl rfl (q_fap fd103_2 rfl (by decide) (q_st _ sz3 rfl rfl (Nat.le_of_ble_eq_true rfl) rfl ⟨_, rfl, rfl⟩ rfl (run_nil (h5 _ ?_)))))); clear h5 K5
  refine ok_seq fun K6 h6 => ok_region rfl (q_ldbs ag103 rfl rfl sz103 rfl rfl (q_sts _ rfl rfl rfl sz103 (Nat.le_of_ble_eq_true rfl) rfl (run_nil (h6 _ ?_)))); clear h6 K6
  exact ok_ret (ret_cell (l := [eLabelS x.labels, int x.from_, int x.to]) rfl rfl ag103 sz103 rfl rfl)
theorem f128_ok (x : Stone) (hx : SStone x) : PFn Tryz.prog 128 [eStone x, eStone x] (bool true) := by
  refine fn_ok' (n := 21) Tryz.func128 rfl rfl rfl (Nat.le_of_ble_eq_true rfl) rfl fun w0 O => ?_
  refine ok_seq fun K1 h1 => ok_region rfl (q_boxs _ rfl (Nat.zero_lt_succ _) (q_boxs _ rfl (Nat.zero_lt_succ _) (q_as _ rfl (run_nil (h1 _ ?_))))); clear h1 K1
  refine ok_seq fun K2 h2 => ?_
  refine ok_seq fun K3 h3 => ok_region rfl (q_fa _ fd103_0 rfl rfl (by decide) (q_ld _ ag80 rfl rfl (q_fa _ fd103_0 rfl rfl (by decide) (q_ld _ ag80 rfl rfl (q_call (f136_ok x.labels (hx)) cl136 rfl rfl (q_un _ _ rfl rfl (run_nil (h3 _ ?_)))))))); clear h3 K3
  refine ok_cond rfl (fun c4 => ?_) (fun c4 => ?_)
  · simp at c4
  · refine ok_skip (h2 _ ?_)
    refine ok_seq fun K6 h6 => ?_
    refine ok_seq fun K7 h7 => ok_region rfl (q_fa _ fd103_1 rfl rfl (by decide) (q_ld _ ag3 rfl rfl (q_fa _ fd103_1 rfl rfl (by decide) (q_ld _ ag3 rfl rfl (q_bin _ _ _ rfl rfl rfl (run_nil (h7 _ ?_))))))); clear h7 K7
    refine ok_cond rfl (fun c8 => ?_) (fun c8 => ?_)
    · simp at c8
    · refine ok_skip (h6 _ ?_)
      refine ok_seq fun K10 h10 => ?_
      refine ok_seq fun K11 h11 => ok_region rfl (q_fa _ fd103_2 rfl rfl (by decide) (q_ld _ ag3 rfl rfl (q_fa _ fd103_2 rfl rfl (by decide) (q_ld _ ag3 rfl rfl (q_bin _ _ _ rfl rfl rfl (run_nil (h11 _ ?_))))))); clear h11 K11
      refine ok_cond rfl (fun c12 => ?_) (fun c12 => ?_)
      · simp at c12
      · refine ok_skip (h10 _ ?_)
        refine ok_seq fun K14 h14 => ok_region rfl (q_as _ rfl (run_nil (h14 _ ?_))); clear h14 K14
        exact ok_ret ⟨_, rfl, rfl⟩
@[reducible] def eStoneS (l : List Stone) : SV := .sl 3 (l.map eStone)
theorem op_StoneS : Opens Tryz.prog 23 eStoneS (fun y => LB y.length ∧ ∀ z ∈ y, LStone z) :=
  op_iso (fun y : List Stone => y) (fun _ => rfl) (fun y h => h) (op_slice (n := 3) Tryz.underlying23 (by kernel_rfl) (by decide) (fun _ => ⟨.inl ⟨_, rfl⟩, rfl⟩) op_Stone)
def zStoneS (x : List Stone) (n : Int) : Int := szSl zStone x n
theorem zStoneS_ok (x : List Stone) : GOk (zStoneS x) (x.length ≤ 1048576 ∧ ∀ y ∈ x, SStone y) := szSl_ok zStone_ok x
theorem f53_ok (x : List Stone) (hx : LB x.length ∧ ∀ y ∈ x, LStone y) (n : Int) (h0 : 0 ≤ n) (hn : n ≤ 1048576) : PFn Tryz.prog 53 [eStoneS x, int n] (int (zStoneS x n)) := by
  have hx1 := hx.1
  unfold LB at hx1
  refine fn_ok' (n := 27) Tryz.func53 rfl rfl rfl (Nat.le_of_ble_eq_true rfl) rfl fun w0 O => ?_
  refine ok_seq fun K1 h1 => ok_region rfl (q_as _ rfl (run_nil (h1 _ ?_))); clear h1 K1
  refine ok_seq fun K2 h2 => ok_region rfl (q_mv _ rfl (q_mv _ rfl (q_len eS23 rfl (q_sub rfl rfl (by rw [List.length_map]; omega) (q_as _ rfl (run_nil (h2 _ ?_))))))); clear h2 K2
  rw [List.length_map]
  refine ok_seq fun K3 h3 => ?_
  refine ok_seq fun K4 h4 => ok_region rfl (q_mv _ rfl (q_bin _ _ _ rfl rfl rfl (run_nil (h4 _ ?_)))); clear h4 K4
  refine ok_cond rfl (fun c5 => ?_) (fun c5 => ?_)
  · refine ok_seq fun K6 h6 => ?_
    refine ok_region rfl (q_as _ rfl (run_nil (h6 _ ?_)))
    clear h6 K6
    refine ok_ret ⟨_, rfl, ?_⟩
    rw [zStoneS, szSl_pos (of_decide_eq_true c5)]; rfl
  · refine ok_skip (h3 _ ?_)
    refine ok_seq fun K7 h7 => ?_
    refine ok_seq fun K8 h8 => ok_region rfl (q_as _ rfl (run_nil (h8 _ ?_))); clear h8 K8
    refine ok_block ?_
    refine ok_loop (fun (s : Nat × Int) => ⟨[(0, .sv (eStoneS x)), (1, .sv (int s.2)), (5, .sv (int s.1))], []⟩) (fun s => 0 ≤ s.2 ∧ s.2 ≤ 1048576 ∧ szAll zStone (x.drop s.1) s.2 = zStoneS x n) (fun s => x.length - s.1) (0, n - x.length) ⟨by have := of_decide_eq_false c5; simp only; omega, by simp only; omega, by simp only [List.drop_zero]; rw [zStoneS, szSl_neg (of_decide_eq_false c5)]⟩ (le_same ⟨rfl, rfl, rfl, trivial⟩) (fun s J => ?_)
    obtain ⟨k, a⟩ := s
    obtain ⟨J1, J2, J3⟩ := J
    simp only at J1 J2 J3
    refine ok_seq fun K9 h9 => ?_
    refine ok_seq fun K10 h10 => ok_region rfl (q_mv _ rfl (q_mv _ rfl (q_len eS23 rfl (q_bin _ _ _ rfl rfl rfl (run_nil (h10 _ ?_)))))); clear h10 K10
    rw [List.length_map]
    refine ok_cond rfl (fun c11 => ?_) (fun c11 => ?_)
    · refine ok_skip (h9 _ ?_)
      obtain ⟨u, hu⟩ := sget (l := x) (i := k) (by simpa using c11)
      rw [szAll_cons _ hu] at J3
      refine ok_seq fun K12 h12 => ?_
      refine ok_block ?_
      refine ok_seq fun K13 h13 => ok_region rfl (q_mv _ rfl (q_mv _ rfl (q_ia el23 rfl rfl (by omega) (mget hu) (q_lds _ ag138 rfl sz138 (q_mv _ rfl (q_call (f111_ok u (hx.2 u (smem hu)) a J1 J2) cl111 rfl rfl (q_as _ rfl (run_nil (h13 _ ?_))))))))); clear h13 K13
      refine ok_seq fun K14 h14 => ok_region rfl (q_mv _ rfl (q_bin _ _ _ rfl rfl rfl (run_nil (h14 _ ?_)))); clear h14 K14
      refine ok_cond rfl (fun c15 => ?_) (fun c15 => ?_)
      · refine ok_seq fun K16 h16 => ?_
        refine ok_region rfl (q_as _ rfl (run_nil (h16 _ ?_)))
        clear h16 K16
        refine ok_ret ⟨_, rfl, ?_⟩
        rw [if_pos (of_decide_eq_true c15)] at J3; rw [← J3]; rfl
      · refine ok_skip (h12 _ ?_)
        refine ok_region rfl (q_mv _ rfl (q_add rfl rfl (by have := slt hu; have := hx.1; unfold LB at this; omega) (q_as _ rfl (run_nil (⟨(k + 1, zStone u a), by have := slt hu; simp only; omega, ⟨by have := of_decide_eq_false c15; simp only; omega, (zStone_ok u a J2).1, by rw [if_neg (of_decide_eq_false c15)] at J3; exact J3⟩, le_same ⟨rfl, rfl, rfl, trivial⟩⟩)))))
    · refine ok_exit (h7 _ ?_)
      refine ok_seq fun K17 h17 => ok_region rfl (q_mv _ rfl (q_as _ rfl (run_nil (h17 _ ?_)))); clear h17 K17
      refine ok_ret ⟨_, rfl, ?_⟩
      rw [szAll_end _ (by simpa using c11)] at J3; rw [← J3]; rfl
theorem f59_ok (x : List Stone) (hx : x.length ≤ 1048576 ∧ ∀ y ∈ x, SStone y) : PFn Tryz.prog 59 [eStoneS x] (eStoneS x) := by
  have hle : x.length ≤ 1048576 := hx.1
  refine fnr_ok (n := 23) Tryz.func59 rfl rfl rfl (Nat.le_of_ble_eq_true rfl) rfl fun w0 O => ?_
  refine ok_seq fun K1 h1 => ok_region rfl (q_as _ rfl (run_nil (h1 _ ?_))); clear h1 K1
  refine ok_seq fun K2 h2 => ok_region rfl (q_mv _ rfl (q_len eS23 rfl (q_make _ _ el32 (by decide) ze103 rfl by103 rfl rfl rfl rfl (.inl ⟨rfl, rfl, rfl⟩) (by rw [List.length_map]; exact Nat.le_trans hle (by decide)) (by rw [List.length_map]; omega) (q_ao _ rfl (run_nil (h2 _ ?_)))))); clear h2 K2
  rw [List.length_map]
  refine ok_seq fun K3 h3 => ?_
  refine ok_seq fun K4 h4 => ok_region rfl (q_as _ rfl (run_nil (h4 _ ?_))); clear h4 K4
  refine ok_block ?_
  refine ok_loop (fun (k : Nat) => ⟨[(0, .sv (eStoneS x)), (3, .own 7), (4, .sv (int k))], [(7, .row 3 103 (fill eStone (.agg [.raw (.slice none 0 0), .raw (.int .i64 0), .raw (.int .i64 0)]) x k))]⟩) (fun k => k ≤ x.length) (fun k => x.length - k) 0 (Nat.zero_le _) (by rw [fill_zero]; exact le_sub ⟨rfl, rfl, rfl, trivial⟩ ⟨rfl, trivial⟩) (fun k J => ?_)
  refine ok_seq fun K5 h5 => ?_
  refine ok_seq fun K6 h6 => ok_region rfl (q_mv _ rfl (q_mv _ rfl (q_len eS23 rfl (q_bin _ _ _ rfl rfl rfl (run_nil (h6 _ ?_)))))); clear h6 K6
  rw [List.length_map]
  refine ok_cond rfl (fun c7 => ?_) (fun c7 => ?_)
  · refine ok_skip (h5 _ ?_)
    have hk : k < x.length := by simpa using c7
    obtain ⟨u, hu⟩ := sget hk
    refine ok_seq fun K8 h8 => ?_
    refine ok_block ?_
    refine ok_last fun K9 h9 => ok_region rfl (q_mo _ rfl (q_mv _ rfl (q_mv _ rfl (q_mv _ rfl (q_ia el23 rfl rfl (by omega) (mget hu) (q_lds _ ag138 rfl sz138 (q_call (f121_ok u (hx.2 u (smem hu))) cl121 rfl rfl (q_iao el32 rfl rfl rfl (by omega) (by rw [fill_len _ _ _ J]; exact hk) (
      q_ste sz103 rfl rfl (fill_get _ _ _ hk) rfl (.inl ⟨_, rfl⟩) rfl (run_nil (h9 _ (h8 _ ?_))))))))))))
    refine ok_region rfl (q_mv _ rfl (q_add rfl rfl (by omega) (q_as _ rfl (run_nil (⟨k + 1, by omega, hk, ?_⟩)))))
    rw [← fill_set eStone (.agg [.raw (.slice none 0 0), .raw (.int .i64 0), .raw (.int .i64 0)]) hu]
    exact le_sub ⟨rfl, rfl, rfl, trivial⟩ ⟨rfl, trivial⟩
  · refine ok_exit (h3 _ ?_)
    refine ok_seq fun K9 h9 => ok_region rfl (q_mo _ rfl (q_ao _ rfl (run_nil (h9 _ ?_)))); clear h9 K9
    refine ok_ret ⟨_, ⟨_, _, rfl, rfl, rfl⟩, ?_⟩
    rw [fill_all _ _ _ (by simpa using c7)]; rfl
theorem f64_ok (x : List Stone) (hx : x.length ≤ 1048576 ∧ ∀ y ∈ x, SStone y) : PFn Tryz.prog 64 [eStoneS x, eStoneS x] (bool true) := by
  have hle : x.length ≤ 1048576 := hx.1
  refine fn_ok' (n := 27) Tryz.func64 rfl rfl rfl (Nat.le_of_ble_eq_true rfl) rfl fun w0 O => ?_
  refine ok_seq fun K1 h1 => ok_region rfl (q_as _ rfl (run_nil (h1 _ ?_))); clear h1 K1
  refine ok_seq fun K2 h2 => ?_
  refine ok_seq fun K3 h3 => ok_region rfl (q_mv _ rfl (q_len eS32 rfl (q_mv _ rfl (q_len eS32 rfl (q_bin _ _ _ rfl rfl rfl (run_nil (h3 _ ?_))))))); clear h3 K3
  refine ok_cond rfl (fun c4 => ?_) (fun c4 => ?_)
  · simp at c4
  · refine ok_skip (h2 _ ?_)
    refine ok_seq fun K6 h6 => ?_
    refine ok_seq fun K7 h7 => ok_region rfl (q_as _ rfl (run_nil (h7 _ ?_))); clear h7 K7
    refine ok_block ?_
    refine ok_loop (fun (k : Nat) => ⟨[(0, .sv (eStoneS x)), (1, .sv (eStoneS x)), (5, .sv (int k))], []⟩) (fun k => True) (fun k => x.length - k) 0 trivial (le_same ⟨rfl, rfl, rfl, trivial⟩) (fun k J => ?_)
    refine ok_seq fun K8 h8 => ?_
    refine ok_seq fun K9 h9 => ok_region rfl (q_mv _ rfl (q_mv _ rfl (q_len eS32 rfl (q_bin _ _ _ rfl rfl rfl (run_nil (h9 _ ?_)))))); clear h9 K9
    rw [List.length_map]
    refine ok_cond rfl (fun c10 => ?_) (fun c10 => ?_)
    · refine ok_skip (h8 _ ?_)
      have hk : k < x.length := by simpa using c10
      obtain ⟨u, hu⟩ := sget hk
      refine ok_seq fun K11 h11 => ?_
      refine ok_block ?_
      refine ok_seq fun K12 h12 => ?_
      refine ok_region_i (by kernel_rfl) (by kernel_rfl) rfl (
        q_mv _ rfl (q_mv _ rfl (q_ia el32 rfl rfl (by omega) (mget hu) (q_lds _ ag103 rfl sz103 (q_mv _ rfl (q_mv _ rfl (q_ia el32 rfl rfl (by omega) (mget hu) (q_lds _ ag103 rfl sz103 (
        q_call (f128_ok u (hx.2 u (smem hu))) cl128 rfl rfl (q_un _ _ rfl rfl (run_nil (h12 _ ?_))))))))))))
      clear h12 K12
      refine ok_cond rfl (fun c13 => ?_) (fun c13 => ?_)
      · simp at c13
      · refine ok_skip (h11 _ ?_)
        refine ok_region rfl (q_mv _ rfl (q_add rfl rfl (by omega) (q_as _ rfl (run_nil (⟨k + 1, by omega, trivial, le_same ⟨rfl, rfl, rfl, trivial⟩⟩)))))
    · refine ok_exit (h6 _ ?_)
      refine ok_seq fun K15 h15 => ok_region rfl (q_as _ rfl (run_nil (h15 _ ?_))); clear h15 K15
      exact ok_ret ⟨_, rfl, rfl⟩
structure Block where
  from_ : Int
  to : Int
  level : Int
  series : List Series
  stones : List Stone
@[reducible] def eBlock (x : Block) : SV := .agg [int x.from_, int x.to, int x.level, eSeriesS x.series, eStoneS x.stones]
def LBlock (x : Block) : Prop := (LB x.series.length ∧ ∀ y ∈ x.series, LSeries y) ∧ (LB x.stones.length ∧ ∀ y ∈ x.stones, LStone y)
def SBlock (x : Block) : Prop := (x.series.length ≤ 1048576 ∧ ∀ y ∈ x.series, SSeries y) ∧ (x.stones.length ≤ 1048576 ∧ ∀ y ∈ x.stones, SStone y)
theorem op_Block : Opens Tryz.prog 25 eBlock (fun y => LBlock y) :=
  op_iso (fun y : Int × Int × Int × (List Series) × (List Stone) × Unit => (⟨y.1, y.2.1, y.2.2.1, y.2.2.2.1, y.2.2.2.2.1⟩ : Block)) (fun _ => rfl) (fun y h => ⟨h.2.2.2.1, h.2.2.2.2.1⟩)
    (op_struct (n := 5) Tryz.underlying25 (by kernel_rfl) (ofs_cons (f := { name := "From", type := 3, offset := 0, embedded := false, tag := "", pkgPath := "", byteOffset := 0 }) (n := 1) (m := 4) rfl (by kernel_rfl) (fun _ => ⟨.inr rfl, rfl⟩) (op_int Tryz.underlying3) (ofs_cons (f := { name := "To", type := 3, offset := 1, embedded := false, tag := "", pkgPath := "", byteOffset := 8 }) (n := 1) (m := 3) rfl (by kernel_rfl) (fun _ => ⟨.inr rfl, rfl⟩) (op_int Tryz.underlying3) (ofs_cons (f := { name := "Level", type := 3, offset := 2, embedded := false, tag := "", pkgPath := "", byteOffset := 16 }) (n := 1) (m := 2) rfl (by kernel_rfl) (fun _ => ⟨.inr rfl, rfl⟩) (op_int Tryz.underlying3) (ofs_cons (f := { name := "Series", type := 22, offset := 3, embedded := false, tag := "", pkgPath := "", byteOffset := 24 }) (n := 1) (m := 1) rfl (by kernel_rfl) (fun _ => ⟨.inr rfl, rfl⟩) op_SeriesS (ofs_cons (f := { name := "Stones", type := 23, offset := 4, embedded := false, tag := "", pkgPath := "", byteOffset := 48 }) (n := 1) (m := 0) rfl (by kernel_rfl) (fun _ => ⟨.inr rfl, rfl⟩) op_StoneS ofs_nil))))))
def zBlock (x : Block) (n : Int) : Int := (stp (zSeriesS x.series) ((zStoneS x.stones))) n
theorem zBlock_ok (x : Block) : GOk (zBlock x) (SBlock x) := (stp_ok (zSeriesS_ok x.series) (zStoneS_ok x.stones))
theorem f11_ok (x : Block) (hx : LBlock x) (n : Int) (h0 : 0 ≤ n) (hn : n ≤ 1048576) : PFn Tryz.prog 11 [eBlock x, int n] (int (zBlock x n)) := by
  have e0 : zBlock x n = (stp (zSeriesS x.series) ((zStoneS x.stones))) n := rfl
  have a0 := h0
  have b0 := hn
  refine fn_ok' (n := 18) Tryz.func11 rfl rfl rfl (Nat.le_of_ble_eq_true rfl) rfl fun w0 O => ?_
  refine ok_seq fun K1 h1 => ok_region rfl (q_boxs _ rfl (Nat.zero_lt_succ _) (q_as _ rfl (run_nil (h1 _ ?_)))); clear h1 K1
  refine ok_seq fun K2 h2 => ok_region rfl (q_fa _ fd25_3 rfl rfl (by decide) (q_ld _ ag22 rfl rfl (q_mv _ rfl (q_call (f52_ok x.series (hx.1) _ a0 b0) cl52 rfl rfl (q_as _ rfl (run_nil (h2 _ ?_))))))); clear h2 K2
  refine ok_seq fun K3 h3 => ?_
  refine ok_seq fun K4 h4 => ok_region rfl (q_mv _ rfl (q_bin _ _ _ rfl rfl rfl (run_nil (h4 _ ?_)))); clear h4 K4
  refine ok_cond rfl (fun c5 => ?_) (fun c5 => ?_)
  · refine ok_seq fun K6 h6 => ?_
    refine ok_region rfl (q_as _ rfl (run_nil (h6 _ ?_)))
    clear h6 K6
    refine ok_ret ⟨_, rfl, ?_⟩
    rw [e0, stp_pos (of_decide_eq_true c5)]; rfl
  · refine ok_skip (h3 _ ?_)
    have e1 : zBlock x n = ((zStoneS x.stones)) (zSeriesS x.series n) := by rw [e0, stp_neg (of_decide_eq_false c5)]
    have a1 : 0 ≤ zSeriesS x.series n := by have := of_decide_eq_false c5; omega
    have b1 : zSeriesS x.series n ≤ 1048576 := ((zSeriesS_ok x.series) _ b0).1
    refine ok_seq fun K7 h7 => ok_region rfl (q_fa _ fd25_4 rfl rfl (by decide) (q_ld _ ag23 rfl rfl (q_mv _ rfl (q_call (f53_ok x.stones (hx.2) _ a1 b1) cl53 rfl rfl (q_as _ rfl (run_nil (h7 _ ?_))))))); clear h7 K7
    refine ok_seq fun K8 h8 => ?_
    refine ok_seq fun K9 h9 => ok_region rfl (q_mv _ rfl (q_bin _ _ _ rfl rfl rfl (run_nil (h9 _ ?_)))); clear h9 K9
    refine ok_cond rfl (fun c10 => ?_) (fun c10 => ?_)
    · refine ok_seq fun K11 h11 => ?_
      refine ok_region rfl (q_as _ rfl (run_nil (h11 _ ?_)))
      clear h11 K11
      refine ok_ret ⟨_, rfl, ?_⟩
      rw [e1]; rw [((zStoneS_ok x.stones) _ b1).2.1 (of_decide_eq_true c10)]; rfl
    · refine ok_skip (h8 _ ?_)
      refine ok_seq fun K12 h12 => ok_region rfl (q_mv _ rfl (q_as _ rfl (run_nil (h12 _ ?_)))); clear h12 K12
      refine ok_ret ⟨_, rfl, ?_⟩
      rw [e1]; rfl
theorem f14_ok (x : Block) (hx : SBlock x) : PFn Tryz.prog 14 [eBlock x] (eBlock x) := by
  refine fnr_ok (n := 22) Tryz.func14 rfl rfl rfl (Nat.le_of_ble_eq_true rfl) rfl fun w0 O => ?_
  refine ok_seq fun K1 h1 => ok_region rfl (q_boxs _ rfl (Nat.zero_lt_succ _) (q_alloc _ ze34 rfl rfl rfl rfl (run_nil (h1 _ ?_)))); clear h1 K1
  refine ok_seq fun K2 h2 => ok_region rfl (q_alloc _ ze34 rfl rfl rfl rfl (run_nil (h2 _ ?_))); clear h2 K2
  refine ok_seq fun K3 h3 => ok_region rfl (q_fa _ fd25_0 rfl rfl (by decide) (q_ld _ ag3 rfl rfl (q_fap fd34_0 rfl (by decide) (q_st _ sz3 rfl rfl (Nat.le_of_ble_eq_true rfl) rfl ⟨_, rfl, rfl⟩ rfl (run_nil (h3 _ ?_)))))); clear h3 K3
  refine ok_seq fun K4 h4 => ok_region rfl (q_fa _ fd25_1 rfl rfl (by decide) (q_ld _ ag3 rfl rfl (q_fap fd34_1 rfl (by decide) (q_st _ sz3 rfl rfl (Nat.le_of_ble_eq_true rfl) rfl ⟨_, rfl, rfl⟩ rfl (run_nil (h4 _ ?_)))))); clear h4 K4
  refine ok_seq fun K5 h5 => ok_region rfl (q_fa _ fd25_2 rfl rfl (by decide) (q_ld _ ag3 rfl rfl (q_fap fd34_2 rfl (by decide) (q_st _ sz3 rfl rfl (Nat.le_of_ble_eq_true rfl) rfl ⟨_, rfl, rfl⟩ rfl (run_nil (h5 _ ?_)))))); clear h5 K5
  refine ok_seq fun K6 h6 => ok_region rfl (q_fa _ fd25_3 rfl rfl (by decide) (q_ld _ ag22 rfl rfl (q_call (f58_ok x.series (hx.1)) cl58 rfl rfl (q_fap fd34_3 rfl (by decide) (q_st _ sz31 rfl rfl (Nat.le_of_ble_eq_true rfl) rfl ⟨_, rfl, rfl⟩ rfl (run_nil (h6 _ ?_))))))); clear h6 K6
  refine ok_seq fun K7 h7 => ok_region rfl (q_fa _ fd25_4 rfl rfl (by decide) (q_ld _ ag23 rfl rfl (q_call (f59_ok x.stones (hx.2)) cl59 rfl rfl (q_fap fd34_4 rfl (by decide) (q_st _ sz32 rfl rfl (Nat.le_of_ble_eq_true rfl) rfl ⟨_, rfl, rfl⟩ rfl (run_nil (h7 _ ?_))))))); clear h7 K7
  refine ok_seq fun K8 h8 => ok_region rfl (q_ldbs ag34 rfl rfl sz34 rfl rfl (q_sts _ rfl rfl rfl sz34 (Nat.le_of_ble_eq_true rfl) rfl (run_nil (h8 _ ?_)))); clear h8 K8
  exact ok_ret (ret_cell (l := [int x.from_, int x.to, int x.level, eSeriesS x.series, eStoneS x.stones]) rfl rfl ag34 sz34 rfl rfl)
theorem f18_ok (x : Block) (hx : SBlock x) : PFn Tryz.prog 18 [eBlock x, eBlock x] (bool true) := by
  refine fn_ok' (n := 32) Tryz.func18 rfl rfl rfl (Nat.le_of_ble_eq_true rfl) rfl fun w0 O => ?_
  refine ok_seq fun K1 h1 => ok_region rfl (q_boxs _ rfl (Nat.zero_lt_succ _) (q_boxs _ rfl (Nat.zero_lt_succ _) (q_as _ rfl (run_nil (h1 _ ?_))))); clear h1 K1
  refine ok_seq fun K2 h2 => ?_
  refine ok_seq fun K3 h3 => ok_region rfl (q_fa _ fd34_0 rfl rfl (by decide) (q_ld _ ag3 rfl rfl (q_fa _ fd34_0 rfl rfl (by decide) (q_ld _ ag3 rfl rfl (q_bin _ _ _ rfl rfl rfl (run_nil (h3 _ ?_))))))); clear h3 K3
  refine ok_cond rfl (fun c4 => ?_) (fun c4 => ?_)
  · simp at c4
  · refine ok_skip (h2 _ ?_)
    refine ok_seq fun K6 h6 => ?_
    refine ok_seq fun K7 h7 => ok_region rfl (q_fa _ fd34_1 rfl rfl (by decide) (q_ld _ ag3 rfl rfl (q_fa _ fd34_1 rfl rfl (by decide) (q_ld _ ag3 rfl rfl (q_bin _ _ _ rfl rfl rfl (run_nil (h7 _ ?_))))))); clear h7 K7
    refine ok_cond rfl (fun c8 => ?_) (fun c8 => ?_)
    · simp at c8
    · refine ok_skip (h6 _ ?_)
      refine ok_seq fun K10 h10 => ?_
      refine ok_seq fun K11 h11 => ok_region rfl (q_fa _ fd34_2 rfl rfl (by decide) (q_ld _ ag3 rfl rfl (q_fa _ fd34_2 rfl rfl (by decide) (q_ld _ ag3 rfl rfl (q_bin _ _ _ rfl rfl rfl (run_nil (h11 _ ?_))))))); clear h11 K11
      refine ok_cond rfl (fun c12 => ?_) (fun c12 => ?_)
      · simp at c12
      · refine ok_skip (h10 _ ?_)
        refine ok_seq fun K14 h14 => ?_
        refine ok_seq fun K15 h15 => ok_region rfl (q_fa _ fd34_3 rfl rfl (by decide) (q_ld _ ag31 rfl rfl (q_fa _ fd34_3 rfl rfl (by decide) (q_ld _ ag31 rfl rfl (q_call (f26_ok x.series (hx.1)) cl26 rfl rfl (q_un _ _ rfl rfl (run_nil (h15 _ ?_)))))))); clear h15 K15
        refine ok_cond rfl (fun c16 => ?_) (fun c16 => ?_)
        · simp at c16
        · refine ok_skip (h14 _ ?_)
          refine ok_seq fun K18 h18 => ?_
          refine ok_seq fun K19 h19 => ok_region rfl (q_fa _ fd34_4 rfl rfl (by decide) (q_ld _ ag32 rfl rfl (q_fa _ fd34_4 rfl rfl (by decide) (q_ld _ ag32 rfl rfl (q_call (f64_ok x.stones (hx.2)) cl64 rfl rfl (q_un _ _ rfl rfl (run_nil (h19 _ ?_)))))))); clear h19 K19
          refine ok_cond rfl (fun c20 => ?_) (fun c20 => ?_)
          · simp at c20
          · refine ok_skip (h18 _ ?_)
            refine ok_seq fun K22 h22 => ok_region rfl (q_as _ rfl (run_nil (h22 _ ?_))); clear h22 K22
            exact ok_ret ⟨_, rfl, rfl⟩
@[reducible] def eBlockS (l : List Block) : SV := .sl 5 (l.map eBlock)
theorem op_BlockS : Opens Tryz.prog 50 eBlockS (fun y => LB y.length ∧ ∀ z ∈ y, LBlock z) :=
  op_iso (fun y : List Block => y) (fun _ => rfl) (fun y h => h) (op_slice (n := 5) Tryz.underlying50 (by kernel_rfl) (by decide) (fun _ => ⟨.inl ⟨_, rfl⟩, rfl⟩) op_Block)
def zBlockS (x : List Block) (n : Int) : Int := szSl zBlock x n
theorem zBlockS_ok (x : List Block) : GOk (zBlockS x) (x.length ≤ 1048576 ∧ ∀ y ∈ x, SBlock y) := szSl_ok zBlock_ok x
theorem f32_ok (x : List Block) (hx : LB x.length ∧ ∀ y ∈ x, LBlock y) (n : Int) (h0 : 0 ≤ n) (hn : n ≤ 1048576) : PFn Tryz.prog 32 [eBlockS x, int n] (int (zBlockS x n)) := by
  have hx1 := hx.1
  unfold LB at hx1
  refine fn_ok' (n := 27) Tryz.func32 rfl rfl rfl (Nat.le_of_ble_eq_true rfl) rfl fun w0 O => ?_
  refine ok_seq fun K1 h1 => ok_region rfl (q_as _ rfl (run_nil (h1 _ ?_))); clear h1 K1
  refine ok_seq fun K2 h2 => ok_region rfl (q_mv _ rfl (q_mv _ rfl (q_len eS50 rfl (q_sub rfl rfl (by rw [List.length_map]; omega) (q_as _ rfl (run_nil (h2 _ ?_))))))); clear h2 K2
  rw [List.length_map]
  refine ok_seq fun K3 h3 => ?_
  refine ok_seq fun K4 h4 => ok_region rfl (q_mv _ rfl (q_bin _ _ _ rfl rfl rfl (run_nil (h4 _ ?_)))); clear h4 K4
  refine ok_cond rfl (fun c5 => ?_) (fun c5 => ?_)
  · refine ok_seq fun K6 h6 => ?_
    refine ok_region rfl (q_as _ rfl (run_nil (h6 _ ?_)))
    clear h6 K6
    refine ok_ret ⟨_, rfl, ?_⟩
    rw [zBlockS, szSl_pos (of_decide_eq_true c5)]; rfl
  · refine ok_skip (h3 _ ?_)
    refine ok_seq fun K7 h7 => ?_
    refine ok_seq fun K8 h8 => ok_region rfl (q_as _ rfl (run_nil (h8 _ ?_))); clear h8 K8
    refine ok_block ?_
    refine ok_loop (fun (s : Nat × Int) => ⟨[(0, .sv (eBlockS x)), (1, .sv (int s.2)), (5, .sv (int s.1))], []⟩) (fun s => 0 ≤ s.2 ∧ s.2 ≤ 1048576 ∧ szAll zBlock (x.drop s.1) s.2 = zBlockS x n) (fun s => x.length - s.1) (0, n - x.length) ⟨by have := of_decide_eq_false c5; simp only; omega, by simp only; omega, by simp only [List.drop_zero]; rw [zBlockS, szSl_neg (of_decide_eq_false c5)]⟩ (le_same ⟨rfl, rfl, rfl, trivial⟩) (fun s J => ?_)
    obtain ⟨k, a⟩ := s
    obtain ⟨J1, J2, J3⟩ := J
    simp only at J1 J2 J3
    refine ok_seq fun K9 h9 => ?_
    refine ok_seq fun K10 h10 => ok_region rfl (q_mv _ rfl (q_mv _ rfl (q_len eS50 rfl (q_bin _ _ _ rfl rfl rfl (run_nil (h10 _ ?_)))))); clear h10 K10
    rw [List.length_map]
    refine ok_cond rfl (fun c11 => ?_) (fun c11 => ?_)
    · refine ok_skip (h9 _ ?_)
      obtain ⟨u, hu⟩ := sget (l := x) (i := k) (by simpa using c11)
      rw [szAll_cons _ hu] at J3
      refine ok_seq fun K12 h12 => ?_
      refine ok_block ?_
      refine ok_seq fun K13 h13 => ok_region rfl (q_mv _ rfl (q_mv _ rfl (q_ia el50 rfl rfl (by omega) (mget hu) (q_lds _ ag25 rfl sz25 (q_mv _ rfl (q_call (f11_ok u (hx.2 u (smem hu)) a J1 J2) cl11 rfl rfl (q_as _ rfl (run_nil (h13 _ ?_))))))))); clear h13 K13
      refine ok_seq fun K14 h14 => ok_region rfl (q_mv _ rfl (q_bin _ _ _ rfl rfl rfl (run_nil (h14 _ ?_)))); clear h14 K14
      refine ok_cond rfl (fun c15 => ?_) (fun c15 => ?_)
      · refine ok_seq fun K16 h16 => ?_
        refine ok_region rfl (q_as _ rfl (run_nil (h16 _ ?_)))
        clear h16 K16
        refine ok_ret ⟨_, rfl, ?_⟩
        rw [if_pos (of_decide_eq_true c15)] at J3; rw [← J3]; rfl
      · refine ok_skip (h12 _ ?_)
        refine ok_region rfl (q_mv _ rfl (q_add rfl rfl (by have := slt hu; have := hx.1; unfold LB at this; omega) (q_as _ rfl (run_nil (⟨(k + 1, zBlock u a), by have := slt hu; simp only; omega, ⟨by have := of_decide_eq_false c15; simp only; omega, (zBlock_ok u a J2).1, by rw [if_neg (of_decide_eq_false c15)] at J3; exact J3⟩, le_same ⟨rfl, rfl, rfl, trivial⟩⟩)))))
    · refine ok_exit (h7 _ ?_)
      refine ok_seq fun K17 h17 => ok_region rfl (q_mv _ rfl (q_as _ rfl (run_nil (h17 _ ?_)))); clear h17 K17
      refine ok_ret ⟨_, rfl, ?_⟩
      rw [szAll_end _ (by simpa using c11)] at J3; rw [← J3]; rfl
theorem f34_ok (x : List Block) (hx : x.length ≤ 1048576 ∧ ∀ y ∈ x, SBlock y) : PFn Tryz.prog 34 [eBlockS x] (eBlockS x) := by
  have hle : x.length ≤ 1048576 := hx.1
  refine fnr_ok (n := 23) Tryz.func34 rfl rfl rfl (Nat.le_of_ble_eq_true rfl) rfl fun w0 O => ?_
  refine ok_seq fun K1 h1 => ok_region rfl (q_as _ rfl (run_nil (h1 _ ?_))); clear h1 K1
  refine ok_seq fun K2 h2 => ok_region rfl (q_mv _ rfl (q_len eS50 rfl (q_make _ _ el53 (by decide) ze34 rfl by34 rfl rfl rfl rfl (.inl ⟨rfl, rfl, rfl⟩) (by rw [List.length_map]; exact Nat.le_trans hle (by decide)) (by rw [List.length_map]; omega) (q_ao _ rfl (run_nil (h2 _ ?_)))))); clear h2 K2
  rw [List.length_map]
  refine ok_seq fun K3 h3 => ?_
  refine ok_seq fun K4 h4 => ok_region rfl (q_as _ rfl (run_nil (h4 _ ?_))); clear h4 K4
  refine ok_block ?_
  refine ok_loop (fun (k : Nat) => ⟨[(0, .sv (eBlockS x)), (3, .own 7), (4, .sv (int k))], [(7, .row 5 34 (fill eBlock (.agg [.raw (.int .i64 0), .raw (.int .i64 0), .raw (.int .i64 0), .raw (.slice none 0 0), .raw (.slice none 0 0)]) x k))]⟩) (fun k => k ≤ x.length) (fun k => x.length - k) 0 (Nat.zero_le _) (by rw [fill_zero]; exact le_sub ⟨rfl, rfl, rfl, trivial⟩ ⟨rfl, trivial⟩) (fun k J => ?_)
  refine ok_seq fun K5 h5 => ?_
  refine ok_seq fun K6 h6 => ok_region rfl (q_mv _ rfl (q_mv _ rfl (q_len eS50 rfl (q_bin _ _ _ rfl rfl rfl (run_nil (h6 _ ?_)))))); clear h6 K6
  rw [List.length_map]
  refine ok_cond rfl (fun c7 => ?_) (fun c7 => ?_)
  · refine ok_skip (h5 _ ?_)
    have hk : k < x.length := by simpa using c7
    obtain ⟨u, hu⟩ := sget hk
    refine ok_seq fun K8 h8 => ?_
    refine ok_block ?_
    refine ok_last fun K9 h9 => ok_region rfl (q_mo _ rfl (q_mv _ rfl (q_mv _ rfl (q_mv _ rfl (q_ia el50 rfl rfl (by omega) (mget hu) (q_lds _ ag25 rfl sz25 (q_call (f14_ok u (hx.2 u (smem hu))) cl14 rfl rfl (q_iao el53 rfl rfl rfl (by omega) (by rw [fill_len _ _ _ J]; exact hk) (
      q_ste sz34 rfl rfl (fill_get _ _ _ hk) rfl (.inl ⟨_, rfl⟩) rfl (run_nil (h9 _ (h8 _ ?_))))))))))))
    refine ok_region rfl (q_mv _ rfl (q_add rfl rfl (by omega) (q_as _ rfl (run_nil (⟨k + 1, by omega, hk, ?_⟩)))))
    rw [← fill_set eBlock (.agg [.raw (.int .i64 0), .raw (.int .i64 0), .raw (.int .i64 0), .raw (.slice none 0 0), .raw (.slice none 0 0)]) hu]
    exact le_sub ⟨rfl, rfl, rfl, trivial⟩ ⟨rfl, trivial⟩
  · refine ok_exit (h3 _ ?_)
    refine ok_seq fun K9 h9 => ok_region rfl (q_mo _ rfl (q_ao _ rfl (run_nil (h9 _ ?_)))); clear h9 K9
    refine ok_ret ⟨_, ⟨_, _, rfl, rfl, rfl⟩, ?_⟩
    rw [fill_all _ _ _ (by simpa using c7)]; rfl
theorem f36_ok (x : List Block) (hx : x.length ≤ 1048576 ∧ ∀ y ∈ x, SBlock y) : PFn Tryz.prog 36 [eBlockS x, eBlockS x] (bool true) := by
  have hle : x.length ≤ 1048576 := hx.1
  refine fn_ok' (n := 27) Tryz.func36 rfl rfl rfl (Nat.le_of_ble_eq_true rfl) rfl fun w0 O => ?_
  refine ok_seq fun K1 h1 => ok_region rfl (q_as _ rfl (run_nil (h1 _ ?_))); clear h1 K1
  refine ok_seq fun K2 h2 => ?_
  refine ok_seq fun K3 h3 => ok_region rfl (q_mv _ rfl (q_len eS53 rfl (q_mv _ rfl (q_len eS53 rfl (q_bin _ _ _ rfl rfl rfl (run_nil (h3 _ ?_))))))); clear h3 K3
  refine ok_cond rfl (fun c4 => ?_) (fun c4 => ?_)
  · simp at c4
  · refine ok_skip (h2 _ ?_)
    refine ok_seq fun K6 h6 => ?_
    refine ok_seq fun K7 h7 => ok_region rfl (q_as _ rfl (run_nil (h7 _ ?_))); clear h7 K7
    refine ok_block ?_
    refine ok_loop (fun (k : Nat) => ⟨[(0, .sv (eBlockS x)), (1, .sv (eBlockS x)), (5, .sv (int k))], []⟩) (fun k => True) (fun k => x.length - k) 0 trivial (le_same ⟨rfl, rfl, rfl, trivial⟩) (fun k J => ?_)
    refine ok_seq fun K8 h8 => ?_
    refine ok_seq fun K9 h9 => ok_region rfl (q_mv _ rfl (q_mv _ rfl (q_len eS53 rfl (q_bin _ _ _ rfl rfl rfl (run_nil (h9 _ ?_)))))); clear h9 K9
    rw [List.length_map]
    refine ok_cond rfl (fun c10 => ?_) (fun c10 => ?_)
    · refine ok_skip (h8 _ ?_)
      have hk : k < x.length := by simpa using c10
      obtain ⟨u, hu⟩ := sget hk
      refine ok_seq fun K11 h11 => ?_
      refine ok_block ?_
      refine ok_seq fun K12 h12 => ?_
      refine ok_region_i (by kernel_rfl) (by kernel_rfl) rfl (
        q_mv _ rfl (q_mv _ rfl (q_ia el53 rfl rfl (by omega) (mget hu) (q_lds _ ag34 rfl sz34 (q_mv _ rfl (q_mv _ rfl (q_ia el53 rfl rfl (by omega) (mget hu) (q_lds _ ag34 rfl sz34 (
        q_call (f18_ok u (hx.2 u (smem hu))) cl18 rfl rfl (q_un _ _ rfl rfl (run_nil (h12 _ ?_))))))))))))
      clear h12 K12
      refine ok_cond rfl (fun c13 => ?_) (fun c13 => ?_)
      · simp at c13
      · refine ok_skip (h11 _ ?_)
        refine ok_region rfl (q_mv _ rfl (q_add rfl rfl (by omega) (q_as _ rfl (run_nil (⟨k + 1, by omega, trivial, le_same ⟨rfl, rfl, rfl, trivial⟩⟩)))))
    · refine ok_exit (h6 _ ?_)
      refine ok_seq fun K15 h15 => ok_region rfl (q_as _ rfl (run_nil (h15 _ ?_))); clear h15 K15
      exact ok_ret ⟨_, rfl, rfl⟩
structure Matcher where
  name : ByteArray
  op_ : Int
  value : ByteArray
@[reducible] def eMatcher (x : Matcher) : SV := .agg [str x.name, int x.op_, str x.value]
def LMatcher (x : Matcher) : Prop := LB x.name.size ∧ LB x.value.size
def SMatcher (x : Matcher) : Prop := x.name.size ≤ 1048576 ∧ x.value.size ≤ 1048576
def zMatcher (x : Matcher) (n : Int) : Int := (stp (fun n => take n x.name.size) ((fun n => take n x.value.size))) n
@[reducible] def eMatcherS (l : List Matcher) : SV := .sl 3 (l.map eMatcher)
def zMatcherS (x : List Matcher) (n : Int) : Int := szSl zMatcher x n
structure Head where
  window : Int
  limit : Int
  newest : Int
  series : List Series
@[reducible] def eHead (x : Head) : SV := .agg [int x.window, int x.limit, int x.newest, eSeriesS x.series]
def LHead (x : Head) : Prop := LB x.series.length ∧ ∀ y ∈ x.series, LSeries y
def SHead (x : Head) : Prop := x.series.length ≤ 1048576 ∧ ∀ y ∈ x.series, SSeries y
def zHead (x : Head) (n : Int) : Int := ((zSeriesS x.series)) n
end Go.Ring
