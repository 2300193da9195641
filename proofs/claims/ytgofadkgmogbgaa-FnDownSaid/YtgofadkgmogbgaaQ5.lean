/- Labels read back; labels side by side, one put in or taken out: the program. No condition beyond the lengths. -/
import Derived.Test.YtgofadkgmogbgaaR1
import Derived.Test.YtgofadkgmogbgaaQ4
import Derived.Test.YtgofadkgmogbgaaEg3
set_option maxRecDepth 100000
set_option linter.unusedVariables false
set_option linter.unusedSimpArgs false
namespace Go.Ring
open Go Go.RowKit Go.Eager Go.Abs Go.Proofs
theorem lab_S {a : List Label} (ha : LabelsOk a) : a.length ≤ 1048576 ∧ ∀ y ∈ a, SLabel y := by
  refine ⟨by have := ha.1; omega, fun y hy => ?_⟩
  obtain ⟨i, hi⟩ := List.mem_iff_getElem?.1 hy
  have h1 := (name_word (ha.2 i y hi).1).2.1
  have h2 := value_size (ha.2 i y hi).2.1
  exact ⟨by omega, by omega⟩
theorem lab_text {a : List Label} (ha : LabelsOk a) : labText a = bs (textL a) := by rw [labText, if_pos (pB_true ha)]
theorem f32_q (a : List Label) (ha : LabelsOk a) : PFn Try.prog 32 [str (labText a)] (.tup [eLabelS a, bool true]) := by
  rw [lab_text ha]
  refine fn_ok' (n := 26) Try.func32 rfl rfl rfl (Nat.le_of_ble_eq_true rfl) rfl fun w0 O => ?_
  refine ok_seq fun K1 h1 => ok_region rfl (q_as _ rfl (q_as _ rfl (run_nil (h1 _ ?_)))); clear h1 K1
  refine ok_seq fun K2 h2 => ok_region rfl (q_mv (str (bs (textL a))) rfl (q_call (f114_q a ha) cl114 rfl rfl (q_mv _ rfl (q_ext _ rfl rfl (q_ext _ rfl rfl (q_ext _ rfl rfl (q_as _ rfl (q_as _ rfl (q_as _ rfl (run_nil (h2 _ ?_))))))))))); clear h2 K2
  refine ok_seq fun K3 h3 => ?_
  refine ok_seq fun K4 h4 => ?_
  refine ok_region rfl (q_mv (bool true) rfl (q_un _ _ rfl rfl (q_mv _ rfl (q_or 2 2 rfl rfl rfl rfl rfl (fun hb18 =>
      q_mv (str (bs [])) rfl (q_bin _ _ _ rfl rfl rfl (run_nil ⟨rfl, rfl, rfl, rfl⟩))) (
    q_mv _ rfl (q_or 4 4 rfl rfl rfl rfl rfl (fun hb24 =>
      q_mv (eLabelS a) rfl (q_call (f33_ok a (lab_S ha)) cl33 rfl rfl (q_mv (str (bs (textL a))) rfl (q_bin _ _ _ rfl rfl rfl (run_nil ⟨rfl, rfl, rfl, rfl⟩))))) (
    run_nil (h4 _ ?_))))))))
  clear h4 K4
  rw [lab_text ha]
  refine ok_cond rfl (fun c5 => ?_) (fun c5 => ?_)
  · exfalso
    simp at c5
  · refine ok_skip (h3 _ ?_)
    refine ok_seq fun K7 h7 => ok_region rfl (q_mv (eLabelS a) rfl (q_as _ rfl (q_as _ rfl (run_nil (h7 _ ?_))))); clear h7 K7
    exact ok_ret ⟨_, rfl, rfl⟩
theorem two71 : TwoT Try.prog 71 9 where
  under := by kernel_rfl
  held := by kernel_rfl
  guard := by kernel_rfl
  str := Try.underlying9
  parts := ⟨{ name := "Name", type := 9, offset := 0, embedded := false, tag := "", pkgPath := "", byteOffset := 0 }, { name := "Value", type := 9, offset := 1, embedded := false, tag := "", pkgPath := "", byteOffset := 16 }, by kernel_rfl, by decide, by decide, rfl, rfl, rfl, rfl⟩
theorem take_eq_step {α : Type} {a b : List α} {k : Nat} {x y : α} (hx : a[k]? = some x) (hy : b[k]? = some y) (J : a.take k = b.take k) (e : x = y) : a.take (k + 1) = b.take (k + 1) := by
  rw [List.take_add_one, List.take_add_one, J, hx, hy, e]
theorem lab_ne {x y : Label} : (!(x.name.toList == y.name.toList && x.value.toList == y.value.toList)) = false ↔ x = y := by
  rw [Bool.not_eq_false', Bool.and_eq_true, beq_iff_eq, beq_iff_eq, ByteArray.toList_eq, ByteArray.toList_eq, ByteArray.toList_eq, ByteArray.toList_eq]
  constructor
  · rintro ⟨h1, h2⟩
    cases x; cases y
    simp only [Label.mk.injEq]
    exact ⟨toList_ext h1, toList_ext h2⟩
  · rintro rfl; exact ⟨rfl, rfl⟩
theorem f34_ok (a b : List Label) (ha : a.length ≤ 1048576) (hb : b.length ≤ 1048576) : PFn Try.prog 34 [eLabelS a, eLabelS b] (bool (pB (a = b))) := by
  refine fn_ok' (n := 26) Try.func34 rfl rfl rfl (Nat.le_of_ble_eq_true rfl) rfl fun w0 O => ?_
  refine ok_seq fun K1 h1 => ok_region rfl (q_as _ rfl (run_nil (h1 _ ?_))); clear h1 K1
  refine ok_seq fun K2 h2 => ?_
  refine ok_seq fun K3 h3 => ok_region rfl (q_mv (eLabelS a) rfl (q_len eS61 rfl (q_mv (eLabelS b) rfl (q_len eS61 rfl (q_bin _ _ _ rfl rfl rfl (run_nil (h3 _ ?_))))))); clear h3 K3
  simp only [List.length_map]
  refine ok_cond rfl (fun c4 => ?_) (fun c4 => ?_)
  · refine ok_seq fun K5 h5 => ?_
    refine ok_region rfl (q_as _ rfl (run_nil (h5 _ ?_)))
    clear h5 K5
    refine ok_ret ⟨_, rfl, ?_⟩
    have c : ¬ a.length = b.length := by
      intro e
      rw [e] at c4
      simp at c4
    rw [pB_false (fun h => c (by rw [h]))]; rfl
  · refine ok_skip (h2 _ ?_)
    have hab : a.length = b.length := by
      have : (a.length : Int) = b.length := by simpa using c4
      omega
    refine ok_seq fun K6 h6 => ?_
    refine ok_seq fun K7 h7 => ok_region rfl (q_mv (eLabelS a) rfl (q_len eS61 rfl (q_mv _ rfl (run_nil (h7 _ ?_))))); clear h7 K7
    rw [List.length_map]
    refine ok_block ?_
    refine ok_loop (fun (k : Nat) => ⟨[(0, .sv (eLabelS a)), (1, .sv (eLabelS b)), (12, .sv (int a.length)), (13, .sv (int k))], []⟩) (fun k => a.take k = b.take k) (fun k => a.length - k) 0 rfl (le_same ⟨rfl, rfl, rfl, rfl, trivial⟩) (fun k J => ?_)
    refine ok_seq fun K8 h8 => ok_region rfl (q_bin _ _ _ rfl rfl rfl (run_nil (h8 _ ?_))); clear h8 K8
    refine ok_seq fun K9 h9 => ?_
    refine ok_cond rfl (fun c10 => ?_) (fun c10 => ?_)
    · refine ok_skip (h9 _ ?_)
      have hk : k < a.length := by simpa using c10
      obtain ⟨x, hx⟩ := sget hk
      obtain ⟨y, hy⟩ := sget (show k < b.length by omega)
      refine ok_seq fun K11 h11 => ?_
      refine ok_block ?_
      refine ok_seq fun K12 h12 => ok_region rfl (q_mv (int k) rfl (q_as _ rfl (run_nil (h12 _ ?_)))); clear h12 K12
      refine ok_seq fun K13 h13 => ?_
      refine ok_region_i (by kernel_rfl) (by kernel_rfl) rfl (
        q_mv (eLabelS a) rfl (q_mv (int k) rfl (q_ia el61 rfl rfl (by omega) (mget hx) (q_lds _ ag71 rfl sz71 (q_mv (eLabelS b) rfl (q_mv (int k) rfl (q_ia el61 rfl rfl (by omega) (mget hy) (q_lds _ ag71 rfl sz71 (
        q_nes two71 rfl rfl (run_nil (h13 _ ?_)))))))))))
      clear h13 K13
      refine ok_cond rfl (fun c14 => ?_) (fun c14 => ?_)
      · refine ok_seq fun K15 h15 => ?_
        refine ok_region rfl (q_as _ rfl (run_nil (h15 _ ?_)))
        clear h15 K15
        refine ok_ret ⟨_, rfl, ?_⟩
        have hne : x ≠ y := fun e => by rw [lab_ne.2 e] at c14; cases c14
        rw [pB_false (fun h => hne (by subst h; rw [hx] at hy; exact Option.some.inj hy))]; rfl
      · refine ok_skip (h11 _ ?_)
        refine ok_last fun K16 h16 => ok_region rfl (
          q_add rfl rfl (by omega) (q_mv _ rfl (run_nil (h16 _ (⟨k + 1, by omega, take_eq_step hx hy J (lab_ne.1 c14), le_same ⟨rfl, rfl, rfl, rfl, trivial⟩⟩)))))
    · refine ok_exit (h6 _ ?_)
      refine ok_seq fun K17 h17 => ok_region rfl (q_as _ rfl (run_nil (h17 _ ?_))); clear h17 K17
      refine ok_ret ⟨_, rfl, ?_⟩
      have hk : a.length ≤ k := by simpa using c10
      rw [List.take_of_length_le hk, List.take_of_length_le (by omega)] at J
      rw [pB_true J]; rfl
noncomputable def cmpG (a b : List Label) : Int := if pB (LabelsOk a) = true ∧ pB (LabelsOk b) = true then cmpLs a b else -2
theorem f30_ok (a b : List Label) (ha : a.length ≤ 1048576 ∧ ∀ y ∈ a, SLabel y) (hb : b.length ≤ 1048576 ∧ ∀ y ∈ b, SLabel y) : PFn Try.prog 30 [eLabelS a, eLabelS b] (int (cmpG a b)) := by
  refine fn_ok' (n := 16) Try.func30 rfl rfl rfl (Nat.le_of_ble_eq_true rfl) rfl fun w0 O => ?_
  refine ok_seq fun K1 h1 => ok_region rfl (q_as _ rfl (run_nil (h1 _ ?_))); clear h1 K1
  refine ok_seq fun K2 h2 => ?_
  refine ok_seq fun K3 h3 => ?_
  refine ok_region rfl (q_mv (eLabelS a) rfl (q_call (f109_ok a ha) cl109 rfl rfl (q_un _ _ rfl rfl (q_mv _ rfl (q_or 3 3 rfl rfl rfl rfl rfl (fun hb12 =>
      q_mv (eLabelS b) rfl (q_call (f109_ok b hb) cl109 rfl rfl (q_un _ _ rfl rfl (run_nil ⟨rfl, rfl, rfl, rfl⟩)))) (
    run_nil (h3 _ ?_)))))))
  clear h3 K3
  refine ok_cond rfl (fun c4 => ?_) (fun c4 => ?_)
  · refine ok_seq fun K5 h5 => ?_
    refine ok_region rfl (q_as _ rfl (run_nil (h5 _ ?_)))
    clear h5 K5
    refine ok_ret ⟨_, rfl, ?_⟩
    rw [cmpG, if_neg (by rintro ⟨h1, h2⟩; rw [h1, h2] at c4; cases c4)]; rfl
  · refine ok_skip (h2 _ ?_)
    refine ok_seq fun K6 h6 => ok_region rfl (q_mv (eLabelS a) rfl (q_mv (eLabelS b) rfl (q_call (f110_ok a b ha hb) cl110 rfl rfl (q_as _ rfl (run_nil (h6 _ ?_)))))); clear h6 K6
    refine ok_ret ⟨_, rfl, ?_⟩
    simp only [Bool.or_eq_false_iff, Bool.not_eq_false'] at c4
    rw [cmpG, if_pos c4]; rfl
noncomputable def valG (l : List Label) (n : ByteArray) : ByteArray := if pB (LabelsOk l) = true then valOf l n else ⟨#[]⟩
theorem f35_ok (l : List Label) (hl : l.length ≤ 1048576 ∧ ∀ y ∈ l, SLabel y) (n : ByteArray) : PFn Try.prog 35 [eLabelS l, str n] (str (valG l n)) := by
  refine fn_ok' (n := 11) Try.func35 rfl rfl rfl (Nat.le_of_ble_eq_true rfl) rfl fun w0 O => ?_
  refine ok_seq fun K1 h1 => ok_region rfl (q_as _ rfl (run_nil (h1 _ ?_))); clear h1 K1
  refine ok_seq fun K2 h2 => ?_
  refine ok_seq fun K3 h3 => ok_region rfl (q_mv (eLabelS l) rfl (q_call (f109_ok l hl) cl109 rfl rfl (q_un _ _ rfl rfl (run_nil (h3 _ ?_))))); clear h3 K3
  refine ok_cond rfl (fun c4 => ?_) (fun c4 => ?_)
  · refine ok_seq fun K5 h5 => ?_
    refine ok_region rfl (q_as _ rfl (run_nil (h5 _ ?_)))
    clear h5 K5
    refine ok_ret ⟨_, rfl, ?_⟩
    rw [valG, if_neg (by intro h; rw [h] at c4; cases c4)]; rfl
  · refine ok_skip (h2 _ ?_)
    refine ok_seq fun K6 h6 => ok_region rfl (q_mv (eLabelS l) rfl (q_mv (str n) rfl (q_call (f117_ok l hl.1 n) cl117 rfl rfl (q_as _ rfl (run_nil (h6 _ ?_)))))); clear h6 K6
    refine ok_ret ⟨_, rfl, ?_⟩
    rw [valG, if_pos (by simpa using c4)]; rfl
end Go.Ring
