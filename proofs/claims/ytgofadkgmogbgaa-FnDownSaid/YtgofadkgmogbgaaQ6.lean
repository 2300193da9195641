/- A label put in or taken out: the program. No condition beyond the lengths. -/
import Derived.Test.YtgofadkgmogbgaaQ5
import Derived.Test.YtgofadkgmogbgaaEg2
import Derived.Test.YtgofadkgmogbgaaD6
set_option maxRecDepth 100000
set_option linter.unusedVariables false
set_option linter.unusedSimpArgs false
namespace Go.Ring
open Go Go.RowKit Go.Eager Go.Abs Go.Proofs
theorem bl71 (a b : ByteArray) : BL Try.prog 71 [str a, str b] := by
  intro vs hv
  match vs, hv with
  | [w0, w1], hv =>
    obtain ⟨h0, h1, -⟩ := hv
    have e0 : w0 = _ := h0
    have e1 : w1 = _ := h1
    rw [e0, e1]
    have key : ∀ a b : ByteArray, Try.prog.built 71 [(0, .string a), (1, .string b)] = some #[.string a, .string b] := by intro a b; kernel_rfl
    exact key a b
theorem ins_geq (x : Label) (n v : ByteArray) (put : Bool) : (!put && !Op.bytesLess x.name.data.toList n.data.toList) = insW n v put x := by rw [cmpB_less]; rfl
theorem f120_ok (l : List Label) (hl : l.length ≤ 1048576 ∧ ∀ y ∈ l, SLabel y) (n v : ByteArray) : PFn Try.prog 120 [eLabelS l, str n, str v] (eLabelS (withL l n v)) := by
  have hl1 := hl.1
  refine fn_ok' (n := 51) Try.func120 rfl rfl rfl (Nat.le_of_ble_eq_true rfl) rfl fun w0 O => ?_
  refine ok_seq fun K1 h1 => ok_region rfl (q_as _ rfl (run_nil (h1 _ ?_))); clear h1 K1
  refine ok_seq fun K2 h2 => ok_region rfl (q_an (n := 2) 71 (by decide) rfl rfl rfl (run_nil (h2 _ ?_))); clear h2 K2
  refine ok_seq fun K3 h3 => ok_region rfl (q_mv (str v) rfl (q_bin _ _ _ rfl rfl rfl (q_as _ rfl (run_nil (h3 _ ?_))))); clear h3 K3
  refine ok_seq fun K4 h4 => ?_
  refine ok_seq fun K5 h5 => ok_region rfl (q_mv (eLabelS l) rfl (q_len eS61 rfl (q_mv _ rfl (run_nil (h5 _ ?_))))); clear h5 K5
  rw [List.length_map]
  refine ok_block ?_
  refine ok_loop (fun (s : Nat × Bool × List Label) => ⟨[(1, .sv (str n)), (2, .sv (str v)), (7, .own 7), (8, .sv (bool s.2.1)), (13, .sv (eLabelS l)), (14, .sv (int l.length)), (15, .sv (int s.1))], [(7, .row 2 71 (s.2.2.map eLabel))]⟩)
    (fun s => s.1 ≤ l.length ∧ s.2.2 ++ withR n v s.2.1 (l.drop s.1) = withL l n v ∧ s.2.2.length ≤ 2 * s.1) (fun s => l.length - s.1) (0, emptyB v, []) ⟨Nat.zero_le _, rfl, Nat.le_refl _⟩ (le_sub ⟨rfl, rfl, rfl, rfl, rfl, rfl, rfl, trivial⟩ ⟨rfl, trivial⟩) (fun s J => ?_)
  obtain ⟨k, put, out⟩ := s
  obtain ⟨j1, j2, j3⟩ := J
  simp only at j1 j2 j3
  refine ok_seq fun K6 h6 => ok_region rfl (q_bin _ _ _ rfl rfl rfl (run_nil (h6 _ ?_))); clear h6 K6
  refine ok_seq fun K7 h7 => ?_
  refine ok_cond rfl (fun c8 => ?_) (fun c8 => ?_)
  · refine ok_skip (h7 _ ?_)
    have hk : k < l.length := by simpa using c8
    obtain ⟨x, hx⟩ := sget hk
    rw [withR_step hx, ← List.append_assoc] at j2
    refine ok_seq_join (fun (s : Bool × List Label) => ⟨[(1, .sv (str n)), (2, .sv (str v)), (7, .own 7), (8, .sv (bool s.1)), (13, .sv (eLabelS l)), (14, .sv (int l.length)), (15, .sv (int k))], [(7, .row 2 71 (s.2.map eLabel))]⟩) (fun s => s.1 = (put || insW n v put x) ∧ s.2 = out ++ stepW n v put x) ?_ (fun s J => ?_)
    · refine ok_block ?_
      refine ok_seq fun K9 h9 => ok_region rfl (q_ia el61 rfl rfl (by omega) (mget hx) (q_lds _ ag71 rfl sz71 (q_alloc _ ze71 rfl rfl rfl rfl (q_sts _ rfl rfl rfl sz71 (Nat.le_of_ble_eq_true rfl) rfl (run_nil (h9 _ ?_)))))); clear h9 K9
      refine ok_seq_join (fun (s : Bool × List Label) => ⟨[(1, .sv (str n)), (2, .sv (str v)), (7, .own 7), (8, .sv (bool s.1)), (10, .ptr 10 0), (13, .sv (eLabelS l)), (14, .sv (int l.length)), (15, .sv (int k))], [(7, .row 2 71 (s.2.map eLabel)), (10, .box [.sv (str x.name), .sv (str x.value)])]⟩) (fun s => s.1 = (put || insW n v put x) ∧ s.2 = out ++ (if insW n v put x = true then [⟨n, v⟩] else [])) ?_ (fun s J => ?_)
      · refine ok_seq fun K10 h10 => ?_
        refine ok_region rfl (q_mv (bool put) rfl (q_un _ _ rfl rfl (q_mv _ rfl (q_and 4 4 rfl rfl rfl rfl rfl (fun hb26 =>
            q_fap fd71_0 rfl (by decide) (q_ldb _ ag9 rfl rfl rfl (q_mv (str n) rfl (q_bin _ _ _ rfl rfl rfl (run_nil ⟨rfl, rfl, rfl, rfl⟩))))) (
          run_nil (h10 _ ?_))))))
        clear h10 K10
        rw [ins_geq x n v put]
        refine ok_cond rfl (fun c11 => ?_) (fun c11 => ?_)
        · refine ok_seq fun K12 h12 => ?_
          refine ok_region rfl (q_mo 7 rfl (q_mv (str n) rfl (q_mv (str v) rfl (q_bld [str n, str v] (bl71 n v) rfl rfl rfl (q_lit1 _ _ el61 ze71 (by decide) (by decide) rfl (.inl ⟨_, rfl⟩) rfl (q_app (q := [eLabel ⟨n, v⟩]) _ el61 ze71 rfl by71 rfl rfl rfl rfl rfl (by simp) (by intro s hs; simp at hs; subst hs; exact .inl ⟨_, rfl⟩) (by rw [List.length_map]; show out.length + 1 ≤ maxLen; unfold maxLen; omega) (by rw [List.length_map]; show (out.length + 1) * _ ≤ _; omega) (
            q_ao _ rfl (run_nil (h12 _ ?_)))))))))
          clear h12 K12
          refine ok_last fun K13 h13 => ok_region rfl (
            q_as _ rfl (run_nil (h13 _ (⟨(true, out ++ [⟨n, v⟩]), ⟨by simp [c11], by simp [c11]⟩, ?_⟩))))
          rw [List.map_append]
          exact le_rek 7 32 ⟨rfl, rfl, rfl, rfl, rfl, rfl, rfl, rfl, trivial⟩ ⟨rfl, rfl, trivial⟩ rfl rfl rfl rfl ⟨rfl, rfl, trivial⟩
        · refine ok_skip (⟨(put, out), ⟨by simp [c11], by simp [c11]⟩, le_sub ⟨rfl, rfl, rfl, rfl, rfl, rfl, rfl, rfl, trivial⟩ ⟨rfl, rfl, trivial⟩⟩)
      · obtain ⟨p2, o2⟩ := s
        obtain ⟨rfl, rfl⟩ := J
        have ho2 : (out ++ (if insW n v put x = true then [(⟨n, v⟩ : Label)] else [])).length ≤ out.length + 1 := by rw [List.length_append]; split <;> simp
        generalize ho : out ++ (if insW n v put x = true then [(⟨n, v⟩ : Label)] else []) = o2 at ho2
        refine ok_seq fun K14 h14 => ?_
        refine ok_region rfl (q_fap fd71_0 rfl (by decide) (q_ldb _ ag9 rfl rfl rfl (q_mv (str n) rfl (q_bin _ _ _ rfl rfl rfl (run_nil (h14 _ ?_))))))
        clear h14 K14
        refine ok_cond rfl (fun c15 => ?_) (fun c15 => ?_)
        · have c : ¬ x.name.data.toList = n.data.toList := by simpa using c15
          refine ok_last fun K16 h16 => ok_region rfl (
            q_mo 7 rfl (q_ldbs (r := [str x.name, str x.value]) ag71 rfl rfl sz71 rfl rfl (q_lit1 _ _ el61 ze71 (by decide) (by decide) rfl (.inl ⟨_, rfl⟩) rfl (q_app (q := [eLabel x]) _ el61 ze71 rfl by71 rfl rfl rfl rfl rfl (by simp) (by intro s hs; simp at hs; subst hs; exact .inl ⟨_, rfl⟩) (by rw [List.length_map]; show o2.length + 1 ≤ maxLen; unfold maxLen; omega) (by rw [List.length_map]; show (o2.length + 1) * _ ≤ _; omega) (
            q_ao _ rfl (run_nil (h16 _ (⟨(put || insW n v put x, o2 ++ [x]), ⟨rfl, by rw [← ho]; simp [stepW, c]⟩, ?_⟩))))))))
          rw [List.map_append]
          exact le_rek 7 40 ⟨rfl, rfl, rfl, rfl, rfl, rfl, rfl, trivial⟩ ⟨rfl, trivial⟩ rfl rfl rfl rfl ⟨rfl, trivial⟩
        · have c : x.name.data.toList = n.data.toList := by simpa using c15
          refine ok_skip (⟨(put || insW n v put x, o2), ⟨rfl, by rw [← ho]; simp [stepW, c]⟩, le_sub ⟨rfl, rfl, rfl, rfl, rfl, rfl, rfl, trivial⟩ ⟨rfl, trivial⟩⟩)
    · obtain ⟨p2, o2⟩ := s
      obtain ⟨rfl, rfl⟩ := J
      refine ok_last fun K17 h17 => ok_region rfl (
        q_add rfl rfl (by omega) (q_mv _ rfl (run_nil (h17 _ (⟨(k + 1, put || insW n v put x, out ++ stepW n v put x), by simp only; omega, ⟨by simp only; omega, j2, ?_⟩, le_sub ⟨rfl, rfl, rfl, rfl, rfl, rfl, rfl, trivial⟩ ⟨rfl, trivial⟩⟩)))))
      have := stepW_len n v put x
      simp only [List.length_append]; omega
  · refine ok_exit (h4 _ ?_)
    rw [withR_end (by simpa using c8)] at j2
    refine ok_seq_join (fun (_ : Unit) => ⟨[(7, .own 7)], [(7, .row 2 71 ((withL l n v).map eLabel))]⟩) (fun _ => True) ?_ (fun _ J => ?_)
    · refine ok_seq fun K18 h18 => ?_
      refine ok_region rfl (q_mv (bool put) rfl (q_un _ _ rfl rfl (run_nil (h18 _ ?_))))
      clear h18 K18
      refine ok_cond rfl (fun c19 => ?_) (fun c19 => ?_)
      · have c : put = false := by simpa using c19
        subst c
        rw [if_neg (by simp)] at j2
        refine ok_last fun K20 h20 => ok_region rfl (
          q_mo 7 rfl (q_mv (str n) rfl (q_mv (str v) rfl (q_bld [str n, str v] (bl71 n v) rfl rfl rfl (q_lit1 _ _ el61 ze71 (by decide) (by decide) rfl (.inl ⟨_, rfl⟩) rfl (q_app (q := [eLabel ⟨n, v⟩]) _ el61 ze71 rfl by71 rfl rfl rfl rfl rfl (by simp) (by intro s hs; simp at hs; subst hs; exact .inl ⟨_, rfl⟩) (by rw [List.length_map]; show out.length + 1 ≤ maxLen; unfold maxLen; omega) (by rw [List.length_map]; show (out.length + 1) * _ ≤ _; omega) (
          q_ao _ rfl (run_nil (h20 _ (⟨(), trivial, ?_⟩))))))))))
        rw [← j2, List.map_append]
        exact le_rek 7 49 ⟨rfl, trivial⟩ ⟨rfl, trivial⟩ rfl rfl rfl rfl ⟨rfl, trivial⟩
      · have c : put = true := by simpa using c19
        subst c
        rw [if_pos rfl, List.append_nil] at j2
        subst j2
        exact ok_skip ⟨(), trivial, le_sub ⟨rfl, trivial⟩ ⟨rfl, trivial⟩⟩
    · refine Ok.le (Le.trans (le_fz (n := 2) (T := 71) (l := (withL l n v).map eLabel) 7 rfl) (le_sub (t' := [(7, .own 7)]) (h' := [(7, .row 2 71 ((withL l n v).map eLabel))]) ⟨rfl, trivial⟩ ⟨rfl, trivial⟩)) ?_
      refine ok_seq fun K21 h21 => ?_
      refine ok_region rfl (q_mv (eLabelS (withL l n v)) rfl (q_as _ rfl (run_nil (h21 _ ?_))))
      clear h21 K21
      exact ok_ret ⟨_, rfl, rfl⟩
noncomputable def goodV (n v : ByteArray) : Bool := nameB n && (emptyB v || valueB v)
noncomputable def withG (l : List Label) (n v : ByteArray) : List Label := if pB (LabelsOk l) = true ∧ goodV n v = true ∧ pB (LabelsOk (withL l n v)) = true then withL l n v else []
theorem withL_S {l : List Label} (hl : l.length ≤ 100000 ∧ ∀ y ∈ l, SLabel y) {n v : ByteArray} (hn : n.size ≤ 1048576) (hv : v.size ≤ 1048576) : (withL l n v).length ≤ 1048576 ∧ ∀ y ∈ withL l n v, SLabel y := by
  refine ⟨by have := withR_len n v l (emptyB v); have := hl.1; unfold withL; omega, fun y hy => ?_⟩
  rcases withR_mem n v l (emptyB v) y hy with h | h
  · subst h; exact ⟨hn, hv⟩
  · exact hl.2 y h
theorem f36_ok (l : List Label) (hl : l.length ≤ 100000 ∧ ∀ y ∈ l, SLabel y) (n v : ByteArray) (hn : n.size ≤ 1048576) (hv : v.size ≤ 1048576) : PFn Try.prog 36 [eLabelS l, str n, str v] (eLabelS (withG l n v)) := by
  have hl' : l.length ≤ 1048576 ∧ ∀ y ∈ l, SLabel y := ⟨by have := hl.1; omega, hl.2⟩
  have hw := withL_S hl hn hv
  refine fn_ok' (n := 33) Try.func36 rfl rfl rfl (Nat.le_of_ble_eq_true rfl) rfl fun w0 O => ?_
  refine ok_seq fun K1 h1 => ok_region rfl (q_as _ rfl (run_nil (h1 _ ?_))); clear h1 K1
  refine ok_seq fun K2 h2 => ?_
  refine ok_seq fun K3 h3 => ?_
  refine ok_region rfl (q_mv (eLabelS l) rfl (q_call (f109_ok l hl') cl109 rfl rfl (q_un _ _ rfl rfl (q_mv _ rfl (q_or 3 3 rfl rfl rfl rfl rfl (fun hb15 =>
      q_mv (str n) rfl (q_call (f118_ok n hn) cl118 rfl rfl (q_un _ _ rfl rfl (run_nil ⟨rfl, rfl, rfl, rfl⟩)))) (
    q_mv _ rfl (q_or 7 4 rfl rfl rfl rfl rfl (fun hb24 =>
      q_mv (str v) rfl (q_bin _ _ _ rfl rfl rfl (q_mv _ rfl (q_and 3 3 rfl rfl rfl rfl rfl (fun hb23 =>
        q_mv (str v) rfl (q_call (f119_ok v hv) cl119 rfl rfl (q_un _ _ rfl rfl (run_nil ⟨rfl, rfl, rfl, rfl⟩)))) (
      run_nil ⟨rfl, rfl, rfl, rfl⟩))))) (
    run_nil (h3 _ ?_)))))))))
  clear h3 K3
  refine ok_cond rfl (fun c4 => ?_) (fun c4 => ?_)
  · refine ok_seq fun K5 h5 => ?_
    refine ok_region rfl (q_as _ rfl (run_nil (h5 _ ?_)))
    clear h5 K5
    refine Ok.le (le_nil 2 6 rfl) (ok_ret ⟨_, rfl, ?_⟩)
    rw [withG, if_neg ?_]; · rfl
    rintro ⟨h1, h2, -⟩
    simp only [goodV, Bool.and_eq_true, Bool.or_eq_true] at h2
    obtain ⟨h2, h3⟩ := h2
    rw [h1, h2] at c4
    rcases h3 with h3 | h3
    · rw [show decide (v.data.toList = (⟨#[]⟩ : ByteArray).data.toList) = true from h3] at c4
      simp at c4
    · rw [h3] at c4
      simp at c4
  · refine ok_skip (h2 _ ?_)
    simp only [Bool.or_eq_false_iff, Bool.not_eq_false', Bool.and_eq_false_iff] at c4
    obtain ⟨⟨g1, g2⟩, g3⟩ := c4
    have g4 : goodV n v = true := by
      rw [goodV, g2, Bool.true_and, Bool.or_eq_true]
      rcases g3 with h | h
      · exact .inl h
      · exact .inr h
    refine ok_seq fun K6 h6 => ok_region rfl (q_mv (eLabelS l) rfl (q_mv (str n) rfl (q_mv (str v) rfl (q_call (f120_ok l hl' n v) cl120 rfl rfl (q_as _ rfl (run_nil (h6 _ ?_))))))); clear h6 K6
    refine ok_seq fun K7 h7 => ?_
    refine ok_seq fun K8 h8 => ok_region rfl (q_mv (eLabelS (withL l n v)) rfl (q_call (f109_ok _ hw) cl109 rfl rfl (q_un _ _ rfl rfl (run_nil (h8 _ ?_))))); clear h8 K8
    refine ok_cond rfl (fun c9 => ?_) (fun c9 => ?_)
    · refine ok_seq fun K10 h10 => ?_
      refine ok_region rfl (q_as _ rfl (run_nil (h10 _ ?_)))
      clear h10 K10
      refine Ok.le (le_nil 2 6 rfl) (ok_ret ⟨_, rfl, ?_⟩)
      rw [withG, if_neg ?_]; · rfl
      rintro ⟨-, -, h⟩
      rw [h] at c9; cases c9
    · refine ok_skip (h7 _ ?_)
      refine ok_seq fun K11 h11 => ok_region rfl (q_mv (eLabelS (withL l n v)) rfl (q_as _ rfl (run_nil (h11 _ ?_)))); clear h11 K11
      refine ok_ret ⟨_, rfl, ?_⟩
      rw [withG, if_pos ⟨g1, g4, by simpa using c9⟩]; rfl
end Go.Ring
