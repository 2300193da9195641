/- Drawn labels: what bounds them. No condition beyond the lengths. -/
import Derived.Test.YtgofadkgmogbgaaQ6
import Derived.Test.YtgofadkgmogbgaaD4
import Derived.Test.YtgofadkgmogbgaaEg2
set_option maxRecDepth 100000
set_option linter.unusedVariables false
set_option linter.unusedSimpArgs false
namespace Go.Ring
open Go Go.RowKit Go.Eager Go.Abs Go.Proofs
theorem f172_r (n : Nat) (hn0 : 0 < n) (hn : n ≤ 1000) : PFnR Try.prog 172 [int n] (fun r => ∃ x : ByteArray, r = str x ∧ x.size ≤ 1000) := by
  refine fnp_ok (n := 31) Try.func172 rfl rfl rfl (Nat.le_of_ble_eq_true rfl) rfl fun w0 O => ?_
  refine ok_seq fun K1 h1 => ok_region rfl (q_as _ rfl (run_nil (h1 _ ?_))); clear h1 K1
  refine ok_seq fun K2 h2 => ?_
  refine ok_seq fun K3 h3 => ok_region rfl (q_mv (int n) rfl (q_bin _ _ _ rfl rfl rfl (run_nil (h3 _ ?_)))); clear h3 K3
  refine ok_cond rfl (fun c4 => absurd (of_decide_eq_true (p := (n : Int) = 0) c4) (by omega)) (fun c4 => ?_)
  refine ok_skip (h2 _ ?_)
  refine ok_seq fun K6 h6 => ok_region rfl (q_as (str ⟨#[]⟩) rfl (run_nil (h6 _ ?_))); clear h6 K6
  refine ok_seq fun K7 h7 => ok_region rfl (q_mv (int n) rfl (q_bin _ _ _ rfl rfl rfl (q_as _ rfl (run_nil (h7 _ ?_))))); clear h7 K7
  rw [show decide ((n : Int) < 0) = false by simp]
  refine ok_seq fun K8 h8 => ?_
  refine ok_block ?_
  refine ok_loop (fun (s : Nat × ByteArray) => ⟨[(0, .sv (int s.1)), (3, .sv (str s.2)), (4, .sv (bool false))], []⟩) (fun s => s.2.size + s.1 ≤ n) (fun s => s.1) (n, ⟨#[]⟩) (Nat.le_of_eq (Nat.zero_add n)) (le_same ⟨rfl, rfl, rfl, trivial⟩) (fun s J => ?_)
  obtain ⟨k, out⟩ := s
  simp only at J
  refine ok_seq fun K9 h9 => ?_
  refine ok_seq fun K10 h10 => ok_region rfl (q_mv (int k) rfl (q_bin _ _ _ rfl rfl rfl (run_nil (h10 _ ?_)))); clear h10 K10
  refine ok_cond rfl (fun c11 => ?_) (fun c11 => ?_)
  · have hk : 0 < k := by
      have : ¬ (k : Int) = 0 := by simpa using c11
      omega
    refine ok_skip (h9 _ ?_)
    refine ok_block ?_
    refine ok_seq fun K12 h12 => ok_region rfl (q_mv (int k) rfl (q_mod rfl rfl (by omega) (q_as _ rfl (run_nil (h12 _ ?_))))); clear h12 K12
    obtain ⟨d, hd⟩ : ∃ d : Nat, (k : Int) % 10 = d := ⟨k % 10, by omega⟩
    rw [hd]
    refine ok_seq fun K13 h13 => ?_
    refine ok_seq fun K14 h14 => ok_region rfl (q_mv (int d) rfl (q_bin _ _ _ rfl rfl rfl (run_nil (h14 _ ?_)))); clear h14 K14
    refine ok_cond rfl (fun c14 => absurd (of_decide_eq_true (p := (d : Int) < 0) c14) (by omega)) (fun c14 => ?_)
    refine ok_skip (h13 _ ?_)
    obtain ⟨b, hb⟩ := u8_byte (48 + d)
    refine ok_seq fun K16 h16 => ok_region rfl (q_mv (int d) rfl (q_add rfl rfl (by omega) (q_cvw (by rw [ag3]; rfl) ik5 rfl ?_)))
    rw [← hb]
    refine q_lit1 _ (byteSV b) el22 ze5 (by decide) (by decide) rfl (.inr rfl) rfl (q_cvz (bs := [b]) Try.underlying22 Try.underlying5 u9 rfl (q_mv (str out) rfl (q_bin _ _ _ rfl rfl (cat_bin (by show 1 + out.size ≤ _; omega)) (q_as _ rfl (run_nil (h16 _ ?_))))))
    clear h16 K16
    refine ok_last fun K17 h17 => ok_region rfl (
      q_mv (int k) rfl (q_div rfl rfl (by omega) (q_as _ rfl (run_nil (h17 _ (⟨(k / 10, ⟨[b].toArray⟩ ++ out), by simp only; omega, ?_, le_same ⟨?_, rfl, rfl, trivial⟩⟩))))))
    · simp only [ByteArray.size_append]
      show 1 + out.size + k / 10 ≤ n
      omega
    · show some (LV.sv (.raw (.int .i64 ((k : Int) / 10)))) = some (.sv (int ((k / 10 : Nat) : Int)))
      rfl
  · refine ok_exit (h8 _ ?_)
    refine ok_seq fun K18 h18 => ?_
    refine ok_seq fun K19 h19 => ok_region rfl (q_mv (bool false) rfl (run_nil (h19 _ ?_))); clear h19 K19
    refine ok_cond rfl (fun c20 => absurd c20 (by decide)) (fun c20 => ?_)
    refine ok_skip (h18 _ ?_)
    refine ok_seq fun K22 h22 => ok_region rfl (q_mv (str out) rfl (q_as _ rfl (run_nil (h22 _ ?_)))); clear h22 K22
    exact ok_ret ⟨_, ⟨_, _, rfl, rfl, rfl⟩, ⟨out, rfl, by omega⟩, fun b hb => (zn_raw hb).elim⟩
/-- Labels that are not long. -/
def SmL (l : List Label) : Prop := l.length ≤ 100 ∧ ∀ y ∈ l, y.name.size ≤ 5000 ∧ y.value.size ≤ 5000
theorem SmL.S {l : List Label} (h : SmL l) : l.length ≤ 1048576 ∧ ∀ y ∈ l, SLabel y := ⟨by have := h.1; omega, fun y hy => by have := h.2 y hy; exact ⟨by omega, by omega⟩⟩
/-- A row of labels of its own, under the name k. -/
def DrL (code : List UInt8) (at_ m : Int) (k N : Nat) : LV → List (Nat × Ent) → Prop := fun r h' => ∃ (l : List Label) (a' seed' : Int), r = .own k ∧ l ≠ [] ∧ l.length ≤ N ∧ SmL l ∧ at_ ≤ a' ∧ a' ≤ at_ + m ∧ CurOk code a' seed' ∧ h' = [(k, .row 2 71 (l.map eLabel)), (1000, curB code a' seed')]
theorem f107_ok (code : List UInt8) (a seed : Int) (hc : CurOk code a seed) (ha : a ≤ 700000000000000) : PFnB Try.prog 107 [.ptr 1000 0] [(1000, curB code a seed)] [1000] (DrL code a 100 3 6) := by
  refine fnb_ok (n := 42) Try.func107 rfl rfl rfl (Nat.le_of_ble_eq_true rfl) rfl rfl fun w0 O M ρ => ?_
  refine ok_seq fun K1 h1 => ok_region rfl (q_as _ rfl (run_nil (h1 _ ?_))); clear h1 K1
  refine ok_seq fun K1 h1 => ok_region rfl (q_an (n := 2) 71 (by decide) rfl rfl rfl (run_nil (h1 _ ?_))); clear h1 K1
  let ns : List ByteArray := [⟨#[95, 110, 97, 109, 101]⟩, ⟨#[97, 114, 101, 97]⟩, ⟨#[106, 111, 98]⟩, ⟨#[110, 111, 100, 101]⟩, ⟨#[122, 111, 110, 101]⟩]
  have hns : ∀ x ∈ ns, x.size ≤ 10 := by
    intro x hx
    simp only [ns, List.mem_cons, List.not_mem_nil, or_false] at hx
    rcases hx with h | h | h | h | h <;> subst h <;> decide
  let v1 : List ByteArray := [⟨#[117, 112]⟩, ⟨#[104, 105, 116, 115, 95, 116, 111, 116, 97, 108]⟩, ⟨#[108, 111, 97, 100]⟩, ⟨#[116, 111, 111, 107]⟩]
  have hv1 : ∀ x ∈ v1, x.size ≤ 10 := by
    intro x hx
    simp only [v1, List.mem_cons, List.not_mem_nil, or_false] at hx
    rcases hx with h | h | h | h <;> subst h <;> decide
  let v2 : List ByteArray := [⟨#[97]⟩, ⟨#[98]⟩, ⟨#[97, 112, 105]⟩, ⟨#[100, 98]⟩, ⟨#[49]⟩, ⟨#[49, 48]⟩]
  have hv2 : ∀ x ∈ v2, x.size ≤ 10 := by
    intro x hx
    simp only [v2, List.mem_cons, List.not_mem_nil, or_false] at hx
    rcases hx with h | h | h | h | h | h <;> subst h <;> decide
  refine ok_seq fun K3 h3 => ?_
  refine ok_seq fun K4 h4 => ok_region rfl (q_lit _ (ns.map str) el27 ze9 (by decide) rfl (by decide) rfl rfl (by intro s hs; obtain ⟨x, _, rfl⟩ := List.mem_map.1 hs; exact ⟨.inr rfl, rfl⟩) (q_len eS27 rfl (q_mv _ rfl (run_nil (h4 _ ?_))))); clear h4 K4
  refine ok_block ?_
  refine ok_loop (fun (s : Nat × List Label × Int × Int) => ⟨[(0, .ptr 1000 0), (3, .own 3), (6, .sv (.sl 1 (ns.map str))), (7, .sv (int 5)), (8, .sv (int s.1))], [(3, .row 2 71 (s.2.1.map eLabel)), (1000, curB code s.2.2.1 s.2.2.2)]⟩)
    (fun s => (0 < s.1 → s.2.1 ≠ []) ∧ s.2.1.length ≤ s.1 ∧ s.1 ≤ 5 ∧ (∀ y ∈ s.2.1, y.name.size ≤ 5000 ∧ y.value.size ≤ 5000) ∧ a ≤ s.2.2.1 ∧ s.2.2.1 ≤ a + 4 * s.1 ∧ CurOk code s.2.2.1 s.2.2.2) (fun s => 5 - s.1) (0, [], a, seed)
    ⟨fun h => absurd h (Nat.lt_irrefl 0), Nat.le_refl _, by show 0 ≤ 5; omega, by simp, by simp only; omega, by simp only; omega, hc⟩ (le_sub ⟨rfl, rfl, rfl, rfl, rfl, trivial⟩ ⟨rfl, rfl, trivial⟩) (fun s J => ?_)
  obtain ⟨k, l, a1, seed1⟩ := s
  obtain ⟨j0, j1, j2, j3, j4, j5, j6⟩ := J
  simp only at j0 j1 j2 j3 j4 j5 j6
  refine ok_seq fun K5 h5 => ok_region rfl (q_bin _ _ _ rfl rfl rfl (run_nil (h5 _ ?_))); clear h5 K5
  refine ok_seq fun K6 h6 => ?_
  refine ok_cond rfl (fun c7 => ?_) (fun c7 => ?_)
  · refine ok_skip (h6 _ ?_)
    have hk : k < 5 := by have := of_decide_eq_true (p := (k : Int) < 5) c7; omega
    have hkn : k < ns.length := hk
    obtain ⟨x, hx⟩ := sget hkn
    have hx10 := hns x (smem hx)
    have add : ∀ u : ByteArray, u.size ≤ 10 → ∀ y ∈ l ++ [⟨x, u⟩], y.name.size ≤ 5000 ∧ y.value.size ≤ 5000 := by
      intro u hu y hy
      rcases List.mem_append.1 hy with h | h
      · exact j3 y h
      · simp at h; subst h; exact ⟨by simp only; omega, by simp only; omega⟩
    refine ok_seq_join (fun (s : List Label × Int × Int) => ⟨[(0, .ptr 1000 0), (3, .own 3), (6, .sv (.sl 1 (ns.map str))), (7, .sv (int 5)), (8, .sv (int k))], [(3, .row 2 71 (s.1.map eLabel)), (1000, curB code s.2.1 s.2.2)]⟩)
      (fun s => (s.1 ≠ []) ∧ s.1.length ≤ k + 1 ∧ (∀ y ∈ s.1, y.name.size ≤ 5000 ∧ y.value.size ≤ 5000) ∧ a ≤ s.2.1 ∧ s.2.1 ≤ a + 4 * k + 4 ∧ CurOk code s.2.1 s.2.2) ?_ (fun s J => ?_)
    · refine ok_block ?_
      refine ok_seq fun K8 h8 => ok_region rfl (q_ia (s := str x) el27 rfl rfl (by omega) (mget hx) (q_ld _ ag9 rfl rfl (q_as _ rfl (run_nil (h8 _ ?_))))); clear h8 K8
      refine ok_seq fun K9 h9 => ?_
      refine ok_seq fun K10 h10 => ok_region rfl (q_mv (str x) rfl (q_bin _ _ _ rfl rfl rfl (run_nil (h10 _ ?_)))); clear h10 K10
      refine ok_cond rfl (fun c11 => ?_) (fun c11 => ?_)
      · refine ok_seq fun K12 h12 => ok_region rfl (q_mo 3 rfl (q_mv (str x) rfl (q_mp 1000 0 rfl (q_lit _ (v1.map str) el27 ze9 (by decide) rfl (by decide) rfl rfl (by intro s hs; obtain ⟨x, _, rfl⟩ := List.mem_map.1 hs; exact ⟨.inr rfl, rfl⟩) (q_dr (sa := [.sl 1 (v1.map str)]) 1000 (f63_ok code a1 seed1 j6 (by omega) v1 (by decide) (by decide)) cl63 rfl rfl rfl rfl rfl (fun s a2 seed2 hs hb1 hb2 hc2 => ?_))))))
        obtain ⟨u, hu, rfl⟩ := hs
        have hu10 := hv1 u hu
        refine q_bld [str x, str u] (bl71 x u) rfl rfl rfl (q_lit1 _ _ el61 ze71 (by decide) (by decide) rfl (.inl ⟨_, rfl⟩) rfl (q_app (q := [eLabel ⟨x, u⟩]) _ el61 ze71 rfl by71 rfl rfl rfl rfl rfl (by simp) (by intro s hs; simp at hs; subst hs; exact .inl ⟨_, rfl⟩) (by rw [List.length_map]; show l.length + 1 ≤ maxLen; unfold maxLen; omega) (by rw [List.length_map]; show (l.length + 1) * _ ≤ _; omega) (q_ao _ rfl (run_nil (h12 _ ?_)))))
        clear h12 K12
        refine ok_exit (⟨(l ++ [⟨x, u⟩], a2, seed2), ⟨by simp, by simp; omega, add u hu10, by simp only; omega, by simp only; omega, hc2⟩, ?_⟩)
        rw [List.map_append]
        exact le_rek 3 21 ⟨rfl, rfl, rfl, rfl, rfl, trivial⟩ ⟨rfl, rfl, trivial⟩ rfl rfl rfl rfl ⟨rfl, rfl, trivial⟩
      · have hk0 : 0 < k := by
          rcases Nat.eq_zero_or_pos k with h | h
          · subst h
            have e : x = ⟨#[95, 110, 97, 109, 101]⟩ := (Option.some.inj hx).symm
            subst e
            revert c11; decide
          · exact h
        refine ok_skip (h9 _ ?_)
        refine ok_seq fun K13 h13 => ok_region rfl (q_mp 1000 0 rfl (q_dr (sa := [int 2]) 1000 (f64_ok code a1 seed1 j6 (by omega) 2 (by omega)) cl64 rfl rfl rfl rfl rfl (fun s a2 seed2 hs hb1 hb2 hc2 => ?_)))
        obtain ⟨b, rfl⟩ := hs
        refine run_nil (h13 _ ?_); clear h13 K13
        refine ok_cond rfl (fun c14 => ?_) (fun c14 => ?_)
        · refine ok_last fun K15 h15 => ok_region rfl (q_mo 3 rfl (q_mv (str x) rfl (q_mp 1000 0 rfl (q_lit _ (v2.map str) el27 ze9 (by decide) rfl (by decide) rfl rfl (by intro s hs; obtain ⟨x, _, rfl⟩ := List.mem_map.1 hs; exact ⟨.inr rfl, rfl⟩) (q_dr (sa := [.sl 1 (v2.map str)]) 1000 (f63_ok code a2 seed2 hc2 (by omega) v2 (by decide) (by decide)) cl63 rfl rfl rfl rfl rfl (fun s a3 seed3 hs hd1 hd2 hc3 => ?_))))))
          obtain ⟨u, hu, rfl⟩ := hs
          have hu10 := hv2 u hu
          refine q_bld [str x, str u] (bl71 x u) rfl rfl rfl (q_lit1 _ _ el61 ze71 (by decide) (by decide) rfl (.inl ⟨_, rfl⟩) rfl (q_app (q := [eLabel ⟨x, u⟩]) _ el61 ze71 rfl by71 rfl rfl rfl rfl rfl (by simp) (by intro s hs; simp at hs; subst hs; exact .inl ⟨_, rfl⟩) (by rw [List.length_map]; show l.length + 1 ≤ maxLen; unfold maxLen; omega) (by rw [List.length_map]; show (l.length + 1) * _ ≤ _; omega) (q_ao _ rfl (run_nil (h15 _ ?_)))))
          refine ⟨(l ++ [⟨x, u⟩], a3, seed3), ⟨by simp, by simp; omega, add u hu10, by simp only; omega, by simp only; omega, hc3⟩, ?_⟩
          rw [List.map_append]
          exact le_rek 3 31 ⟨rfl, rfl, rfl, rfl, rfl, trivial⟩ ⟨rfl, rfl, trivial⟩ rfl rfl rfl rfl ⟨rfl, rfl, trivial⟩
        · exact ok_skip (⟨(l, a2, seed2), ⟨j0 hk0, by simp only; omega, j3, by simp only; omega, by simp only; omega, hc2⟩, le_sub ⟨rfl, rfl, rfl, rfl, rfl, trivial⟩ ⟨rfl, rfl, trivial⟩⟩)
    · obtain ⟨l2, a2, seed2⟩ := s
      obtain ⟨i1, i2, i3, i4, i5, i6⟩ := J
      simp only at i1 i2 i3 i4 i5 i6
      exact ok_last fun K16 h16 => ok_region rfl (
        q_add rfl rfl (by omega) (q_mv _ rfl (run_nil (h16 _ (⟨(k + 1, l2, a2, seed2), by simp only; omega, ⟨fun _ => i1, i2, by simp only; omega, i3, i4, by simp only; omega, i6⟩, le_sub ⟨rfl, rfl, rfl, rfl, rfl, trivial⟩ ⟨rfl, rfl, trivial⟩⟩)))))
  · refine ok_exit (h3 _ ?_)
    have hk : k = 5 := by have := of_decide_eq_false (p := (k : Int) < 5) c7; omega
    have j0 := j0 (by omega)
    refine ok_seq_join (fun (s : List Label × Int × Int) => ⟨[(0, .ptr 1000 0), (3, .own 3)], [(3, .row 2 71 (s.1.map eLabel)), (1000, curB code s.2.1 s.2.2)]⟩)
      (fun s => s.1 ≠ [] ∧ s.1.length ≤ 6 ∧ SmL s.1 ∧ a ≤ s.2.1 ∧ s.2.1 ≤ a + 100 ∧ CurOk code s.2.1 s.2.2) ?_ (fun s J => ?_)
    · refine ok_seq fun K17 h17 => ok_region rfl (q_mp 1000 0 rfl (q_dr (sa := [int 12]) 1000 (f64_ok code a1 seed1 j6 (by omega) 12 (by omega)) cl64 rfl rfl rfl rfl rfl (fun s a2 seed2 hs hb1 hb2 hc2 => ?_)))
      obtain ⟨b, rfl⟩ := hs
      refine run_nil (h17 _ ?_); clear h17 K17
      refine ok_cond rfl (fun c18 => ?_) (fun c18 => ?_)
      · refine ok_last fun K19 h19 => ok_region rfl (q_mo 3 rfl (q_mp 1000 0 rfl (q_dr (sa := []) 1000 (f152_ok code a2 seed2 hc2 (by omega)) cl152 rfl rfl rfl rfl rfl (fun s a3 seed3 hs hd1 hd2 hc3 => ?_))))
        obtain ⟨u, rfl, hu⟩ := hs
        refine q_bld [str ⟨#[122, 122]⟩, str u] (bl71 ⟨#[122, 122]⟩ u) rfl rfl rfl (q_lit1 _ _ el61 ze71 (by decide) (by decide) rfl (.inl ⟨_, rfl⟩) rfl (q_app (q := [eLabel ⟨⟨#[122, 122]⟩, u⟩]) _ el61 ze71 rfl by71 rfl rfl rfl rfl rfl (by simp) (by intro s hs; simp at hs; subst hs; exact .inl ⟨_, rfl⟩) (by rw [List.length_map]; show l.length + 1 ≤ maxLen; unfold maxLen; omega) (by rw [List.length_map]; show (l.length + 1) * _ ≤ _; omega) (q_ao _ rfl (run_nil (h19 _ ?_)))))
        refine ⟨(l ++ [⟨⟨#[122, 122]⟩, u⟩], a3, seed3), ⟨by simp, by simp; omega, ⟨by simp; omega, ?_⟩, by simp only; omega, by simp only; omega, hc3⟩, ?_⟩
        · intro y hy
          rcases List.mem_append.1 hy with h | h
          · exact j3 y h
          · simp at h; subst h; exact ⟨by show 2 ≤ 5000; omega, by simp only; omega⟩
        rw [List.map_append]
        exact le_rek 3 40 ⟨rfl, rfl, trivial⟩ ⟨rfl, rfl, trivial⟩ rfl rfl rfl rfl ⟨rfl, rfl, trivial⟩
      · exact ok_skip (⟨(l, a2, seed2), ⟨j0, by simp only; omega, ⟨by simp only; omega, j3⟩, by simp only; omega, by simp only; omega, hc2⟩, le_sub ⟨rfl, rfl, trivial⟩ ⟨rfl, rfl, trivial⟩⟩)
    · obtain ⟨l2, a2, seed2⟩ := s
      obtain ⟨i1, i0, i2, i3, i4, i5⟩ := J
      simp only at i1 i0 i2 i3 i4 i5
      refine ok_seq fun K20 h20 => ok_region rfl (q_mo 3 rfl (q_ao 3 rfl (run_nil (h20 _ ?_))))
      exact ok_ret ⟨_, _, ⟨_, _, rfl, rfl, rfl⟩, rfl, l2, a2, seed2, rfl, i1, i0, i2, i3, i4, i5, rfl⟩
end Go.Ring
