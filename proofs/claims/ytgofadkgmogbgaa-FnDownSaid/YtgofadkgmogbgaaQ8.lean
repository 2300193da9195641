/- Drawn labels, turned a little: what bounds them. No condition beyond the lengths. -/
import Derived.Test.YtgofadkgmogbgaaQ7
set_option maxRecDepth 100000
set_option linter.unusedVariables false
set_option linter.unusedSimpArgs false
namespace Go.Ring
open Go Go.RowKit Go.Eager Go.Abs Go.Proofs
theorem set_ne {α : Type} {l : List α} (i : Nat) (x : α) (h : l ≠ []) : l.set i x ≠ [] := by
  intro e; have := congrArg List.length e; rw [List.length_set] at this; exact h (List.eq_nil_of_length_eq_zero (by simpa using this))
theorem SmL.set {l : List Label} (h : SmL l) (i : Nat) (x : Label) (hx : x.name.size ≤ 5000 ∧ x.value.size ≤ 5000) : SmL (l.set i x) := by
  refine ⟨by rw [List.length_set]; exact h.1, fun y hy => ?_⟩
  rcases List.mem_or_eq_of_mem_set hy with h1 | h1
  · exact h.2 y h1
  · subst h1; exact hx
theorem f108_ok (code : List UInt8) (a seed : Int) (hc : CurOk code a seed) (ha : a ≤ 700000000000000) (l : List Label) (hl0 : l ≠ []) (hl1 : SmL l) (hl2 : l.length ≤ 10) : PFnB Try.prog 108 [.ptr 1000 0, .own 1001] [(1001, .row 2 71 (l.map eLabel)), (1000, curB code a seed)] [1000] (DrL code a 200 1001 100) := by
  refine fnb_ok (n := 88) Try.func108 rfl rfl rfl (Nat.le_of_ble_eq_true rfl) rfl rfl fun w0 O M ρ => ?_
  refine ok_seq fun K1 h1 => ok_region rfl (q_as _ rfl (run_nil (h1 _ ?_))); clear h1 K1
  have hpos : 0 < l.length := List.length_pos_iff.2 hl0
  refine ok_seq fun K2 h2 => ?_
  refine ok_seq fun K3 h3 => ok_region rfl (q_mo 1001 rfl (q_leno eS61 rfl rfl (q_bin _ _ _ rfl rfl rfl (run_nil (h3 _ ?_))))); clear h3 K3
  rw [List.length_map]
  refine ok_cond rfl (fun c4 => absurd (of_decide_eq_true (p := (l.length : Int) = 0) c4) (by omega)) (fun c4 => ?_)
  refine ok_skip (h2 _ ?_)
  refine ok_seq fun K6 h6 => ok_region rfl (q_mp 1000 0 rfl (q_mo 1001 rfl (q_leno eS61 rfl rfl (q_dr (sa := [int (l.map eLabel).length]) 1000 (f74_ok code a seed hc (by omega) _ (by rw [List.length_map]; omega)) cl74 rfl rfl rfl rfl rfl (fun s a1 seed1 hs hb1 hb2 hc1 => ?_)))))
  obtain ⟨x, rfl, hx0, hx1⟩ := hs
  rw [List.length_map] at hx1
  obtain ⟨i, rfl⟩ : ∃ i : Nat, x = i := ⟨x.toNat, by omega⟩
  have hi : i < l.length := by have := hx1 (by omega); omega
  obtain ⟨y, hy⟩ := sget hi
  have hyS := hl1.2 y (smem hy)
  have hil : ((i : Int)).toNat < (l.map eLabel).length := by rw [List.length_map]; omega
  refine q_as _ rfl (run_nil (h6 _ ?_)); clear h6 K6
  refine ok_seq_join (fun (s : List Label × Int × Int) => ⟨[(1, .own 1001)], [(1001, .row 2 71 (s.1.map eLabel)), (1000, curB code s.2.1 s.2.2)]⟩)
    (fun s => s.1 ≠ [] ∧ SmL s.1 ∧ a ≤ s.2.1 ∧ s.2.1 ≤ a + 200 ∧ CurOk code s.2.1 s.2.2) ?_ (fun s J => ?_)
  · refine ok_seq fun K7 h7 => ok_region rfl (q_mp 1000 0 rfl (q_dr (sa := [int 20]) 1000 (f74_ok code a1 seed1 hc1 (by omega) 20 (by omega)) cl74 rfl rfl rfl rfl rfl (fun s a2 seed2 hs hd1 hd2 hc2 => ?_)))
    obtain ⟨x, rfl, -, -⟩ := hs
    refine run_nil (h7 _ ?_); clear h7 K7
    refine ok_block ?_
    refine ok_seq fun K8 h8 => ok_region rfl (q_bin _ _ _ rfl rfl rfl (q_as _ rfl (run_nil (h8 _ ?_)))); clear h8 K8
    refine ok_cond rfl (fun c9 => ?_) (fun c9 => ?_)
    · let v1 : List ByteArray := [⟨#[]⟩, ⟨#[57, 97]⟩, ⟨#[97, 45, 98]⟩, ⟨#[95]⟩, ⟨#[106, 111, 98]⟩, ⟨#[97, 50, 51, 52, 53, 54, 55, 56, 57, 48, 49, 50, 51, 52, 53, 54, 55, 56, 57, 48, 49, 50, 51, 52, 53, 54, 55, 56, 57, 48, 49, 50, 51, 52, 53, 54, 55, 56, 57, 48]⟩]
      have hv1 : ∀ x ∈ v1, x.size ≤ 100 := by
        intro x hx
        simp only [v1, List.mem_cons, List.not_mem_nil, or_false] at hx
        rcases hx with h | h | h | h | h | h <;> subst h <;> decide
      refine ok_last fun K10 h10 => ok_region rfl (q_mo 1001 rfl (q_mv (int i) rfl (q_mp 1000 0 rfl (q_lit _ (v1.map str) el27 ze9 (by decide) rfl (by decide) rfl rfl (by intro s hs; obtain ⟨x, _, rfl⟩ := List.mem_map.1 hs; exact ⟨.inr rfl, rfl⟩) (q_dr (sa := [.sl 1 (v1.map str)]) 1000 (f63_ok code a2 seed2 hc2 (by omega) v1 (by decide) (by decide)) cl63 rfl rfl rfl rfl rfl (fun s a3 seed3 hs he1 he2 hc3 => ?_))))))
      obtain ⟨u, hu, rfl⟩ := hs
      have hu1 := hv1 u hu
      refine q_iao el61 rfl rfl rfl (by omega) hil (q_fae fd71_0 rfl (by decide) (q_stef (cs := [str y.name, str y.value]) sz9 rfl rfl (mget hy) (Nat.le_of_ble_eq_true rfl) rfl rfl rfl (run_nil (h10 _ ?_))))
      refine ⟨(l.set i ⟨u, y.value⟩, a3, seed3), ⟨set_ne _ _ hl0, hl1.set i _ ⟨by simp only; omega, hyS.2⟩, by simp only; omega, by simp only; omega, hc3⟩, ?_⟩
      rw [List.map_set]
      exact le_sub ⟨rfl, trivial⟩ ⟨rfl, rfl, trivial⟩
    · refine ok_seq fun K11 h11 => ok_region rfl (q_bin _ _ _ rfl rfl rfl (q_as _ rfl (run_nil (h11 _ ?_)))); clear h11 K11
      refine ok_cond rfl (fun c12 => ?_) (fun c12 => ?_)
      · let v1 : List ByteArray := [⟨#[]⟩, ⟨#[10]⟩, ⟨#[127]⟩, ⟨#[111, 107, 32]⟩]
        have hv1 : ∀ x ∈ v1, x.size ≤ 100 := by
          intro x hx
          simp only [v1, List.mem_cons, List.not_mem_nil, or_false] at hx
          rcases hx with h | h | h | h <;> subst h <;> decide
        refine ok_last fun K13 h13 => ok_region rfl (q_mo 1001 rfl (q_mv (int i) rfl (q_mp 1000 0 rfl (q_lit _ (v1.map str) el27 ze9 (by decide) rfl (by decide) rfl rfl (by intro s hs; obtain ⟨x, _, rfl⟩ := List.mem_map.1 hs; exact ⟨.inr rfl, rfl⟩) (q_dr (sa := [.sl 1 (v1.map str)]) 1000 (f63_ok code a2 seed2 hc2 (by omega) v1 (by decide) (by decide)) cl63 rfl rfl rfl rfl rfl (fun s a3 seed3 hs he1 he2 hc3 => ?_))))))
        obtain ⟨u, hu, rfl⟩ := hs
        have hu1 := hv1 u hu
        refine q_iao el61 rfl rfl rfl (by omega) hil (q_fae fd71_1 rfl (by decide) (q_stef (cs := [str y.name, str y.value]) sz9 rfl rfl (mget hy) (Nat.le_of_ble_eq_true rfl) rfl rfl rfl (run_nil (h13 _ ?_))))
        refine ⟨(l.set i ⟨y.name, u⟩, a3, seed3), ⟨set_ne _ _ hl0, hl1.set i _ ⟨hyS.1, by simp only; omega⟩, by simp only; omega, by simp only; omega, hc3⟩, ?_⟩
        rw [List.map_set]
        exact le_sub ⟨rfl, trivial⟩ ⟨rfl, rfl, trivial⟩
      · refine ok_seq fun K14 h14 => ok_region rfl (q_bin _ _ _ rfl rfl rfl (q_as _ rfl (run_nil (h14 _ ?_)))); clear h14 K14
        refine ok_cond rfl (fun c15 => ?_) (fun c15 => ?_)
        · obtain ⟨z, hz⟩ := sget hpos
          have hzS := hl1.2 z (smem hz)
          refine ok_seq fun K16 h16 => ok_region rfl (q_mo 1001 rfl (q_iao el61 rfl rfl rfl (by omega) (by rw [List.length_map]; exact hpos) (q_ldes (cs := [str z.name, str z.value]) ag71 rfl rfl (mget hz) sz71 (q_alloc _ ze71 rfl rfl rfl rfl (q_sts _ rfl rfl rfl sz71 (Nat.le_of_ble_eq_true rfl) rfl (run_nil (h16 _ ?_))))))); clear h16 K16
          refine ok_seq fun K17 h17 => ok_region rfl (q_mo 1001 rfl (q_mo 1001 rfl (q_mv (int i) rfl (q_iao el61 rfl rfl rfl (by omega) hil (q_ldes (cs := [str y.name, str y.value]) ag71 rfl rfl (mget hy) sz71 (q_iao el61 rfl rfl rfl (by omega) (by rw [List.length_map]; exact hpos) (q_ste (s := eLabel z) (s' := eLabel y) sz71 rfl rfl (mget hz) rfl (.inl ⟨_, rfl⟩) rfl (run_nil (h17 _ ?_))))))))); clear h17 K17
          have hil2 : ((i : Int)).toNat < ((l.map eLabel).set 0 (eLabel y)).length := by rw [List.length_set]; exact hil
          obtain ⟨g, hg⟩ : ∃ g, ((l.map eLabel).set 0 (eLabel y))[((i : Int)).toNat]? = some g := ⟨_, List.getElem?_eq_getElem hil2⟩
          refine ok_last fun K18 h18 => ok_region rfl (q_mo 1001 rfl (q_mv (int i) rfl (q_ldbs (r := [str z.name, str z.value]) ag71 rfl rfl sz71 rfl rfl (q_iao el61 rfl rfl rfl (by omega) hil2 (q_ste (s := g) (s' := eLabel z) sz71 rfl rfl hg rfl (.inl ⟨_, rfl⟩) rfl (run_nil (h18 _ ?_)))))))
          refine ⟨((l.set 0 y).set i z, a2, seed2), ⟨set_ne _ _ (set_ne _ _ hl0), (hl1.set 0 y hyS).set i z hzS, by simp only; omega, by simp only; omega, hc2⟩, ?_⟩
          rw [List.map_set, List.map_set]
          exact le_sub ⟨rfl, trivial⟩ ⟨rfl, rfl, trivial⟩
        · refine ok_seq fun K19 h19 => ok_region rfl (q_bin _ _ _ rfl rfl rfl (q_as _ rfl (run_nil (h19 _ ?_)))); clear h19 K19
          refine ok_cond rfl (fun c20 => ?_) (fun c20 => ?_)
          · refine ok_seq fun K21 h21 => ok_region rfl (q_as (int 0) rfl (run_nil (h21 _ ?_))); clear h21 K21
            refine ok_block ?_
            refine ok_loop (fun (s : Nat × List Label × Int × Int) => ⟨[(0, .ptr 1000 0), (1, .own 1001), (7, .sv (int s.1))], [(1001, .row 2 71 (s.2.1.map eLabel)), (1000, curB code s.2.2.1 s.2.2.2)]⟩)
              (fun s => s.2.1 ≠ [] ∧ s.1 ≤ s.2.1.length ∧ s.2.1.length ≤ 22 ∧ (∀ y ∈ s.2.1, y.name.size ≤ 5000 ∧ y.value.size ≤ 5000) ∧ a ≤ s.2.2.1 ∧ s.2.2.1 ≤ a + 10 + 2 * s.1 ∧ CurOk code s.2.2.1 s.2.2.2) (fun s => 22 - s.2.1.length) (0, l, a2, seed2)
              ⟨hl0, Nat.zero_le _, by simp only; omega, hl1.2, by simp only; omega, by simp only; omega, hc2⟩ (le_sub ⟨rfl, rfl, rfl, trivial⟩ ⟨rfl, rfl, trivial⟩) (fun s J => ?_)
            obtain ⟨k, l2, a3, seed3⟩ := s
            obtain ⟨j0, j1, j2, j3, j4, j5, j6⟩ := J
            simp only at j0 j1 j2 j3 j4 j5 j6
            refine ok_seq fun K22 h22 => ?_
            refine ok_seq fun K23 h23 => ok_region rfl (q_mo 1001 rfl (q_leno eS61 rfl rfl (q_mp 1000 0 rfl (q_dr (sa := [int 3]) 1000 (f74_ok code a3 seed3 j6 (by omega) 3 (by omega)) cl74 rfl rfl rfl rfl rfl (fun s a4 seed4 hs he1 he2 hc4 => ?_)))))
            obtain ⟨x, rfl, hp0, hp1⟩ := hs
            have hp1 := hp1 (by omega)
            refine q_add rfl rfl (by omega) (q_bin _ _ _ rfl rfl rfl (run_nil (h23 _ ?_))); clear h23 K23
            rw [List.length_map]
            refine ok_cond rfl (fun c24 => ?_) (fun c24 => ?_)
            · have hlt : l2.length < 22 := by have := of_decide_eq_true (p := (l2.length : Int) < 19 + x) c24; omega
              refine ok_skip (h22 _ ?_)
              refine ok_seq fun K25 h25 => ?_
              refine ok_block ?_
              refine ok_last fun K26 h26 => ok_region rfl (q_mo 1001 rfl (q_mv (int k) rfl (q_add rfl rfl (by omega) (q_callr (sa := [int ((100 + k : Nat) : Int)]) (f172_r (100 + k) (by omega) (by omega)) cl172 (by show [LV.sv (int (100 + (k : Int)))] = [LV.sv (int ((100 + k : Nat) : Int))]; rw [Int.natCast_add]; rfl) (fun r hr hz hap => ?_)))))
              obtain ⟨t, rfl, ht⟩ := hr
              refine q_bin _ _ _ rfl rfl (cat_bin (by show 3 + t.size ≤ _; omega)) (q_bld [str (⟨#[122, 122, 122]⟩ ++ t), str ⟨#[118]⟩] (bl71 _ _) rfl rfl rfl (q_lit1 _ _ el61 ze71 (by decide) (by decide) rfl (.inl ⟨_, rfl⟩) rfl (q_app (q := [eLabel ⟨⟨#[122, 122, 122]⟩ ++ t, ⟨#[118]⟩⟩]) _ el61 ze71 rfl by71 rfl rfl rfl rfl rfl (by simp) (by intro s hs; simp at hs; subst hs; exact .inl ⟨_, rfl⟩) (by rw [List.length_map]; show l2.length + 1 ≤ maxLen; unfold maxLen; omega) (by rw [List.length_map]; show (l2.length + 1) * _ ≤ _; omega) (q_ao _ rfl (run_nil (h26 _ (h25 _ ?_)))))))
              refine ok_last fun K27 h27 => ok_region rfl (
                q_mv (int k) rfl (q_add rfl rfl (by omega) (q_as _ rfl (run_nil (h27 _ (⟨(k + 1, l2 ++ [⟨⟨#[122, 122, 122]⟩ ++ t, ⟨#[118]⟩⟩], a4, seed4), by simp; omega, ⟨by simp, by simp; omega, by simp; omega, ?_, by simp only; omega, by simp only; omega, hc4⟩, ?_⟩))))))
              · intro y hy
                rcases List.mem_append.1 hy with h | h
                · exact j3 y h
                · simp at h; subst h
                  refine ⟨?_, by show 1 ≤ 5000; omega⟩
                  simp only [ByteArray.size_append]
                  show 3 + t.size ≤ 5000
                  omega
              · rw [List.map_append]
                exact le_rek 1001 70 ⟨rfl, rfl, rfl, trivial⟩ ⟨rfl, rfl, trivial⟩ rfl rfl rfl rfl ⟨rfl, rfl, trivial⟩
            · refine ok_exit (⟨(l2, a4, seed4), ⟨j0, ⟨by simp only; omega, j3⟩, by simp only; omega, by simp only; omega, hc4⟩, le_sub ⟨rfl, trivial⟩ ⟨rfl, rfl, trivial⟩⟩)
          · refine ok_seq fun K28 h28 => ok_region rfl (q_bin _ _ _ rfl rfl rfl (q_as _ rfl (run_nil (h28 _ ?_)))); clear h28 K28
            refine ok_cond rfl (fun c29 => ?_) (fun c29 => ?_)
            · refine ok_seq fun K30 h30 => ok_region rfl (q_as (str ⟨#[]⟩) rfl (run_nil (h30 _ ?_))); clear h30 K30
              refine ok_seq fun K31 h31 => ?_
              refine ok_seq fun K32 h32 => ok_region rfl (q_mp 1000 0 rfl (q_dr (sa := [int 3]) 1000 (f74_ok code a2 seed2 hc2 (by omega) 3 (by omega)) cl74 rfl rfl rfl rfl rfl (fun s a3 seed3 hs he1 he2 hc3 => ?_)))
              obtain ⟨x, rfl, hp0, hp1⟩ := hs
              have hp1 := hp1 (by omega)
              refine q_add rfl rfl (by omega) (q_as _ rfl (run_nil (h32 _ ?_))); clear h32 K32
              obtain ⟨N, hN⟩ : ∃ N : Nat, 99 + x = N := ⟨(99 + x).toNat, by omega⟩
              rw [hN]
              refine ok_block ?_
              refine ok_loop (fun (s : Nat × ByteArray) => ⟨[(1, .own 1001), (5, .sv (int i)), (8, .sv (str s.2)), (9, .sv (int s.1))], [(1001, .row 2 71 (l.map eLabel)), (1000, curB code a3 seed3)]⟩) (fun s => s.2.size + s.1 ≤ 102) (fun s => s.1) (N, ⟨#[]⟩) (by show 0 + N ≤ 102; omega) (le_sub ⟨rfl, rfl, rfl, rfl, trivial⟩ ⟨rfl, rfl, trivial⟩) (fun s J => ?_)
              obtain ⟨n, v⟩ := s
              simp only at J
              refine ok_seq fun K33 h33 => ?_
              refine ok_seq fun K34 h34 => ok_region rfl (q_mv (int n) rfl (q_bin _ _ _ rfl rfl rfl (run_nil (h34 _ ?_)))); clear h34 K34
              refine ok_cond rfl (fun c35 => ?_) (fun c35 => ?_)
              · have hn0 : 0 < n := by simpa using c35
                refine ok_skip (h33 _ ?_)
                refine ok_seq fun K36 h36 => ?_
                refine ok_block ?_
                refine ok_last fun K37 h37 => ok_region rfl (
                  q_mv (str v) rfl (q_bin _ _ _ rfl rfl (cat_bin (by show v.size + 1 ≤ _; omega)) (q_as _ rfl (run_nil (h37 _ (h36 _ ?_))))))
                refine ok_last fun K38 h38 => ok_region rfl (
                  q_mv (int n) rfl (q_sub rfl rfl (by omega) (q_as _ rfl (run_nil (h38 _ (⟨(n - 1, v ++ ⟨#[118]⟩), by simp only; omega, ?_, ?_⟩))))))
                · simp only [ByteArray.size_append]
                  show v.size + 1 + (n - 1) ≤ 102
                  omega
                · rw [show (n : Int) - 1 = ((n - 1 : Nat) : Int) by omega]
                  exact le_sub ⟨rfl, rfl, rfl, rfl, trivial⟩ ⟨rfl, rfl, trivial⟩
              · refine ok_exit (h31 _ ?_)
                refine ok_last fun K39 h39 => ok_region rfl (q_mo 1001 rfl (q_mv (int i) rfl (q_mv (str v) rfl (q_iao el61 rfl rfl rfl (by omega) hil (q_fae fd71_1 rfl (by decide) (q_stef (cs := [str y.name, str y.value]) sz9 rfl rfl (mget hy) (Nat.le_of_ble_eq_true rfl) rfl rfl rfl (run_nil (h39 _ ?_))))))))
                refine ⟨(l.set i ⟨y.name, v⟩, a3, seed3), ⟨set_ne _ _ hl0, hl1.set i _ ⟨hyS.1, by simp only; omega⟩, by simp only; omega, by simp only; omega, hc3⟩, ?_⟩
                rw [List.map_set]
                exact le_sub ⟨rfl, trivial⟩ ⟨rfl, rfl, trivial⟩
            · exact ok_skip ⟨(l, a2, seed2), ⟨hl0, hl1, by simp only; omega, by simp only; omega, hc2⟩, le_sub ⟨rfl, trivial⟩ ⟨rfl, rfl, trivial⟩⟩
  · obtain ⟨l2, a2, seed2⟩ := s
    obtain ⟨i1, i2, i3, i4, i5⟩ := J
    simp only at i1 i2 i3 i4 i5
    refine ok_seq fun K40 h40 => ok_region rfl (q_mo 1001 rfl (q_ao 1001 rfl (run_nil (h40 _ ?_))))
    exact ok_ret ⟨_, _, ⟨_, _, rfl, rfl, rfl⟩, rfl, l2, a2, seed2, rfl, i1, i2.1, i2, i3, i4, i5, rfl⟩
end Go.Ring
