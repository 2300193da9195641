/- A text that fits a pattern, a pattern and a text drawn: what bounds them. No condition beyond the lengths. -/
import Derived.Test.YtgofadkgmogbgaaD4
set_option maxRecDepth 100000
set_option linter.unusedVariables false
set_option linter.unusedSimpArgs false
namespace Go.Ring
open Go Go.RowKit Go.Eager Go.Abs Go.Proofs
theorem alts_pos : ∀ (n : Nat) (l : List UInt8) (now : List Int) (out r : List (List Int)), l.length ≤ n → alts l now out = some r → 0 < r.length
  | n, [], now, out, r, hn, h => by
    simp [alts] at h
    subst h
    simp
  | 0, c :: l, _, _, _, hn, _ => by simp at hn
  | n + 1, c :: l, now, out, r, hn, h => by
    have hl : l.length ≤ n := by simpa using hn
    by_cases h1 : c = 124
    · subst h1
      rw [alts_bar] at h
      exact alts_pos n l _ _ r hl h
    by_cases h2 : c = 42
    · subst h2
      rw [alts_star] at h
      exact alts_pos n l _ _ r hl h
    by_cases h3 : c = 63
    · subst h3
      rw [alts_any] at h
      exact alts_pos n l _ _ r hl h
    by_cases h4 : c = 92
    · subst h4
      cases l with
      | nil => rw [alts_esc0] at h; cases h
      | cons e l =>
        rw [alts_esc] at h
        split at h
        · exact alts_pos n l _ _ r (by simp at hl; omega) h
        · cases h
    · rw [alts_byte _ _ _ h1 h2 h3 h4] at h
      exact alts_pos n l _ _ r hl h
theorem patG_pos {s : ByteArray} {out : List (List Int)} (h : patG s = some out) : 0 < out.length := by
  unfold patG at h
  split at h
  · exact alts_pos _ _ _ _ _ (Nat.le_refl _) h
  · cases h
theorem f66_ok (code : List UInt8) (a seed : Int) (hc : CurOk code a seed) (ha : a ≤ 700000000000000) (p : ByteArray) (hp : p.size ≤ 1048576) : PFnB Try.prog 66 [.ptr 1000 0, .sv (str p)] [(1000, curB code a seed)] [1000] (Dr code a 210 (Tx 310)) := by
  obtain ⟨o, ho, ho2⟩ := altsW_ext (patG p)
  have hc68 := f68_ok p hp
  rw [ho] at hc68
  refine fnb_ok (n := 55) Try.func66 rfl rfl rfl (Nat.le_of_ble_eq_true rfl) rfl rfl fun w0 O M ρ => ?_
  refine ok_seq fun K1 h1 => ok_region rfl (q_as _ rfl (run_nil (h1 _ ?_))); clear h1 K1
  refine ok_seq fun K2 h2 => ok_region rfl (q_mv _ rfl (q_call hc68 cl68 rfl rfl (q_mv _ rfl (q_ext _ rfl rfl (q_ext _ rfl rfl (q_as _ rfl (q_as _ rfl (run_nil (h2 _ ?_)))))))))
  clear h2 K2
  refine ok_seq fun K3 h3 => ?_
  refine ok_seq fun K4 h4 => ok_region rfl (q_mv _ rfl (q_un _ _ rfl rfl (run_nil (h4 _ ?_)))); clear h4 K4
  refine ok_cond rfl (fun c5 => ?_) (fun c5 => ?_)
  · refine ok_seq fun K6 h6 => ok_region rfl (q_as _ rfl (run_nil (h6 _ ?_)))
    exact ok_ret ⟨_, _, ⟨_, _, rfl, rfl, rfl⟩, rfl, _, a, seed, rfl, ⟨⟨#[97]⟩, rfl, by decide⟩, by omega, by omega, hc, rfl⟩
  · obtain ⟨out, hout⟩ : ∃ out, patG p = some out := Option.isSome_iff_exists.1 (by simpa using c5)
    obtain rfl := ho2 out hout
    have hpos := patG_pos hout
    obtain ⟨hA, hL⟩ := patG_ok hout
    refine ok_skip (h3 _ ?_)
    refine ok_seq fun K7 h7 => ok_region rfl (q_an (n := 1) 5 (by decide) rfl rfl rfl (run_nil (h7 _ ?_))); clear h7 K7
    refine ok_seq fun K8 h8 => ?_
    refine ok_seq fun K9 h9 => ok_region rfl (q_mv (.sl 1 (out.map ints)) rfl (q_mp 1000 0 rfl (q_mv (.sl 1 (out.map ints)) rfl (q_len eS121 rfl (q_dr (sa := [int (out.map ints).length]) 1000 (f74_ok code a seed hc (by omega) _ (by rw [List.length_map]; omega)) cl74 rfl rfl rfl rfl rfl (fun s a1 seed1 hs ha1 ha2 hc1 => ?_))))))
    obtain ⟨x, rfl, hx0, hx1⟩ := hs
    rw [List.length_map] at hx1
    have hx1 := hx1 (by omega)
    obtain ⟨al, hal⟩ : ∃ u, out[x.toNat]? = some u := ⟨_, List.getElem?_eq_getElem (by omega)⟩
    have hAl := (hA al (smem hal)).1
    refine q_ia el121 rfl rfl hx0 (mget (f := ints) hal) (q_ld _ ag49 rfl rfl (q_len eS49 rfl (q_mv _ rfl (run_nil (h9 _ ?_)))))
    clear h9 K9
    rw [List.length_map]
    refine ok_block ?_
    refine ok_loop (fun (v : Nat × List UInt8 × Int × Int) => ⟨[(0, .ptr 1000 0), (7, .own 7), (23, .sv (ints al)), (24, .sv (int al.length)), (25, .sv (int v.1))], [(7, .row 1 5 (v.2.1.map byteSV)), (1000, curB code v.2.2.1 v.2.2.2)]⟩) (fun v => v.2.1.length ≤ 3 * v.1 ∧ v.1 ≤ al.length ∧ a ≤ v.2.2.1 ∧ v.2.2.1 ≤ a + 2 + 2 * v.1 ∧ CurOk code v.2.2.1 v.2.2.2) (fun v => al.length - v.1) (0, [], a1, seed1) ⟨by simp, by simp, ha1, by simp only; omega, hc1⟩ (le_sub ⟨rfl, rfl, rfl, rfl, rfl, trivial⟩ ⟨rfl, rfl, trivial⟩) (fun v J => ?_)
    obtain ⟨k, q, a2, seed2⟩ := v
    obtain ⟨j1, j2, j3, j4, j5⟩ := J
    simp only at j1 j2 j3 j4 j5
    refine ok_seq fun K10 h10 => ok_region rfl (q_bin _ _ _ rfl rfl rfl (run_nil (h10 _ ?_))); clear h10 K10
    refine ok_seq fun K11 h11 => ?_
    refine ok_cond rfl (fun c12 => ?_) (fun c12 => ?_)
    · refine ok_skip (h11 _ ?_)
      have hk : k < al.length := by simpa using c12
      obtain ⟨u, hu⟩ := sget hk
      refine ok_seq_join (fun (v : List UInt8 × Int × Int) => ⟨[(0, .ptr 1000 0), (7, .own 7), (23, .sv (ints al)), (24, .sv (int al.length)), (25, .sv (int k))], [(7, .row 1 5 (v.1.map byteSV)), (1000, curB code v.2.1 v.2.2)]⟩) (fun v => v.1.length ≤ q.length + 3 ∧ a2 ≤ v.2.1 ∧ v.2.1 ≤ a2 + 2 ∧ CurOk code v.2.1 v.2.2) ?_ (fun v J => ?_)
      · refine ok_block ?_
        refine ok_seq fun K13 h13 => ok_region rfl (q_ia el49 rfl rfl (by omega) (mget (f := int) hu) (q_ld _ ag3 rfl rfl (q_as _ rfl (run_nil (h13 _ ?_))))); clear h13 K13
        refine ok_seq fun K14 h14 => ok_region rfl (q_mv (int u) rfl (run_nil (h14 _ ?_))); clear h14 K14
        refine ok_block ?_
        refine ok_seq fun K15 h15 => ok_region rfl (q_bin _ _ _ rfl rfl rfl (q_as _ rfl (run_nil (h15 _ ?_)))); clear h15 K15
        refine ok_cond rfl (fun c16 => ?_) (fun c16 => ?_)
        · let ls : List ByteArray := [⟨#[]⟩, ⟨#[97]⟩, ⟨#[97, 98]⟩, ⟨#[97, 98, 97]⟩, ⟨#[49, 48]⟩]
          have hall : ∀ x ∈ ls, x.size ≤ 3 := by
            intro x hx
            simp only [ls, List.mem_cons, List.not_mem_nil, or_false] at hx
            rcases hx with h | h | h | h | h <;> subst h <;> decide
          refine ok_last fun K17 h17 => ok_region rfl (q_mo 7 rfl (q_lit _ (ls.map str) el27 ze9 (by decide) rfl (by decide) rfl rfl (by intro s hs; obtain ⟨x, _, rfl⟩ := List.mem_map.1 hs; exact ⟨.inr rfl, rfl⟩) (q_mp 1000 0 rfl (q_dr (sa := [int 5]) 1000 (f74_ok code a2 seed2 j5 (by omega) 5 (by omega)) cl74 rfl rfl rfl rfl rfl (fun s a3 seed3 hs hb1 hb2 hc3 => ?_)))))
          obtain ⟨y, rfl, hy0, hy1⟩ := hs
          have hy1 := hy1 (by omega)
          obtain ⟨t, ht⟩ : ∃ t, ls[y.toNat]? = some t := ⟨_, List.getElem?_eq_getElem (by show y.toNat < 5; omega)⟩
          have ht3 := hall t (smem ht)
          refine q_ia el27 rfl rfl hy0 (mget (f := str) ht) (q_ld _ ag9 rfl rfl (q_apps el22 st9 ze5 by5 rfl rfl rfl rfl rfl rfl (by have hm : (q.map byteSV).length = q.length := List.length_map _; show (q.map byteSV).length + t.size ≤ _; unfold maxLen; omega) (by have hm : (q.map byteSV).length = q.length := List.length_map _; show (q.map byteSV).length + t.size ≤ _; omega) (q_ao _ rfl (run_nil (h17 _ ?_)))))
          have hts : t.data.toList.length = t.size := by simp
          exact ⟨(q ++ t.data.toList, a3, seed3), ⟨by simp only [List.length_append]; omega, hb1, by simp only; omega, hc3⟩, by rw [List.map_append]; exact le_rek 7 43 ⟨rfl, rfl, rfl, rfl, rfl, trivial⟩ ⟨rfl, rfl, trivial⟩ rfl rfl rfl rfl ⟨rfl, rfl, trivial⟩⟩
        · refine ok_seq fun K18 h18 => ok_region rfl (q_bin _ _ _ rfl rfl rfl (q_as _ rfl (run_nil (h18 _ ?_)))); clear h18 K18
          refine ok_cond rfl (fun c19 => ?_) (fun c19 => ?_)
          · refine ok_last fun K20 h20 => ok_region rfl (q_mo 7 rfl (q_mp 1000 0 rfl (q_dr (sa := [int 3]) 1000 (f74_ok code a2 seed2 j5 (by omega) 3 (by omega)) cl74 rfl rfl rfl rfl rfl (fun s a3 seed3 hs hb1 hb2 hc3 => ?_))))
            obtain ⟨y, rfl, hy0, hy1⟩ := hs
            have hy1 := hy1 (by omega)
            obtain ⟨b, hb⟩ : ∃ b, (⟨#[97, 98, 49]⟩ : ByteArray)[y.toNat]? = some b := ⟨_, getElem?_pos _ _ (by show y.toNat < 3; omega)⟩
            refine q_ix st9 rfl rfl hy0 hb (q_lit1 _ (byteSV b) el22 ze5 (by decide) (by decide) rfl (.inr rfl) rfl (q_app (q := [byteSV b]) _ el22 ze5 rfl by5 rfl rfl rfl rfl rfl (by simp) (by intro s hs; simp at hs; subst hs; exact .inr rfl) (by rw [List.length_map]; show q.length + 1 ≤ maxLen; unfold maxLen; omega) (by rw [List.length_map]; show (q.length + 1) * 1 ≤ _; omega) (q_ao _ rfl (run_nil (h20 _ ?_)))))
            exact ⟨(q ++ [b], a3, seed3), ⟨by simp, hb1, by simp only; omega, hc3⟩, by rw [List.map_append]; exact le_rek 7 51 ⟨rfl, rfl, rfl, rfl, rfl, trivial⟩ ⟨rfl, rfl, trivial⟩ rfl rfl rfl rfl ⟨rfl, rfl, trivial⟩⟩
          · obtain ⟨b, hb⟩ := u8_byte u
            refine ok_last fun K21 h21 => ok_region rfl (q_mo 7 rfl (q_mv (int u) rfl (q_cvw (by rw [ag3]; rfl) ik5 rfl ?_)))
            rw [← hb]
            refine q_lit1 _ (byteSV b) el22 ze5 (by decide) (by decide) rfl (.inr rfl) rfl (q_app (q := [byteSV b]) _ el22 ze5 rfl by5 rfl rfl rfl rfl rfl (by simp) (by intro s hs; simp at hs; subst hs; exact .inr rfl) (by rw [List.length_map]; show q.length + 1 ≤ maxLen; unfold maxLen; omega) (by rw [List.length_map]; show (q.length + 1) * 1 ≤ _; omega) (q_ao _ rfl (run_nil (h21 _ ?_))))
            exact ⟨(q ++ [b], a2, seed2), ⟨by simp, by simp only; omega, by simp only; omega, j5⟩, by rw [List.map_append]; exact le_rek 7 34 ⟨rfl, rfl, rfl, rfl, rfl, trivial⟩ ⟨rfl, rfl, trivial⟩ rfl rfl rfl rfl ⟨rfl, rfl, trivial⟩⟩
      · obtain ⟨q', a3, seed3⟩ := v
        obtain ⟨i1, i2, i3, i4⟩ := J
        simp only at i1 i2 i3 i4
        refine ok_last fun K22 h22 => ok_region rfl (q_add rfl rfl (by omega) (q_mv _ rfl (run_nil (h22 _ ⟨(k + 1, q', a3, seed3), by simp only; omega, ⟨by simp only; omega, by simp only; omega, by simp only; omega, by simp only; omega, i4⟩, le_sub ⟨rfl, rfl, rfl, rfl, rfl, trivial⟩ ⟨rfl, rfl, trivial⟩⟩))))
    · refine ok_exit (h8 _ ?_)
      refine ok_seq fun K23 h23 => ok_region rfl (q_mo 7 rfl (q_cvo (bs := q) Try.underlying22 Try.underlying5 u9 rfl rfl (q_as _ rfl (run_nil (h23 _ ?_)))))
      clear h23 K23
      refine Ok.le (σ' := ⟨[(4, .sv (.raw (.string ⟨q.toArray⟩)))], [(1000, curB code a2 seed2)]⟩) (le_sub ⟨rfl, trivial⟩ ⟨rfl, trivial⟩) ?_
      exact ok_ret ⟨_, _, ⟨_, _, rfl, rfl, rfl⟩, rfl, _, a2, seed2, rfl, ⟨_, rfl, by show q.toArray.size ≤ 310; simp; omega⟩, j3, by omega, j5, rfl⟩
end Go.Ring
