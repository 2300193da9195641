/- A pattern's alternatives: what the reference makes of its bytes. No condition beyond the lengths. -/
import Derived.Test.YtanilephcohjkaaGreatA2
namespace Go.Ring
open Go Go.RowKit Go.Eager Go.Abs Go.Proofs
set_option maxRecDepth 100000
set_option linter.unusedVariables false
set_option linter.unusedSimpArgs false
def altsW : Option (List (List Int)) → SV
  | some out => .tup [.sl 1 (out.map ints), bool true]
  | none => .tup [.raw (.slice none 0 0), bool false]
@[reducible] def altG (s : ByteArray) (i : Nat) (now : List Int) (out : List (List Int)) : St := ⟨[(0, .sv (str s)), (4, .own 4), (5, .own 5), (6, .sv (int i))], [(4, .row 1 40 (out.map ints)), (5, .row 1 3 (now.map int))]⟩
theorem f224_ok (s : ByteArray) (hs : s.size ≤ 1048576) : PFn Tryz.prog 224 [str s] (altsW (patG s)) := by
  refine fn_ok' (n := 90) Tryz.func224 rfl rfl rfl (Nat.le_of_ble_eq_true rfl) rfl fun w0 O => ?_
  refine ok_seq fun K1 h1 => ok_region rfl (q_as _ rfl (q_as _ rfl (run_nil (h1 _ ?_)))); clear h1 K1
  refine ok_seq fun K2 h2 => ok_region rfl (q_an (n := 1) 40 (by omega) rfl rfl rfl (run_nil (h2 _ ?_))); clear h2 K2
  refine ok_seq fun K3 h3 => ok_region rfl (q_an (n := 1) 3 (by omega) rfl rfl rfl (run_nil (h3 _ ?_))); clear h3 K3
  refine ok_seq fun K4 h4 => ?_
  refine ok_seq fun K5 h5 => ?_
  refine ok_region rfl (q_mv _ rfl (q_lens st9 rfl (q_bin _ _ _ rfl rfl rfl (q_mv _ rfl (q_or 3 3 rfl rfl rfl rfl rfl (fun hb14 =>
      q_mv _ rfl (q_call (f172_ok s hs) cl172 rfl rfl (q_un _ _ rfl rfl (run_nil ⟨rfl, rfl, rfl, rfl⟩)))) (
    run_nil (h5 _ ?_)))))))
  clear h5 K5
  refine ok_cond rfl (fun c6 => ?_) (fun c6 => ?_)
  · refine ok_seq fun K7 h7 => ?_
    refine ok_region rfl (q_as _ rfl (q_as _ rfl (run_nil (h7 _ ?_))))
    clear h7 K7
    refine ok_ret ⟨_, rfl, ?_⟩
    have : patG s = none := by
      unfold patG
      rw [if_neg]
      rintro ⟨h1, h2⟩
      simp [h2] at c6
      omega
    rw [this]; rfl
  · refine ok_skip (h4 _ ?_)
    have hp : (s.size : Int) ≤ 100 ∧ printedB s = true := by
      simp at c6
      exact ⟨by omega, c6.2⟩
    have hg : patG s = alts s.data.toList [] [] := by unfold patG; rw [if_pos hp]
    have hz : s.data.toList.length = s.size := by simp
    refine ok_seq fun K8 h8 => ?_
    refine ok_seq fun K9 h9 => ok_region rfl (q_as _ rfl (run_nil (h9 _ ?_))); clear h9 K9
    refine ok_block ?_
    refine ok_loop (fun (v : Nat × List Int × List (List Int)) => altG s v.1 v.2.1 v.2.2) (fun v => v.1 ≤ s.size ∧ v.2.1.length ≤ v.1 ∧ v.2.2.length ≤ v.1 ∧ alts (s.data.toList.drop v.1) v.2.1 v.2.2 = patG s) (fun v => s.size - v.1) (0, [], []) ⟨by simp, by simp, by simp, by rw [hg]; rfl⟩ (le_sub ⟨rfl, rfl, rfl, rfl, trivial⟩ ⟨rfl, rfl, trivial⟩) (fun v J => ?_)
    obtain ⟨k, now, out⟩ := v
    obtain ⟨j1, j2, j3, j4⟩ := J
    simp only at j1 j2 j3 j4
    refine ok_seq fun K10 h10 => ?_
    refine ok_seq fun K11 h11 => ok_region rfl (q_mv _ rfl (q_mv _ rfl (q_lens st9 rfl (q_bin _ _ _ rfl rfl rfl (run_nil (h11 _ ?_)))))); clear h11 K11
    refine ok_cond rfl (fun c12 => ?_) (fun c12 => ?_)
    · refine ok_skip (h10 _ ?_)
      have hk : k < s.size := by simpa using c12
      obtain ⟨b, hb⟩ := sget (l := s.data.toList) (i := k) (by rw [hz]; exact hk)
      have hdc := drop_cons hb
      rw [hdc] at j4
      refine ok_seq_join (fun (v : Nat × List Int × List (List Int)) => altG s v.1 v.2.1 v.2.2) (fun v => k ≤ v.1 ∧ v.1 < s.size ∧ v.2.1.length ≤ v.1 + 1 ∧ v.2.2.length ≤ v.1 + 1 ∧ alts (s.data.toList.drop (v.1 + 1)) v.2.1 v.2.2 = patG s) ?_ (fun v J => ?_)
      · refine ok_block ?_
        refine ok_seq fun K13 h13 => ok_region rfl (q_mv _ rfl (q_mv _ rfl (q_ix st9 rfl rfl (by omega) (bget hb) (run_nil (h13 _ ?_))))); clear h13 K13
        refine ok_block ?_
        refine ok_seq fun K14 h14 => ok_region rfl (q_bin _ _ _ rfl rfl rfl (q_as _ rfl (run_nil (h14 _ ?_)))); clear h14 K14
        refine ok_cond rfl (fun c15 => ?_) (fun c15 => ?_)
        · have hb1 : b = 124 := ubt (by simpa using c15)
          subst hb1
          rw [alts_bar] at j4
          refine Ok.le (le_fz (n := 1) (T := 3) (l := now.map int) 5 rfl) ?_
          refine ok_seq fun K16 h16 => ?_
          refine ok_region rfl (q_mo _ rfl (q_mv (ints now) rfl (q_lit1 _ _ el226 ze40 (by decide) (by decide) rfl (.inr rfl) rfl (q_app _ el226 ze40 rfl by40 rfl rfl rfl rfl rfl (by simp) (by intro s hs; simp at hs; subst hs; exact .inr rfl) (by simp [maxLen]; omega) (by simp; omega) (
            q_ao _ rfl (run_nil (h16 _ ?_)))))))
          clear h16 K16
          refine ok_last fun K17 h17 => ok_region rfl (
            q_an (n := 1) 3 (by omega) rfl rfl rfl (run_nil (h17 _ ?_)))
          refine ⟨(k, [], out ++ [now]), ⟨Nat.le_refl _, hk, by simp, by simp; omega, j4⟩, Le.trans (le_sub ⟨rfl, rfl, rfl, rfl, trivial⟩ ⟨?_, rfl, trivial⟩) (le_rn 4 36 rfl rfl rfl)⟩
          show some (Ent.row 1 40 (out.map ints ++ [ints now])) = some (Ent.row 1 40 ((out ++ [now]).map ints))
          rw [List.map_append]; rfl
        · refine ok_seq fun K18 h18 => ?_
          refine ok_region rfl (q_bin _ _ _ rfl rfl rfl (q_as _ rfl (run_nil (h18 _ ?_))))
          clear h18 K18
          refine ok_cond rfl (fun c19 => ?_) (fun c19 => ?_)
          · have hb1 : b = 42 := ubt (by simpa using c19)
            subst hb1
            rw [alts_star] at j4
            refine ok_last fun K20 h20 => ok_region rfl (
              q_mo _ rfl (q_lit1 _ _ el40 ze3 (by decide) (by decide) rfl (.inr rfl) rfl (q_app _ el40 ze3 rfl by3 rfl rfl rfl rfl rfl (by simp) (by intro s hs; simp at hs; subst hs; exact .inr rfl) (by simp [maxLen]; omega) (by simp; omega) (
              q_ao _ rfl (run_nil (h20 _ ?_))))))
            refine ⟨(k, now ++ [-1], out), ⟨Nat.le_refl _, hk, by simp; omega, by simp; omega, j4⟩, Le.trans (le_sub ⟨rfl, rfl, rfl, rfl, trivial⟩ ⟨rfl, ?_, trivial⟩) (le_rn 5 41 rfl rfl rfl)⟩
            show some (Ent.row 1 3 (now.map int ++ [int (-1)])) = some (Ent.row 1 3 ((now ++ [(-1)]).map int))
            rw [List.map_append]; rfl
          · refine ok_seq fun K21 h21 => ?_
            refine ok_region rfl (q_bin _ _ _ rfl rfl rfl (q_as _ rfl (run_nil (h21 _ ?_))))
            clear h21 K21
            refine ok_cond rfl (fun c22 => ?_) (fun c22 => ?_)
            · have hb1 : b = 63 := ubt (by simpa using c22)
              subst hb1
              rw [alts_any] at j4
              refine ok_last fun K23 h23 => ok_region rfl (
                q_mo _ rfl (q_lit1 _ _ el40 ze3 (by decide) (by decide) rfl (.inr rfl) rfl (q_app _ el40 ze3 rfl by3 rfl rfl rfl rfl rfl (by simp) (by intro s hs; simp at hs; subst hs; exact .inr rfl) (by simp [maxLen]; omega) (by simp; omega) (
                q_ao _ rfl (run_nil (h23 _ ?_))))))
              refine ⟨(k, now ++ [-2], out), ⟨Nat.le_refl _, hk, by simp; omega, by simp; omega, j4⟩, Le.trans (le_sub ⟨rfl, rfl, rfl, rfl, trivial⟩ ⟨rfl, ?_, trivial⟩) (le_rn 5 46 rfl rfl rfl)⟩
              show some (Ent.row 1 3 (now.map int ++ [int (-2)])) = some (Ent.row 1 3 ((now ++ [(-2)]).map int))
              rw [List.map_append]; rfl
            · refine ok_seq fun K24 h24 => ?_
              refine ok_region rfl (q_bin _ _ _ rfl rfl rfl (q_as _ rfl (run_nil (h24 _ ?_))))
              clear h24 K24
              refine ok_cond rfl (fun c25 => ?_) (fun c25 => ?_)
              · have hb1 : b = 92 := ubt (by simpa using c25)
                subst hb1
                refine ok_seq fun K26 h26 => ?_
                refine ok_region rfl (q_mv _ rfl (q_add rfl rfl (by omega) (q_as _ rfl (run_nil (h26 _ ?_)))))
                clear h26 K26
                refine ok_seq fun K27 h27 => ?_
                refine ok_seq fun K28 h28 => ?_
                rw [show ((k : Int) + 1) = ((k + 1 : Nat) : Int) by omega]
                rcases Nat.lt_or_ge (k + 1) s.size with hk2 | hk2
                · obtain ⟨e, he⟩ := sget (l := s.data.toList) (i := k + 1) (by rw [hz]; exact hk2)
                  rw [drop_cons he, alts_esc] at j4
                  refine ok_region rfl (q_mv _ rfl (q_mv _ rfl (q_lens st9 rfl (q_bin _ _ _ rfl rfl rfl (q_mv _ rfl (q_or 22 10 rfl rfl rfl rfl rfl (fun hb78 =>
                      q_mv _ rfl (q_mv _ rfl (q_ix st9 rfl rfl (by omega) (bget he) (q_bin _ _ _ rfl rfl rfl (q_mv _ rfl (q_and 4 4 rfl rfl rfl rfl rfl (fun hb65 =>
                        q_mv _ rfl (q_mv _ rfl (q_ix st9 rfl rfl (by omega) (bget he) (q_bin _ _ _ rfl rfl rfl (run_nil ⟨rfl, rfl, rfl, rfl⟩))))) (
                      q_mv _ rfl (q_and 4 4 rfl rfl rfl rfl rfl (fun hb71 =>
                        q_mv _ rfl (q_mv _ rfl (q_ix st9 rfl rfl (by omega) (bget he) (q_bin _ _ _ rfl rfl rfl (run_nil ⟨rfl, rfl, rfl, rfl⟩))))) (
                      q_mv _ rfl (q_and 4 4 rfl rfl rfl rfl rfl (fun hb77 =>
                        q_mv _ rfl (q_mv _ rfl (q_ix st9 rfl rfl (by omega) (bget he) (q_bin _ _ _ rfl rfl rfl (run_nil ⟨rfl, rfl, rfl, rfl⟩))))) (
                      run_nil ⟨rfl, rfl, rfl, rfl⟩))))))))))) (
                    run_nil (h28 _ ?_))))))))
                  clear h28 K28
                  refine ok_cond rfl (fun c29 => ?_) (fun c29 => ?_)
                  · refine ok_seq fun K30 h30 => ?_
                    refine ok_region rfl (q_as _ rfl (q_as _ rfl (run_nil (h30 _ ?_))))
                    clear h30 K30
                    refine ok_ret ⟨_, rfl, ?_⟩
                    have hne : ¬ (e = 42 ∨ e = 63 ∨ e = 124 ∨ e = 92) := by
                      rintro (rfl | rfl | rfl | rfl) <;> simp at c29 <;> omega
                    rw [if_neg hne] at j4
                    rw [← j4]; rfl
                  · refine ok_skip (h27 _ ?_)
                    have hin : e = 42 ∨ e = 63 ∨ e = 124 ∨ e = 92 := by
                      simp only [Bool.or_eq_false_iff] at c29
                      by_cases q1 : e = 42
                      · exact .inl q1
                      by_cases q2 : e = 63
                      · exact .inr (.inl q2)
                      by_cases q3 : e = 124
                      · exact .inr (.inr (.inl q3))
                      by_cases q4 : e = 92
                      · exact .inr (.inr (.inr q4))
                      have n : ∀ c : UInt8, e ≠ c → ¬ (e.toNat : Int) = (c.toNat : Int) := fun c h hh => h (ubt hh)
                      have n1 := n _ q1
                      have n2 := n _ q2
                      have n3 := n _ q3
                      have n4 := n _ q4
                      have := c29.2
                      simp at this n1 n2 n3 n4
                      omega
                    rw [if_pos hin] at j4
                    refine ok_last fun K31 h31 => ok_region rfl (
                      q_mo _ rfl (q_mv _ rfl (q_mv _ rfl (q_ix st9 rfl rfl (by omega) (bget he) (q_cv aS5 ik3 rfl (wu8 e) (q_lit1 _ _ el40 ze3 (by decide) (by decide) rfl (.inr rfl) rfl (
                      q_app _ el40 ze3 rfl by3 rfl rfl rfl rfl rfl (by simp) (by intro s hs; simp at hs; subst hs; exact .inr rfl) (by simp [maxLen]; omega) (by simp; omega) (q_ao _ rfl (run_nil (h31 _ ?_))))))))))
                    refine ⟨(k + 1, now ++ [(e.toNat : Int)], out), ⟨Nat.le_succ _, hk2, by simp; omega, by simp; omega, j4⟩, Le.trans (le_sub ⟨rfl, rfl, rfl, rfl, trivial⟩ ⟨rfl, ?_, trivial⟩) (le_rn 5 85 rfl rfl rfl)⟩
                    show some (Ent.row 1 3 (now.map int ++ [int (e.toNat : Int)])) = some (Ent.row 1 3 ((now ++ [(e.toNat : Int)]).map int))
                    rw [List.map_append]; rfl
                · have hd : s.data.toList.drop (k + 1) = [] := by rw [List.drop_eq_nil_iff, hz]; omega
                  rw [hd, alts_esc0] at j4
                  refine ok_region rfl (q_mv _ rfl (q_mv _ rfl (q_lens st9 rfl (q_bin _ _ _ rfl rfl rfl (q_mv _ rfl (q_or (b2 := false) 22 10 rfl rfl rfl rfl rfl (fun hb56 => by simp at hb56; omega) (
                    run_nil (h28 _ ?_))))))))
                  clear h28 K28
                  refine ok_cond rfl (fun c29 => ?_) (fun c29 => ?_)
                  · refine ok_seq fun K30 h30 => ?_
                    refine ok_region rfl (q_as _ rfl (q_as _ rfl (run_nil (h30 _ ?_))))
                    clear h30 K30
                    refine ok_ret ⟨_, rfl, ?_⟩
                    rw [← j4]; rfl
                  · simp at c29; omega
              · have hb1 : b ≠ 124 ∧ b ≠ 42 ∧ b ≠ 63 ∧ b ≠ 92 := by
                  refine ⟨?_, ?_, ?_, ?_⟩ <;> rintro rfl <;> first | (simp at c15; done) | (simp at c19; done) | (simp at c22; done) | (simp at c25; done)
                rw [alts_byte _ _ _ hb1.1 hb1.2.1 hb1.2.2.1 hb1.2.2.2] at j4
                refine ok_last fun K32 h32 => ok_region rfl (
                  q_mo _ rfl (q_mv _ rfl (q_mv _ rfl (q_ix st9 rfl rfl (by omega) (bget hb) (q_cv aS5 ik3 rfl (wu8 b) (q_lit1 _ _ el40 ze3 (by decide) (by decide) rfl (.inr rfl) rfl (
                  q_app _ el40 ze3 rfl by3 rfl rfl rfl rfl rfl (by simp) (by intro s hs; simp at hs; subst hs; exact .inr rfl) (by simp [maxLen]; omega) (by simp; omega) (q_ao _ rfl (run_nil (h32 _ ?_))))))))))
                refine ⟨(k, now ++ [(b.toNat : Int)], out), ⟨Nat.le_refl _, hk, by simp; omega, by simp; omega, j4⟩, Le.trans (le_sub ⟨rfl, rfl, rfl, rfl, trivial⟩ ⟨rfl, ?_, trivial⟩) (le_rn 5 30 rfl rfl rfl)⟩
                show some (Ent.row 1 3 (now.map int ++ [int (b.toNat : Int)])) = some (Ent.row 1 3 ((now ++ [(b.toNat : Int)]).map int))
                rw [List.map_append]; rfl
      · obtain ⟨k2, now2, out2⟩ := v
        obtain ⟨g1, g2, g3, g4, g5⟩ := J
        simp only at g1 g2 g3 g4 g5
        refine ok_last fun K33 h33 => ok_region rfl (
          q_mv _ rfl (q_add rfl rfl (by omega) (q_as _ rfl (run_nil (h33 _ ?_)))))
        refine ⟨(k2 + 1, now2, out2), by show s.size - (k2 + 1) < s.size - k; omega, ⟨by omega, g3, g4, g5⟩, le_sub ⟨rfl, rfl, rfl, ?_, trivial⟩ ⟨rfl, rfl, trivial⟩⟩
        rfl
    · refine ok_exit (h8 _ ?_)
      have hk : k = s.size := by have : ¬ k < s.size := by simpa using c12
                                 omega
      have hd : s.data.toList.drop k = [] := by rw [List.drop_eq_nil_iff, hz]; omega
      rw [hd] at j4
      refine Ok.le (le_fz (n := 1) (T := 3) (l := now.map int) 5 rfl) ?_
      refine ok_seq fun K34 h34 => ?_
      refine ok_region rfl (q_mo _ rfl (q_mv (ints now) rfl (q_lit1 _ _ el226 ze40 (by decide) (by decide) rfl (.inr rfl) rfl (q_app _ el226 ze40 rfl by40 rfl rfl rfl rfl rfl (by simp) (by intro s hs; simp at hs; subst hs; exact .inr rfl) (by simp [maxLen]; omega) (by simp; omega) (
        q_ao _ rfl (q_as _ rfl (run_nil (h34 _ ?_))))))))
      clear h34 K34
      refine ok_ret ⟨_, rfl, ?_⟩
      rw [← j4]
      show SV.tup [.sl 1 (out.map ints ++ [ints now]), bool true] = .tup [.sl 1 ((out ++ [now]).map ints), bool true]
      rw [List.map_append]; rfl
end Go.Ring
