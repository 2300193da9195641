/- The reference's rows of what an alternative's rests stand for. No condition beyond the lengths. -/
import Derived.Test.YtanilephcohjkaaGreatA5
namespace Go.Ring
open Go Go.RowKit Go.Eager Go.Abs Go.Proofs
set_option maxRecDepth 100000
set_option linter.unusedVariables false
set_option linter.unusedSimpArgs false
theorem rowB_nil (s : List UInt8) : rowB [] s = (List.replicate (s.length + 1) false).set s.length true := by
  unfold rowB
  apply List.ext_getElem (by simp)
  intro i h1 h2
  simp at h1 h2
  rw [List.getElem_set]
  simp only [List.getElem_map, List.getElem_range, List.getElem_replicate]
  rw [fit_nil (by omega)]
  by_cases h : s.length = i
  · subst h; simp
  · rw [if_neg h]; simp; omega
@[reducible] def rstF (a : List Int) (s : ByteArray) (j : Nat) : St := ⟨[(0, .sv (ints a)), (1, .sv (str s)), (5, .own 12), (6, .sv (int ((j : Int) - 1)))], [(12, .row 1 4 ((rowB (a.drop j) s.data.toList).map bool))]⟩
@[reducible] def rstI (a : List Int) (s : ByteArray) (i j : Nat) : St := ⟨[(0, .sv (ints a)), (1, .sv (str s)), (5, .own 12), (6, .sv (int i)), (7, .own 27), (8, .sv (int ((j : Int) - 1)))], [(12, .row 1 4 ((rowB (a.drop (i + 1)) s.data.toList).map bool)), (27, .row 1 4 ((rowP (a.drop i) s.data.toList j).map bool))]⟩
theorem f274_ok (a : List Int) (s : ByteArray) (ha : a.length ≤ 1048576) (hs : s.size ≤ 1048576) : PFn Tryz.prog 274 [ints a, str s] (rowS (rowB a s.data.toList)) := by
  have hz : s.data.toList.length = s.size := by simp
  refine fn_ok' (n := 93) Tryz.func274 rfl rfl rfl (Nat.le_of_ble_eq_true rfl) rfl fun w0 O => ?_
  refine ok_seq fun K1 h1 => ok_region rfl (q_as _ rfl (run_nil (h1 _ ?_))); clear h1 K1
  refine ok_seq fun K2 h2 => ok_region rfl (q_mv _ rfl (q_lens st9 rfl (q_add rfl rfl (by omega) (q_make (m := s.size + 1) _ _ el277 (by decide) ze4 rfl by4 (by simp; rfl) (by simp; rfl) rfl rfl (.inr ⟨rfl, rfl⟩) (by simp [maxLen]; omega) (by omega) (q_ao _ rfl (run_nil (h2 _ ?_))))))); clear h2 K2
  refine ok_seq fun K3 h3 => ok_region rfl (q_mo _ rfl (q_mv _ rfl (q_lens st9 rfl (q_iao el277 rfl rfl rfl (by omega) (by simp) ?_))))
  rw [Int.toNat_natCast]
  refine q_ste sz4 rfl rfl (by rw [List.getElem?_replicate, if_pos (by omega)]) rfl (.inr rfl) rfl (run_nil (h3 _ ?_)); clear h3 K3
  refine ok_seq fun K4 h4 => ?_
  refine ok_seq fun K5 h5 => ok_region rfl (q_mv (ints a) rfl (q_len eS40 rfl (q_sub rfl rfl (by simp; omega) (q_as _ rfl (run_nil (h5 _ ?_)))))); clear h5 K5
  refine ok_block ?_
  refine ok_loop (rstF a s) (fun j => j ≤ a.length) id a.length (Nat.le_refl _) (le_sub ⟨rfl, rfl, rfl, ?_, trivial⟩ ⟨?_, trivial⟩) (fun j J => ?_)
  · simp
  · rw [List.drop_length, rowB_nil, hz]
    show some (Ent.row 1 4 ((List.replicate (s.size + 1) (bool false)).set s.size (bool true))) = _
    rw [← List.map_replicate, bmap_set]
  refine ok_seq fun K6 h6 => ?_
  refine ok_seq fun K7 h7 => ok_region rfl (q_mv _ rfl (q_bin _ _ _ rfl rfl rfl (run_nil (h7 _ ?_)))); clear h7 K7
  refine ok_cond rfl (fun c8 => ?_) (fun c8 => ?_)
  · refine ok_skip (h6 _ ?_)
    obtain ⟨i, rfl⟩ : ∃ i, j = i + 1 := ⟨j - 1, by simp at c8; omega⟩
    have hia : i < a.length := by omega
    obtain ⟨x, hxi⟩ := sget hia
    have hdr := drop_cons hxi
    rw [show (((i + 1 : Nat) : Int) - 1) = (i : Int) by omega]
    refine ok_seq fun K9 h9 => ?_
    refine ok_block ?_
    refine ok_seq fun K10 h10 => ok_region rfl (q_mv _ rfl (q_lens st9 rfl (q_add rfl rfl (by omega) (q_make (m := s.size + 1) _ _ el277 (by decide) ze4 rfl by4 (by simp; rfl) (by simp; rfl) rfl rfl (.inr ⟨rfl, rfl⟩) (by simp [maxLen]; omega) (by omega) (q_ao _ rfl (run_nil (h10 _ ?_))))))); clear h10 K10
    refine ok_seq fun K11 h11 => ?_
    refine ok_seq fun K12 h12 => ok_region rfl (q_mv _ rfl (q_lens st9 rfl (q_as _ rfl (run_nil (h12 _ ?_))))); clear h12 K12
    refine ok_block ?_
    refine ok_loop (rstI a s i) (fun j => j ≤ s.size + 1) id (s.size + 1) (Nat.le_refl _) (le_sub ⟨rfl, rfl, rfl, rfl, rfl, ?_, trivial⟩ ⟨rfl, ?_, trivial⟩) (fun j J => ?_)
    · simp
    · have : rowP (a.drop i) s.data.toList (s.size + 1) = List.replicate (s.size + 1) false := by rw [← hz]; exact rowP_all _ _
      rw [this, List.map_replicate]; rfl
    refine ok_seq fun K13 h13 => ?_
    refine ok_seq fun K14 h14 => ok_region rfl (q_mv _ rfl (q_bin _ _ _ rfl rfl rfl (run_nil (h14 _ ?_)))); clear h14 K14
    refine ok_cond rfl (fun c15 => ?_) (fun c15 => ?_)
    · refine ok_skip (h13 _ ?_)
      obtain ⟨k, rfl⟩ : ∃ k, j = k + 1 := ⟨j - 1, by simp at c15; omega⟩
      have hk : k ≤ s.size := by omega
      rw [show (((k + 1 : Nat) : Int) - 1) = (k : Int) by omega]
      refine ok_seq_join (fun (_ : Unit) => ⟨[(0, .sv (ints a)), (1, .sv (str s)), (5, .own 12), (6, .sv (int i)), (7, .own 27), (8, .sv (int k))], (rstI a s i k).h⟩) (fun v => True) ?_ (fun v J => ?_)
      · refine ok_block ?_
        refine ok_seq fun K16 h16 => ok_region rfl (q_mv (ints a) rfl (q_mv _ rfl (q_ia (s := int x) el40 rfl rfl (by omega) (iget hxi) (q_ld _ ag3 rfl rfl (q_bin _ _ _ rfl rfl rfl (run_nil (h16 _ ?_))))))); clear h16 K16
        refine ok_cond rfl (fun c17 => ?_) (fun c17 => ?_)
        · have hx1 : x = -1 := by simpa using c17
          subst hx1
          have hb1 := rowB_get (a := a.drop (i + 1)) (s := s.data.toList) (k := k) (by rw [hz]; exact hk)
          have hfin : (fit (a.drop (i + 1)) (s.data.toList.drop k) || (decide ((k : Int) < s.size) && (if k < s.size then fit (a.drop i) (s.data.toList.drop (k + 1)) else false))) = fit (a.drop i) (s.data.toList.drop k) := by
            rw [hdr]
            by_cases hks : k < s.size
            · obtain ⟨c, hc⟩ := sget (l := s.data.toList) (i := k) (by rw [hz]; exact hks)
              have : (k : Int) < s.size := by omega
              rw [if_pos hks, fit_star hc, decide_eq_true this]; simp
            · have : ¬ (k : Int) < s.size := by omega
              rw [decide_eq_false this, fit_star_end (k := k) (by rw [hz]; omega)]; simp
          refine ok_last fun K18 h18 => ok_region rfl (q_mo _ rfl (q_mv _ rfl (q_mo _ rfl (q_mv _ rfl (q_iao el277 rfl rfl rfl (by omega) (by simp [rowB_len]; omega) ?_)))))
          rw [Int.toNat_natCast]
          refine q_lde _ ag4 rfl rfl (bget_map hb1) rfl (q_mv _ rfl (q_or (b2 := decide ((k : Int) < s.size) && (if k < s.size then fit (a.drop i) (s.data.toList.drop (k + 1)) else false)) 11 6 rfl rfl rfl rfl rfl (fun hb57 => ?_) ?_))
          · refine q_mv _ rfl (q_mv _ rfl (q_lens st9 rfl (q_bin _ _ _ rfl rfl rfl (q_mv _ rfl (q_and (b2 := if k < s.size then fit (a.drop i) (s.data.toList.drop (k + 1)) else false) 5 5 rfl rfl rfl rfl rfl (fun hb56 => ?_) (run_nil ⟨rfl, rfl, rfl, rfl⟩))))))
            have hks : k < s.size := by simp at hb56; omega
            refine q_mo _ rfl (q_mv _ rfl (q_add rfl rfl (by omega) ?_))
            rw [show ((k : Int) + 1) = ((k + 1 : Nat) : Int) by omega]
            refine q_iao el277 rfl rfl rfl (by omega) (by simp [rowP_len]; omega) ?_
            rw [Int.toNat_natCast]
            refine q_lde _ ag4 rfl rfl (bget_map (rowP_get (by rw [hz]; omega) (Nat.le_refl _))) rfl (run_nil ⟨rfl, rfl, rfl, ?_⟩)
            rw [if_pos hks]; rfl
          · rw [hfin]
            refine q_iao el277 rfl rfl rfl (by omega) (by simp [rowP_len]; omega) ?_
            rw [Int.toNat_natCast]
            refine q_ste sz4 rfl rfl (bget_map (rowP_get' (by rw [hz]; exact hk))) rfl (.inr rfl) rfl (run_nil (h18 _ ⟨(), trivial, le_sub ⟨rfl, rfl, rfl, rfl, rfl, rfl, trivial⟩ ⟨rfl, ?_, trivial⟩⟩))
            show some (Ent.row 1 4 (((rowP (a.drop i) s.data.toList (k + 1)).map bool).set k (bool (fit (a.drop i) (s.data.toList.drop k))))) = some (Ent.row 1 4 ((rowP (a.drop i) s.data.toList k).map bool))
            rw [bmap_set, rowP_set _ rfl]
        · have hx1 : x ≠ -1 := by simpa using c17
          refine ok_last fun K19 h19 => ok_region_i (by kernel_rfl) (by kernel_rfl) rfl (q_mo _ rfl (q_mv _ rfl (q_mv _ rfl (q_mv _ rfl (q_lens st9 rfl (q_bin _ _ _ rfl rfl rfl (q_mv _ rfl ?_)))))))
          rcases Nat.lt_or_ge k s.size with hks | hks
          · obtain ⟨c, hc⟩ := sget (l := s.data.toList) (i := k) (by rw [hz]; exact hks)
            have hb1 := rowB_get (a := a.drop (i + 1)) (s := s.data.toList) (k := k + 1) (by rw [hz]; exact hks)
            have hkd : decide ((k : Int) < s.size) = true := by simpa using hks
            have hfin : ((decide ((k : Int) < s.size) && fit (a.drop (i + 1)) (s.data.toList.drop (k + 1))) && (decide (x = -2) || decide (x = (c.toNat : Int)))) = fit (a.drop i) (s.data.toList.drop k) := by
              rw [hdr, fit_one hx1 hc, hkd]
              simp only [Bool.true_and]
              rw [Bool.and_comm]
              congr 1
            refine q_and (b2 := fit (a.drop (i + 1)) (s.data.toList.drop (k + 1))) 5 5 rfl rfl rfl rfl rfl (fun hb71 => ?_) ?_
            · refine q_mo _ rfl (q_mv _ rfl (q_add rfl rfl (by omega) ?_))
              rw [show ((k : Int) + 1) = ((k + 1 : Nat) : Int) by omega]
              refine q_iao el277 rfl rfl rfl (by omega) (by simp [rowB_len]; omega) ?_
              rw [Int.toNat_natCast]
              exact q_lde _ ag4 rfl rfl (bget_map hb1) rfl (run_nil ⟨rfl, rfl, rfl, rfl⟩)
            · refine q_mv _ rfl (q_and (b2 := decide (x = -2) || decide (x = (c.toNat : Int))) 16 7 rfl rfl rfl rfl rfl (fun hb89 => ?_) ?_)
              · refine q_mv (ints a) rfl (q_mv _ rfl (q_ia (s := int x) el40 rfl rfl (by omega) (iget hxi) (q_ld _ ag3 rfl rfl (q_bin _ _ _ rfl rfl rfl (q_mv _ rfl (q_or 9 9 rfl rfl rfl rfl rfl (fun hb88 => ?_) (run_nil ⟨rfl, rfl, rfl, rfl⟩)))))))
                exact q_mv (ints a) rfl (q_mv _ rfl (q_ia (s := int x) el40 rfl rfl (by omega) (iget hxi) (q_ld _ ag3 rfl rfl (q_mv _ rfl (q_mv _ rfl (q_ix st9 rfl rfl (by omega) (bget hc) (q_cv aS5 ik3 rfl (wu8 c) (
                  q_bin _ _ _ rfl rfl rfl (run_nil ⟨rfl, rfl, rfl, rfl⟩)))))))))
              · rw [hfin]
                refine q_iao el277 rfl rfl rfl (by omega) (by simp [rowP_len]; omega) ?_
                rw [Int.toNat_natCast]
                refine q_ste sz4 rfl rfl (bget_map (rowP_get' (by rw [hz]; exact hk))) rfl (.inr rfl) rfl (run_nil (h19 _ ⟨(), trivial, le_sub ⟨rfl, rfl, rfl, rfl, rfl, rfl, trivial⟩ ⟨rfl, ?_, trivial⟩⟩))
                show some (Ent.row 1 4 (((rowP (a.drop i) s.data.toList (k + 1)).map bool).set k (bool (fit (a.drop i) (s.data.toList.drop k))))) = some (Ent.row 1 4 ((rowP (a.drop i) s.data.toList k).map bool))
                rw [bmap_set, rowP_set _ rfl]
          · have hkd : decide ((k : Int) < s.size) = false := by simp; omega
            have hfin : ((decide ((k : Int) < s.size) && false) && false) = fit (a.drop i) (s.data.toList.drop k) := by
              rw [hdr, fit_one_end hx1 (by rw [hz]; exact hks)]; simp
            refine q_and (b2 := false) 5 5 rfl rfl rfl rfl rfl (fun hb63 => by rw [hkd] at hb63; cases hb63) ?_
            refine q_mv _ rfl (q_and (b2 := false) 16 7 rfl rfl rfl rfl rfl (fun hb74 => by simp at hb74) ?_)
            rw [hfin]
            refine q_iao el277 rfl rfl rfl (by omega) (by simp [rowP_len]; omega) ?_
            rw [Int.toNat_natCast]
            refine q_ste sz4 rfl rfl (bget_map (rowP_get' (by rw [hz]; exact hk))) rfl (.inr rfl) rfl (run_nil (h19 _ ⟨(), trivial, le_sub ⟨rfl, rfl, rfl, rfl, rfl, rfl, trivial⟩ ⟨rfl, ?_, trivial⟩⟩))
            show some (Ent.row 1 4 (((rowP (a.drop i) s.data.toList (k + 1)).map bool).set k (bool (fit (a.drop i) (s.data.toList.drop k))))) = some (Ent.row 1 4 ((rowP (a.drop i) s.data.toList k).map bool))
            rw [bmap_set, rowP_set _ rfl]
      · refine ok_last fun K20 h20 => ok_region rfl (
          q_mv _ rfl (q_sub rfl rfl (by omega) (q_as _ rfl (run_nil (h20 _ ⟨k, Nat.lt_succ_self k, by omega, le_sub ⟨rfl, rfl, rfl, rfl, rfl, rfl, trivial⟩ ⟨rfl, rfl, trivial⟩⟩)))))
    · refine ok_exit (h11 _ ?_)
      have hj0 : j = 0 := by simp at c15; omega
      subst hj0
      refine ok_last fun K21 h21 => ok_region rfl (
        q_mo _ rfl (q_ao _ rfl (run_nil (h21 _ (h9 _ ?_)))))
      refine ok_last fun K22 h22 => ok_region rfl (
        q_mv _ rfl (q_sub rfl rfl (by omega) (q_as _ rfl (run_nil (h22 _ ⟨i, Nat.lt_succ_self i, by omega, Le.trans (le_sub ⟨rfl, rfl, rfl, rfl, trivial⟩ ⟨?_, trivial⟩) (le_rn 12 27 rfl rfl rfl)⟩)))))
      show some (Ent.row 1 4 ((rowP (a.drop i) s.data.toList 0).map bool)) = some (Ent.row 1 4 ((rowB (a.drop i) s.data.toList).map bool))
      rw [rowP_zero]
  · refine ok_exit (h4 _ ?_)
    have hj0 : j = 0 := by simp at c8; omega
    subst hj0
    refine ok_seq fun K23 h23 => ok_region rfl (q_mo _ rfl (q_ao _ rfl (run_nil (h23 _ ?_)))); clear h23 K23
    exact ok_ret ⟨_, rfl, rfl⟩
end Go.Ring
