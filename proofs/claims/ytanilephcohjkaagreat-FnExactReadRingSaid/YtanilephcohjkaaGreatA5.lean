/- The program's table of what an alternative stands for, and its parts. No condition beyond the lengths. -/
import Derived.Test.YtanilephcohjkaaGreatA4
namespace Go.Ring
open Go Go.RowKit Go.Eager Go.Abs Go.Proofs
set_option maxRecDepth 100000
set_option linter.unusedVariables false
set_option linter.unusedSimpArgs false
theorem pcget {a : List Int} {i : Nat} {x : Int} (h : a[i]? = some x) : (a.map pc)[i]? = some (pc x) := by rw [List.getElem?_map, h]; rfl
@[reducible] def tabF (a : List Int) (s : ByteArray) (j : Nat) : St := ⟨[(0, .sv (altS a)), (1, .sv (str s)), (6, .own 17), (7, .sv (int ((j : Int) - 1)))], [(17, .rowl 277 ((tabL a s.data.toList j).map .sv))]⟩
@[reducible] def tabI (a : List Int) (s : ByteArray) (i j : Nat) : St := ⟨[(0, .sv (altS a)), (1, .sv (str s)), (6, .own 17), (7, .sv (int i)), (8, .sv (int ((j : Int) - 1)))], [(17, .rowl 277 (((tabL a s.data.toList (i + 1)).map .sv).set i (.own 29))), (29, .row 1 4 ((rowP (a.drop i) s.data.toList j).map bool))]⟩
def strp (p : List UInt8) : SV := str ⟨p.toArray⟩
theorem ext_take (s : ByteArray) (k n : Nat) (hn : n ≤ s.size) (hk : k ≤ n) : s.extract k n = ⟨((s.data.toList.drop k).take (n - k)).toArray⟩ := by
  apply ByteArray.ext
  rw [ByteArray.data_extract]
  apply Array.ext'
  simp [List.take_drop]
@[reducible] def prtF (a : List Int) (s : ByteArray) (i k : Nat) (out : List (List UInt8)) : St := ⟨[(1, .sv (str s)), (6, .sv (.sl 1 (tabL a s.data.toList 0))), (9, .own 9), (10, .sv (int k)), (133, .sv (altS a)), (134, .sv (int a.length)), (135, .sv (int i))], [(9, .row 1 9 (out.map strp))]⟩
theorem f282_ok (a : List Int) (s : ByteArray) (ha : a.length ≤ 1048576) (hx : ∀ x ∈ a, x = -1 ∨ x = -2 ∨ 0 ≤ x ∧ x ≤ 255) (hs : s.size ≤ 1048576) : PFn Tryz.prog 282 [altS a, str s] (partsV a s.data.toList) := by
  have hz : s.data.toList.length = s.size := by simp
  refine fn_ok' (n := 167) Tryz.func282 rfl rfl rfl (Nat.le_of_ble_eq_true rfl) rfl fun w0 O => ?_
  refine ok_seq fun K1 h1 => ok_region rfl (q_as _ rfl (q_as _ rfl (run_nil (h1 _ ?_)))); clear h1 K1
  refine ok_seq fun K2 h2 => ok_region rfl (q_mv (altS a) rfl (q_len eS281 rfl (q_add rfl rfl (by simp; omega) (q_make (m := a.length + 1) _ _ el294 (by decide) ze277 rfl by277 (by simp; rfl) (by simp; rfl) rfl rfl (.inr ⟨rfl, rfl⟩) (by simp [maxLen]; omega) (by omega) (q_ao _ rfl (run_nil (h2 _ ?_))))))); clear h2 K2
  refine ok_seq fun K3 h3 => ?_
  refine ok_seq fun K4 h4 => ok_region rfl (q_mv (altS a) rfl (q_len eS281 rfl (q_as _ rfl (run_nil (h4 _ ?_))))); clear h4 K4
  refine ok_block ?_
  refine ok_loop (tabF a s) (fun j => j ≤ a.length + 1) id (a.length + 1) (Nat.le_refl _) ?_ (fun j J => ?_)
  · refine Le.trans (le_sub ⟨rfl, rfl, rfl, ?_, trivial⟩ ⟨?_, trivial⟩) (le_rowl 17 rfl (by intro q hq; rw [List.eq_of_mem_replicate hq]; rfl))
    · simp
    · rw [tab_all]; rfl
  refine ok_seq fun K5 h5 => ?_
  refine ok_seq fun K6 h6 => ok_region rfl (q_mv _ rfl (q_bin _ _ _ rfl rfl rfl (run_nil (h6 _ ?_)))); clear h6 K6
  refine ok_cond rfl (fun c7 => ?_) (fun c7 => ?_)
  · refine ok_skip (h5 _ ?_)
    obtain ⟨i, rfl⟩ : ∃ i, j = i + 1 := ⟨j - 1, by simp at c7; omega⟩
    have hi : i ≤ a.length := by omega
    rw [show (((i + 1 : Nat) : Int) - 1) = (i : Int) by omega]
    refine ok_seq fun K8 h8 => ?_
    refine ok_block ?_
    refine ok_seq fun K9 h9 => ?_
    refine ok_region rfl (q_mo _ rfl (q_mv _ rfl (q_mv _ rfl (q_lens st9 rfl (q_add rfl rfl (by omega) (q_make (m := s.size + 1) _ _ el277 (by decide) ze4 rfl by4 (by simp; rfl) (by simp; rfl) (by simp [St.free, Ent.mentions, LV.mentions, any_sv]) rfl (.inr ⟨rfl, rfl⟩) (by simp [maxLen]; omega) (by omega) (
      q_ial el294 rfl rfl rfl rfl (by omega) (by simp [tab_len]; omega) ?_)))))))
    rw [Int.toNat_natCast]
    refine q_stlo sz277 rfl rfl (by simp [tab_len]; omega) rfl rfl (run_nil (h9 _ ?_))
    clear h9 K9
    refine ok_seq fun K10 h10 => ok_region rfl (q_mv _ rfl (q_lens st9 rfl (q_as _ rfl (run_nil (h10 _ ?_))))); clear h10 K10
    refine ok_block ?_
    refine ok_loop (tabI a s i) (fun j => j ≤ s.size + 1) id (s.size + 1) (Nat.le_refl _) (le_sub ⟨rfl, rfl, rfl, rfl, ?_, trivial⟩ ⟨rfl, ?_, trivial⟩) (fun j J => ?_)
    · simp
    · have : rowP (a.drop i) s.data.toList (s.size + 1) = List.replicate (s.size + 1) false := by rw [← hz]; exact rowP_all _ _
      rw [this, List.map_replicate]; rfl
    refine ok_seq fun K11 h11 => ?_
    refine ok_seq fun K12 h12 => ok_region rfl (q_mv _ rfl (q_bin _ _ _ rfl rfl rfl (run_nil (h12 _ ?_)))); clear h12 K12
    refine ok_cond rfl (fun c13 => ?_) (fun c13 => ?_)
    · refine ok_skip (h11 _ ?_)
      obtain ⟨k, rfl⟩ : ∃ k, j = k + 1 := ⟨j - 1, by simp at c13; omega⟩
      have hk : k ≤ s.size := by omega
      rw [show (((k + 1 : Nat) : Int) - 1) = (k : Int) by omega]
      refine ok_seq_join (fun (_ : Unit) => ⟨[(0, .sv (altS a)), (1, .sv (str s)), (6, .own 17), (7, .sv (int i)), (8, .sv (int k))], (tabI a s i k).h⟩) (fun _ => True) ?_ (fun v J => ?_)
      · refine ok_block ?_
        refine ok_block ?_
        refine ok_seq fun K14 h14 => ok_region rfl (q_mv _ rfl (q_mv (altS a) rfl (q_len eS281 rfl (q_bin _ _ _ rfl rfl rfl (q_as _ rfl (run_nil (h14 _ ?_))))))); clear h14 K14
        refine ok_cond rfl (fun c15 => ?_) (fun c15 => ?_)
        · have hia : i = a.length := by simp at c15; omega
          have hfit : decide ((k : Int) = s.size) = fit (a.drop i) (s.data.toList.drop k) := by
            rw [List.drop_eq_nil_iff.2 (by omega), fit_nil (by rw [hz]; exact hk), hz]
          refine ok_last fun K16 h16 => ok_region rfl (q_mo _ rfl (q_mv _ rfl (q_ial el294 rfl rfl rfl rfl (by omega) (by simp [tab_len]; omega) ?_)))
          rw [Int.toNat_natCast]
          refine q_ldl _ ag277 rfl rfl (sv_set_get (by rw [tab_len]; omega)) (q_mv _ rfl (q_mv _ rfl (q_mv _ rfl (q_lens st9 rfl (q_bin _ _ _ rfl rfl rfl (
            q_iao el277 rfl rfl rfl (by omega) (by simp [rowP_len]; omega) ?_))))))
          rw [Int.toNat_natCast]
          refine q_ste sz4 rfl rfl (bget_map (rowP_get' (by rw [hz]; exact hk))) rfl (.inr rfl) rfl (run_nil (h16 _ ⟨(), trivial, le_sub ⟨rfl, rfl, rfl, rfl, rfl, trivial⟩ ⟨rfl, ?_, trivial⟩⟩))
          show some (Ent.row 1 4 (((rowP (a.drop i) s.data.toList (k + 1)).map bool).set k (bool (decide ((k : Int) = s.size))))) = some (Ent.row 1 4 ((rowP (a.drop i) s.data.toList k).map bool))
          rw [bmap_set, rowP_set _ hfit]
        · have hia : i < a.length := by simp at c15; omega
          obtain ⟨x, hxi⟩ := sget hia
          have hdr := drop_cons hxi
          have hx3 := hx x (List.mem_of_getElem? hxi)
          refine ok_seq fun K17 h17 => ?_
          refine ok_region rfl (q_mv (altS a) rfl (q_mv _ rfl (q_ia (s := pc x) el281 rfl rfl (by omega) (pcget hxi) (q_fa (r := pcV x) _ fd280_2 rfl rfl (by decide) (q_ld _ ag4 rfl rfl (q_as _ rfl (run_nil (h17 _ ?_))))))))
          clear h17 K17
          refine ok_cond rfl (fun c18 => ?_) (fun c18 => ?_)
          · have hx1 : x = -1 := by simpa using c18
            subst hx1
            have hrow : (tabL a s.data.toList (i + 1))[i + 1]? = some (rowS (rowB (a.drop (i + 1)) s.data.toList)) := tab_get hia (Nat.le_refl _)
            have hb1 := rowB_get (a := a.drop (i + 1)) (s := s.data.toList) (k := k) (by rw [hz]; exact hk)
            have hfin : (fit (a.drop (i + 1)) (s.data.toList.drop k) || (decide ((k : Int) < s.size) && (if k < s.size then fit (a.drop i) (s.data.toList.drop (k + 1)) else false))) = fit (a.drop i) (s.data.toList.drop k) := by
              rw [hdr]
              by_cases hks : k < s.size
              · obtain ⟨c, hc⟩ := sget (l := s.data.toList) (i := k) (by rw [hz]; exact hks)
                have : (k : Int) < s.size := by omega
                rw [if_pos hks, fit_star hc, decide_eq_true this]; simp
              · have : ¬ (k : Int) < s.size := by omega
                rw [decide_eq_false this, fit_star_end (k := k) (by rw [hz]; omega)]; simp
            refine ok_last fun K19 h19 => ok_region_i (by kernel_rfl) (by kernel_rfl) rfl (q_mo _ rfl (q_mv _ rfl (q_ial el294 rfl rfl rfl rfl (by omega) (by simp [tab_len]; omega) ?_)))
            rw [Int.toNat_natCast]
            refine q_ldl _ ag277 rfl rfl (sv_set_get (by rw [tab_len]; omega)) (q_mv _ rfl (q_mo _ rfl (q_mv _ rfl (q_add rfl rfl (by omega) ?_))))
            rw [show ((i : Int) + 1) = ((i + 1 : Nat) : Int) by omega]
            refine q_ial el294 rfl rfl rfl rfl (by omega) (by simp [tab_len]; omega) ?_
            rw [Int.toNat_natCast]
            refine q_ldl _ ag277 rfl rfl (sv_set_ne (by omega) hrow) (q_mv _ rfl (q_ia (s := bool _) el277 rfl rfl (by omega) (bget_map hb1) (q_ld _ ag4 rfl rfl (q_mv _ rfl (
              q_or (b2 := decide ((k : Int) < s.size) && (if k < s.size then fit (a.drop i) (s.data.toList.drop (k + 1)) else false)) 14 6 rfl rfl rfl rfl rfl (fun hb125 => ?_) ?_)))))
            · refine q_mv _ rfl (q_mv _ rfl (q_lens st9 rfl (q_bin _ _ _ rfl rfl rfl (q_mv _ rfl (q_and 8 8 rfl rfl rfl rfl rfl (fun hb124 => ?_) (run_nil ⟨rfl, rfl, rfl, rfl⟩))))))
              have hks : k < s.size := by simp at hb124; omega
              refine q_mo _ rfl (q_mv _ rfl (q_ial el294 rfl rfl rfl rfl (by omega) (by simp [tab_len]; omega) ?_))
              rw [Int.toNat_natCast]
              refine q_ldl _ ag277 rfl rfl (sv_set_get (by rw [tab_len]; omega)) (q_mv _ rfl (q_add rfl rfl (by omega) ?_))
              rw [show ((k : Int) + 1) = ((k + 1 : Nat) : Int) by omega]
              refine q_iao el277 rfl rfl rfl (by omega) (by simp [rowP_len]; omega) ?_
              rw [Int.toNat_natCast]
              refine q_lde _ ag4 rfl rfl (bget_map (rowP_get (by rw [hz]; omega) (Nat.le_refl _))) rfl (run_nil ⟨rfl, rfl, rfl, ?_⟩)
              rw [if_pos hks]; rfl
            · rw [hfin]
              refine q_iao el277 rfl rfl rfl (by omega) (by simp [rowP_len]; omega) ?_
              rw [Int.toNat_natCast]
              refine q_ste sz4 rfl rfl (bget_map (rowP_get' (by rw [hz]; exact hk))) rfl (.inr rfl) rfl (run_nil (h19 _ ⟨(), trivial, le_sub ⟨rfl, rfl, rfl, rfl, rfl, trivial⟩ ⟨rfl, ?_, trivial⟩⟩))
              show some (Ent.row 1 4 (((rowP (a.drop i) s.data.toList (k + 1)).map bool).set k (bool (fit (a.drop i) (s.data.toList.drop k))))) = some (Ent.row 1 4 ((rowP (a.drop i) s.data.toList k).map bool))
              rw [bmap_set, rowP_set _ rfl]
          · have hx1 : x ≠ -1 := by simpa using c18
            refine ok_last fun K20 h20 => ok_region_i (by kernel_rfl) (by kernel_rfl) rfl (q_mo _ rfl (q_mv _ rfl (q_ial el294 rfl rfl rfl rfl (by omega) (by simp [tab_len]; omega) ?_)))
            rw [Int.toNat_natCast]
            refine q_ldl _ ag277 rfl rfl (sv_set_get (by rw [tab_len]; omega)) (q_mv _ rfl (q_mv _ rfl (q_mv _ rfl (q_lens st9 rfl (q_bin _ _ _ rfl rfl rfl (q_mv _ rfl ?_))))))
            rcases Nat.lt_or_ge k s.size with hks | hks
            · obtain ⟨c, hc⟩ := sget (l := s.data.toList) (i := k) (by rw [hz]; exact hks)
              have hrow : (tabL a s.data.toList (i + 1))[i + 1]? = some (rowS (rowB (a.drop (i + 1)) s.data.toList)) := tab_get hia (Nat.le_refl _)
              have hb1 := rowB_get (a := a.drop (i + 1)) (s := s.data.toList) (k := k + 1) (by rw [hz]; exact hks)
              have hkd : decide ((k : Int) < s.size) = true := by simpa using hks
              have hfin : ((decide ((k : Int) < s.size) && (x == -2 || decide ((if x < 0 then 0 else x) = (c.toNat : Int)))) && fit (a.drop (i + 1)) (s.data.toList.drop (k + 1))) = fit (a.drop i) (s.data.toList.drop k) := by
                rw [hdr, fit_one hx1 hc, hkd]
                rcases hx3 with h | h | ⟨h, h'⟩
                · exact absurd h hx1
                · subst h; simp
                · have : ¬ x < 0 := by omega
                  rw [if_neg this]; simp [BEq.beq]
              refine q_and (b2 := (x == -2 || decide ((if x < 0 then 0 else x) = (c.toNat : Int)))) 16 7 rfl rfl rfl rfl rfl (fun hb63 => ?_) ?_
              · refine q_mv (altS a) rfl (q_mv _ rfl (q_ia (s := pc x) el281 rfl rfl (by omega) (pcget hxi) (q_fa (r := pcV x) _ fd280_1 rfl rfl (by decide) (q_ld _ ag4 rfl rfl (q_mv _ rfl (q_or 9 9 rfl rfl rfl rfl rfl (fun hb62 => ?_) (run_nil ⟨rfl, rfl, rfl, rfl⟩)))))))
                exact q_mv (altS a) rfl (q_mv _ rfl (q_ia (s := pc x) el281 rfl rfl (by omega) (pcget hxi) (q_fa (r := pcV x) _ fd280_0 rfl rfl (by decide) (q_ld _ ag5 rfl rfl (q_mv _ rfl (q_mv _ rfl (q_ix st9 rfl rfl (by omega) (bget hc) (
                  q_bin _ _ _ rfl rfl rfl (run_nil ⟨rfl, rfl, rfl, rfl⟩)))))))))
              · refine q_mv _ rfl (q_and (b2 := fit (a.drop (i + 1)) (s.data.toList.drop (k + 1))) 9 9 rfl rfl rfl rfl rfl (fun hb74 => ?_) ?_)
                · refine q_mo _ rfl (q_mv _ rfl (q_add rfl rfl (by omega) ?_))
                  rw [show ((i : Int) + 1) = ((i + 1 : Nat) : Int) by omega]
                  refine q_ial el294 rfl rfl rfl rfl (by omega) (by simp [tab_len]; omega) ?_
                  rw [Int.toNat_natCast]
                  refine q_ldl _ ag277 rfl rfl (sv_set_ne (by omega) hrow) (q_mv _ rfl (q_add rfl rfl (by omega) ?_))
                  rw [show ((k : Int) + 1) = ((k + 1 : Nat) : Int) by omega]
                  exact q_ia (s := bool _) el277 rfl rfl (by omega) (bget_map hb1) (q_ld _ ag4 rfl rfl (run_nil ⟨rfl, rfl, rfl, rfl⟩))
                · refine q_iao el277 rfl rfl rfl (by omega) (by simp [rowP_len]; omega) ?_
                  rw [Int.toNat_natCast]
                  refine q_ste sz4 rfl rfl (bget_map (rowP_get' (by rw [hz]; exact hk))) rfl (.inr rfl) rfl (run_nil (h20 _ ⟨(), trivial, le_sub ⟨rfl, rfl, rfl, rfl, rfl, trivial⟩ ⟨rfl, ?_, trivial⟩⟩))
                  show some (Ent.row 1 4 (((rowP (a.drop i) s.data.toList (k + 1)).map bool).set k (bool _))) = some (Ent.row 1 4 ((rowP (a.drop i) s.data.toList k).map bool))
                  rw [bmap_set, rowP_set _ hfin]
            · have hkd : decide ((k : Int) < s.size) = false := by simp; omega
              have hfin : ((decide ((k : Int) < s.size) && false) && false) = fit (a.drop i) (s.data.toList.drop k) := by
                rw [hdr, fit_one_end hx1 (by rw [hz]; exact hks)]; simp
              refine q_and (b2 := false) 16 7 rfl rfl rfl rfl rfl (fun hb63 => by rw [hkd] at hb63; cases hb63) ?_
              refine q_mv _ rfl (q_and (b2 := false) 9 9 rfl rfl rfl rfl rfl (fun hb74 => by simp at hb74) ?_)
              refine q_iao el277 rfl rfl rfl (by omega) (by simp [rowP_len]; omega) ?_
              rw [Int.toNat_natCast]
              refine q_ste sz4 rfl rfl (bget_map (rowP_get' (by rw [hz]; exact hk))) rfl (.inr rfl) rfl (run_nil (h20 _ ⟨(), trivial, le_sub ⟨rfl, rfl, rfl, rfl, rfl, trivial⟩ ⟨rfl, ?_, trivial⟩⟩))
              show some (Ent.row 1 4 (((rowP (a.drop i) s.data.toList (k + 1)).map bool).set k (bool _))) = some (Ent.row 1 4 ((rowP (a.drop i) s.data.toList k).map bool))
              rw [bmap_set, rowP_set _ hfin]
      · refine ok_last fun K21 h21 => ok_region rfl (
          q_mv _ rfl (q_sub rfl rfl (by omega) (q_as _ rfl (run_nil (h21 _ ⟨k, Nat.lt_succ_self k, by omega, le_sub ⟨rfl, rfl, rfl, rfl, rfl, trivial⟩ ⟨rfl, rfl, trivial⟩⟩)))))
    · refine ok_exit (h8 _ ?_)
      have hj0 : j = 0 := by simp at c13; omega
      subst hj0
      refine Ok.le (le_fz (n := 1) (T := 4) (l := (rowP (a.drop i) s.data.toList 0).map bool) 29 rfl) ?_
      refine ok_last fun K22 h22 => ok_region rfl (
        q_mv _ rfl (q_sub rfl rfl (by omega) (q_as _ rfl (run_nil (h22 _ ⟨i, Nat.lt_succ_self i, by omega, le_sub ⟨rfl, rfl, rfl, rfl, trivial⟩ ⟨?_, trivial⟩⟩)))))
      show some (Ent.rowl 277 ((((tabL a s.data.toList (i + 1)).map .sv).set i (.own 29)).map (fzl 29 1 ((rowP (a.drop i) s.data.toList 0).map bool)))) = some (Ent.rowl 277 ((tabL a s.data.toList i).map .sv))
      rw [fzl_set, rowP_zero]
      exact congrArg (fun q => some (Ent.rowl 277 (List.map LV.sv q))) tab_set
  · refine ok_exit (h3 _ ?_)
    have hj0 : j = 0 := by simp at c7; omega
    subst hj0
    have hg0 := tab_get (a := a) (s := s.data.toList) (i := 0) (j := 0) (Nat.zero_le _) (Nat.le_refl _)
    have hr0 := rowB_get (a := a) (s := s.data.toList) (k := 0) (Nat.zero_le _)
    simp only [List.drop_zero] at hg0 hr0
    refine Ok.le (Le.trans (le_fz (n := 1) (T := 277) (l := tabL a s.data.toList 0) 17 rfl) (le_rowr 17 (tabL a s.data.toList 0) rfl rfl)) ?_
    refine ok_seq fun K23 h23 => ?_
    refine ok_seq fun K24 h24 => ok_region rfl (q_mv (.sl 1 (tabL a s.data.toList 0)) rfl (q_ia (s := rowS (rowB a s.data.toList)) el294 rfl rfl (by omega) hg0 (q_ld _ ag277 rfl rfl (q_ia (s := bool _) el277 rfl rfl (by omega) (bget_map hr0) (q_ld _ ag4 rfl rfl (q_un _ _ rfl rfl (run_nil (h24 _ ?_)))))))); clear h24 K24
    refine ok_cond rfl (fun c25 => ?_) (fun c25 => ?_)
    · refine ok_seq fun K26 h26 => ?_
      refine ok_region rfl (q_as _ rfl (q_as _ rfl (run_nil (h26 _ ?_))))
      clear h26 K26
      refine ok_ret ⟨_, rfl, ?_⟩
      have : fit a s.data.toList = false := by simpa using c25
      unfold partsV
      rw [this]; rfl
    · refine ok_skip (h23 _ ?_)
      have hfit : fit a s.data.toList = true := by simpa using c25
      refine ok_seq fun K27 h27 => ok_region rfl (q_an (n := 1) 9 (by omega) rfl rfl rfl (run_nil (h27 _ ?_))); clear h27 K27
      refine ok_seq fun K28 h28 => ok_region rfl (q_as _ rfl (run_nil (h28 _ ?_))); clear h28 K28
      refine ok_seq fun K29 h29 => ?_
      refine ok_seq fun K30 h30 => ok_region rfl (q_mv (altS a) rfl (q_len eS281 rfl (q_mv _ rfl (run_nil (h30 _ ?_))))); clear h30 K30
      refine ok_block ?_
      refine ok_loop (fun (v : Nat × Nat × List (List UInt8)) => prtF a s v.1 v.2.1 v.2.2) (fun v => v.1 ≤ a.length ∧ v.2.1 ≤ s.size ∧ v.2.2.length ≤ v.1 ∧ fit (a.drop v.1) (s.data.toList.drop v.2.1) = true ∧ v.2.2 ++ partsG (a.drop v.1) (s.data.toList.drop v.2.1) = partsG a s.data.toList) (fun v => a.length - v.1) (0, 0, []) ⟨by simp, by simp, by simp, hfit, rfl⟩ (le_sub ⟨rfl, rfl, rfl, rfl, rfl, ?_, rfl, trivial⟩ ⟨rfl, trivial⟩) (fun v J => ?_)
      · simp; rfl
      obtain ⟨i, k, out⟩ := v
      obtain ⟨j1, j2, j3, j4, j5⟩ := J
      simp only at j1 j2 j3 j4 j5
      show Ok _ _ (prtF a s i k out) _
      refine ok_seq fun K31 h31 => ok_region rfl (q_bin _ _ _ rfl rfl rfl (run_nil (h31 _ ?_))); clear h31 K31
      refine ok_seq fun K32 h32 => ?_
      refine ok_cond rfl (fun c33 => ?_) (fun c33 => ?_)
      · refine ok_skip (h32 _ ?_)
        have hia : i < a.length := by simpa using c33
        obtain ⟨x, hxi⟩ := sget hia
        have hdr := drop_cons hxi
        rw [hdr] at j4 j5
        refine ok_seq_join (fun (v : Nat × List (List UInt8)) => prtF a s i v.1 v.2) (fun v => v.1 ≤ s.size ∧ v.2.length ≤ i + 1 ∧ fit (a.drop (i + 1)) (s.data.toList.drop v.1) = true ∧ v.2 ++ partsG (a.drop (i + 1)) (s.data.toList.drop v.1) = partsG a s.data.toList) ?_ (fun v J => ?_)
        · refine ok_block ?_
          refine ok_seq fun K34 h34 => ok_region rfl (q_mv _ rfl (q_ia (s := pc x) el281 rfl rfl (by omega) (pcget hxi) (q_lds (r := pcV x) ag280 rfl sz280 (q_alloc _ ze280 rfl rfl rfl rfl (q_as _ rfl (q_sts (pcV x) rfl rfl rfl sz280 (Nat.le_of_ble_eq_true rfl) rfl (run_nil (h34 _ ?_)))))))); clear h34 K34
          refine ok_seq fun K35 h35 => ?_
          refine ok_seq fun K36 h36 => ok_region rfl (q_fap fd280_2 rfl (by decide) (q_ldb (.sv (bool (x == -1))) ag4 rfl rfl rfl (q_un _ _ rfl rfl (run_nil (h36 _ ?_))))); clear h36 K36
          refine ok_cond rfl (fun c37 => ?_) (fun c37 => ?_)
          · have hx1 : x ≠ -1 := by simpa using c37
            have hks : k < s.size := by
              rcases Nat.lt_or_ge k s.size with h | h
              · exact h
              · rw [fit_one_end hx1 (by rw [hz]; exact h)] at j4; cases j4
            obtain ⟨c, hc⟩ := sget (l := s.data.toList) (i := k) (by rw [hz]; exact hks)
            rw [fit_one hx1 hc] at j4
            have hp : partsG (x :: a.drop (i + 1)) (s.data.toList.drop k) = partsG (a.drop (i + 1)) (s.data.toList.drop (k + 1)) := by
              simp [partsG, hx1]
            rw [hp] at j5
            refine ok_seq fun K38 h38 => ?_
            refine ok_region rfl (q_mv _ rfl (q_add rfl rfl (by omega) (q_as _ rfl (run_nil (h38 _ ?_)))))
            clear h38 K38
            refine ok_exit ⟨(k + 1, out), ⟨hks, by simp only; omega, by simp at j4; exact j4.2, j5⟩, le_sub ⟨rfl, rfl, rfl, rfl, rfl, rfl, rfl, trivial⟩ ⟨rfl, trivial⟩⟩
          · refine ok_skip (h35 _ ?_)
            have hx1 : x = -1 := by simpa using c37
            subst hx1
            have hrow : (tabL a s.data.toList 0)[i + 1]? = some (rowS (rowB (a.drop (i + 1)) s.data.toList)) := tab_get hia (Nat.zero_le _)
            refine ok_seq fun K39 h39 => ok_region rfl (q_mv _ rfl (q_as _ rfl (run_nil (h39 _ ?_)))); clear h39 K39
            refine ok_seq fun K40 h40 => ?_
            refine ok_block ?_
            refine ok_loop (fun (n : Nat) => ⟨[(1, .sv (str s)), (6, .sv (.sl 1 (tabL a s.data.toList 0))), (9, .own 9), (10, .sv (int k)), (11, .sv (int i)), (13, .sv (int n)), (133, .sv (altS a)), (134, .sv (int a.length)), (135, .sv (int i))], [(9, .row 1 9 (out.map strp))]⟩) (fun n => k ≤ n ∧ n ≤ s.size ∧ starN (a.drop (i + 1)) (s.data.toList.drop k) = (n - k) + starN (a.drop (i + 1)) (s.data.toList.drop n) ∧ fit (-1 :: a.drop (i + 1)) (s.data.toList.drop n) = true) (fun n => s.size - n) k ⟨Nat.le_refl _, j2, by simp, j4⟩ (le_sub ⟨rfl, rfl, rfl, rfl, rfl, rfl, rfl, rfl, rfl, trivial⟩ ⟨rfl, trivial⟩) (fun n J => ?_)
            obtain ⟨g1, g2, g3, g4⟩ := J
            have hbn := rowB_get (a := a.drop (i + 1)) (s := s.data.toList) (k := n) (by rw [hz]; exact g2)
            refine ok_seq fun K41 h41 => ?_
            refine ok_seq fun K42 h42 => ?_
            refine ok_region rfl (q_mv (.sl 1 (tabL a s.data.toList 0)) rfl (q_mv _ rfl (q_add rfl rfl (by omega) ?_)))
            rw [show ((i : Int) + 1) = ((i + 1 : Nat) : Int) by omega]
            refine q_ia (s := rowS (rowB (a.drop (i + 1)) s.data.toList)) el294 rfl rfl (by omega) hrow (q_ld _ ag277 rfl rfl (q_mv _ rfl (q_ia (s := bool _) el277 rfl rfl (by omega) (bget_map hbn) (
              q_ld _ ag4 rfl rfl (q_un _ _ rfl rfl (run_nil (h42 _ ?_)))))))
            clear h42 K42
            refine ok_cond rfl (fun c43 => ?_) (fun c43 => ?_)
            · refine ok_skip (h41 _ ?_)
              have hno : fit (a.drop (i + 1)) (s.data.toList.drop n) = false := by simpa using c43
              have hns : n < s.size := by
                rcases Nat.lt_or_ge n s.size with h | h
                · exact h
                · rw [fit_star_end (by rw [hz]; exact h), hno] at g4; cases g4
              obtain ⟨c, hc⟩ := sget (l := s.data.toList) (i := n) (by rw [hz]; exact hns)
              rw [fit_star hc, hno] at g4
              refine ok_block ?_
              refine ok_last fun K44 h44 => ok_region rfl (
                q_mv _ rfl (q_add rfl rfl (by omega) (q_as _ rfl (run_nil (h44 _ ⟨n + 1, by omega, ⟨by omega, hns, by rw [g3, starN_step hc hno]; omega, by simpa using g4⟩, le_sub ⟨rfl, rfl, rfl, rfl, rfl, rfl, rfl, rfl, rfl, trivial⟩ ⟨rfl, trivial⟩⟩)))))
            · refine ok_exit (h40 _ ?_)
              have hyes : fit (a.drop (i + 1)) (s.data.toList.drop n) = true := by simpa using c43
              rw [starN_here hyes] at g3
              have hp : partsG (-1 :: a.drop (i + 1)) (s.data.toList.drop k) = (s.data.toList.drop k).take (n - k) :: partsG (a.drop (i + 1)) (s.data.toList.drop n) := by
                simp only [partsG, if_true, g3, Nat.add_zero, List.drop_drop]
                rw [show k + (n - k) = n by omega]
              rw [hp] at j5
              refine ok_seq fun K45 h45 => ?_
              refine ok_region rfl (q_mo _ rfl (q_mv _ rfl (q_mv _ rfl (q_mv _ rfl (q_ss _ _ st9 rfl (.inr ⟨_, _, rfl, rfl⟩) (.inr ⟨_, _, rfl, rfl⟩) (by omega) (by omega) (by omega) ?_)))))
              rw [Int.toNat_natCast, Int.toNat_natCast, ext_take s k n g2 g1]
              refine q_lit1 _ _ el156 ze9 (by decide) (by decide) rfl (.inr rfl) rfl (
                q_app _ el156 ze9 rfl by9 rfl rfl rfl rfl rfl (by simp) (by intro s hs; simp at hs; subst hs; exact .inr rfl) (by simp [maxLen]; omega) (by simp; omega) (q_ao _ rfl (run_nil (h45 _ ?_))))
              clear h45 K45
              refine ok_last fun K46 h46 => ok_region rfl (
                q_mv _ rfl (q_as _ rfl (run_nil (h46 _ ?_))))
              refine ⟨(n, out ++ [(s.data.toList.drop k).take (n - k)]), ⟨g2, by simp; omega, hyes, by rw [List.append_assoc]; exact j5⟩, Le.trans (le_sub ⟨rfl, rfl, rfl, rfl, rfl, rfl, rfl, trivial⟩ ⟨?_, trivial⟩) (le_rn 9 163 rfl rfl rfl)⟩
              show some (Ent.row 1 9 (out.map strp ++ [strp ((s.data.toList.drop k).take (n - k))])) = some (Ent.row 1 9 ((out ++ [(s.data.toList.drop k).take (n - k)]).map strp))
              rw [List.map_append]; rfl
        · obtain ⟨k2, out2⟩ := v
          obtain ⟨g1, g2, g3, g4⟩ := J
          simp only at g1 g2 g3 g4
          show Ok _ _ (prtF a s i k2 out2) _
          refine ok_last fun K47 h47 => ok_region rfl (
            q_add rfl rfl (by omega) (q_mv _ rfl (run_nil (h47 _ ⟨(i + 1, k2, out2), by show a.length - (i + 1) < a.length - i; omega, ⟨hia, g1, g2, g3, g4⟩, le_sub ⟨rfl, rfl, rfl, rfl, rfl, rfl, rfl, trivial⟩ ⟨rfl, trivial⟩⟩))))
      · refine ok_exit (h29 _ ?_)
        have hia : i = a.length := by have : ¬ i < a.length := by simpa using c33
                                      omega
        have hd : a.drop i = [] := by rw [List.drop_eq_nil_iff]; omega
        rw [hd] at j5
        simp only [partsG, List.append_nil] at j5
        refine ok_seq fun K48 h48 => ok_region rfl (q_mo _ rfl (q_ao _ rfl (q_as _ rfl (run_nil (h48 _ ?_))))); clear h48 K48
        refine ok_ret ⟨_, rfl, ?_⟩
        unfold partsV
        rw [if_pos hfit, ← j5]; rfl
end Go.Ring
