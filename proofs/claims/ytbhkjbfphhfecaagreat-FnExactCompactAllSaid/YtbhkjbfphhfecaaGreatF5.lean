/- Compacting all: the reference. No condition beyond the sizes. -/
import Derived.Test.YtbhkjbfphhfecaaGreatF4
import Derived.Test.YtbhkjbfphhfecaaGreatEg3
set_option maxRecDepth 100000
set_option linter.unusedVariables false
set_option linter.unusedSimpArgs false
namespace Go.Ring
open Go Go.RowKit Go.Eager Go.Abs Go.Proofs
theorem agg_bl (l : List Block) : ∀ s ∈ l.map eBlock, (∃ c, s = .agg c) ∨ s.one = true := fun s hs => by
  obtain ⟨x, _, rfl⟩ := List.mem_map.1 hs
  exact .inl ⟨_, rfl⟩
theorem f99_ok (base : Int) (l : List Block) (hl : l.length ≤ 1048576 ∧ ∀ y ∈ l, SBlock y) (hw : wtB l ≤ 1048576) (hsh : ShelfOk base l) : PFn Tryz.prog 99 [int base, eBlockS l] (eBlockS (resC base l)) := by
  refine fn_ok' (n := 55) Tryz.func99 rfl rfl rfl (Nat.le_of_ble_eq_true rfl) rfl fun w0 O => ?_
  refine ok_seq fun K1 h1 => ok_region rfl (q_as _ rfl (run_nil (h1 _ ?_))); clear h1 K1
  refine ok_seq fun K2 h2 => ok_region rfl (q_mv _ rfl (q_call (f157_ok l hl) cl157 rfl rfl (q_as _ rfl (run_nil (h2 _ ?_))))); clear h2 K2
  refine ok_seq fun K4 h4 => ?_
  refine ok_seq fun K3 h3 => ok_region rfl (q_mv _ rfl (q_mv _ rfl (q_call (f92_ok base l hl hw hsh) cl92 rfl rfl (q_as _ rfl (run_nil (h3 _ ?_)))))); clear h3 K3
  refine ok_block ?_
  refine ok_loop (fun (cur : List Block) => ⟨[(0, .sv (int base)), (1, .sv (eBlockS cur)), (5, .sv (ints ((planO base cur).getD [])))], []⟩) (fun cur => CInv base l cur) (fun cur => mu cur) l ⟨hsh, hl.2, hw, rfl⟩ (le_sub ⟨rfl, rfl, rfl, trivial⟩ trivial) (fun cur J => ?_)
  have hcl := J.len
  have hcur : cur.length ≤ 1048576 ∧ ∀ y ∈ cur, SBlock y := ⟨by omega, J.S⟩
  refine ok_seq fun K6 h6 => ?_
  refine ok_seq fun K5 h5 => ok_region rfl (q_mv _ rfl (q_len eS29 rfl (q_bin _ _ _ rfl rfl rfl (run_nil (h5 _ ?_))))); clear h5 K5
  rw [List.length_map]
  refine ok_cond rfl (fun c7 => ?_) (fun c7 => ?_)
  · refine ok_skip (h6 _ ?_)
    obtain ⟨p, hp⟩ : ∃ p, planO base cur = some p := by
      cases hq : planO base cur with
      | none => rw [hq] at c7; simp at c7
      | some p => exact ⟨p, rfl⟩
    have hpp : (planO base cur).getD [] = p := by rw [hp]; rfl
    obtain ⟨i, j, A, W, L, P⟩ := planO_at J.sh hp
    have hN := J.next hp P
    have hmu : mu (nxt cur i j (mrgBk A W L ((cur.take j).drop i))) < mu cur := nxt_mu P (mrgB ((cur.take j).drop i))
    obtain ⟨m1, m2, m3, m4, m5, m6, m7, m8, m9⟩ := plan_mid J.sh J.S J.wt P
    obtain ⟨g1, g2, g3⟩ := plan_head P
    have hlt := P.lt; have hle := P.le
    obtain ⟨b, hb, hbl⟩ := P.one
    have hc155 := f155_ok base _ m1 m2 (shelf_blocks m3) ⟨hsh.1, hsh.2.1⟩ L ⟨P.L2, P.L4⟩ m4 (fun y hy => by have := P.low y hy; omega) hb hbl A W P.wid m6 m7 m8 m9
    rw [pB_true P.good] at hc155
    rw [hpp]
    have emid : ((cur.map eBlock).drop ((i : Nat) : Int).toNat).take (((j : Nat) : Int) - ((i : Nat) : Int)).toNat = ((cur.take j).drop i).map eBlock := by
      rw [Int.toNat_natCast, show (((j : Nat) : Int) - ((i : Nat) : Int)).toNat = j - i by omega, List.map_drop, List.map_take, List.drop_take]
    have eini : ((cur.map eBlock).drop (0 : Int).toNat).take (((i : Nat) : Int) - 0).toNat = (cur.take i).map eBlock := by
      rw [show (((i : Nat) : Int) - 0).toNat = i by omega, List.map_take]; rfl
    have eend : ((cur.map eBlock).drop ((j : Nat) : Int).toNat).take (((cur.map eBlock).length : Int) - ((j : Nat) : Int)).toNat = (cur.drop j).map eBlock := by
      rw [Int.toNat_natCast, List.length_map, show ((cur.length : Int) - ((j : Nat) : Int)).toNat = cur.length - j by omega, List.map_drop]
      exact List.take_of_length_le (by rw [List.length_drop, List.length_map]; omega)
    refine ok_seq fun K8 h8 => ?_
    refine ok_block ?_
    refine ok_seq fun K9 h9 => ok_region rfl (q_mv _ rfl (q_ia el29 rfl rfl (by omega) (mget (f := int) g1) (q_ld (int (i : Int)) ag3 rfl rfl (q_as _ rfl (run_nil (h9 _ ?_)))))); clear h9 K9
    refine ok_seq fun K10 h10 => ok_region rfl (q_mv _ rfl (q_mv _ rfl (q_len eS29 rfl (q_sub rfl rfl (by rw [List.length_map]; omega) (q_ia el29 rfl rfl (by rw [List.length_map]; omega) (by rw [List.length_map, show ((p.length : Int) - 1).toNat = p.length - 1 by omega]; exact mget (f := int) g3) (q_ld (int ((j - 1 : Nat) : Int)) ag3 rfl rfl (q_addr (j : Int) rfl rfl (by omega) (by omega) (q_as (int (j : Int)) rfl (run_nil (h10 _ ?_)))))))))); clear h10 K10
    refine ok_seq fun K11 h11 => ?_
    refine ok_region rfl (q_mv _ rfl (q_mv _ rfl (q_mv _ rfl (q_mv _ rfl (q_slr (i : Int) (j : Int) (((cur.take j).drop i).map eBlock) el53 rfl (.inr ⟨_, _, rfl, rfl⟩) (.inr ⟨_, _, rfl, rfl⟩) (by omega) (by omega) (by rw [List.length_map]; omega) emid (
      q_call hc155 cl155 rfl rfl (q_mv _ rfl (q_ext _ rfl rfl (q_ext _ rfl rfl (q_alloc _ ze34 rfl rfl rfl rfl (q_sts _ rfl rfl rfl sz34 (Nat.le_of_ble_eq_true rfl) rfl (q_as _ rfl (run_nil (h11 _ ?_))))))))))))))
    clear h11 K11
    refine ok_seq fun K12 h12 => ok_region rfl (q_an (n := 5) 34 (by decide) rfl rfl rfl (run_nil (h12 _ ?_))); clear h12 K12
    have enx : ([] ++ (cur.take i).map eBlock ++ [eBlock (mrgBk A W L ((cur.take j).drop i))] ++ (cur.drop j).map eBlock : List SV) = (nxt cur i j (mrgBk A W L ((cur.take j).drop i))).map eBlock := by unfold nxt; simp only [List.map_append, List.nil_append, List.map_cons, List.map_nil]
    have hl1 : ((cur.take i).map eBlock).length ≤ 100 := by rw [List.length_map, List.length_take]; omega
    have hl2 : ((cur.drop j).map eBlock).length ≤ 100 := by rw [List.length_map, List.length_drop]; omega
    have g1' := agg_bl (cur.take i)
    have g2' := agg_bl (cur.drop j)
    have g3' := agg_bl [mrgBk A W L ((cur.take j).drop i)]
    refine ok_seq_join (fun (_ : Unit) => ⟨[(0, .sv (int base)), (10, .own 52)], [(52, .row 5 34 ((nxt cur i j (mrgBk A W L ((cur.take j).drop i))).map eBlock))]⟩) (fun _ => True) ?_ (fun _ _ => ?_)
    · rw [← enx]
      generalize (cur.take i).map eBlock = r1 at *
      generalize (cur.drop j).map eBlock = r2 at *
      refine ok_region_u (.fork [0, 1, 2, 3, 8, 9, 10] 4 (.leaf [5, 6, 7, 11, 12]) 5 (.fork [] 4 (.leaf [6, 7, 11, 12]) 6 (.leaf [4, 7, 11, 12]))) (by kernel_rfl) (by kernel_rfl) rfl ?_
      refine runU_fork ?_
      refine q_mo _ rfl (q_mv _ rfl (q_mv _ rfl (q_slr 0 (i : Int) r1 el53 rfl (.inl ⟨rfl, rfl⟩) (.inr ⟨_, _, rfl, rfl⟩) (by omega) (by omega) (by rw [List.length_map]; omega) eini (
        q_mv _ rfl (q_mv _ rfl (q_slr (j : Int) ((cur.map eBlock).length : Int) r2 el53 rfl (.inr ⟨_, _, rfl, rfl⟩) (.inl ⟨rfl, rfl⟩) (by omega) (by rw [List.length_map]; omega) (by omega) eend (run_nil ⟨?_, ?_⟩)))))))
      · refine q_appA (k := 10) (q := r1) _ el53 ze34 rfl by34 rfl rfl rfl rfl rfl g1' (by show 0 + _ ≤ maxLen; unfold maxLen; omega) (by show (0 + _) * 72 ≤ _; omega) (run_nil (runU_leaf ?_))
        refine q_ldbs (r := [int A, int (A + W), int L, eSeriesS (mrgB ((cur.take j).drop i)), .sl 3 []]) ag34 rfl rfl sz34 rfl rfl (q_lit1 _ (eBlock (mrgBk A W L ((cur.take j).drop i))) el53 ze34 (by decide) (by decide) rfl (.inl ⟨_, rfl⟩) rfl (
          q_appA (k := 45) (q := [eBlock (mrgBk A W L ((cur.take j).drop i))]) _ el53 ze34 rfl by34 rfl rfl rfl rfl rfl g3' (by simp only [List.nil_append, List.length_cons, List.length_nil]; unfold maxLen; omega) (by simp only [List.nil_append, List.length_cons, List.length_nil]; omega) (
          q_appA (k := 48) (q := r2) _ el53 ze34 rfl by34 rfl rfl rfl rfl rfl g2' (by simp only [List.nil_append, List.length_append, List.length_cons, List.length_nil]; unfold maxLen; omega) (by simp only [List.nil_append, List.length_append, List.length_cons, List.length_nil]; omega) (
          q_ao _ rfl (run_nil ⟨(), trivial, le_sub ⟨rfl, rfl, trivial⟩ ⟨rfl, trivial⟩⟩)))))
      · refine q_ldbs (r := [int A, int (A + W), int L, eSeriesS (mrgB ((cur.take j).drop i)), .sl 3 []]) ag34 rfl rfl sz34 rfl rfl (run_nil (runU_fork (run_nil ⟨?_, ?_⟩)))
        · refine q_appA (k := 10) (q := r1) _ el53 ze34 rfl by34 rfl rfl rfl rfl rfl g1' (by show 0 + _ ≤ maxLen; unfold maxLen; omega) (by show (0 + _) * 72 ≤ _; omega) (run_nil (runU_leaf ?_))
          refine q_lit1 _ (eBlock (mrgBk A W L ((cur.take j).drop i))) el53 ze34 (by decide) (by decide) rfl (.inl ⟨_, rfl⟩) rfl (
          q_appA (k := 45) (q := [eBlock (mrgBk A W L ((cur.take j).drop i))]) _ el53 ze34 rfl by34 rfl rfl rfl rfl rfl g3' (by simp only [List.nil_append, List.length_cons, List.length_nil]; unfold maxLen; omega) (by simp only [List.nil_append, List.length_cons, List.length_nil]; omega) (
          q_appA (k := 48) (q := r2) _ el53 ze34 rfl by34 rfl rfl rfl rfl rfl g2' (by simp only [List.nil_append, List.length_append, List.length_cons, List.length_nil]; unfold maxLen; omega) (by simp only [List.nil_append, List.length_append, List.length_cons, List.length_nil]; omega) (
          q_ao _ rfl (run_nil ⟨(), trivial, le_sub ⟨rfl, rfl, trivial⟩ ⟨rfl, trivial⟩⟩))))
        · refine q_lit1 _ (eBlock (mrgBk A W L ((cur.take j).drop i))) el53 ze34 (by decide) (by decide) rfl (.inl ⟨_, rfl⟩) rfl (run_nil (runU_leaf ?_))
          refine q_appA (k := 10) (q := r1) _ el53 ze34 rfl by34 rfl rfl rfl rfl rfl g1' (by show 0 + _ ≤ maxLen; unfold maxLen; omega) (by show (0 + _) * 72 ≤ _; omega) (
          q_appA (k := 45) (q := [eBlock (mrgBk A W L ((cur.take j).drop i))]) _ el53 ze34 rfl by34 rfl rfl rfl rfl rfl g3' (by simp only [List.nil_append, List.length_cons, List.length_nil]; unfold maxLen; omega) (by simp only [List.nil_append, List.length_cons, List.length_nil]; omega) (
          q_appA (k := 48) (q := r2) _ el53 ze34 rfl by34 rfl rfl rfl rfl rfl g2' (by simp only [List.nil_append, List.length_append, List.length_cons, List.length_nil]; unfold maxLen; omega) (by simp only [List.nil_append, List.length_append, List.length_cons, List.length_nil]; omega) (
          q_ao _ rfl (run_nil ⟨(), trivial, le_sub ⟨rfl, rfl, trivial⟩ ⟨rfl, trivial⟩⟩))))
    generalize hnx : nxt cur i j (mrgBk A W L ((cur.take j).drop i)) = nx at *
    have hnl := hN.len
    refine ok_last fun K14 h14 => ok_region rfl (q_mo _ rfl (q_ao _ rfl (run_nil (h14 _ (h8 _ ?_)))))
    refine Ok.le (le_fz 52 rfl) ?_
    refine ok_last fun K15 h15 => ok_region rfl (q_mv _ rfl (q_mv _ rfl (q_call (f92_ok base nx ⟨by omega, hN.S⟩ hN.wt hN.sh) cl92 rfl rfl (q_as _ rfl (run_nil (h15 _ ⟨nx, hmu, hN, le_sub ⟨rfl, rfl, rfl, trivial⟩ trivial⟩))))))
  · have hO : planO base cur = none := by
      cases hq : planO base cur with
      | none => rfl
      | some p =>
        have := planO_ne J.sh hq
        rw [hq] at c7
        have h0 : ¬ (0 : Int) < (p.length : Int) := by simpa using c7
        exact absurd (List.eq_nil_of_length_eq_zero (by omega)) this
    have hres : resC base l = cur := by rw [← J.res, resC_end hO]
    refine ok_exit (h4 _ ?_)
    refine ok_seq fun K16 h16 => ok_region rfl (q_mv _ rfl (q_as _ rfl (run_nil (h16 _ ?_)))); clear h16 K16
    exact ok_ret ⟨_, rfl, by rw [hres]; rfl⟩
theorem f43_ok (base : Int) (l : List Block) (hl : l.length ≤ 1048576 ∧ ∀ y ∈ l, SBlock y) (hw : wtB l ≤ 1048576) : PFn Tryz.prog 43 [int base, eBlockS l] (eBlockS (resCA base l)) := by
  refine fn_ok' (n := 12) Tryz.func43 rfl rfl rfl (Nat.le_of_ble_eq_true rfl) rfl fun w0 O => ?_
  refine ok_seq fun K1 h1 => ok_region rfl (q_as _ rfl (run_nil (h1 _ ?_))); clear h1 K1
  refine ok_seq fun K2 h2 => ?_
  refine ok_seq fun K3 h3 => ok_region rfl (q_mv _ rfl (q_mv _ rfl (q_call (f85_ok base l hl) cl85 rfl rfl (q_un _ _ rfl rfl (run_nil (h3 _ ?_)))))); clear h3 K3
  refine ok_cond rfl (fun c4 => ?_) (fun c4 => ?_)
  · have e : resCA base l = [] := by
      unfold resCA
      rw [if_neg]
      intro g
      rw [g] at c4
      exact absurd c4 (by decide)
    refine ok_seq fun K5 h5 => ?_
    refine ok_region rfl (q_an (n := 5) 34 (by decide) rfl rfl rfl (run_nil (h5 _ ?_)))
    clear h5 K5
    exact ok_ret ⟨_, rfl, by rw [e]; rfl⟩
  · have g1 : pB (ShelfOk base l) = true := by simpa using c4
    have eR : resCA base l = resC base l := by unfold resCA; rw [if_pos g1]
    rw [eR]
    refine ok_skip (h2 _ ?_)
    refine ok_seq fun K6 h6 => ok_region rfl (q_mv _ rfl (q_mv _ rfl (q_call (f99_ok base l hl hw (of_pB g1)) cl99 rfl rfl (q_as _ rfl (run_nil (h6 _ ?_)))))); clear h6 K6
    exact ok_ret ⟨_, rfl, by rw [eR]; rfl⟩
end Go.Ring
