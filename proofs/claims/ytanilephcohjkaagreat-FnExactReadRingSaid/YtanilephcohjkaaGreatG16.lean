/- Tokens in order and owners, as the program reckons them. No condition. -/
import Derived.Test.YtanilephcohjkaaGreatG15
namespace Go.Ring
open Go Go.RowKit Go.Eager Go.Abs Go.Proofs
set_option maxRecDepth 100000
set_option linter.unusedVariables false
set_option linter.unusedSimpArgs false

theorem built183 (p q : Int) : Tryz.prog.built 183 [(0, .int .i64 p), (1, .int .i64 q)] = some #[.int .i64 p, .int .i64 q] := by kernel_rfl
theorem rowT_snoc (l : List Tok) (t : Tok) : rowT l ++ [pairSV (t.1, (t.2 : Int))] = rowT (l ++ [t]) := by simp [rowT, toP]
theorem toP_perm {r : Ring} (hg : GoodR r) {ys : List (Int × Int)} (hp : ys.Perm ((tks r).map toP)) (hs : ys.Pairwise fun a b => a.1 ≤ b.1) : ys = (sortT (tks r)).map toP := by
  let back : Int × Int → Tok := fun y => (y.1, y.2.toNat)
  have hb : ∀ t : Tok, back (toP t) = t := fun t => by simp [back, toP]
  have h1 : (ys.map back).Perm (tks r) := by
    have := hp.map back
    rw [List.map_map] at this
    have e : (back ∘ toP) = id := by funext t; exact hb t
    rw [e, List.map_id] at this
    exact this
  have h2 : (ys.map back).map toP = ys := by
    rw [List.map_map]
    conv => rhs; rw [← List.map_id ys]
    apply List.map_congr_left
    intro y hy
    obtain ⟨t, ht, rfl⟩ := List.mem_map.1 (hp.mem_iff.1 hy)
    simp only [Function.comp_apply, hb, id]
  have h3 : (ys.map back).Pairwise fun a b => a.1 ≤ b.1 := by
    rw [List.pairwise_map]; exact hs
  rw [← h2, sortT_eq (tks_distinct hg) h1 h3]
theorem f83_ok (r : Ring) (hr : SRing r) (hg : GoodR r) (h0 : 0 < r.nodes.length) : PFn Tryz.prog 83 [eRing r] (.sl 2 (rowT (sortT (tks r)))) := by
  have hn20 := hg.2.2.1
  refine fnr_ok (n := 34) Tryz.func83 rfl rfl rfl (Nat.le_of_ble_eq_true rfl) rfl fun w0 O => ?_
  refine ok_seq fun K1 h1 => ok_region rfl (q_boxs _ rfl (Nat.zero_lt_succ _) (q_as _ rfl (run_nil (h1 _ ?_)))); clear h1 K1
  refine ok_seq fun K2 h2 => ok_region rfl (q_an (n := 2) 183 (by decide) rfl rfl rfl (run_nil (h2 _ ?_))); clear h2 K2
  refine ok_seq fun K3 h3 => ?_
  refine ok_seq fun K4 h4 => ok_region rfl (q_fa _ fd31_1 rfl rfl (by decide) (q_ld _ ag29 rfl rfl (q_len eS29 rfl (q_mv _ rfl (run_nil (h4 _ ?_)))))); clear h4 K4
  rw [List.length_map]
  refine ok_block ?_
  refine ok_loop (fun (k : Nat) => ⟨[(3, .own 3), (9, .sv (eRingNodeS r.nodes)), (10, .sv (int r.nodes.length)), (11, .sv (int k))], [(3, .row 2 183 (rowT (pre r k)))]⟩) (fun k => True) (fun k => r.nodes.length - k) 0 trivial (by rw [pre_zero']; exact le_sub ⟨rfl, rfl, rfl, rfl, trivial⟩ ⟨rfl, trivial⟩) (fun k J => ?_)
  refine ok_seq fun K5 h5 => ok_region rfl (q_bin _ _ _ rfl rfl rfl (run_nil (h5 _ ?_))); clear h5 K5
  refine ok_seq fun K6 h6 => ?_
  refine ok_cond rfl (fun c7 => ?_) (fun c7 => ?_)
  · have hk : k < r.nodes.length := by simpa using c7
    obtain ⟨u, hu⟩ := sget hk
    have hA := (hg.2.2.2 k u hu).1
    have ht16 := hA.2.2.2.2.1
    have hpl := pre_len_le hg k
    refine ok_skip (h6 _ ?_)
    refine ok_seq fun K8 h8 => ?_
    refine ok_block ?_
    refine ok_seq fun K9 h9 => ok_region rfl (q_mv _ rfl (q_ia el29 rfl rfl (by omega) (mget hu) (q_lds _ ag45 rfl sz45 (q_alloc _ ze45 rfl rfl rfl rfl (q_as _ rfl (q_sts _ rfl rfl rfl sz45 (Nat.le_of_ble_eq_true rfl) rfl (run_nil (h9 _ ?_)))))))); clear h9 K9
    refine ok_seq fun K10 h10 => ok_region rfl (q_fap fd45_2 rfl (by decide) (q_ldb _ ag40 rfl rfl rfl (q_len eS40 rfl (q_mv _ rfl (run_nil (h10 _ ?_)))))); clear h10 K10
    rw [List.length_map]
    refine ok_block ?_
    refine ok_loop (fun (j : Nat) => ⟨[(3, .own 3), (4, .sv (int k)), (9, .sv (eRingNodeS r.nodes)), (10, .sv (int r.nodes.length)), (11, .sv (int k)), (17, .sv (ints u.toks)), (18, .sv (int u.toks.length)), (19, .sv (int j))], [(3, .row 2 183 (rowT (pre r k ++ (u.toks.take j).map fun t => (t, k))))]⟩) (fun j => True) (fun j => u.toks.length - j) 0 trivial (by rw [List.take_zero, List.map_nil, List.append_nil]; exact le_sub ⟨rfl, rfl, rfl, rfl, rfl, rfl, rfl, rfl, trivial⟩ ⟨rfl, trivial⟩) (fun j J => ?_)
    refine ok_seq fun K11 h11 => ok_region rfl (q_bin _ _ _ rfl rfl rfl (run_nil (h11 _ ?_))); clear h11 K11
    refine ok_seq fun K12 h12 => ?_
    refine ok_cond rfl (fun c13 => ?_) (fun c13 => ?_)
    · have hj : j < u.toks.length := by simpa using c13
      obtain ⟨x, hx⟩ := sget hj
      have hln : (rowT (pre r k ++ (u.toks.take j).map fun t => (t, k))).length ≤ 16 * k + 16 := by
        rw [rowT_len, List.length_append, List.length_map, List.length_take]; omega
      refine ok_skip (h12 _ ?_)
      refine ok_seq fun K14 h14 => ?_
      refine ok_block ?_
      refine ok_seq fun K15 h15 => ok_region rfl (q_ia (s := int x) el40 rfl rfl (by omega) (mget (f := int) hx) (q_ld _ ag3 rfl rfl (q_as _ rfl (run_nil (h15 _ ?_))))); clear h15 K15
      refine ok_last fun K16 h16 => ok_region rfl (
        q_mo _ rfl (q_mv _ rfl (q_mv _ rfl (q_bld2 (built183 x k) rfl rfl (q_lit1 _ (pairSV (x, (k : Int))) el117 ze183 (by decide) (by decide) rfl (.inl ⟨_, rfl⟩) rfl (q_app _ el117 ze183 rfl by183 rfl rfl rfl rfl rfl (by simp) (by intro s hs; simp at hs; subst hs; exact .inl ⟨_, rfl⟩) (Nat.le_trans (Nat.add_le_add_right hln 1) (by unfold maxLen; omega)) (Nat.le_trans (Nat.mul_le_mul_right 16 (Nat.add_le_add_right hln 1)) (by omega)) (
        q_ao _ rfl (run_nil (h16 _ (h14 _ ?_))))))))))
      refine ok_last fun K17 h17 => ok_region rfl (
        q_add rfl rfl (by omega) (q_mv _ rfl (run_nil (h17 _ (⟨j + 1, by omega, trivial, ?_⟩)))))
      rw [show (pairSV (x, (k : Int))) = pairSV (((x, k) : Tok).1, ((((x, k) : Tok).2 : Nat) : Int)) from rfl, rowT_snoc, List.take_add_one, hx, Option.toList_some, List.map_append, ← List.append_assoc]
      exact le_rek 3 28 ⟨rfl, rfl, rfl, rfl, rfl, rfl, rfl, rfl, trivial⟩ ⟨rfl, trivial⟩ rfl rfl rfl rfl ⟨rfl, trivial⟩
    · rw [List.take_of_length_le (by simpa using c13), ← pre_snoc hu]
      refine ok_exit (h8 _ ?_)
      refine ok_last fun K18 h18 => ok_region rfl (
        q_add rfl rfl (by omega) (q_mv _ rfl (run_nil (h18 _ (⟨k + 1, by omega, trivial, le_sub ⟨rfl, rfl, rfl, rfl, trivial⟩ ⟨rfl, trivial⟩⟩)))))
  · rw [pre_end (by simpa using c7)]
    have htl := tks_len hg
    have htp := tks_pos hg h0
    refine ok_exit (h3 _ ?_)
    refine ok_seq fun K19 h19 => ok_region rfl (q_mo _ rfl (q_sortp f155_ok cl155 rfl rfl (by rw [List.length_map]; exact htp) (by rw [List.length_map]; omega) (fun ys hp hs => run_nil (h19 _ ?_)))); clear h19 K19
    rw [toP_perm hg hp hs]
    refine ok_seq fun K20 h20 => ok_region rfl (q_mo _ rfl (q_ao _ rfl (run_nil (h20 _ ?_)))); clear h20 K20
    exact ok_ret ⟨_, ⟨_, _, rfl, rfl, rfl⟩, rfl⟩
theorem pick_snoc (c : Int) : ∀ (l : List Tok) (t : Tok) (out : List Nat), pickG c (l ++ [t]) out = if ((pickG c l out).length : Int) < c ∧ t.2 ∉ pickG c l out then pickG c l out ++ [t.2] else pickG c l out
  | [], t, out => by
    show (if (out.length : Int) < c ∧ t.2 ∉ out then out ++ [t.2] else out) = if (out.length : Int) < c ∧ t.2 ∉ out then out ++ [t.2] else out
    rfl
  | x :: l, t, out => by
    rw [List.cons_append, pickG, pickG]
    split
    · exact pick_snoc c l t _
    · exact pick_snoc c l t _
theorem pick_len (c : Int) : ∀ (l : List Tok) (out : List Nat), (pickG c l out).length ≤ out.length + l.length
  | [], out => Nat.le_refl _
  | x :: l, out => by
    rw [pickG]
    split
    · have := pick_len c l (out ++ [x.2]); simp only [List.length_append, List.length_cons, List.length_nil] at this ⊢; omega
    · have := pick_len c l out; simp only [List.length_cons]; omega
theorem pick_mem (c : Int) : ∀ (l : List Tok) (out : List Nat) (i : Nat), i ∈ pickG c l out → i ∈ out ∨ ∃ t ∈ l, t.2 = i
  | [], out, i, h => .inl h
  | x :: l, out, i, h => by
    rw [pickG] at h
    split at h
    · rcases pick_mem c l _ i h with h | ⟨t, ht, e⟩
      · rcases List.mem_append.1 h with h | h
        · exact .inl h
        · simp at h; exact .inr ⟨x, List.mem_cons_self, h.symm⟩
      · exact .inr ⟨t, List.mem_cons_of_mem _ ht, e⟩
    · rcases pick_mem c l _ i h with h | ⟨t, ht, e⟩
      · exact .inl h
      · exact .inr ⟨t, List.mem_cons_of_mem _ ht, e⟩
theorem cast_mem (l : List Nat) (i : Nat) : ((i : Int) ∈ l.map fun (j : Nat) => (j : Int)) ↔ i ∈ l := by
  rw [List.mem_map]
  constructor
  · rintro ⟨j, hj, e⟩
    have : j = i := by omega
    rw [← this]; exact hj
  · intro h; exact ⟨i, h, rfl⟩
theorem intsN_snoc (l : List Nat) (i : Nat) : (l.map fun (j : Nat) => (j : Int)).map int ++ [int (i : Int)] = ((l ++ [i]).map fun (j : Nat) => (j : Int)).map int := by simp
theorem f86_ok (r : Ring) (S : List Tok) (hl1 : S.length ≤ 1048576) (hs : S.Pairwise fun a b => a.1 < b.1) (p : Int) : PFn Tryz.prog 86 [eRing r, .sl 2 (rowT S), int p] (intsN (pickG r.copies (cyc S (lowT p S)) [])) := by
  have hlow := lowT_le p S
  have hcl : (cyc S (lowT p S)).length = S.length := (cyc_perm _ _).length_eq
  refine fnr_ok (n := 50) Tryz.func86 rfl rfl rfl (Nat.le_of_ble_eq_true rfl) rfl fun w0 O => ?_
  refine ok_seq fun K1 h1 => ok_region rfl (q_boxs _ rfl (Nat.zero_lt_succ _) (q_as _ rfl (run_nil (h1 _ ?_)))); clear h1 K1
  refine ok_seq fun K2 h2 => ok_region rfl (q_mv _ rfl (q_mv _ rfl (q_call (f160_ok S hl1 hs p) cl160 rfl rfl (q_mv _ rfl (q_ext _ rfl rfl (q_ext _ rfl rfl (q_as _ rfl (q_as _ rfl (run_nil (h2 _ ?_)))))))))); clear h2 K2
  refine ok_seq fun K3 h3 => ok_region rfl (q_an (n := 1) 3 (by decide) rfl rfl rfl (run_nil (h3 _ ?_))); clear h3 K3
  refine ok_seq fun K4 h4 => ?_
  refine ok_seq fun K5 h5 => ok_region rfl (q_mv _ rfl (q_len eS117 rfl (q_mv _ rfl (run_nil (h5 _ ?_))))); clear h5 K5
  rw [rowT_len]
  refine ok_block ?_
  refine ok_loop (fun (k : Nat) => ⟨[(1, .sv (.sl 2 (rowT S))), (3, .sv (.ptr (eRing r))), (7, .sv (int (lowT p S))), (9, .own 9), (19, .sv (int S.length)), (20, .sv (int k))], [(9, .row 1 3 (((pickG r.copies ((cyc S (lowT p S)).take k) []).map fun (j : Nat) => (j : Int)).map int))]⟩) (fun k => True) (fun k => S.length - k) 0 trivial (le_sub ⟨rfl, rfl, rfl, rfl, rfl, rfl, trivial⟩ ⟨rfl, trivial⟩) (fun k J => ?_)
  refine ok_seq fun K6 h6 => ok_region rfl (q_bin _ _ _ rfl rfl rfl (run_nil (h6 _ ?_))); clear h6 K6
  refine ok_seq fun K7 h7 => ?_
  refine ok_cond rfl (fun c8 => ?_) (fun c8 => ?_)
  · have hk : k < S.length := by simpa using c8
    obtain ⟨u, hu⟩ := sget (l := cyc S (lowT p S)) (i := k) (by omega)
    have hu' := hu
    rw [cyc_get hlow hk] at hu'
    have hmod : ((lowT p S : Int) + k) % (S.length : Int) = (((lowT p S + k) % S.length : Nat) : Int) := by rw [Int.natCast_emod, Int.natCast_add]
    have hst : pickG r.copies ((cyc S (lowT p S)).take (k + 1)) [] = if ((pickG r.copies ((cyc S (lowT p S)).take k) []).length : Int) < r.copies ∧ u.2 ∉ pickG r.copies ((cyc S (lowT p S)).take k) [] then pickG r.copies ((cyc S (lowT p S)).take k) [] ++ [u.2] else pickG r.copies ((cyc S (lowT p S)).take k) [] := by
      rw [List.take_add_one, hu, Option.toList_some, pick_snoc]
    have hol := pick_len r.copies ((cyc S (lowT p S)).take k) []
    rw [List.length_take, List.length_nil] at hol
    generalize ho : pickG r.copies ((cyc S (lowT p S)).take k) [] = out at hst hol ⊢
    refine ok_skip (h7 _ ?_)
    refine ok_seq_join (fun (o : List Nat) => ⟨[(1, .sv (.sl 2 (rowT S))), (3, .sv (.ptr (eRing r))), (7, .sv (int (lowT p S))), (9, .own 9), (19, .sv (int S.length)), (20, .sv (int k))], [(9, .row 1 3 ((o.map fun (j : Nat) => (j : Int)).map int))]⟩) (fun o => o = pickG r.copies ((cyc S (lowT p S)).take (k + 1)) []) ?_ (fun o J => ?_)
    · refine ok_block ?_
      refine ok_seq fun K9 h9 => ok_region rfl (q_mv _ rfl (q_as _ rfl (run_nil (h9 _ ?_)))); clear h9 K9
      refine ok_seq fun K10 h10 => ?_
      refine ok_region rfl (q_mv _ rfl (q_mv _ rfl (q_mv _ rfl (q_add rfl rfl (by omega) (q_mv _ rfl (q_len eS117 rfl (q_mod rfl rfl (by rw [rowT_len]; omega) (q_ia (s := pairSV (toP u)) el117 rfl rfl (by rw [rowT_len, hmod]; omega) (by rw [rowT_len, hmod, Int.toNat_natCast]; exact tget hu') (q_fa _ fd183_1 rfl rfl (by decide) (
        q_ld _ ag3 rfl rfl (q_as _ rfl (run_nil (h10 _ ?_)))))))))))))
      clear h10 K10
      refine ok_seq fun K11 h11 => ?_
      refine ok_region rfl (q_mo _ rfl (q_leno eS40 rfl rfl (q_fa _ fd31_0 rfl rfl (by decide) (q_ld _ ag3 rfl rfl (q_bin _ _ _ rfl rfl rfl (q_mv _ rfl (q_and (b2 := !decide ((u.2 : Int) ∈ out.map fun (j : Nat) => (j : Int))) 4 4 rfl rfl rfl rfl rfl (fun hb43 =>
          q_mo _ rfl (q_mv _ rfl (q_call (f136_ok (out.map fun (j : Nat) => (j : Int)) (by rw [List.length_map]; omega) (u.2 : Int)) cl136 rfl rfl (q_un _ _ rfl rfl (run_nil ⟨rfl, rfl, rfl, rfl⟩))))) (
        run_nil (h11 _ ?_)))))))))
      clear h11 K11
      simp only [List.length_map]
      refine ok_cond rfl (fun c12 => ?_) (fun c12 => ?_)
      · have hc : ((out.length : Int) < r.copies ∧ u.2 ∉ out) := by
          simp only [Bool.and_eq_true, decide_eq_true_eq, Bool.not_eq_true', decide_eq_false_iff_not] at c12
          exact ⟨c12.1, fun h => c12.2 ((cast_mem out u.2).2 h)⟩
        rw [if_pos hc] at hst
        refine ok_last fun K13 h13 => ok_region rfl (
          q_mo _ rfl (q_mv _ rfl (q_lit1 _ (int (u.2 : Int)) el40 ze3 (by decide) (by decide) rfl (.inr rfl) rfl (q_app _ el40 ze3 rfl by3 rfl rfl rfl rfl rfl (by simp) (by intro s hs; simp at hs; subst hs; exact .inr rfl) (by rw [List.length_map, List.length_map]; show _ + 1 ≤ maxLen; unfold maxLen; omega) (by rw [List.length_map, List.length_map]; show (_ + 1) * 8 ≤ _; omega) (
          q_ao _ rfl (run_nil (h13 _ (⟨out ++ [u.2], hst.symm, by rw [← intsN_snoc]; exact le_rek 9 47 ⟨rfl, rfl, rfl, rfl, rfl, rfl, trivial⟩ ⟨rfl, trivial⟩ rfl rfl rfl rfl ⟨rfl, trivial⟩⟩))))))))
      · have hc : ¬ ((out.length : Int) < r.copies ∧ u.2 ∉ out) := by
          simp only [Bool.and_eq_false_iff, decide_eq_false_iff_not, Bool.not_eq_false', decide_eq_true_eq] at c12
          rintro ⟨h1, h2⟩
          rcases c12 with c | c
          · exact c h1
          · exact h2 ((cast_mem out u.2).1 c)
        rw [if_neg hc] at hst
        refine ok_skip (⟨out, hst.symm, le_sub ⟨rfl, rfl, rfl, rfl, rfl, rfl, trivial⟩ ⟨rfl, trivial⟩⟩)
    · rw [J]
      refine ok_last fun K14 h14 => ok_region rfl (
        q_add rfl rfl (by omega) (q_mv _ rfl (run_nil (h14 _ (⟨k + 1, by omega, trivial, le_sub ⟨rfl, rfl, rfl, rfl, rfl, rfl, trivial⟩ ⟨rfl, trivial⟩⟩)))))
  · rw [List.take_of_length_le (by have : ¬ ((k : Int) < S.length) := by simpa using c8
                                   omega)]
    refine ok_exit (h4 _ ?_)
    refine ok_seq fun K15 h15 => ok_region rfl (q_mo _ rfl (q_ao _ rfl (run_nil (h15 _ ?_)))); clear h15 K15
    exact ok_ret ⟨_, ⟨_, _, rfl, rfl, rfl⟩, rfl⟩

end Go.Ring
