/- Parts of the proof, laid together: G16 G17 G18 G8 K1 K2. No condition. -/
import Derived.Test.YtanilephcohjkaaGreatSg4
import Derived.Test.YtanilephcohjkaaGreatSg5
import Derived.Test.YtanilephcohjkaaGreatSg3
import Derived.Test.YtanilephcohjkaaGreatSg10
import Derived.Test.YtanilephcohjkaaGreatSg9
/- Tokens in order and owners, as the program reckons them. No condition. -/
namespace Go.Ring
open Go Go.RowKit Go.Eager Go.Abs Go.Proofs
set_option maxRecDepth 100000
set_option linter.unusedVariables false
set_option linter.unusedSimpArgs false

theorem built183 (p q : Int) : Tryz.prog.built 183 [(0, .int .i64 p), (1, .int .i64 q)] = some #[.int .i64 p, .int .i64 q] := by kernel_rfl
theorem rowT_snoc (l : List Tok) (t : Tok) : rowT l ++ [pairSV (t.1, (t.2 : Int))] = rowT (l ++ [t]) := by simp [rowT, toP]
theorem toP_perm {r : Ring} (hg : GoodR r) {ys : List (Int × Int)} (hp : ys.Perm ((tks r).map toP)) (hs : ys.Pairwise fun a b => a.1 ≤ b.1) : ys = (sortT (tks r)).map toP := by
  let back : Int × Int → Tok := fun y => (y.1, y.2.toNat)
  have hb : ∀ t : Tok, back (toP t) = t := fun t => by simp [back, toP]
  have h1 : (ys.map back).Perm (tks r) := by
    have := hp.map back
    rw [List.map_map] at this
    have e : (back ∘ toP) = id := by funext t; exact hb t
    rw [e, List.map_id] at this
    exact this
  have h2 : (ys.map back).map toP = ys := by
    rw [List.map_map]
    conv => rhs; rw [← List.map_id ys]
    apply List.map_congr_left
    intro y hy
    obtain ⟨t, ht, rfl⟩ := List.mem_map.1 (hp.mem_iff.1 hy)
    simp only [Function.comp_apply, hb, id]
  have h3 : (ys.map back).Pairwise fun a b => a.1 ≤ b.1 := by
    rw [List.pairwise_map]; exact hs
  rw [← h2, sortT_eq (tks_distinct hg) h1 h3]
theorem f83_ok (r : Ring) (hr : SRing r) (hg : GoodR r) (h0 : 0 < r.nodes.length) : PFn Tryz.prog 83 [eRing r] (.sl 2 (rowT (sortT (tks r)))) := by
  have hn20 := hg.2.2.1
  refine fnr_ok (n := 34) Tryz.func83 rfl rfl rfl (Nat.le_of_ble_eq_true rfl) rfl fun w0 O => ?_
  refine ok_seq fun K1 h1 => ok_region rfl (q_boxs _ rfl (Nat.zero_lt_succ _) (q_as _ rfl (run_nil (h1 _ ?_))))
  refine ok_seq fun K2 h2 => ok_region rfl (q_an (n := 2) 183 (by decide) rfl rfl rfl (run_nil (h2 _ ?_)))
  refine ok_seq fun K3 h3 => ?_
  refine ok_seq fun K4 h4 => ok_region rfl (q_fa _ fd31_1 rfl rfl (by decide) (q_ld _ ag29 rfl rfl (q_len eS29 rfl (q_mv _ rfl (run_nil (h4 _ ?_))))))
  rw [List.length_map]
  refine ok_block ?_
  refine ok_loop (fun (k : Nat) => ⟨[(3, .own 3), (9, .sv (eRingNodeS r.nodes)), (10, .sv (int r.nodes.length)), (11, .sv (int k))], [(3, .row 2 183 (rowT (pre r k)))]⟩) (fun k => True) (fun k => r.nodes.length - k) 0 trivial (by rw [pre_zero']; exact le_sub ⟨rfl, rfl, rfl, rfl, trivial⟩ ⟨rfl, trivial⟩) (fun k J => ?_)
  refine ok_seq fun K5 h5 => ok_region rfl (q_bin _ _ _ rfl rfl rfl (run_nil (h5 _ ?_)))
  refine ok_seq fun K6 h6 => ?_
  refine ok_cond rfl (fun c7 => ?_) (fun c7 => ?_)
  · have hk : k < r.nodes.length := by simpa using c7
    obtain ⟨u, hu⟩ := sget hk
    have hA := (hg.2.2.2 k u hu).1
    have ht16 := hA.2.2.2.2.1
    have hpl := pre_len_le hg k
    refine ok_skip (h6 _ ?_)
    refine ok_seq fun K8 h8 => ?_
    refine ok_block ?_
    refine ok_seq fun K9 h9 => ok_region rfl (q_mv _ rfl (q_ia el29 rfl rfl (by omega) (mget hu) (q_lds _ ag45 rfl sz45 (q_alloc _ ze45 rfl rfl rfl rfl (q_as _ rfl (q_sts _ rfl rfl rfl sz45 (Nat.le_of_ble_eq_true rfl) rfl (run_nil (h9 _ ?_))))))))
    refine ok_seq fun K10 h10 => ok_region rfl (q_fap fd45_2 rfl (by decide) (q_ldb _ ag40 rfl rfl rfl (q_len eS40 rfl (q_mv _ rfl (run_nil (h10 _ ?_))))))
    rw [List.length_map]
    refine ok_block ?_
    refine ok_loop (fun (j : Nat) => ⟨[(3, .own 3), (4, .sv (int k)), (9, .sv (eRingNodeS r.nodes)), (10, .sv (int r.nodes.length)), (11, .sv (int k)), (17, .sv (ints u.toks)), (18, .sv (int u.toks.length)), (19, .sv (int j))], [(3, .row 2 183 (rowT (pre r k ++ (u.toks.take j).map fun t => (t, k))))]⟩) (fun j => True) (fun j => u.toks.length - j) 0 trivial (by rw [List.take_zero, List.map_nil, List.append_nil]; exact le_sub ⟨rfl, rfl, rfl, rfl, rfl, rfl, rfl, rfl, trivial⟩ ⟨rfl, trivial⟩) (fun j J => ?_)
    refine ok_seq fun K11 h11 => ok_region rfl (q_bin _ _ _ rfl rfl rfl (run_nil (h11 _ ?_)))
    refine ok_seq fun K12 h12 => ?_
    refine ok_cond rfl (fun c13 => ?_) (fun c13 => ?_)
    · have hj : j < u.toks.length := by simpa using c13
      obtain ⟨x, hx⟩ := sget hj
      have hln : (rowT (pre r k ++ (u.toks.take j).map fun t => (t, k))).length ≤ 16 * k + 16 := by
        rw [rowT_len, List.length_append, List.length_map, List.length_take]; omega
      refine ok_skip (h12 _ ?_)
      refine ok_seq fun K14 h14 => ?_
      refine ok_block ?_
      refine ok_seq fun K15 h15 => ok_region rfl (q_ia (s := int x) el40 rfl rfl (by omega) (mget (f := int) hx) (q_ld _ ag3 rfl rfl (q_as _ rfl (run_nil (h15 _ ?_)))))
      refine ok_last fun K16 h16 => ok_region rfl (
        q_mo _ rfl (q_mv _ rfl (q_mv _ rfl (q_bld2 (built183 x k) rfl rfl (q_lit1 _ (pairSV (x, (k : Int))) el117 ze183 (by decide) (by decide) rfl (.inl ⟨_, rfl⟩) rfl (q_app _ el117 ze183 rfl by183 rfl rfl rfl rfl rfl (by simp) (by intro s hs; simp at hs; subst hs; exact .inl ⟨_, rfl⟩) (Nat.le_trans (Nat.add_le_add_right hln 1) (by unfold maxLen; omega)) (Nat.le_trans (Nat.mul_le_mul_right 16 (Nat.add_le_add_right hln 1)) (by omega)) (
        q_ao _ rfl (run_nil (h16 _ (h14 _ ?_))))))))))
      refine ok_last fun K17 h17 => ok_region rfl (
        q_add rfl rfl (by omega) (q_mv _ rfl (run_nil (h17 _ (⟨j + 1, by omega, trivial, ?_⟩)))))
      rw [show (pairSV (x, (k : Int))) = pairSV (((x, k) : Tok).1, ((((x, k) : Tok).2 : Nat) : Int)) from rfl, rowT_snoc, List.take_add_one, hx, Option.toList_some, List.map_append, ← List.append_assoc]
      exact le_rek 3 28 ⟨rfl, rfl, rfl, rfl, rfl, rfl, rfl, rfl, trivial⟩ ⟨rfl, trivial⟩ rfl rfl rfl rfl ⟨rfl, trivial⟩
    · rw [List.take_of_length_le (by simpa using c13), ← pre_snoc hu]
      refine ok_exit (h8 _ ?_)
      refine ok_last fun K18 h18 => ok_region rfl (
        q_add rfl rfl (by omega) (q_mv _ rfl (run_nil (h18 _ (⟨k + 1, by omega, trivial, le_sub ⟨rfl, rfl, rfl, rfl, trivial⟩ ⟨rfl, trivial⟩⟩)))))
  · rw [pre_end (by simpa using c7)]
    have htl := tks_len hg
    have htp := tks_pos hg h0
    refine ok_exit (h3 _ ?_)
    refine ok_seq fun K19 h19 => ok_region rfl (q_mo _ rfl (q_sortp f155_ok cl155 rfl rfl (by rw [List.length_map]; exact htp) (by rw [List.length_map]; omega) (fun ys hp hs => run_nil (h19 _ ?_))))
    rw [toP_perm hg hp hs]
    refine ok_seq fun K20 h20 => ok_region rfl (q_mo _ rfl (q_ao _ rfl (run_nil (h20 _ ?_))))
    exact ok_ret ⟨_, ⟨_, _, rfl, rfl, rfl⟩, rfl⟩
theorem pick_snoc (c : Int) : ∀ (l : List Tok) (t : Tok) (out : List Nat), pickG c (l ++ [t]) out = if ((pickG c l out).length : Int) < c ∧ t.2 ∉ pickG c l out then pickG c l out ++ [t.2] else pickG c l out
  | [], t, out => by
    show (if (out.length : Int) < c ∧ t.2 ∉ out then out ++ [t.2] else out) = if (out.length : Int) < c ∧ t.2 ∉ out then out ++ [t.2] else out
    rfl
  | x :: l, t, out => by
    rw [List.cons_append, pickG, pickG]
    split
    · exact pick_snoc c l t _
    · exact pick_snoc c l t _
theorem pick_len (c : Int) : ∀ (l : List Tok) (out : List Nat), (pickG c l out).length ≤ out.length + l.length
  | [], out => Nat.le_refl _
  | x :: l, out => by
    rw [pickG]
    split
    · have := pick_len c l (out ++ [x.2]); simp only [List.length_append, List.length_cons, List.length_nil] at this ⊢; omega
    · have := pick_len c l out; simp only [List.length_cons]; omega
theorem cast_mem (l : List Nat) (i : Nat) : ((i : Int) ∈ l.map fun (j : Nat) => (j : Int)) ↔ i ∈ l := by
  rw [List.mem_map]
  constructor
  · rintro ⟨j, hj, e⟩
    have : j = i := by omega
    rw [← this]; exact hj
  · intro h; exact ⟨i, h, rfl⟩
theorem intsN_snoc (l : List Nat) (i : Nat) : (l.map fun (j : Nat) => (j : Int)).map int ++ [int (i : Int)] = ((l ++ [i]).map fun (j : Nat) => (j : Int)).map int := by simp
theorem f86_ok (r : Ring) (S : List Tok) (hl1 : S.length ≤ 1048576) (hs : S.Pairwise fun a b => a.1 < b.1) (p : Int) : PFn Tryz.prog 86 [eRing r, .sl 2 (rowT S), int p] (intsN (pickG r.copies (cyc S (lowT p S)) [])) := by
  have hlow := lowT_le p S
  have hcl : (cyc S (lowT p S)).length = S.length := (cyc_perm _ _).length_eq
  refine fnr_ok (n := 50) Tryz.func86 rfl rfl rfl (Nat.le_of_ble_eq_true rfl) rfl fun w0 O => ?_
  refine ok_seq fun K1 h1 => ok_region rfl (q_boxs _ rfl (Nat.zero_lt_succ _) (q_as _ rfl (run_nil (h1 _ ?_))))
  refine ok_seq fun K2 h2 => ok_region rfl (q_mv _ rfl (q_mv _ rfl (q_call (f160_ok S hl1 hs p) cl160 rfl rfl (q_mv _ rfl (q_ext _ rfl rfl (q_ext _ rfl rfl (q_as _ rfl (q_as _ rfl (run_nil (h2 _ ?_))))))))))
  refine ok_seq fun K3 h3 => ok_region rfl (q_an (n := 1) 3 (by decide) rfl rfl rfl (run_nil (h3 _ ?_)))
  refine ok_seq fun K4 h4 => ?_
  refine ok_seq fun K5 h5 => ok_region rfl (q_mv _ rfl (q_len eS117 rfl (q_mv _ rfl (run_nil (h5 _ ?_)))))
  rw [rowT_len]
  refine ok_block ?_
  refine ok_loop (fun (k : Nat) => ⟨[(1, .sv (.sl 2 (rowT S))), (3, .sv (.ptr (eRing r))), (7, .sv (int (lowT p S))), (9, .own 9), (19, .sv (int S.length)), (20, .sv (int k))], [(9, .row 1 3 (((pickG r.copies ((cyc S (lowT p S)).take k) []).map fun (j : Nat) => (j : Int)).map int))]⟩) (fun k => True) (fun k => S.length - k) 0 trivial (le_sub ⟨rfl, rfl, rfl, rfl, rfl, rfl, trivial⟩ ⟨rfl, trivial⟩) (fun k J => ?_)
  refine ok_seq fun K6 h6 => ok_region rfl (q_bin _ _ _ rfl rfl rfl (run_nil (h6 _ ?_)))
  refine ok_seq fun K7 h7 => ?_
  refine ok_cond rfl (fun c8 => ?_) (fun c8 => ?_)
  · have hk : k < S.length := by simpa using c8
    obtain ⟨u, hu⟩ := sget (l := cyc S (lowT p S)) (i := k) (by omega)
    have hu' := hu
    rw [cyc_get hlow hk] at hu'
    have hmod : ((lowT p S : Int) + k) % (S.length : Int) = (((lowT p S + k) % S.length : Nat) : Int) := by rw [Int.natCast_emod, Int.natCast_add]
    have hst : pickG r.copies ((cyc S (lowT p S)).take (k + 1)) [] = if ((pickG r.copies ((cyc S (lowT p S)).take k) []).length : Int) < r.copies ∧ u.2 ∉ pickG r.copies ((cyc S (lowT p S)).take k) [] then pickG r.copies ((cyc S (lowT p S)).take k) [] ++ [u.2] else pickG r.copies ((cyc S (lowT p S)).take k) [] := by
      rw [List.take_add_one, hu, Option.toList_some, pick_snoc]
    have hol := pick_len r.copies ((cyc S (lowT p S)).take k) []
    rw [List.length_take, List.length_nil] at hol
    generalize ho : pickG r.copies ((cyc S (lowT p S)).take k) [] = out at hst hol ⊢
    refine ok_skip (h7 _ ?_)
    refine ok_seq_join (fun (o : List Nat) => ⟨[(1, .sv (.sl 2 (rowT S))), (3, .sv (.ptr (eRing r))), (7, .sv (int (lowT p S))), (9, .own 9), (19, .sv (int S.length)), (20, .sv (int k))], [(9, .row 1 3 ((o.map fun (j : Nat) => (j : Int)).map int))]⟩) (fun o => o = pickG r.copies ((cyc S (lowT p S)).take (k + 1)) []) ?_ (fun o J => ?_)
    · refine ok_block ?_
      refine ok_seq fun K9 h9 => ok_region rfl (q_mv _ rfl (q_as _ rfl (run_nil (h9 _ ?_))))
      refine ok_seq fun K10 h10 => ?_
      refine ok_region rfl (q_mv _ rfl (q_mv _ rfl (q_mv _ rfl (q_add rfl rfl (by omega) (q_mv _ rfl (q_len eS117 rfl (q_mod rfl rfl (by rw [rowT_len]; omega) (q_ia (s := pairSV (toP u)) el117 rfl rfl (by rw [rowT_len, hmod]; omega) (by rw [rowT_len, hmod, Int.toNat_natCast]; exact tget hu') (q_fa _ fd183_1 rfl rfl (by decide) (
        q_ld _ ag3 rfl rfl (q_as _ rfl (run_nil (h10 _ ?_)))))))))))))
      refine ok_seq fun K11 h11 => ?_
      refine ok_region rfl (q_mo _ rfl (q_leno eS40 rfl rfl (q_fa _ fd31_0 rfl rfl (by decide) (q_ld _ ag3 rfl rfl (q_bin _ _ _ rfl rfl rfl (q_mv _ rfl (q_and (b2 := !decide ((u.2 : Int) ∈ out.map fun (j : Nat) => (j : Int))) 4 4 rfl rfl rfl rfl rfl (fun hb43 =>
          q_mo _ rfl (q_mv _ rfl (q_call (f136_ok (out.map fun (j : Nat) => (j : Int)) (by rw [List.length_map]; omega) (u.2 : Int)) cl136 rfl rfl (q_un _ _ rfl rfl (run_nil ⟨rfl, rfl, rfl, rfl⟩))))) (
        run_nil (h11 _ ?_)))))))))
      simp only [List.length_map]
      refine ok_cond rfl (fun c12 => ?_) (fun c12 => ?_)
      · have hc : ((out.length : Int) < r.copies ∧ u.2 ∉ out) := by
          simp only [Bool.and_eq_true, decide_eq_true_eq, Bool.not_eq_true', decide_eq_false_iff_not] at c12
          exact ⟨c12.1, fun h => c12.2 ((cast_mem out u.2).2 h)⟩
        rw [if_pos hc] at hst
        refine ok_last fun K13 h13 => ok_region rfl (
          q_mo _ rfl (q_mv _ rfl (q_lit1 _ (int (u.2 : Int)) el40 ze3 (by decide) (by decide) rfl (.inr rfl) rfl (q_app _ el40 ze3 rfl by3 rfl rfl rfl rfl rfl (by simp) (by intro s hs; simp at hs; subst hs; exact .inr rfl) (by rw [List.length_map, List.length_map]; show _ + 1 ≤ maxLen; unfold maxLen; omega) (by rw [List.length_map, List.length_map]; show (_ + 1) * 8 ≤ _; omega) (
          q_ao _ rfl (run_nil (h13 _ (⟨out ++ [u.2], hst.symm, by rw [← intsN_snoc]; exact le_rek 9 47 ⟨rfl, rfl, rfl, rfl, rfl, rfl, trivial⟩ ⟨rfl, trivial⟩ rfl rfl rfl rfl ⟨rfl, trivial⟩⟩))))))))
      · have hc : ¬ ((out.length : Int) < r.copies ∧ u.2 ∉ out) := by
          simp only [Bool.and_eq_false_iff, decide_eq_false_iff_not, Bool.not_eq_false', decide_eq_true_eq] at c12
          rintro ⟨h1, h2⟩
          rcases c12 with c | c
          · exact c h1
          · exact h2 ((cast_mem out u.2).1 c)
        rw [if_neg hc] at hst
        refine ok_skip (⟨out, hst.symm, le_sub ⟨rfl, rfl, rfl, rfl, rfl, rfl, trivial⟩ ⟨rfl, trivial⟩⟩)
    · rw [J]
      refine ok_last fun K14 h14 => ok_region rfl (
        q_add rfl rfl (by omega) (q_mv _ rfl (run_nil (h14 _ (⟨k + 1, by omega, trivial, le_sub ⟨rfl, rfl, rfl, rfl, rfl, rfl, trivial⟩ ⟨rfl, trivial⟩⟩)))))
  · rw [List.take_of_length_le (by have : ¬ ((k : Int) < S.length) := by simpa using c8
                                   omega)]
    refine ok_exit (h4 _ ?_)
    refine ok_seq fun K15 h15 => ok_region rfl (q_mo _ rfl (q_ao _ rfl (run_nil (h15 _ ?_))))
    exact ok_ret ⟨_, ⟨_, _, rfl, rfl, rfl⟩, rfl⟩

end Go.Ring

/- The reference's owners of a place; what can be read. No condition. -/
namespace Go.Ring
open Go Go.RowKit Go.Eager Go.Abs Go.Proofs
set_option maxRecDepth 100000
set_option linter.unusedVariables false
set_option linter.unusedSimpArgs false

theorem nfold_app (p : Int) (done : List Nat) (l m : List Tok) (h : ∀ t ∈ m, t.2 ∈ done) : nfold p done (l ++ m) = nfold p done l := by
  unfold nfold
  rw [List.foldl_append]
  generalize List.foldl (nstep p done) (-1, 0) l = b
  induction m generalizing b with
  | nil => rfl
  | cons x m ih =>
    rw [List.foldl_cons]
    have e : nstep p done b x = b := by unfold nstep; rw [if_pos (h x List.mem_cons_self)]
    rw [e]
    exact ih (fun t ht => h t (List.mem_cons_of_mem _ ht)) b
theorem f150_ok (r : Ring) (hr : SRing r) (hg : GoodR r) (p : Int) (hp0 : 0 ≤ p) (hp1 : p < 2147483648) (done : List Nat) (hd : done.length ≤ 1048576) : PFn Tryz.prog 150 [eRing r, int p, intsN done] (int (nfold p done (tks r)).1) := by
  have hn20 := hg.2.2.1
  refine fn_ok' (n := 49) Tryz.func150 rfl rfl rfl (Nat.le_of_ble_eq_true rfl) rfl fun w0 O => ?_
  refine ok_seq fun K1 h1 => ok_region rfl (q_boxs _ rfl (Nat.zero_lt_succ _) (q_as _ rfl (run_nil (h1 _ ?_))))
  refine ok_seq fun K2 h2 => ok_region rfl (q_as _ rfl (run_nil (h2 _ ?_)))
  refine ok_seq fun K3 h3 => ok_region rfl (q_as _ rfl (run_nil (h3 _ ?_)))
  refine ok_seq fun K4 h4 => ?_
  refine ok_seq fun K5 h5 => ok_region rfl (q_fa _ fd31_1 rfl rfl (by decide) (q_ld _ ag29 rfl rfl (q_len eS29 rfl (q_mv _ rfl (run_nil (h5 _ ?_))))))
  rw [List.length_map]
  refine ok_block ?_
  refine ok_loop (fun (k : Nat) => ⟨[(1, .sv (int p)), (2, .sv (intsN done)), (7, .sv (int (nfold p done (pre r k)).1)), (8, .sv (int (nfold p done (pre r k)).2)), (15, .sv (eRingNodeS r.nodes)), (16, .sv (int r.nodes.length)), (17, .sv (int k))], []⟩) (fun k => True) (fun k => r.nodes.length - k) 0 trivial (le_same ⟨rfl, rfl, rfl, rfl, rfl, rfl, rfl, trivial⟩) (fun k J => ?_)
  refine ok_seq fun K6 h6 => ok_region rfl (q_bin _ _ _ rfl rfl rfl (run_nil (h6 _ ?_)))
  refine ok_seq fun K7 h7 => ?_
  refine ok_cond rfl (fun c8 => ?_) (fun c8 => ?_)
  · have hk : k < r.nodes.length := by simpa using c8
    obtain ⟨u, hu⟩ := sget hk
    have hN := (hg.2.2.2 k u hu).1
    refine ok_skip (h7 _ ?_)
    refine ok_seq_join (fun (b : Int × Int) => ⟨[(1, .sv (int p)), (2, .sv (intsN done)), (7, .sv (int b.1)), (8, .sv (int b.2)), (15, .sv (eRingNodeS r.nodes)), (16, .sv (int r.nodes.length)), (17, .sv (int k))], []⟩) (fun b => b = nfold p done (pre r (k + 1))) ?_ (fun b J => ?_)
    · refine ok_block ?_
      refine ok_seq fun K9 h9 => ok_region rfl (q_mv _ rfl (q_ia el29 rfl rfl (by omega) (mget hu) (q_lds _ ag45 rfl sz45 (q_alloc _ ze45 rfl rfl rfl rfl (q_as _ rfl (q_sts _ rfl rfl rfl sz45 (Nat.le_of_ble_eq_true rfl) rfl (run_nil (h9 _ ?_))))))))
      refine ok_seq fun K10 h10 => ?_
      refine ok_seq fun K11 h11 => ok_region rfl (q_mv _ rfl (q_mv _ rfl (q_call (f125_ok (done.map fun (j : Nat) => (j : Int)) k (by rw [List.length_map]; exact hd)) cl125 rfl rfl (run_nil (h11 _ ?_)))))
      refine ok_cond rfl (fun c12 => ?_) (fun c12 => ?_)
      · have hin : k ∈ done := (cast_mem done k).1 (of_decide_eq_true c12)
        refine ok_exit (⟨nfold p done (pre r k), (by rw [pre_snoc hu, nfold_app]; intro t ht; obtain ⟨x, _, rfl⟩ := List.mem_map.1 ht; exact hin), le_sub ⟨rfl, rfl, rfl, rfl, rfl, rfl, rfl, trivial⟩ trivial⟩)
      · have hin : k ∉ done := fun h => of_decide_eq_false c12 ((cast_mem done k).2 h)
        refine ok_skip (h10 _ ?_)
        refine ok_seq fun K13 h13 => ok_region rfl (q_fap fd45_2 rfl (by decide) (q_ldb _ ag40 rfl rfl rfl (q_len eS40 rfl (q_mv _ rfl (run_nil (h13 _ ?_))))))
        rw [List.length_map]
        refine ok_block ?_
        refine ok_loop (fun (j : Nat) => ⟨[(1, .sv (int p)), (2, .sv (intsN done)), (7, .sv (int (nfold p done (pre r k ++ (u.toks.take j).map fun t => (t, k))).1)), (8, .sv (int (nfold p done (pre r k ++ (u.toks.take j).map fun t => (t, k))).2)), (9, .sv (int k)), (15, .sv (eRingNodeS r.nodes)), (16, .sv (int r.nodes.length)), (17, .sv (int k)), (26, .sv (ints u.toks)), (27, .sv (int u.toks.length)), (28, .sv (int j))], []⟩) (fun j => True) (fun j => u.toks.length - j) 0 trivial (by rw [List.take_zero, List.map_nil, List.append_nil]; exact le_sub ⟨rfl, rfl, rfl, rfl, rfl, rfl, rfl, rfl, rfl, rfl, rfl, trivial⟩ trivial) (fun j J => ?_)
        refine ok_seq fun K14 h14 => ok_region rfl (q_bin _ _ _ rfl rfl rfl (run_nil (h14 _ ?_)))
        refine ok_seq fun K15 h15 => ?_
        refine ok_cond rfl (fun c16 => ?_) (fun c16 => ?_)
        · have hj : j < u.toks.length := by simpa using c16
          obtain ⟨x, hx⟩ := sget hj
          have hxr := hN.2.2.2.2.2.2 x (smem hx)
          have hstep : nfold p done (pre r k ++ (u.toks.take (j + 1)).map fun t => (t, k)) = nstep p done (nfold p done (pre r k ++ (u.toks.take j).map fun t => (t, k))) (x, k) := by
            rw [List.take_add_one, hx, Option.toList_some, List.map_append, ← List.append_assoc]; exact nfold_snoc _ _ _ _
          have htl : u.toks.length ≤ 16 := hN.2.2.2.2.1
          generalize nfold p done (pre r k ++ (u.toks.take j).map fun t => (t, k)) = b at hstep ⊢
          refine ok_skip (h15 _ ?_)
          refine ok_seq_join (fun (c : Int × Int) => ⟨[(1, .sv (int p)), (2, .sv (intsN done)), (7, .sv (int c.1)), (8, .sv (int c.2)), (9, .sv (int k)), (15, .sv (eRingNodeS r.nodes)), (16, .sv (int r.nodes.length)), (17, .sv (int k)), (26, .sv (ints u.toks)), (27, .sv (int u.toks.length)), (28, .sv (int j))], []⟩) (fun c => c = nstep p done b (x, k)) ?_ (fun c J => ?_)
          · refine ok_block ?_
            refine ok_seq fun K17 h17 => ok_region rfl (q_ia (s := int x) el40 rfl rfl (by omega) (mget (f := int) hx) (q_ld _ ag3 rfl rfl (q_as _ rfl (run_nil (h17 _ ?_)))))
            refine ok_seq fun K18 h18 => ok_region rfl (q_mv _ rfl (q_mv _ rfl (q_sub rfl rfl (by omega) (q_add rfl rfl (by omega) (q_mod rfl rfl (by omega) (q_as _ rfl (run_nil (h18 _ ?_))))))))
            refine ok_seq fun K19 h19 => ?_
            refine ok_region rfl (q_mv _ rfl (q_bin _ _ _ rfl rfl rfl (q_mv _ rfl (q_or 3 3 rfl rfl rfl rfl rfl (fun hb43 =>
                q_mv _ rfl (q_mv _ rfl (q_bin _ _ _ rfl rfl rfl (run_nil ⟨rfl, rfl, rfl, rfl⟩)))) (
              run_nil (h19 _ ?_))))))
            refine ok_cond rfl (fun c20 => ?_) (fun c20 => ?_)
            · have hc : b.1 < 0 ∨ dstI p x < b.2 := by simpa [dstI] using c20
              refine ok_seq fun K21 h21 => ?_
              refine ok_region rfl (q_mv _ rfl (q_as _ rfl (run_nil (h21 _ ?_))))
              refine ok_last fun K22 h22 => ok_region rfl (
                q_mv _ rfl (q_as _ rfl (run_nil (h22 _ (⟨((k : Int), dstI p x), by unfold nstep; rw [if_neg hin, if_pos hc], le_same ⟨rfl, rfl, rfl, rfl, rfl, rfl, rfl, rfl, rfl, rfl, rfl, trivial⟩⟩)))))
            · have hc : ¬ (b.1 < 0 ∨ dstI p x < b.2) := by simpa [dstI] using c20
              refine ok_skip (⟨b, by unfold nstep; rw [if_neg hin, if_neg hc], le_same ⟨rfl, rfl, rfl, rfl, rfl, rfl, rfl, rfl, rfl, rfl, rfl, trivial⟩⟩)
          · rw [J]
            refine ok_last fun K23 h23 => ok_region rfl (
              q_add rfl rfl (by omega) (q_mv _ rfl (run_nil (h23 _ (⟨j + 1, by omega, trivial, by rw [hstep]; exact le_same ⟨rfl, rfl, rfl, rfl, rfl, rfl, rfl, rfl, rfl, rfl, rfl, trivial⟩⟩)))))
        · refine ok_exit (⟨nfold p done (pre r k ++ (u.toks.take j).map fun t => (t, k)), by rw [List.take_of_length_le (by simpa using c16), ← pre_snoc hu], le_sub ⟨rfl, rfl, rfl, rfl, rfl, rfl, rfl, trivial⟩ trivial⟩)
    · rw [J]
      refine ok_last fun K24 h24 => ok_region rfl (
        q_add rfl rfl (by omega) (q_mv _ rfl (run_nil (h24 _ (⟨k + 1, by omega, trivial, le_same ⟨rfl, rfl, rfl, rfl, rfl, rfl, rfl, trivial⟩⟩)))))
  · rw [pre_end (by simpa using c8)]
    refine ok_exit (h4 _ ?_)
    refine ok_seq fun K25 h25 => ok_region rfl (q_mv _ rfl (q_as _ rfl (run_nil (h25 _ ?_))))
    exact ok_ret ⟨_, rfl, rfl⟩
theorem f79_ok (r : Ring) (hr : SRing r) (hg : GoodR r) (p : Int) (hp0 : 0 ≤ p) (hp1 : p < 2147483648) : PFn Tryz.prog 79 [eRing r, int p] (intsN (ownL r p)) := by
  have hc5 := hg.2.1
  refine fnr_ok (n := 23) Tryz.func79 rfl rfl rfl (Nat.le_of_ble_eq_true rfl) rfl fun w0 O => ?_
  refine ok_seq fun K1 h1 => ok_region rfl (q_boxs _ rfl (Nat.zero_lt_succ _) (q_as _ rfl (run_nil (h1 _ ?_))))
  refine ok_seq fun K2 h2 => ok_region rfl (q_an (n := 1) 3 (by decide) rfl rfl rfl (run_nil (h2 _ ?_)))
  refine ok_seq_join (fun (o : List Nat) => ⟨[(5, .own 5)], [(5, .row 1 3 ((o.map fun (j : Nat) => (j : Int)).map int))]⟩) (fun o => o = ownL r p) ?_ (fun o J => ?_)
  · refine ok_block ?_
    refine ok_loop (fun (o : List Nat) => ⟨[(1, .sv (int p)), (2, .sv (.ptr (eRing r))), (5, .own 5)], [(5, .row 1 3 ((o.map fun (j : Nat) => (j : Int)).map int))]⟩) (fun o => pickG r.copies (cyc (sortT (tks r)) (lowT p (sortT (tks r)))) o = ownL r p) (fun o => 5 - o.length) [] rfl (le_sub ⟨rfl, rfl, rfl, trivial⟩ ⟨rfl, trivial⟩) (fun o J => ?_)
    refine ok_seq fun K3 h3 => ?_
    refine ok_seq fun K4 h4 => ok_region rfl (q_mo _ rfl (q_leno eS40 rfl rfl (q_fa _ fd31_0 rfl rfl (by decide) (q_ld _ ag3 rfl rfl (q_bin _ _ _ rfl rfl rfl (run_nil (h4 _ ?_)))))))
    simp only [List.length_map]
    refine ok_cond rfl (fun c5 => ?_) (fun c5 => ?_)
    · have hlt : (o.length : Int) < r.copies := of_decide_eq_true c5
      refine ok_skip (h3 _ ?_)
      refine ok_block ?_
      refine ok_seq fun K6 h6 => ok_region rfl (q_lds _ ag31 rfl sz31 (q_mv _ rfl (q_mo _ rfl (q_call (f150_ok r hr hg p hp0 hp1 o (by omega)) cl150 rfl rfl (q_as _ rfl (run_nil (h6 _ ?_)))))))
      refine ok_seq fun K7 h7 => ?_
      refine ok_seq fun K8 h8 => ok_region rfl (q_mv _ rfl (q_bin _ _ _ rfl rfl rfl (run_nil (h8 _ ?_))))
      rcases next_own hg hp0 hp1 o hlt with ⟨e1, e2⟩ | ⟨i, e1, e2, e3⟩
      · rw [e1]
        refine ok_cond rfl (fun c9 => ?_) (fun c9 => ?_)
        · refine ok_exit (⟨o, (by rw [← J, e2]), le_sub ⟨rfl, trivial⟩ ⟨rfl, trivial⟩⟩)
        · simp at c9
      · rw [e1]
        refine ok_cond rfl (fun c9 => ?_) (fun c9 => ?_)
        · have := of_decide_eq_true c9; omega
        · refine ok_skip (h7 _ ?_)
          refine ok_last fun K10 h10 => ok_region rfl (
            q_mo _ rfl (q_mv _ rfl (q_lit1 _ (int (i : Int)) el40 ze3 (by decide) (by decide) rfl (.inr rfl) rfl (q_app _ el40 ze3 rfl by3 rfl rfl rfl rfl rfl (by simp) (by intro s hs; simp at hs; subst hs; exact .inr rfl) (by rw [List.length_map, List.length_map]; show _ + 1 ≤ maxLen; unfold maxLen; omega) (by rw [List.length_map, List.length_map]; show (_ + 1) * 8 ≤ _; omega) (
            q_ao _ rfl (run_nil (h10 _ (⟨o ++ [i], by simp only [List.length_append, List.length_cons, List.length_nil]; omega, by rw [← e3]; exact J, by rw [← intsN_snoc]; exact le_rek 5 21 ⟨rfl, rfl, rfl, trivial⟩ ⟨rfl, trivial⟩ rfl rfl rfl rfl ⟨rfl, trivial⟩⟩))))))))
    · have hlt : ¬ (o.length : Int) < r.copies := of_decide_eq_false c5
      refine ok_exit (⟨o, (by rw [← J, pick_full _ _ _ hlt]), le_sub ⟨rfl, trivial⟩ ⟨rfl, trivial⟩⟩)
  · rw [J]
    refine ok_seq fun K11 h11 => ?_
    refine ok_region rfl (q_mo _ rfl (q_ao _ rfl (run_nil (h11 _ ?_))))
    exact ok_ret ⟨_, ⟨_, _, rfl, rfl, rfl⟩, rfl⟩
theorem own_len {r : Ring} (hg : GoodR r) (p : Int) : (ownL r p).length ≤ 320 := by
  have h1 := pick_len r.copies (cyc (sortT (tks r)) (lowT p (sortT (tks r)))) []
  have h2 := (cyc_perm (sortT (tks r)) (lowT p (sortT (tks r)))).length_eq
  have h3 := (sortT_perm (tks r)).length_eq
  have h4 := tks_len hg
  unfold ownL
  simp only [List.length_nil] at h1
  omega
end Go.Ring

/- What can be read: the reference, the program, the law. No condition. -/
namespace Go.Ring
open Go Go.RowKit Go.Eager Go.Abs Go.Proofs
set_option maxRecDepth 100000
set_option linter.unusedVariables false
set_option linter.unusedSimpArgs false
end Go.Ring

/- A cluster that is as it should be: the law FnExactGoodCluster, of its plain values. No condition. -/
namespace Go.Ring
open Go Go.RowKit Go.Eager Go.Abs Go.Proofs
set_option maxRecDepth 100000
set_option linter.unusedVariables false
set_option linter.unusedSimpArgs false
def idxF {α : Type} (p : α → Bool) : List α → Nat → Int
  | [], _ => -1
  | x :: l, k => if p x = true then k else idxF p l (k + 1)
theorem idxF_step {α : Type} (p : α → Bool) {l : List α} {k : Nat} {x : α} (h : l[k]? = some x) : idxF p (l.drop k) k = if p x = true then (k : Int) else idxF p (l.drop (k + 1)) (k + 1) := by
  obtain ⟨hlt, he⟩ := List.getElem?_eq_some_iff.1 h
  rw [List.drop_eq_getElem_cons hlt, he]; rfl
theorem idxF_end {α : Type} (p : α → Bool) {l : List α} {k : Nat} (h : l.length ≤ k) : idxF p (l.drop k) k = -1 := by rw [List.drop_of_length_le h]; rfl
theorem idxF_any {α : Type} (p : α → Bool) : ∀ (l : List α) (k : Nat), decide (idxF p l k ≥ 0) = l.any p
  | [], k => by simp [idxF]
  | x :: l, k => by
    unfold idxF
    rw [List.any_cons]
    cases hp : p x
    · simpa using idxF_any p l (k + 1)
    · simp
def ClusterOk (c : Cluster) : Prop := GoodR c.ring ∧ c.data.length = c.ring.nodes.length ∧ ∀ (i : Nat) (x : List Series), c.data[i]? = some x → SeriesOk x
theorem f131_ok (l : List Series) (hl : l.length ≤ 1048576 ∧ ∀ y ∈ l, SSeries y) : PFn Tryz.prog 131 [eSeriesS l] (bool (!pB (SeriesOk l))) := by
  refine fn_ok' (n := 6) Tryz.func131 rfl rfl rfl (Nat.le_of_ble_eq_true rfl) rfl fun w0 O => ?_
  refine ok_seq fun K1 h1 => ok_region rfl (q_as _ rfl (run_nil (h1 _ ?_)))
  refine ok_seq fun K2 h2 => ok_region rfl (q_mv _ rfl (q_call (f89_ok l hl) cl89 rfl rfl (q_un _ _ rfl rfl (q_as _ rfl (run_nil (h2 _ ?_))))))
  refine ok_ret ⟨_, rfl, ?_⟩
  rfl
theorem f197_ok (l : List (List Series)) (hl : l.length ≤ 1048576 ∧ ∀ y ∈ l, y.length ≤ 1048576 ∧ ∀ z ∈ y, SSeries z) : PFn Tryz.prog 197 [eSeriesSS l, fv 131] (int (idxF (fun x => !pB (SeriesOk x)) l 0)) := by
  have hl1 := hl.1
  refine fn_ok' (n := 19) Tryz.func197 rfl rfl rfl (Nat.le_of_ble_eq_true rfl) rfl fun w0 O => ?_
  refine ok_seq fun K1 h1 => ok_region rfl (q_as _ rfl (run_nil (h1 _ ?_)))
  refine ok_seq fun K2 h2 => ?_
  refine ok_seq fun K3 h3 => ok_region rfl (q_mv _ rfl (q_len eS32 rfl (q_mv _ rfl (run_nil (h3 _ ?_)))))
  simp only [List.length_map]
  refine ok_block ?_
  refine ok_loop (fun (k : Nat) => ⟨[(0, .sv (eSeriesSS l)), (1, .sv (fv 131)), (7, .sv (int l.length)), (8, .sv (int k))], []⟩) (fun k => idxF (fun x => !pB (SeriesOk x)) l 0 = idxF (fun x => !pB (SeriesOk x)) (l.drop k) k) (fun k => l.length - k) 0 rfl (le_same ⟨rfl, rfl, rfl, rfl, trivial⟩) (fun k J => ?_)
  refine ok_seq fun K4 h4 => ok_region rfl (q_bin _ _ _ rfl rfl rfl (run_nil (h4 _ ?_)))
  refine ok_seq fun K5 h5 => ?_
  refine ok_cond rfl (fun c6 => ?_) (fun c6 => ?_)
  · refine ok_skip (h5 _ ?_)
    have hk : k < l.length := by simpa using c6
    obtain ⟨u, hu⟩ := sget hk
    rw [idxF_step _ hu] at J
    refine ok_seq fun K7 h7 => ?_
    refine ok_block ?_
    refine ok_seq fun K8 h8 => ok_region rfl (q_mv _ rfl (q_as _ rfl (run_nil (h8 _ ?_))))
    refine ok_seq fun K9 h9 => ok_region rfl (q_mv _ rfl (q_mv _ rfl (q_mv _ rfl (q_ia el32 rfl rfl (by omega) (mget hu) (q_ld _ ag63 rfl rfl (q_callv (f131_ok u (hl.2 u (smem hu))) cl131 rfl rfl rfl (run_nil (h9 _ ?_))))))))
    refine ok_cond rfl (fun c10 => ?_) (fun c10 => ?_)
    · refine ok_seq fun K11 h11 => ?_
      refine ok_region rfl (q_mv _ rfl (q_as _ rfl (run_nil (h11 _ ?_))))
      refine ok_ret ⟨_, rfl, ?_⟩
      rw [if_pos c10] at J
      rw [J]; rfl
    · refine ok_skip (h7 _ ?_)
      refine ok_region rfl (q_add rfl rfl (by omega) (q_mv _ rfl (run_nil (⟨k + 1, by omega, by rw [if_neg (by rw [c10]; simp)] at J; exact J, le_same ⟨rfl, rfl, rfl, rfl, trivial⟩⟩))))
  · refine ok_exit (h2 _ ?_)
    refine ok_seq fun K12 h12 => ok_region rfl (q_as _ rfl (run_nil (h12 _ ?_)))
    refine ok_ret ⟨_, rfl, ?_⟩
    rw [idxF_end _ (by simpa using c6)] at J
    rw [J]; rfl
theorem f130_ok (l : List (List Series)) (hl : l.length ≤ 1048576 ∧ ∀ y ∈ l, y.length ≤ 1048576 ∧ ∀ z ∈ y, SSeries z) : PFn Tryz.prog 130 [eSeriesSS l, fv 131] (bool (l.any fun x => !pB (SeriesOk x))) := by
  refine fn_ok' (n := 9) Tryz.func130 rfl rfl rfl (Nat.le_of_ble_eq_true rfl) rfl fun w0 O => ?_
  refine ok_seq fun K1 h1 => ok_region rfl (q_as _ rfl (run_nil (h1 _ ?_)))
  refine ok_seq fun K2 h2 => ok_region rfl (q_mv _ rfl (q_mv _ rfl (q_call (f197_ok l hl) cl197 rfl rfl (q_bin _ _ _ rfl rfl rfl (q_as _ rfl (run_nil (h2 _ ?_)))))))
  refine ok_ret ⟨_, rfl, ?_⟩
  rw [← idxF_any _ l 0]; rfl
theorem f43_ok (c : Cluster) (hc : SCluster c) : PFn Tryz.prog 43 [eCluster c] (bool (pB (ClusterOk c))) := by
  obtain ⟨hc1, hc2, hc3⟩ := hc
  refine fn_ok' (n := 30) Tryz.func43 rfl rfl rfl (Nat.le_of_ble_eq_true rfl) rfl fun w0 O => ?_
  refine ok_seq fun K1 h1 => ok_region rfl (q_boxs _ rfl (Nat.zero_lt_succ _) (q_as _ rfl (run_nil (h1 _ ?_))))
  refine ok_seq fun K2 h2 => ?_
  refine ok_seq fun K3 h3 => ?_
  refine ok_region rfl (q_fas fd34_0 rfl (by decide) (Nat.le_of_ble_eq_true rfl) rfl (q_lds _ ag31 rfl sz31 (q_call (f68_ok c.ring hc1) cl68 rfl rfl (q_un _ _ rfl rfl (q_mv _ rfl (q_or 8 8 rfl rfl rfl rfl rfl (fun hb18 =>
      q_fa _ fd34_1 rfl rfl (by decide) (q_ld _ ag32 rfl rfl (q_len eS32 rfl (q_fas fd34_0 rfl (by decide) (Nat.le_of_ble_eq_true rfl) rfl (q_fa _ fd31_1 rfl rfl (by decide) (
      q_ld _ ag29 rfl rfl (q_len eS29 rfl (q_bin _ _ _ rfl rfl rfl (run_nil ⟨rfl, rfl, rfl, rfl⟩))))))))) (
    run_nil (h3 _ ?_))))))))
  simp only [List.length_map]
  refine ok_cond rfl (fun c4 => ?_) (fun c4 => ?_)
  · refine ok_seq fun K5 h5 => ?_
    refine ok_region rfl (q_as _ rfl (run_nil (h5 _ ?_)))
    refine ok_ret ⟨_, rfl, ?_⟩
    rw [pB_false]; · rfl
    rintro ⟨d1, d2, d3⟩
    rw [pB_true d1, d2] at c4
    simp at c4
  · refine ok_skip (h2 _ ?_)
    simp only [Bool.or_eq_false_iff, Bool.not_eq_false', decide_eq_false_iff_not] at c4
    refine ok_seq fun K6 h6 => ?_
    refine ok_seq fun K7 h7 => ok_region rfl (q_fa _ fd34_1 rfl rfl (by decide) (q_ld _ ag32 rfl rfl (q_len eS32 rfl (q_mv _ rfl (run_nil (h7 _ ?_))))))
    simp only [List.length_map]
    refine ok_block ?_
    refine ok_loop (fun (k : Nat) => ⟨[(20, .sv (eSeriesSS c.data)), (21, .sv (int c.data.length)), (22, .sv (int k))], []⟩) (fun k => ∀ i y, i < k → c.data[i]? = some y → SeriesOk y) (fun k => c.data.length - k) 0 (fun i y h => by omega) (le_same ⟨rfl, rfl, rfl, trivial⟩) (fun k J => ?_)
    refine ok_seq fun K8 h8 => ok_region rfl (q_bin _ _ _ rfl rfl rfl (run_nil (h8 _ ?_)))
    refine ok_seq fun K9 h9 => ?_
    refine ok_cond rfl (fun c10 => ?_) (fun c10 => ?_)
    · refine ok_skip (h9 _ ?_)
      have hk : k < c.data.length := by simpa using c10
      obtain ⟨u, hu⟩ := sget hk
      refine ok_seq fun K11 h11 => ?_
      refine ok_block ?_
      refine ok_seq fun K12 h12 => ok_region rfl (q_ia el32 rfl rfl (by omega) (mget hu) (q_ld _ ag63 rfl rfl (q_as _ rfl (run_nil (h12 _ ?_)))))
      refine ok_seq fun K13 h13 => ok_region rfl (q_mv _ rfl (q_call (f96_ok u (hc3 u (smem hu))) cl96 rfl rfl (q_un _ _ rfl rfl (run_nil (h13 _ ?_)))))
      refine ok_cond rfl (fun c14 => ?_) (fun c14 => ?_)
      · refine ok_seq fun K15 h15 => ?_
        refine ok_region rfl (q_as _ rfl (run_nil (h15 _ ?_)))
        refine ok_ret ⟨_, rfl, ?_⟩
        rw [pB_false]; · rfl
        rintro ⟨_, _, d3⟩
        rw [pB_true (d3 k u hu)] at c14
        simp at c14
      · refine ok_skip (h11 _ ?_)
        refine ok_region rfl (q_add rfl rfl (by omega) (q_mv _ rfl (run_nil (⟨k + 1, by omega, ?_, le_same ⟨rfl, rfl, rfl, trivial⟩⟩))))
        exact at_step (P := fun _ y => SeriesOk y) J hu (of_pB (by simpa using c14))
    · refine ok_exit (h6 _ ?_)
      refine ok_seq fun K16 h16 => ok_region rfl (q_as _ rfl (run_nil (h16 _ ?_)))
      refine ok_ret ⟨_, rfl, ?_⟩
      rw [pB_true ⟨of_pB c4.1, by omega, at_all (P := fun _ y => SeriesOk y) J (by simpa using c10)⟩]; rfl
theorem f56_ok (c : Cluster) (hc : SCluster c) : PFn Tryz.prog 56 [eCluster c] (bool (pB (ClusterOk c))) := by
  obtain ⟨hc1, hc2, hc3⟩ := hc
  refine fn_ok' (n := 22) Tryz.func56 rfl rfl rfl (Nat.le_of_ble_eq_true rfl) rfl fun w0 O => ?_
  refine ok_seq fun K1 h1 => ok_region rfl (q_boxs _ rfl (Nat.zero_lt_succ _) (q_as _ rfl (run_nil (h1 _ ?_))))
  refine ok_seq fun K2 h2 => ?_
  refine ok_region rfl (q_fas fd34_0 rfl (by decide) (Nat.le_of_ble_eq_true rfl) rfl (q_lds _ ag31 rfl sz31 (q_call (f129_ok c.ring hc1) cl129 rfl rfl (q_mv _ rfl (q_and 8 8 rfl rfl rfl rfl rfl (fun hb15 =>
      q_fa _ fd34_1 rfl rfl (by decide) (q_ld _ ag32 rfl rfl (q_len eS32 rfl (q_fas fd34_0 rfl (by decide) (Nat.le_of_ble_eq_true rfl) rfl (q_fa _ fd31_1 rfl rfl (by decide) (
      q_ld _ ag29 rfl rfl (q_len eS29 rfl (q_bin _ _ _ rfl rfl rfl (run_nil ⟨rfl, rfl, rfl, rfl⟩))))))))) (
    q_mv _ rfl (q_and 4 4 rfl rfl rfl rfl rfl (fun hb21 =>
      q_fa _ fd34_1 rfl rfl (by decide) (q_ld _ ag32 rfl rfl (q_call (f130_ok c.data ⟨hc2, hc3⟩) cl130 rfl rfl (q_un _ _ rfl rfl (run_nil ⟨rfl, rfl, rfl, rfl⟩))))) (
    q_as _ rfl (run_nil (h2 _ ?_))))))))))
  refine ok_ret ⟨_, rfl, ?_⟩
  simp only [tupSV, List.length_map]
  rw [show ((pB (GoodR c.ring) && decide ((c.data.length : Int) = c.ring.nodes.length)) && !(c.data.any fun x => !pB (SeriesOk x))) = pB (ClusterOk c) by
    rw [Bool.eq_iff_iff]
    simp only [Bool.and_eq_true, decide_eq_true_eq, Bool.not_eq_true', List.any_eq_false, Bool.not_eq_true, Bool.not_eq_false']
    constructor
    · rintro ⟨⟨d1, d2⟩, d3⟩
      exact pB_true ⟨of_pB d1, by omega, fun i x hx => of_pB (by simpa using d3 x (smem hx))⟩
    · intro h
      obtain ⟨d1, d2, d3⟩ := of_pB h
      refine ⟨⟨pB_true d1, by omega⟩, fun x hx => ?_⟩
      obtain ⟨i, hi⟩ := List.getElem?_of_mem hx
      simp [pB_true (d3 i x hi)]]
end Go.Ring

/- All that a cluster's nodes have, joined; how a cluster is read. No condition beyond the sizes. -/
set_option maxRecDepth 100000
set_option linter.unusedVariables false
set_option linter.unusedSimpArgs false
namespace Go.Ring
open Go Go.RowKit Go.Eager Go.Abs Go.Proofs
def upsL : List RingNode → List (List Series) → List (List Series)
  | n :: ns, d :: ds => if n.st ≠ 2 then d :: upsL ns ds else upsL ns ds
  | _, _ => []
theorem upsL_step : ∀ {ns : List RingNode} {ds : List (List Series)} {k : Nat} {n : RingNode} {d : List Series}, ns[k]? = some n → ds[k]? = some d → upsL ns (ds.take (k + 1)) = upsL ns (ds.take k) ++ (if n.st ≠ 2 then [d] else [])
  | [], _, k, n, d, h, _ => by simp at h
  | _ :: _, [], k, n, d, _, h => by simp at h
  | m :: ns, e :: ds, 0, n, d, h1, h2 => by
    simp only [List.getElem?_cons_zero, Option.some.injEq] at h1 h2
    subst h1; subst h2
    simp only [List.take_succ_cons, List.take_zero, upsL]
    split <;> rfl
  | m :: ns, e :: ds, k + 1, n, d, h1, h2 => by
    have ih := upsL_step (ns := ns) (ds := ds) (k := k) (n := n) (d := d) (by simpa using h1) (by simpa using h2)
    rw [List.take_succ_cons, List.take_succ_cons]
    simp only [upsL]
    rw [ih]
    by_cases c : m.st ≠ 2
    · rw [if_pos c, if_pos c, List.cons_append]
    · rw [if_neg c, if_neg c]
theorem upsL_nil (ns : List RingNode) : upsL ns [] = [] := by cases ns <;> rfl
theorem upsL_mem : ∀ {ns : List RingNode} {ds : List (List Series)} {x : List Series}, x ∈ upsL ns ds → x ∈ ds
  | [], _, x, h => by simp [upsL] at h
  | _ :: _, [], x, h => by simp [upsL] at h
  | m :: ns, e :: ds, x, h => by
    simp only [upsL] at h
    split at h
    · rcases List.mem_cons.1 h with rfl | h
      · exact List.mem_cons_self ..
      · exact List.mem_cons_of_mem _ (upsL_mem h)
    · exact List.mem_cons_of_mem _ (upsL_mem h)
theorem upsL_sum (c : List Series → Nat) : ∀ (ns : List RingNode) (ds : List (List Series)), sumF c (upsL ns ds) ≤ sumF c ds
  | [], ds => by simp [upsL, sumF]
  | _ :: _, [] => by simp [upsL, sumF]
  | m :: ns, e :: ds => by
    have ih := upsL_sum c ns ds
    simp only [upsL]
    split <;> simp only [sumF] <;> omega
theorem jnAll_snoc (ls : List (List Series)) (d a : List Series) : jnAll (ls ++ [d]) a = jn (jnAll ls a) d := by
  unfold jnAll; rw [List.foldl_append]; rfl
structure DatOk (ds : List (List Series)) : Prop where
  n : ∀ d ∈ ds, Nice d
  w : sumF wt ds ≤ 1048576
  l : ∀ d ∈ ds, ∀ s ∈ d, LabelsOk s.labels
theorem nice_of {l : List Series} (h : SeriesOk l) (hs : ∀ y ∈ l, SSeries y) : Nice l := ⟨ser_srt h, ser_sm h, ss_lb hs⟩
theorem zSeriesSS_gw (l : List (List Series)) : GW (zSeriesSS l) (sumF wt l) := gw_le (szSl_gw zSeriesS_gw l) (by omega)
theorem zLabelS_nn (x : List Int) : GW (zIntS x) 0 := gw_le (take_gw x.length) (Nat.zero_le _)
theorem zRingNode_gw (x : RingNode) : GW (zRingNode x) 0 := gw_le (stp_gw (take_gw x.id.size) (zLabelS_nn x.toks)) (Nat.zero_le _)
theorem zRing_gw (x : Ring) : GW (zRing x) 0 := gw_le (szSl_gw zRingNode_gw x.nodes) (Nat.zero_le _)
theorem zCluster_wt {c : Cluster} {n : Int} (h : 0 ≤ zCluster c n) (hn : n ≤ 1048576) : sumF wt c.data ≤ 1048576 := by
  have h1 := (stp_gw (zRing_gw c.ring) (zSeriesSS_gw c.data)) n (by exact h)
  have h2 : zCluster c n = stp (zRing c.ring) (zSeriesSS c.data) n := rfl
  omega
theorem datOk {c : Cluster} (hc : SCluster c) (hw : sumF wt c.data ≤ 1048576) (hk : ClusterOk c) : DatOk c.data := by
  have ok : ∀ d ∈ c.data, SeriesOk d := fun d hd => by
    obtain ⟨i, hi⟩ := List.getElem?_of_mem hd
    exact hk.2.2 i d hi
  exact ⟨fun d hd => nice_of (ok d hd) (hc.2.2 d hd).2, hw, fun d hd s hs => ((ser_iff.1 (ok d hd)).2.1 s hs).1⟩
theorem jn_lab {P : List Label → Prop} : ∀ {b a : List Series}, (∀ s ∈ a, P s.labels) → (∀ s ∈ b, P s.labels) → ∀ s ∈ jn a b, P s.labels
  | [], a, ha, _ => ha
  | u :: b, a, ha, hb => by
    refine jn_lab (b := b) (a := insJ a u) (fun s hs => ?_) fun s hs => hb s (List.mem_cons_of_mem _ hs)
    rcases insJ_mem hs with hs | rfl | ⟨x, hx, rfl, _⟩
    · exact ha s hs
    · exact hb _ (List.mem_cons_self ..)
    · exact ha x hx
theorem jnAll_lab {P : List Label → Prop} : ∀ {ls : List (List Series)} {a : List Series}, (∀ s ∈ a, P s.labels) → (∀ l ∈ ls, ∀ s ∈ l, P s.labels) → ∀ s ∈ jnAll ls a, P s.labels
  | [], a, ha, _ => ha
  | l :: ls, a, ha, h => jnAll_lab (ls := ls) (a := jn a l) (jn_lab ha (h l (List.mem_cons_self ..))) fun x hx => h x (List.mem_cons_of_mem _ hx)
def allU (ns : List RingNode) (ds : List (List Series)) : List Series := jnAll (upsL ns ds) []
theorem allU_inv {ns : List RingNode} {ds : List (List Series)} (h : DatOk ds) : Nice (allU ns ds) ∧ wt (allU ns ds) ≤ 1048576 ∧ ∀ s ∈ allU ns ds, LabelsOk s.labels := by
  have h1 := fun l (hl : l ∈ upsL ns ds) => h.n l (upsL_mem hl)
  refine ⟨jnAll_nice nice_nil h1, ?_, jnAll_lab (fun s hs => by simp at hs) fun l hl => h.l l (upsL_mem hl)⟩
  have := jnAll_wt (ls := upsL ns ds) nice_nil h1
  have h2 := upsL_sum wt ns ds
  have h3 := h.w
  unfold allU
  simp only [wt] at this
  omega
theorem datOk_take {ds : List (List Series)} (h : DatOk ds) (k : Nat) : DatOk (ds.take k) :=
  ⟨fun d hd => h.n d (List.mem_of_mem_take hd), Nat.le_trans (sumF_take_le wt ds k) h.w, fun d hd => h.l d (List.mem_of_mem_take hd)⟩
theorem allU_at {ns : List RingNode} {ds : List (List Series)} (h : DatOk ds) {k : Nat} {n : RingNode} {d : List Series} (hn : ns[k]? = some n) (hd : ds[k]? = some d) :
    allU ns (ds.take (k + 1)) = (if n.st ≠ 2 then jn (allU ns (ds.take k)) d else allU ns (ds.take k)) ∧ Nice (allU ns (ds.take k)) ∧ Nice d ∧ wt (allU ns (ds.take k)) + wt d ≤ 1048576 := by
  have h1 := fun l (hl : l ∈ upsL ns (ds.take k)) => (datOk_take h k).n l (upsL_mem hl)
  refine ⟨?_, (allU_inv (datOk_take h k)).1, h.n d (smem hd), ?_⟩
  · unfold allU
    rw [upsL_step hn hd]
    split
    · rw [jnAll_snoc]
    · rw [List.append_nil]
  · have h2 := jnAll_wt (ls := upsL ns (ds.take k)) nice_nil h1
    have h3 := upsL_sum wt ns (ds.take k)
    have h4 := sumF_take wt hd
    have h5 := sumF_take_le wt ds (k + 1)
    have h6 := h.w
    unfold allU
    simp only [wt] at h2
    omega
theorem f126_ok (a b : List Series) (na : Nice a) (nb : Nice b) (hw : Room a b) : PFn Tryz.prog 126 [eSeriesS a, eSeriesS b] (eSeriesS (jn a b)) := PFnR.toP (f126_t a b na nb hw)
theorem f95_ok (c : Cluster) (hc : SCluster c) (hl : c.data.length = c.ring.nodes.length) (hd : DatOk c.data) : PFn Tryz.prog 95 [eCluster c] (eSeriesS (allU c.ring.nodes c.data)) := by
  refine fn_ok' (n := 27) Tryz.func95 rfl rfl rfl (Nat.le_of_ble_eq_true rfl) rfl fun w0 O => ?_
  have hcl := hc.2.1
  refine ok_seq fun K1 h1 => ok_region rfl (q_boxs _ rfl (Nat.zero_lt_succ _) (q_as _ rfl (run_nil (h1 _ ?_))))
  refine ok_seq fun K2 h2 => ok_region rfl (q_as _ rfl (run_nil (h2 _ ?_)))
  refine Ok.le (le_nil 2 3 rfl) ?_
  refine ok_seq fun K3 h3 => ?_
  refine ok_seq fun K4 h4 => ok_region rfl (q_fa _ fd34_1 rfl rfl (by decide) (q_ld _ ag32 rfl rfl (q_len eS32 rfl (q_mv _ rfl (run_nil (h4 _ ?_))))))
  rw [List.length_map]
  refine ok_block ?_
  refine ok_loop (fun (k : Nat) => ⟨[(1, .sv (.ptr (eCluster c))), (3, .sv (eSeriesS (allU c.ring.nodes (c.data.take k)))), (7, .sv (eSeriesSS c.data)), (8, .sv (int c.data.length)), (9, .sv (int k))], []⟩) (fun k => True) (fun k => c.data.length - k) 0 trivial (le_same ⟨rfl, (by rw [List.take_zero]; unfold allU; rw [upsL_nil]; rfl), rfl, rfl, rfl, trivial⟩) (fun k J => ?_)
  refine ok_seq fun K5 h5 => ok_region rfl (q_bin _ _ _ rfl rfl rfl (run_nil (h5 _ ?_)))
  refine ok_seq fun K6 h6 => ?_
  refine ok_cond rfl (fun c7 => ?_) (fun c7 => ?_)
  · refine ok_skip (h6 _ ?_)
    have hkk : k < c.data.length := by simpa using c7
    obtain ⟨d, hdk⟩ := sget hkk
    obtain ⟨n, hn⟩ := sget (l := c.ring.nodes) (i := k) (by omega)
    obtain ⟨e1, e2, e3, e4⟩ := allU_at hd hn hdk
    refine ok_seq_join (fun (L : List Series) => ⟨[(1, .sv (.ptr (eCluster c))), (3, .sv (eSeriesS L)), (7, .sv (eSeriesSS c.data)), (8, .sv (int c.data.length)), (9, .sv (int k))], []⟩) (fun L => L = allU c.ring.nodes (c.data.take (k + 1))) ?_ (fun L hL => ?_)
    · refine ok_block ?_
      refine ok_seq fun K8 h8 => ok_region rfl (q_mv _ rfl (q_ia el32 rfl rfl (by omega) (mget hdk) (q_ld _ ag63 rfl rfl (q_as _ rfl (q_as _ rfl (run_nil (h8 _ ?_)))))))
      refine ok_seq fun K9 h9 => ok_region rfl (q_fas fd34_0 rfl (by decide) (Nat.le_of_ble_eq_true rfl) rfl (q_fa _ fd31_1 rfl rfl (by decide) (q_ld _ ag29 rfl rfl (q_mv _ rfl (q_ia el29 rfl rfl (by omega) (mget (f := eRingNode) hn) (q_fa _ fd45_1 rfl rfl (by decide) (q_ld (int n.st) ag3 rfl rfl (q_bin _ _ _ rfl rfl rfl (run_nil (h9 _ ?_))))))))))
      refine ok_cond rfl (fun c10 => ?_) (fun c10 => ?_)
      · have hst : n.st ≠ 2 := by simpa using c10
        rw [if_pos hst] at e1
        refine ok_last fun K11 h11 => ok_region rfl (q_mv _ rfl (q_mv _ rfl (q_call (f126_ok _ _ e2 e3 (room_wt e4)) cl126 rfl rfl (q_as _ rfl (run_nil (h11 _ ⟨_, e1.symm, le_sub ⟨rfl, rfl, rfl, rfl, rfl, trivial⟩ trivial⟩))))))
      · have hst : ¬ n.st ≠ 2 := by simpa using c10
        rw [if_neg hst] at e1
        exact ok_skip ⟨_, e1.symm, le_sub ⟨rfl, rfl, rfl, rfl, rfl, trivial⟩ trivial⟩
    · subst hL
      refine ok_last fun K14 h14 => ok_region rfl (q_add rfl rfl (by omega) (q_mv _ rfl (run_nil (h14 _ ⟨k + 1, by omega, trivial, le_sub ⟨rfl, rfl, rfl, rfl, rfl, trivial⟩ trivial⟩))))
  · rw [List.take_of_length_le (by have : ¬ ((k : Int) < c.data.length) := by simpa using c7
                                   omega)]
    refine ok_exit (h3 _ ?_)
    refine ok_seq fun K15 h15 => ok_region rfl (q_mv _ rfl (q_as _ rfl (run_nil (h15 _ ?_))))
    exact ok_ret ⟨_, rfl, rfl⟩
end Go.Ring

/- How a cluster is read: the program. No condition beyond the sizes. -/
set_option maxRecDepth 100000
set_option linter.unusedVariables false
set_option linter.unusedSimpArgs false
namespace Go.Ring
open Go Go.RowKit Go.Eager Go.Abs Go.Proofs
end Go.Ring
