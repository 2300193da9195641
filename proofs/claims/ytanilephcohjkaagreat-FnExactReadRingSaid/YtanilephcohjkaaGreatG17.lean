/- The reference's owners of a place; what can be read. No condition. -/
import Derived.Test.YtanilephcohjkaaGreatG16
namespace Go.Ring
open Go Go.RowKit Go.Eager Go.Abs Go.Proofs
set_option maxRecDepth 100000
set_option linter.unusedVariables false
set_option linter.unusedSimpArgs false

theorem nfold_app (p : Int) (done : List Nat) (l m : List Tok) (h : ∀ t ∈ m, t.2 ∈ done) : nfold p done (l ++ m) = nfold p done l := by
  unfold nfold
  rw [List.foldl_append]
  generalize List.foldl (nstep p done) (-1, 0) l = b
  induction m generalizing b with
  | nil => rfl
  | cons x m ih =>
    rw [List.foldl_cons]
    have e : nstep p done b x = b := by unfold nstep; rw [if_pos (h x List.mem_cons_self)]
    rw [e]
    exact ih (fun t ht => h t (List.mem_cons_of_mem _ ht)) b
theorem f150_ok (r : Ring) (hr : SRing r) (hg : GoodR r) (p : Int) (hp0 : 0 ≤ p) (hp1 : p < 2147483648) (done : List Nat) (hd : done.length ≤ 1048576) : PFn Tryz.prog 150 [eRing r, int p, intsN done] (int (nfold p done (tks r)).1) := by
  have hn20 := hg.2.2.1
  refine fn_ok' (n := 49) Tryz.func150 rfl rfl rfl (Nat.le_of_ble_eq_true rfl) rfl fun w0 O => ?_
  refine ok_seq fun K1 h1 => ok_region rfl (q_boxs _ rfl (Nat.zero_lt_succ _) (q_as _ rfl (run_nil (h1 _ ?_)))); clear h1 K1
  refine ok_seq fun K2 h2 => ok_region rfl (q_as _ rfl (run_nil (h2 _ ?_))); clear h2 K2
  refine ok_seq fun K3 h3 => ok_region rfl (q_as _ rfl (run_nil (h3 _ ?_))); clear h3 K3
  refine ok_seq fun K4 h4 => ?_
  refine ok_seq fun K5 h5 => ok_region rfl (q_fa _ fd31_1 rfl rfl (by decide) (q_ld _ ag29 rfl rfl (q_len eS29 rfl (q_mv _ rfl (run_nil (h5 _ ?_)))))); clear h5 K5
  rw [List.length_map]
  refine ok_block ?_
  refine ok_loop (fun (k : Nat) => ⟨[(1, .sv (int p)), (2, .sv (intsN done)), (7, .sv (int (nfold p done (pre r k)).1)), (8, .sv (int (nfold p done (pre r k)).2)), (15, .sv (eRingNodeS r.nodes)), (16, .sv (int r.nodes.length)), (17, .sv (int k))], []⟩) (fun k => True) (fun k => r.nodes.length - k) 0 trivial (le_same ⟨rfl, rfl, rfl, rfl, rfl, rfl, rfl, trivial⟩) (fun k J => ?_)
  refine ok_seq fun K6 h6 => ok_region rfl (q_bin _ _ _ rfl rfl rfl (run_nil (h6 _ ?_))); clear h6 K6
  refine ok_seq fun K7 h7 => ?_
  refine ok_cond rfl (fun c8 => ?_) (fun c8 => ?_)
  · have hk : k < r.nodes.length := by simpa using c8
    obtain ⟨u, hu⟩ := sget hk
    have hN := (hg.2.2.2 k u hu).1
    refine ok_skip (h7 _ ?_)
    refine ok_seq_join (fun (b : Int × Int) => ⟨[(1, .sv (int p)), (2, .sv (intsN done)), (7, .sv (int b.1)), (8, .sv (int b.2)), (15, .sv (eRingNodeS r.nodes)), (16, .sv (int r.nodes.length)), (17, .sv (int k))], []⟩) (fun b => b = nfold p done (pre r (k + 1))) ?_ (fun b J => ?_)
    · refine ok_block ?_
      refine ok_seq fun K9 h9 => ok_region rfl (q_mv _ rfl (q_ia el29 rfl rfl (by omega) (mget hu) (q_lds _ ag45 rfl sz45 (q_alloc _ ze45 rfl rfl rfl rfl (q_as _ rfl (q_sts _ rfl rfl rfl sz45 (Nat.le_of_ble_eq_true rfl) rfl (run_nil (h9 _ ?_)))))))); clear h9 K9
      refine ok_seq fun K10 h10 => ?_
      refine ok_seq fun K11 h11 => ok_region rfl (q_mv _ rfl (q_mv _ rfl (q_call (f125_ok (done.map fun (j : Nat) => (j : Int)) k (by rw [List.length_map]; exact hd)) cl125 rfl rfl (run_nil (h11 _ ?_))))); clear h11 K11
      refine ok_cond rfl (fun c12 => ?_) (fun c12 => ?_)
      · have hin : k ∈ done := (cast_mem done k).1 (of_decide_eq_true c12)
        refine ok_exit (⟨nfold p done (pre r k), (by rw [pre_snoc hu, nfold_app]; intro t ht; obtain ⟨x, _, rfl⟩ := List.mem_map.1 ht; exact hin), le_sub ⟨rfl, rfl, rfl, rfl, rfl, rfl, rfl, trivial⟩ trivial⟩)
      · have hin : k ∉ done := fun h => of_decide_eq_false c12 ((cast_mem done k).2 h)
        refine ok_skip (h10 _ ?_)
        refine ok_seq fun K13 h13 => ok_region rfl (q_fap fd45_2 rfl (by decide) (q_ldb _ ag40 rfl rfl rfl (q_len eS40 rfl (q_mv _ rfl (run_nil (h13 _ ?_)))))); clear h13 K13
        rw [List.length_map]
        refine ok_block ?_
        refine ok_loop (fun (j : Nat) => ⟨[(1, .sv (int p)), (2, .sv (intsN done)), (7, .sv (int (nfold p done (pre r k ++ (u.toks.take j).map fun t => (t, k))).1)), (8, .sv (int (nfold p done (pre r k ++ (u.toks.take j).map fun t => (t, k))).2)), (9, .sv (int k)), (15, .sv (eRingNodeS r.nodes)), (16, .sv (int r.nodes.length)), (17, .sv (int k)), (26, .sv (ints u.toks)), (27, .sv (int u.toks.length)), (28, .sv (int j))], []⟩) (fun j => True) (fun j => u.toks.length - j) 0 trivial (by rw [List.take_zero, List.map_nil, List.append_nil]; exact le_sub ⟨rfl, rfl, rfl, rfl, rfl, rfl, rfl, rfl, rfl, rfl, rfl, trivial⟩ trivial) (fun j J => ?_)
        refine ok_seq fun K14 h14 => ok_region rfl (q_bin _ _ _ rfl rfl rfl (run_nil (h14 _ ?_))); clear h14 K14
        refine ok_seq fun K15 h15 => ?_
        refine ok_cond rfl (fun c16 => ?_) (fun c16 => ?_)
        · have hj : j < u.toks.length := by simpa using c16
          obtain ⟨x, hx⟩ := sget hj
          have hxr := hN.2.2.2.2.2.2 x (smem hx)
          have hstep : nfold p done (pre r k ++ (u.toks.take (j + 1)).map fun t => (t, k)) = nstep p done (nfold p done (pre r k ++ (u.toks.take j).map fun t => (t, k))) (x, k) := by
            rw [List.take_add_one, hx, Option.toList_some, List.map_append, ← List.append_assoc]; exact nfold_snoc _ _ _ _
          have htl : u.toks.length ≤ 16 := hN.2.2.2.2.1
          generalize nfold p done (pre r k ++ (u.toks.take j).map fun t => (t, k)) = b at hstep ⊢
          refine ok_skip (h15 _ ?_)
          refine ok_seq_join (fun (c : Int × Int) => ⟨[(1, .sv (int p)), (2, .sv (intsN done)), (7, .sv (int c.1)), (8, .sv (int c.2)), (9, .sv (int k)), (15, .sv (eRingNodeS r.nodes)), (16, .sv (int r.nodes.length)), (17, .sv (int k)), (26, .sv (ints u.toks)), (27, .sv (int u.toks.length)), (28, .sv (int j))], []⟩) (fun c => c = nstep p done b (x, k)) ?_ (fun c J => ?_)
          · refine ok_block ?_
            refine ok_seq fun K17 h17 => ok_region rfl (q_ia (s := int x) el40 rfl rfl (by omega) (mget (f := int) hx) (q_ld _ ag3 rfl rfl (q_as _ rfl (run_nil (h17 _ ?_))))); clear h17 K17
            refine ok_seq fun K18 h18 => ok_region rfl (q_mv _ rfl (q_mv _ rfl (q_sub rfl rfl (by omega) (q_add rfl rfl (by omega) (q_mod rfl rfl (by omega) (q_as _ rfl (run_nil (h18 _ ?_)))))))); clear h18 K18
            refine ok_seq fun K19 h19 => ?_
            refine ok_region rfl (q_mv _ rfl (q_bin _ _ _ rfl rfl rfl (q_mv _ rfl (q_or 3 3 rfl rfl rfl rfl rfl (fun hb43 =>
                q_mv _ rfl (q_mv _ rfl (q_bin _ _ _ rfl rfl rfl (run_nil ⟨rfl, rfl, rfl, rfl⟩)))) (
              run_nil (h19 _ ?_))))))
            clear h19 K19
            refine ok_cond rfl (fun c20 => ?_) (fun c20 => ?_)
            · have hc : b.1 < 0 ∨ dstI p x < b.2 := by simpa [dstI] using c20
              refine ok_seq fun K21 h21 => ?_
              refine ok_region rfl (q_mv _ rfl (q_as _ rfl (run_nil (h21 _ ?_))))
              clear h21 K21
              refine ok_last fun K22 h22 => ok_region rfl (
                q_mv _ rfl (q_as _ rfl (run_nil (h22 _ (⟨((k : Int), dstI p x), by unfold nstep; rw [if_neg hin, if_pos hc], le_same ⟨rfl, rfl, rfl, rfl, rfl, rfl, rfl, rfl, rfl, rfl, rfl, trivial⟩⟩)))))
            · have hc : ¬ (b.1 < 0 ∨ dstI p x < b.2) := by simpa [dstI] using c20
              refine ok_skip (⟨b, by unfold nstep; rw [if_neg hin, if_neg hc], le_same ⟨rfl, rfl, rfl, rfl, rfl, rfl, rfl, rfl, rfl, rfl, rfl, trivial⟩⟩)
          · rw [J]
            refine ok_last fun K23 h23 => ok_region rfl (
              q_add rfl rfl (by omega) (q_mv _ rfl (run_nil (h23 _ (⟨j + 1, by omega, trivial, by rw [hstep]; exact le_same ⟨rfl, rfl, rfl, rfl, rfl, rfl, rfl, rfl, rfl, rfl, rfl, trivial⟩⟩)))))
        · refine ok_exit (⟨nfold p done (pre r k ++ (u.toks.take j).map fun t => (t, k)), by rw [List.take_of_length_le (by simpa using c16), ← pre_snoc hu], le_sub ⟨rfl, rfl, rfl, rfl, rfl, rfl, rfl, trivial⟩ trivial⟩)
    · rw [J]
      refine ok_last fun K24 h24 => ok_region rfl (
        q_add rfl rfl (by omega) (q_mv _ rfl (run_nil (h24 _ (⟨k + 1, by omega, trivial, le_same ⟨rfl, rfl, rfl, rfl, rfl, rfl, rfl, trivial⟩⟩)))))
  · rw [pre_end (by simpa using c8)]
    refine ok_exit (h4 _ ?_)
    refine ok_seq fun K25 h25 => ok_region rfl (q_mv _ rfl (q_as _ rfl (run_nil (h25 _ ?_)))); clear h25 K25
    exact ok_ret ⟨_, rfl, rfl⟩
theorem f79_ok (r : Ring) (hr : SRing r) (hg : GoodR r) (p : Int) (hp0 : 0 ≤ p) (hp1 : p < 2147483648) : PFn Tryz.prog 79 [eRing r, int p] (intsN (ownL r p)) := by
  have hc5 := hg.2.1
  refine fnr_ok (n := 23) Tryz.func79 rfl rfl rfl (Nat.le_of_ble_eq_true rfl) rfl fun w0 O => ?_
  refine ok_seq fun K1 h1 => ok_region rfl (q_boxs _ rfl (Nat.zero_lt_succ _) (q_as _ rfl (run_nil (h1 _ ?_)))); clear h1 K1
  refine ok_seq fun K2 h2 => ok_region rfl (q_an (n := 1) 3 (by decide) rfl rfl rfl (run_nil (h2 _ ?_))); clear h2 K2
  refine ok_seq_join (fun (o : List Nat) => ⟨[(5, .own 5)], [(5, .row 1 3 ((o.map fun (j : Nat) => (j : Int)).map int))]⟩) (fun o => o = ownL r p) ?_ (fun o J => ?_)
  · refine ok_block ?_
    refine ok_loop (fun (o : List Nat) => ⟨[(1, .sv (int p)), (2, .sv (.ptr (eRing r))), (5, .own 5)], [(5, .row 1 3 ((o.map fun (j : Nat) => (j : Int)).map int))]⟩) (fun o => pickG r.copies (cyc (sortT (tks r)) (lowT p (sortT (tks r)))) o = ownL r p) (fun o => 5 - o.length) [] rfl (le_sub ⟨rfl, rfl, rfl, trivial⟩ ⟨rfl, trivial⟩) (fun o J => ?_)
    refine ok_seq fun K3 h3 => ?_
    refine ok_seq fun K4 h4 => ok_region rfl (q_mo _ rfl (q_leno eS40 rfl rfl (q_fa _ fd31_0 rfl rfl (by decide) (q_ld _ ag3 rfl rfl (q_bin _ _ _ rfl rfl rfl (run_nil (h4 _ ?_))))))); clear h4 K4
    simp only [List.length_map]
    refine ok_cond rfl (fun c5 => ?_) (fun c5 => ?_)
    · have hlt : (o.length : Int) < r.copies := of_decide_eq_true c5
      refine ok_skip (h3 _ ?_)
      refine ok_block ?_
      refine ok_seq fun K6 h6 => ok_region rfl (q_lds _ ag31 rfl sz31 (q_mv _ rfl (q_mo _ rfl (q_call (f150_ok r hr hg p hp0 hp1 o (by omega)) cl150 rfl rfl (q_as _ rfl (run_nil (h6 _ ?_))))))); clear h6 K6
      refine ok_seq fun K7 h7 => ?_
      refine ok_seq fun K8 h8 => ok_region rfl (q_mv _ rfl (q_bin _ _ _ rfl rfl rfl (run_nil (h8 _ ?_)))); clear h8 K8
      rcases next_own hg hp0 hp1 o hlt with ⟨e1, e2⟩ | ⟨i, e1, e2, e3⟩
      · rw [e1]
        refine ok_cond rfl (fun c9 => ?_) (fun c9 => ?_)
        · refine ok_exit (⟨o, (by rw [← J, e2]), le_sub ⟨rfl, trivial⟩ ⟨rfl, trivial⟩⟩)
        · simp at c9
      · rw [e1]
        refine ok_cond rfl (fun c9 => ?_) (fun c9 => ?_)
        · have := of_decide_eq_true c9; omega
        · refine ok_skip (h7 _ ?_)
          refine ok_last fun K10 h10 => ok_region rfl (
            q_mo _ rfl (q_mv _ rfl (q_lit1 _ (int (i : Int)) el40 ze3 (by decide) (by decide) rfl (.inr rfl) rfl (q_app _ el40 ze3 rfl by3 rfl rfl rfl rfl rfl (by simp) (by intro s hs; simp at hs; subst hs; exact .inr rfl) (by rw [List.length_map, List.length_map]; show _ + 1 ≤ maxLen; unfold maxLen; omega) (by rw [List.length_map, List.length_map]; show (_ + 1) * 8 ≤ _; omega) (
            q_ao _ rfl (run_nil (h10 _ (⟨o ++ [i], by simp only [List.length_append, List.length_cons, List.length_nil]; omega, by rw [← e3]; exact J, by rw [← intsN_snoc]; exact le_rek 5 21 ⟨rfl, rfl, rfl, trivial⟩ ⟨rfl, trivial⟩ rfl rfl rfl rfl ⟨rfl, trivial⟩⟩))))))))
    · have hlt : ¬ (o.length : Int) < r.copies := of_decide_eq_false c5
      refine ok_exit (⟨o, (by rw [← J, pick_full _ _ _ hlt]), le_sub ⟨rfl, trivial⟩ ⟨rfl, trivial⟩⟩)
  · rw [J]
    refine ok_seq fun K11 h11 => ?_
    refine ok_region rfl (q_mo _ rfl (q_ao _ rfl (run_nil (h11 _ ?_))))
    clear h11 K11
    exact ok_ret ⟨_, ⟨_, _, rfl, rfl, rfl⟩, rfl⟩
theorem f116_ok (r : Ring) (hg : GoodR r) : PFn Tryz.prog 116 [eRing r] (int (r.copies / 2 + 1)) := by
  have c1 := hg.1
  have c2 := hg.2.1
  refine fn_ok' (n := 7) Tryz.func116 rfl rfl rfl (Nat.le_of_ble_eq_true rfl) rfl fun w0 O => ?_
  refine ok_seq fun K1 h1 => ok_region rfl (q_boxs _ rfl (Nat.zero_lt_succ _) (q_as _ rfl (run_nil (h1 _ ?_)))); clear h1 K1
  refine ok_seq fun K2 h2 => ok_region rfl (q_fa _ fd31_0 rfl rfl (by decide) (q_ld _ ag3 rfl rfl (q_div rfl rfl (by omega) (q_add rfl rfl (by omega) (q_as _ rfl (run_nil (h2 _ ?_))))))); clear h2 K2
  exact ok_ret ⟨_, rfl, rfl⟩
/-- How many of some nodes are not down. -/
def upL (r : Ring) : List Nat → Int
  | [] => 0
  | i :: l => (if ((r.nodes[i]?).map (·.st)) = some 2 then 0 else 1) + upL r l
def upK (r : Ring) (l : List Nat) (k : Nat) : Int := upL r (l.take k)
theorem upL_snoc (r : Ring) : ∀ (l : List Nat) (i : Nat), upL r (l ++ [i]) = upL r l + (if ((r.nodes[i]?).map (·.st)) = some 2 then 0 else 1)
  | [], i => by simp [upL]
  | x :: l, i => by rw [List.cons_append, upL, upL, upL_snoc r l i]; omega
theorem upK_step {r : Ring} {l : List Nat} {k i : Nat} {n : RingNode} (h : l[k]? = some i) (hn : r.nodes[i]? = some n) : upK r l (k + 1) = upK r l k + (if n.st = 2 then 0 else 1) := by
  unfold upK
  rw [List.take_add_one, h, Option.toList_some, upL_snoc, hn]; simp
theorem upK_all {r : Ring} {l : List Nat} {k : Nat} (h : l.length ≤ k) : upK r l k = upL r l := by unfold upK; rw [List.take_of_length_le h]
theorem upK_le (r : Ring) (l : List Nat) : ∀ k, 0 ≤ upK r l k ∧ upK r l k ≤ k := by
  have H : ∀ m : List Nat, 0 ≤ upL r m ∧ upL r m ≤ m.length := by
    intro m
    induction m with
    | nil => exact ⟨Int.le_refl _, Int.le_refl _⟩
    | cons x m ih =>
      rw [upL]
      simp only [List.length_cons]
      split <;> omega
  intro k
  have := H (l.take k)
  have h2 : (l.take k).length ≤ k := by rw [List.length_take]; omega
  unfold upK
  omega
def needI (r : Ring) : Int := r.copies - (r.copies / 2 + 1) + 1
theorem own_lt {r : Ring} (hg : GoodR r) {p : Int} {i : Nat} (h : i ∈ ownL r p) : i < r.nodes.length := by
  rcases pick_mem _ _ _ _ h with h | ⟨t, ht, rfl⟩
  · simp at h
  · exact (sort_range hg ((cyc_perm _ _).mem_iff.1 ht)).2.2
theorem own_len {r : Ring} (hg : GoodR r) (p : Int) : (ownL r p).length ≤ 320 := by
  have h1 := pick_len r.copies (cyc (sortT (tks r)) (lowT p (sortT (tks r)))) []
  have h2 := (cyc_perm (sortT (tks r)) (lowT p (sortT (tks r)))).length_eq
  have h3 := (sortT_perm (tks r)).length_eq
  have h4 := tks_len hg
  unfold ownL
  simp only [List.length_nil] at h1
  omega
/-- Whatever tokens: enough of the owners of each are not down. -/
def ReadR (r : Ring) : Prop := ∀ t ∈ tks r, needI r ≤ upL r (ownL r t.1)
def CanR (r : Ring) : Prop := GoodR r ∧ 0 < r.nodes.length ∧ ReadR r
theorem ngetI {l : List Nat} {i x : Nat} (h : l[i]? = some x) : ((l.map fun (j : Nat) => (j : Int)).map int)[i]? = some (int (x : Int)) := by rw [List.getElem?_map, List.getElem?_map, h]; rfl

end Go.Ring
