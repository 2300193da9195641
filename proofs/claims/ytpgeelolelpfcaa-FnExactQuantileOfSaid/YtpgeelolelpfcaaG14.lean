/- A quantile of numbers. No condition. -/
import Derived.Test.YtpgeelolelpfcaaFam
import Derived.Test.YtpgeelolelpfcaaAbsSort
import Derived.Test.YtpgeelolelpfcaaSi
namespace Go.Ring
open Go Go.RowKit Go.Eager Go.Abs Go.Proofs
set_option maxRecDepth 100000
set_option linter.unusedVariables false
set_option linter.unusedSimpArgs false
theorem srt_perm (l : List Int) : (srt l).Perm l := List.mergeSort_perm l _
theorem srt_sorted (l : List Int) : (srt l).Pairwise fun a b => decide (a ≤ b) = true := List.pairwise_mergeSort (fun a b c h1 h2 => by simp only [decide_eq_true_eq] at *; omega) (fun a b => by simp only [Bool.or_eq_true, decide_eq_true_eq]; omega) l
theorem srt_len (l : List Int) : (srt l).length = l.length := (srt_perm l).length_eq
theorem srt_eq {l m : List Int} (hp : m.Perm l) (hs : m.Pairwise (· ≤ ·)) : m = srt l :=
  List.Perm.eq_of_pairwise (le := fun a b => decide (a ≤ b) = true) (fun a b _ _ h1 h2 => by simp only [decide_eq_true_eq] at h1 h2; omega) (hs.imp fun {a b} h => by simpa using h) (srt_sorted l) (hp.trans (srt_perm l).symm)
/-- A number laid in at a place. -/
def insAt (ls : List Int) (p : Nat) (u : Int) : List Int := ls.take p ++ u :: ls.drop p
theorem insAt_perm (ls : List Int) (p : Nat) (u : Int) : (insAt ls p u).Perm (ls ++ [u]) := by
  unfold insAt
  refine (List.perm_middle).trans ?_
  rw [List.take_append_drop]
  exact (List.perm_append_comm (l₁ := [u]) (l₂ := ls))
theorem insAt_sorted {ls : List Int} {p : Nat} {u : Int} (hs : ls.Pairwise (· ≤ ·)) (h1 : ∀ q x, p ≤ q → ls[q]? = some x → u < x) (h2 : p = 0 ∨ ∃ x, ls[p - 1]? = some x ∧ x ≤ u) (hp : p ≤ ls.length) : (insAt ls p u).Pairwise (· ≤ ·) := by
  have hs' := hs
  rw [← List.take_append_drop p ls] at hs'
  obtain ⟨a1, a2, a3⟩ := List.pairwise_append.1 hs'
  have hle : ∀ a ∈ ls.take p, a ≤ u := by
    intro a ha
    rcases h2 with rfl | ⟨x, hx, hxu⟩
    · simp at ha
    · obtain ⟨i, hi⟩ := List.getElem?_of_mem ha
      have hlt := (List.getElem?_eq_some_iff.1 hi).1
      rw [List.length_take] at hlt
      rw [List.getElem?_take, if_pos (by omega)] at hi
      obtain ⟨hi1, rfl⟩ := List.getElem?_eq_some_iff.1 hi
      obtain ⟨hx1, rfl⟩ := List.getElem?_eq_some_iff.1 hx
      by_cases he : i = p - 1
      · subst he; exact hxu
      · have := List.pairwise_iff_getElem.1 hs i (p - 1) hi1 hx1 (by omega)
        exact Int.le_trans this hxu
  have hgt : ∀ b ∈ ls.drop p, u < b := by
    intro b hb
    obtain ⟨i, hi⟩ := List.getElem?_of_mem hb
    rw [List.getElem?_drop] at hi
    exact h1 (p + i) b (by omega) hi
  unfold insAt
  rw [List.pairwise_append]
  refine ⟨a1, List.pairwise_cons.2 ⟨fun b hb => Int.le_of_lt (hgt b hb), a2⟩, fun a ha b hb => ?_⟩
  rcases List.mem_cons.1 hb with rfl | hb
  · exact hle a ha
  · exact a3 a ha b hb
theorem ins_cpy (ls : List Int) (z u : Int) (p : Nat) (hp : p ≤ ls.length) : (cpy (ls ++ [z]) (p + 1) p).set p u = insAt ls p u := by
  apply List.ext_getElem?
  intro t
  have hl : (cpy (ls ++ [z]) (p + 1) p).length = ls.length + 1 := by rw [cpy_len _ _ _ (by simp; omega)]; simp
  have hc : (((ls ++ [z]).drop p).take ((ls ++ [z]).length - (p + 1))).length = ls.length - p := by simp only [List.length_take, List.length_drop, List.length_append, List.length_cons, List.length_nil]; omega
  have ht : (ls.take p).length = p := by rw [List.length_take]; omega
  unfold insAt
  rw [List.getElem?_set]
  by_cases h : p = t
  · subst h
    rw [if_pos rfl, if_pos (by omega), List.getElem?_append_right (by omega), ht, Nat.sub_self]; rfl
  · rw [if_neg h, cpy_get _ _ _ (by simp; omega), hc]
    by_cases h2 : t < p
    · rw [if_neg (by omega), List.getElem?_append_left (by omega), List.getElem?_append_left (by omega), List.getElem?_take, if_pos h2]
    · by_cases h3 : t < p + 1 + (ls.length - p)
      · rw [if_pos ⟨by omega, h3⟩, List.getElem?_append_left (by omega), List.getElem?_append_right (by omega), ht]
        rw [show t - p = (t - p - 1) + 1 by omega, List.getElem?_cons_succ, List.getElem?_drop]
        congr 1
      · rw [if_neg (by omega), List.getElem?_eq_none (by simp; omega), List.getElem?_eq_none (by simp; omega)]
theorem ins_row (ls : List Int) (u : Int) (p : Nat) (hp : p ≤ ls.length) : (cpy (ls.map int ++ [int 0]) ((p : Int) + 1).toNat (p : Int).toNat).set (p : Int).toNat (int u) = (insAt ls p u).map int := by
  rw [show ((p : Int) + 1).toNat = p + 1 by omega, show (p : Int).toNat = p by omega, ← ins_cpy ls 0 u p hp, List.map_set, cpy_map, List.map_append]; rfl
theorem f141_ok (x : List Int) (hx : x.length ≤ 1048576) : PFn Try.prog 141 [ints x] (ints (srt x)) := by
  refine fnr_ok (n := 45) Try.func141 rfl rfl rfl (Nat.le_of_ble_eq_true rfl) rfl fun w0 O => ?_
  refine ok_seq fun K1 h1 => ok_region rfl (q_as _ rfl (run_nil (h1 _ ?_))); clear h1 K1
  refine ok_seq fun K2 h2 => ok_region rfl (q_an (n := 1) 3 (by decide) rfl rfl rfl (run_nil (h2 _ ?_))); clear h2 K2
  refine ok_seq fun K3 h3 => ?_
  refine ok_seq fun K4 h4 => ok_region rfl (q_mv _ rfl (q_len eS67 rfl (q_mv _ rfl (run_nil (h4 _ ?_))))); clear h4 K4
  rw [List.length_map]
  refine ok_block ?_
  refine ok_loop (fun (s : Nat × List Int) => ⟨[(3, .own 3), (7, .sv (ints x)), (8, .sv (int x.length)), (9, .sv (int s.1))], [(3, .row 1 3 (s.2.map int))]⟩) (fun s => s.2.Pairwise (· ≤ ·) ∧ s.2.Perm (x.take s.1)) (fun s => x.length - s.1) (0, []) ⟨List.Pairwise.nil, List.Perm.refl _⟩ (le_sub ⟨rfl, rfl, rfl, rfl, trivial⟩ ⟨rfl, trivial⟩) (fun s J => ?_)
  obtain ⟨k, ls⟩ := s
  obtain ⟨j1, j2⟩ := J
  simp only at j1 j2
  refine ok_seq fun K5 h5 => ok_region rfl (q_bin _ _ _ rfl rfl rfl (run_nil (h5 _ ?_))); clear h5 K5
  refine ok_seq fun K6 h6 => ?_
  refine ok_cond rfl (fun c7 => ?_) (fun c7 => ?_)
  · have hk : k < x.length := by simpa using c7
    obtain ⟨u, hu⟩ := sget hk
    have hll : ls.length = k := by rw [j2.length_eq, List.length_take]; omega
    refine ok_skip (h6 _ ?_)
    refine ok_seq fun K8 h8 => ?_
    refine ok_block ?_
    refine ok_seq fun K9 h9 => ok_region rfl (q_ia (s := int u) el67 rfl rfl (by omega) (mget (f := int) hu) (q_ld _ ag3 rfl rfl (q_as _ rfl (run_nil (h9 _ ?_))))); clear h9 K9
    refine ok_seq fun K10 h10 => ok_region rfl (q_mo _ rfl (q_leno eS67 rfl rfl (q_as _ rfl (run_nil (h10 _ ?_))))); clear h10 K10
    rw [List.length_map]
    refine ok_seq fun K11 h11 => ?_
    refine ok_block ?_
    refine ok_loop (fun (p : Nat) => ⟨[(3, .own 3), (5, .sv (int u)), (6, .sv (int p)), (7, .sv (ints x)), (8, .sv (int x.length)), (9, .sv (int k))], [(3, .row 1 3 (ls.map int))]⟩) (fun p => p ≤ ls.length ∧ ∀ q y, p ≤ q → ls[q]? = some y → u < y) (fun p => p) ls.length ⟨Nat.le_refl _, fun q y hq hy => by have := slt hy; omega⟩ (le_sub ⟨rfl, rfl, rfl, rfl, rfl, rfl, trivial⟩ ⟨rfl, trivial⟩) (fun p J => ?_)
    obtain ⟨p1, p2⟩ := J
    obtain ⟨y, hy⟩ : ∃ y, 0 < p → ls[p - 1]? = some y := by
      by_cases h : 0 < p
      · obtain ⟨y, hy⟩ := sget (l := ls) (i := p - 1) (by omega); exact ⟨y, fun _ => hy⟩
      · exact ⟨0, fun h' => (h h').elim⟩
    refine ok_seq fun K12 h12 => ?_
    refine ok_seq fun K13 h13 => ?_
    refine ok_region rfl (q_mv _ rfl (q_bin _ _ _ rfl rfl rfl (q_mv _ rfl (q_and (b2 := decide (u < y)) 7 7 rfl rfl rfl rfl rfl (fun hb25 => by
        have hp0 : (0 : Int) < p := by simpa using hb25
        have e1 : ((p : Int) - 1).toNat = p - 1 := by omega
        exact q_mo _ rfl (q_mv _ rfl (q_sub rfl rfl (by omega) (q_iao el67 rfl rfl rfl (by omega) (by rw [List.length_map]; omega) (q_lde (int y) ag3 rfl rfl (by rw [e1]; exact mget (f := int) (hy (by omega))) rfl (q_mv _ rfl (q_bin _ _ _ rfl rfl rfl (run_nil ⟨rfl, rfl, rfl, rfl⟩)))))))) (
      run_nil (h13 _ ?_))))))
    clear h13 K13
    refine ok_cond rfl (fun c14 => ?_) (fun c14 => ?_)
    · simp only [Bool.and_eq_true, decide_eq_true_eq] at c14
      refine ok_skip (h12 _ ?_)
      refine ok_block ?_
      refine ok_last fun K15 h15 => ok_region rfl (
        q_mv _ rfl (q_sub rfl rfl (by omega) (q_as _ rfl (run_nil (h15 _ (⟨p - 1, by omega, ⟨by omega, fun q z hq hz => ?_⟩, ?_⟩))))))
      · by_cases he : q = p - 1
        · subst he; rw [hy (by omega)] at hz; cases hz; exact c14.2
        · exact p2 q z (by omega) hz
      · rw [show (p : Int) - 1 = ((p - 1 : Nat) : Int) by omega]
        exact le_sub ⟨rfl, rfl, rfl, rfl, rfl, rfl, trivial⟩ ⟨rfl, trivial⟩
    · have hp3 : p = 0 ∨ ∃ x, ls[p - 1]? = some x ∧ x ≤ u := by
        by_cases h : 0 < p
        · refine .inr ⟨y, hy h, ?_⟩
          simp only [Bool.and_eq_false_iff, decide_eq_false_iff_not] at c14
          rcases c14 with c | c <;> omega
        · exact .inl (by omega)
      refine ok_exit (h11 _ ?_)
      refine ok_seq fun K16 h16 => ?_
      refine ok_region rfl (q_mo _ rfl (q_lit1 _ (int 0) el67 ze3 (by decide) (by decide) rfl (.inr rfl) rfl (q_app _ el67 ze3 rfl by3 rfl rfl rfl rfl rfl (by simp) (by intro s hs; simp at hs; subst hs; exact .inr rfl) (by rw [List.length_map]; show _ + 1 ≤ maxLen; unfold maxLen; omega) (by rw [List.length_map]; show (_ + 1) * 8 ≤ _; omega) (
        q_ao _ rfl (run_nil (h16 _ ?_))))))
      clear h16 K16
      refine ok_seq fun K17 h17 => ?_
      refine ok_region_i (by kernel_rfl) (by kernel_rfl) rfl (
        q_mo _ rfl (q_mv _ rfl (q_add rfl rfl (by omega) (q_slo el67 rfl rfl (by simp) rfl (by omega) (by simp; omega) (q_mo _ rfl (q_mv _ rfl (
        q_slo el67 rfl rfl (by simp) rfl (by omega) (by simp; omega) (q_copyo el67 rfl rfl rfl (by simp; omega) (by simp; omega) (by intro s hs; simp at hs; rcases hs with ⟨a, _, rfl⟩ | rfl <;> rfl) (run_nil (h17 _ ?_))))))))))
      clear h17 K17
      have hcl : (cpy (ls.map int ++ [int 0]) ((p : Int) + 1).toNat (p : Int).toNat).length = ls.length + 1 := by rw [cpy_len _ _ _ (by simp; omega)]; simp
      obtain ⟨s0, hs0⟩ := sget (l := cpy (ls.map int ++ [int 0]) ((p : Int) + 1).toNat (p : Int).toNat) (i := (p : Int).toNat) (by rw [hcl]; omega)
      refine ok_last fun K18 h18 => ok_region rfl (
        q_mo _ rfl (q_mv _ rfl (q_mv _ rfl (q_iao el67 rfl rfl rfl (by omega) (by rw [hcl]; omega) (q_ste sz3 rfl rfl hs0 rfl (.inr rfl) rfl (run_nil (h18 _ (h8 _ ?_))))))))
      rw [ins_row ls u p p1]
      refine ok_last fun K19 h19 => ok_region rfl (
        q_add rfl rfl (by omega) (q_mv _ rfl (run_nil (h19 _ (⟨(k + 1, insAt ls p u), by simp only; omega, ⟨insAt_sorted j1 p2 hp3 p1, (insAt_perm ls p u).trans (by rw [List.take_add_one, hu]; exact j2.append_right _)⟩, le_rek 3 30 ⟨rfl, rfl, rfl, rfl, trivial⟩ ⟨rfl, trivial⟩ rfl rfl rfl rfl ⟨rfl, trivial⟩⟩)))))
  · refine ok_exit (h3 _ ?_)
    refine ok_seq fun K20 h20 => ok_region rfl (q_mo _ rfl (q_ao _ rfl (run_nil (h20 _ ?_)))); clear h20 K20
    refine ok_ret ⟨_, ⟨_, _, rfl, rfl, rfl⟩, ?_⟩
    rw [List.take_of_length_le (by simpa using c7)] at j2
    rw [srt_eq j2 j1]; rfl
def quoI (a : Int) : Int := if a.tmod 1000 < 0 then IntKind.i64.wrap (IntKind.i64.wrap (a.tdiv 1000) - 1) else IntKind.i64.wrap (a.tdiv 1000)
theorem tmod_neg_iff (a : Int) : (a.tmod 1000 ≠ 0 ∧ a < 0) ↔ a.tmod 1000 < 0 := by
  rcases Int.lt_or_le a 0 with h | h
  · have e : a.tmod 1000 = -((-a) % 1000) := by
      have := Int.neg_tmod (-a) 1000
      rw [Int.neg_neg] at this
      rw [this, Int.tmod_eq_emod_of_nonneg (by omega)]
    rw [e]; omega
  · rw [Int.tmod_eq_emod_of_nonneg h]; omega
theorem f142_ok (a : Int) : PFn Try.prog 142 [int a, int 1000] (int (quoI a)) := by
  refine fn_ok' (n := 27) Try.func142 rfl rfl rfl (Nat.le_of_ble_eq_true rfl) rfl fun w0 O => ?_
  refine ok_seq fun K1 h1 => ok_region rfl (q_as _ rfl (run_nil (h1 _ ?_))); clear h1 K1
  refine ok_seq fun K2 h2 => ?_
  refine ok_seq fun K3 h3 => ok_region rfl (q_mv _ rfl (q_bin _ _ _ rfl rfl rfl (run_nil (h3 _ ?_)))); clear h3 K3
  refine ok_cond rfl (fun c4 => ?_) (fun c4 => ?_)
  · simp at c4
  · refine ok_skip (h2 _ ?_)
    refine ok_seq fun K6 h6 => ok_region rfl (q_mv _ rfl (q_mv _ rfl (q_bin _ _ (.int .i64 (IntKind.i64.wrap (a.tdiv 1000))) rfl rfl rfl (q_as _ rfl (run_nil (h6 _ ?_)))))); clear h6 K6
    refine ok_seq_join (fun (v : Int) => ⟨[(5, .sv (int v))], []⟩) (fun v => v = quoI a) ?_ (fun v J => ?_)
    · refine ok_seq fun K7 h7 => ?_
      refine ok_region rfl (q_mv _ rfl (q_mv _ rfl (q_bin _ _ (.int .i64 (a.tmod 1000)) rfl rfl rfl (q_bin _ _ _ rfl rfl rfl (q_mv _ rfl (q_and 7 7 rfl rfl rfl rfl rfl (fun hb23 =>
          q_mv _ rfl (q_mv _ rfl (q_bin _ _ _ rfl rfl rfl (q_bin _ _ _ rfl rfl rfl (q_mv _ rfl (q_bin _ _ _ rfl rfl rfl (q_neb Try.underlying4 rfl rfl (run_nil ⟨rfl, rfl, rfl, rfl⟩)))))))) (
        run_nil (h7 _ ?_))))))))
      clear h7 K7
      refine ok_cond rfl (fun c8 => ?_) (fun c8 => ?_)
      · have hn : a.tmod 1000 < 0 := by
          simp only [Bool.and_eq_true, decide_eq_true_eq, bne_iff_ne, ne_eq] at c8
          have := tmod_neg_iff a
          simp at c8
          omega
        refine ok_last fun K9 h9 => ok_region rfl (
          q_mv _ rfl (q_bin _ _ (.int .i64 (IntKind.i64.wrap (IntKind.i64.wrap (a.tdiv 1000) - 1))) rfl rfl rfl (q_as _ rfl (run_nil (h9 _ (⟨_, (by rw [quoI, if_pos hn]), le_same ⟨rfl, trivial⟩⟩))))))
      · have hn : ¬ a.tmod 1000 < 0 := by
          have := tmod_neg_iff a
          simp at c8
          omega
        refine ok_skip (⟨_, (by rw [quoI, if_neg hn]), le_same ⟨rfl, trivial⟩⟩)
    · refine ok_seq fun K10 h10 => ?_
      refine ok_region rfl (q_mv _ rfl (q_as _ rfl (run_nil (h10 _ ?_))))
      clear h10 K10
      refine ok_ret ⟨_, rfl, ?_⟩
      rw [J]; rfl
theorem f145_ok (a : Int) : PFn Try.prog 145 [int a, int 1000] (int (quoI a)) := by
  refine fn_ok' (n := 25) Try.func145 rfl rfl rfl (Nat.le_of_ble_eq_true rfl) rfl fun w0 O => ?_
  refine ok_seq fun K1 h1 => ok_region rfl (q_as _ rfl (run_nil (h1 _ ?_))); clear h1 K1
  refine ok_seq fun K2 h2 => ?_
  refine ok_seq fun K3 h3 => ok_region rfl (q_mv _ rfl (q_bin _ _ _ rfl rfl rfl (run_nil (h3 _ ?_)))); clear h3 K3
  refine ok_cond rfl (fun c4 => ?_) (fun c4 => ?_)
  · simp at c4
  · refine ok_skip (h2 _ ?_)
    refine ok_seq fun K6 h6 => ok_region rfl (q_mv _ rfl (q_mv _ rfl (q_bin _ _ (.int .i64 (IntKind.i64.wrap (a.tdiv 1000))) rfl rfl rfl (q_as _ rfl (run_nil (h6 _ ?_)))))); clear h6 K6
    refine ok_seq_join (fun (v : Int) => ⟨[(5, .sv (int v))], []⟩) (fun v => v = quoI a) ?_ (fun v J => ?_)
    · refine ok_seq fun K7 h7 => ?_
      refine ok_region rfl (q_mv _ rfl (q_mv _ rfl (q_bin _ _ (.int .i64 (a.tmod 1000)) rfl rfl rfl (q_bin _ _ _ rfl rfl rfl (q_mv _ rfl (q_and 5 5 rfl rfl rfl rfl rfl (fun hb23 =>
          q_mv _ rfl (q_bin _ _ _ rfl rfl rfl (q_mv _ rfl (q_bin _ _ _ rfl rfl rfl (q_neb Try.underlying4 rfl rfl (run_nil ⟨rfl, rfl, rfl, rfl⟩)))))) (
        run_nil (h7 _ ?_))))))))
      clear h7 K7
      refine ok_cond rfl (fun c8 => ?_) (fun c8 => ?_)
      · have hn : a.tmod 1000 < 0 := by
          simp only [Bool.and_eq_true, decide_eq_true_eq, bne_iff_ne, ne_eq] at c8
          have := tmod_neg_iff a
          simp at c8
          omega
        refine ok_last fun K9 h9 => ok_region rfl (
          q_mv _ rfl (q_bin _ _ (.int .i64 (IntKind.i64.wrap (IntKind.i64.wrap (a.tdiv 1000) - 1))) rfl rfl rfl (q_as _ rfl (run_nil (h9 _ (⟨_, (by rw [quoI, if_pos hn]), le_same ⟨rfl, trivial⟩⟩))))))
      · have hn : ¬ a.tmod 1000 < 0 := by
          have := tmod_neg_iff a
          simp at c8
          omega
        refine ok_skip (⟨_, (by rw [quoI, if_neg hn]), le_same ⟨rfl, trivial⟩⟩)
    · refine ok_seq fun K10 h10 => ?_
      refine ok_region rfl (q_mv _ rfl (q_as _ rfl (run_nil (h10 _ ?_))))
      clear h10 K10
      refine ok_ret ⟨_, rfl, ?_⟩
      rw [J]; rfl
def clipI (q : Int) : Int := if 1000 < (if q < 0 then 0 else q) then 1000 else (if q < 0 then 0 else q)
theorem clipI_in (q : Int) : 0 ≤ clipI q ∧ clipI q ≤ 1000 := by
  unfold clipI
  generalize ha : (if q < 0 then 0 else q) = a
  have h0 : 0 ≤ a := by rw [← ha]; split <;> omega
  split <;> omega
def rI (x : List Int) (q : Int) : Int := clipI q * ((x.length : Int) - 1)
def QIn (x : List Int) : Prop := 1 ≤ x.length ∧ x.length ≤ 2000
theorem rI_in {x : List Int} (h : QIn x) (q : Int) : 0 ≤ rI x q ∧ rI x q ≤ 1000 * ((x.length : Int) - 1) ∧ rI x q ≤ 1999000 := by
  obtain ⟨h1, h2⟩ := h
  obtain ⟨c1, c2⟩ := clipI_in q
  have a1 : 0 ≤ (x.length : Int) - 1 := by omega
  have a2 := Int.mul_nonneg c1 a1
  have a3 := Int.mul_le_mul_of_nonneg_right c2 a1
  unfold rI
  omega
def qv (v : List Int) (r : Int) : Int :=
  if r % 1000 = 0 then v.getD (r / 1000).toNat 0
  else IntKind.i64.wrap (v.getD (r / 1000).toNat 0 + quoI (IntKind.i64.wrap (IntKind.i64.wrap (v.getD (r / 1000 + 1).toNat 0 - v.getD (r / 1000).toNat 0) * (r % 1000))))
noncomputable def quantI (x : List Int) (q : Int) : Int := if pB (QIn x) = true then qv (srt x) (rI x q) else 0
theorem q_get1 {x : List Int} (h : QIn x) (q : Int) : (srt x)[(rI x q / 1000).toNat]? = some ((srt x).getD (rI x q / 1000).toNat 0) := by
  have h1 := rI_in h q
  have h2 := srt_len x
  have hlt : (rI x q / 1000).toNat < (srt x).length := by have := h.1; omega
  rw [List.getD_eq_getElem?_getD, List.getElem?_eq_getElem hlt]; rfl
theorem q_get2 {x : List Int} (h : QIn x) (q : Int) (hr : ¬ rI x q % 1000 = 0) : (srt x)[(rI x q / 1000 + 1).toNat]? = some ((srt x).getD (rI x q / 1000 + 1).toNat 0) := by
  have h1 := rI_in h q
  have h2 := srt_len x
  have hlt : (rI x q / 1000 + 1).toNat < (srt x).length := by have := h.1; omega
  rw [List.getD_eq_getElem?_getD, List.getElem?_eq_getElem hlt]; rfl
theorem qin_of {x : List Int} (c : ¬ ((x.length : Int) < 1 ∨ 2000 < (x.length : Int))) : QIn x := ⟨by omega, by omega⟩
theorem f43_ok (x : List Int) (hx : x.length ≤ 1048576) (q : Int) : PFn Try.prog 43 [ints x, int q] (.tup [int (quantI x q), bool (pB (QIn x))]) := by
  refine fn_ok' (n := 51) Try.func43 rfl rfl rfl (Nat.le_of_ble_eq_true rfl) rfl fun w0 O => ?_
  refine ok_seq fun K1 h1 => ok_region rfl (q_as _ rfl (q_as _ rfl (run_nil (h1 _ ?_)))); clear h1 K1
  refine ok_seq fun K2 h2 => ?_
  refine ok_seq fun K3 h3 => ?_
  refine ok_region rfl (q_mv _ rfl (q_len eS67 rfl (q_bin _ _ _ rfl rfl rfl (q_mv _ rfl (q_or 3 3 rfl rfl rfl rfl rfl (fun hb16 =>
      q_mv _ rfl (q_len eS67 rfl (q_bin _ _ _ rfl rfl rfl (run_nil ⟨rfl, rfl, rfl, rfl⟩)))) (
    run_nil (h3 _ ?_)))))))
  clear h3 K3
  simp only [List.length_map]
  refine ok_cond rfl (fun c4 => ?_) (fun c4 => ?_)
  · refine ok_seq fun K5 h5 => ?_
    refine ok_region rfl (q_as _ rfl (q_as _ rfl (run_nil (h5 _ ?_))))
    clear h5 K5
    refine ok_ret ⟨_, rfl, ?_⟩
    simp only [Bool.or_eq_true, decide_eq_true_eq] at c4
    have hn : pB (QIn x) = false := pB_false (by rintro ⟨d1, d2⟩; omega)
    rw [quantI, hn]; rfl
  · simp only [Bool.or_eq_false_iff, decide_eq_false_iff_not] at c4
    have hQ : QIn x := qin_of (by omega)
    have hR := rI_in hQ q
    have hQ1 := hQ.1
    have hQ2 := hQ.2
    have hsl := srt_len x
    refine ok_skip (h2 _ ?_)
    refine ok_seq_join (fun (v : Int) => ⟨[(0, .sv (ints x)), (1, .sv (int v))], []⟩) (fun v => v = if q < 0 then 0 else q) ?_ (fun v J => ?_)
    · refine ok_seq fun K6 h6 => ?_
      refine ok_region rfl (q_mv _ rfl (q_bin _ _ _ rfl rfl rfl (run_nil (h6 _ ?_))))
      clear h6 K6
      refine ok_cond rfl (fun c7 => ?_) (fun c7 => ?_)
      · refine ok_last fun K8 h8 => ok_region rfl (
          q_as _ rfl (run_nil (h8 _ (⟨0, by rw [if_pos (by simpa using c7)], le_same ⟨rfl, rfl, trivial⟩⟩))))
      · refine ok_skip (⟨q, by rw [if_neg (by simpa using c7)], le_same ⟨rfl, rfl, trivial⟩⟩)
    · refine ok_seq_join (fun (v : Int) => ⟨[(0, .sv (ints x)), (1, .sv (int v))], []⟩) (fun v => v = clipI q) ?_ (fun z L => ?_)
      · refine ok_seq fun K9 h9 => ?_
        refine ok_region rfl (q_mv _ rfl (q_bin _ _ _ rfl rfl rfl (run_nil (h9 _ ?_))))
        clear h9 K9
        refine ok_cond rfl (fun c10 => ?_) (fun c10 => ?_)
        · refine ok_last fun K11 h11 => ok_region rfl (
            q_as _ rfl (run_nil (h11 _ (⟨1000, by rw [clipI, ← J, if_pos (by simpa using c10)], le_same ⟨rfl, rfl, trivial⟩⟩))))
        · refine ok_skip (⟨v, by rw [clipI, ← J, if_neg (by simpa using c10)], le_same ⟨rfl, rfl, trivial⟩⟩)
      · have hz := clipI_in q
        rw [← L] at hz
        have hr0 : z * ((x.length : Int) - 1) = rI x q := by rw [rI, L]
        refine ok_seq fun K12 h12 => ?_
        refine ok_region rfl (q_mv _ rfl (q_call (f141_ok x hx) cl141 rfl rfl (q_as _ rfl (run_nil (h12 _ ?_)))))
        clear h12 K12
        refine ok_seq fun K13 h13 => ok_region rfl (q_mv _ rfl (q_mv _ rfl (q_len eS67 rfl (q_sub rfl rfl (by rw [List.length_map]; omega) (q_mul rfl rfl (by rw [List.length_map, hsl, hr0]; omega) (q_as _ rfl (run_nil (h13 _ ?_)))))))); clear h13 K13
        rw [List.length_map, hsl, hr0]
        refine ok_seq fun K14 h14 => ok_region rfl (q_mv _ rfl (q_mv _ rfl (q_div rfl rfl (by omega) (q_ia (s := int ((srt x).getD (rI x q / 1000).toNat 0)) el67 rfl rfl (by omega) (mget (f := int) (q_get1 hQ q)) (q_ld _ ag3 rfl rfl (q_as _ rfl (run_nil (h14 _ ?_)))))))); clear h14 K14
        refine ok_seq_join (fun (v : Int) => ⟨[(8, .sv (int v))], []⟩) (fun v => v = qv (srt x) (rI x q)) ?_ (fun v J => ?_)
        · refine ok_seq fun K15 h15 => ?_
          refine ok_region rfl (q_mv _ rfl (q_mod rfl rfl (by omega) (q_bin _ _ _ rfl rfl rfl (run_nil (h15 _ ?_)))))
          clear h15 K15
          refine ok_cond rfl (fun c16 => ?_) (fun c16 => ?_)
          · have hm : ¬ rI x q % 1000 = 0 := by simpa using c16
            refine ok_last fun K17 h17 => ok_region rfl (
              q_mv _ rfl (q_mv _ rfl (q_mv _ rfl (q_div rfl rfl (by omega) (q_add rfl rfl (by omega) (q_ia (s := int ((srt x).getD (rI x q / 1000 + 1).toNat 0)) el67 rfl rfl (by omega) (mget (f := int) (q_get2 hQ q hm)) (q_ld _ ag3 rfl rfl (q_mv _ rfl (q_bin _ _ _ rfl rfl rfl (
              q_mv _ rfl (q_mod rfl rfl (by omega) (q_bin _ _ _ rfl rfl rfl (q_call (f142_ok _) cl142 rfl rfl (q_bin _ _ _ rfl rfl rfl (q_as _ rfl (run_nil (h17 _ (⟨_, (by rw [qv, if_neg hm]), le_same ⟨rfl, trivial⟩⟩))))))))))))))))))
          · have hm : rI x q % 1000 = 0 := by simpa using c16
            refine ok_skip (⟨_, (by rw [qv, if_pos hm]), le_same ⟨rfl, trivial⟩⟩)
        · refine ok_seq fun K18 h18 => ?_
          refine ok_region rfl (q_mv _ rfl (q_as _ rfl (q_as _ rfl (run_nil (h18 _ ?_)))))
          clear h18 K18
          refine ok_ret ⟨_, rfl, ?_⟩
          rw [quantI, pB_true hQ, if_pos rfl, J]; rfl
theorem f143_ok (x : List Int) (h : QIn x) : PFnO Try.prog 143 [ints x] 1 3 (x.map int) := pfno_clone Try.laysNm215 x h.1 (by have := h.2; omega)
theorem f144_ok : SortsInts Try.prog 144 := sorts_plain Try.lays189
theorem f45_ok (x : List Int) (hx : x.length ≤ 1048576) (q : Int) : PFn Try.prog 45 [ints x, int q] (.tup [int (quantI x q), bool (pB (QIn x))]) := by
  refine fn_ok' (n := 51) Try.func45 rfl rfl rfl (Nat.le_of_ble_eq_true rfl) rfl fun w0 O => ?_
  refine ok_seq fun K1 h1 => ok_region rfl (q_as _ rfl (q_as _ rfl (run_nil (h1 _ ?_)))); clear h1 K1
  refine ok_seq fun K2 h2 => ok_region rfl (q_mv _ rfl (q_len eS67 rfl (q_as _ rfl (run_nil (h2 _ ?_))))); clear h2 K2
  rw [List.length_map]
  refine ok_seq fun K3 h3 => ?_
  refine ok_seq fun K4 h4 => ?_
  refine ok_region rfl (q_mv _ rfl (q_bin _ _ _ rfl rfl rfl (q_mv _ rfl (q_or 2 2 rfl rfl rfl rfl rfl (fun hb17 =>
      q_mv _ rfl (q_bin _ _ _ rfl rfl rfl (run_nil ⟨rfl, rfl, rfl, rfl⟩))) (
    run_nil (h4 _ ?_))))))
  clear h4 K4
  refine ok_cond rfl (fun c5 => ?_) (fun c5 => ?_)
  · refine ok_seq fun K6 h6 => ?_
    refine ok_region rfl (q_as _ rfl (q_as _ rfl (run_nil (h6 _ ?_))))
    clear h6 K6
    refine ok_ret ⟨_, rfl, ?_⟩
    simp only [Bool.or_eq_true, decide_eq_true_eq] at c5
    have hn : pB (QIn x) = false := pB_false (by rintro ⟨d1, d2⟩; omega)
    rw [quantI, hn]; rfl
  · simp only [Bool.or_eq_false_iff, decide_eq_false_iff_not] at c5
    have hQ : QIn x := qin_of (by omega)
    have hR := rI_in hQ q
    have hQ1 := hQ.1
    have hQ2 := hQ.2
    have hsl := srt_len x
    have hr0 : (if 1000 < (if 0 > q then 0 else q) then 1000 else (if 0 > q then 0 else q)) * ((x.length : Int) - 1) = rI x q := rfl
    refine ok_skip (h3 _ ?_)
    refine ok_seq fun K7 h7 => ok_region rfl (q_mv _ rfl (q_callo (f143_ok x hQ) cl143 rfl rfl rfl (q_ao _ rfl (run_nil (h7 _ ?_))))); clear h7 K7
    refine ok_seq fun K8 h8 => ok_region rfl (q_mo _ rfl (q_sorti f144_ok cl144 rfl rfl (by omega) (by omega) (run_nil (h8 _ ?_)))); clear h8 K8
    refine ok_seq fun K9 h9 => ok_region rfl (q_mv _ rfl (q_max rfl rfl (q_min rfl rfl (q_mv _ rfl (q_sub rfl rfl (by omega) (q_mul rfl rfl (by rw [hr0]; omega) (q_as _ rfl (run_nil (h9 _ ?_))))))))); clear h9 K9
    rw [hr0]
    refine ok_seq fun K10 h10 => ok_region rfl (q_mo _ rfl (q_mv _ rfl (q_div rfl rfl (by omega) (q_iao el67 rfl rfl rfl (by omega) (by rw [List.length_map]; exact slt (q_get1 hQ q)) (q_lde (int ((srt x).getD (rI x q / 1000).toNat 0)) ag3 rfl rfl (mget (f := int) (q_get1 hQ q)) rfl (q_as _ rfl (run_nil (h10 _ ?_)))))))); clear h10 K10
    refine ok_seq_join (fun (v : Int) => ⟨[(9, .sv (int v))], []⟩) (fun v => v = qv (srt x) (rI x q)) ?_ (fun v J => ?_)
    · refine ok_seq fun K11 h11 => ?_
      refine ok_region rfl (q_mv _ rfl (q_mod rfl rfl (by omega) (q_bin _ _ _ rfl rfl rfl (run_nil (h11 _ ?_)))))
      clear h11 K11
      refine ok_cond rfl (fun c12 => ?_) (fun c12 => ?_)
      · have hm : ¬ rI x q % 1000 = 0 := by simpa using c12
        refine ok_last fun K13 h13 => ok_region rfl (
          q_mv _ rfl (q_mo _ rfl (q_mv _ rfl (q_div rfl rfl (by omega) (q_add rfl rfl (by omega) (q_iao el67 rfl rfl rfl (by omega) (by rw [List.length_map]; exact slt (q_get2 hQ q hm)) (q_lde (int ((srt x).getD (rI x q / 1000 + 1).toNat 0)) ag3 rfl rfl (mget (f := int) (q_get2 hQ q hm)) rfl (q_mv _ rfl (q_bin _ _ _ rfl rfl rfl (
          q_mv _ rfl (q_mod rfl rfl (by omega) (q_bin _ _ _ rfl rfl rfl (q_call (f145_ok _) cl145 rfl rfl (q_bin _ _ _ rfl rfl rfl (q_as _ rfl (run_nil (h13 _ (⟨_, (by rw [qv, if_neg hm]), le_sub ⟨rfl, trivial⟩ trivial⟩))))))))))))))))))
      · have hm : rI x q % 1000 = 0 := by simpa using c12
        refine ok_skip (⟨_, (by rw [qv, if_pos hm]), le_sub ⟨rfl, trivial⟩ trivial⟩)
    · refine ok_seq fun K14 h14 => ?_
      refine ok_region rfl (q_mv _ rfl (q_as _ rfl (q_as _ rfl (run_nil (h14 _ ?_)))))
      clear h14 K14
      refine ok_ret ⟨_, rfl, ?_⟩
      rw [quantI, pB_true hQ, if_pos rfl, J]; rfl
theorem f8_ok (x : List Int) (hx : LB x.length) (q : Int) (_ : (Lit.int .i64 q).wf = true) : PFn Try.prog 8 [ints x, int q] (bool true) := by
  refine fn_ok' (n := 41) Try.func8 rfl rfl rfl (Nat.le_of_ble_eq_true rfl) rfl fun w0 O => ?_
  refine ok_seq fun K1 h1 => ok_region rfl (q_as _ rfl (run_nil (h1 _ ?_))); clear h1 K1
  refine ok_seq fun K2 h2 => ?_
  refine ok_seq fun K3 h3 => ok_region rfl (q_mv _ rfl (q_len eS67 rfl (q_bin _ _ _ rfl rfl rfl (run_nil (h3 _ ?_))))); clear h3 K3
  refine ok_cond rfl (fun c4 => ?_) (fun c4 => ?_)
  · refine ok_seq fun K5 h5 => ?_
    refine ok_region rfl (q_as _ rfl (run_nil (h5 _ ?_)))
    clear h5 K5
    refine ok_ret ⟨_, rfl, ?_⟩
    rfl
  · refine ok_skip (h2 _ ?_)
    have hs : x.length ≤ 1048576 := by simp only [List.length_map, decide_eq_false_iff_not] at c4; omega
    refine ok_seq fun K6 h6 => ok_region rfl (q_mv _ rfl (q_call (f44_ok x hs) cl44 rfl rfl (q_mv _ rfl (q_call (f43_ok x hs q) cl43 rfl rfl (q_mv _ rfl (q_ext _ rfl rfl (q_ext _ rfl rfl (q_as _ rfl (q_as _ rfl (run_nil (h6 _ ?_))))))))))); clear h6 K6
    refine ok_seq fun K7 h7 => ok_region rfl (q_mv _ rfl (q_call (f44_ok x hs) cl44 rfl rfl (q_as _ rfl (run_nil (h7 _ ?_))))); clear h7 K7
    refine ok_seq fun K8 h8 => ok_region rfl (q_mv _ rfl (q_mv _ rfl (q_call (f45_ok x hs q) cl45 rfl rfl (q_mv _ rfl (q_ext _ rfl rfl (q_ext _ rfl rfl (q_as _ rfl (q_as _ rfl (run_nil (h8 _ ?_)))))))))); clear h8 K8
    refine ok_seq fun K9 h9 => ?_
    refine ok_seq fun K10 h10 => ?_
    refine ok_region rfl (q_mv _ rfl (q_mv _ rfl (q_bin _ _ _ rfl rfl rfl (q_mv _ rfl (q_or 3 3 rfl rfl rfl rfl rfl (fun hb35 =>
        q_mv _ rfl (q_mv _ rfl (q_neb Try.underlying4 rfl rfl (run_nil ⟨rfl, rfl, rfl, rfl⟩)))) (
      run_nil (h10 _ ?_)))))))
    clear h10 K10
    refine ok_cond rfl (fun c11 => ?_) (fun c11 => ?_)
    · refine ok_seq fun K12 h12 => ?_
      refine ok_region rfl (q_as _ rfl (run_nil (h12 _ ?_)))
      clear h12 K12
      refine ok_ret ⟨_, rfl, ?_⟩
      simp at c11
    · refine ok_skip (h9 _ ?_)
      refine ok_seq fun K13 h13 => ?_
      refine ok_seq fun K14 h14 => ok_region rfl (q_mv _ rfl (q_mv _ rfl (q_call (f44_ok x hs) cl44 rfl rfl (q_call (f46_ok x hs) cl46 rfl rfl (q_un _ _ rfl rfl (run_nil (h14 _ ?_))))))); clear h14 K14
      refine ok_cond rfl (fun c15 => ?_) (fun c15 => ?_)
      · refine ok_seq fun K16 h16 => ?_
        refine ok_region rfl (q_as _ rfl (run_nil (h16 _ ?_)))
        clear h16 K16
        refine ok_ret ⟨_, rfl, ?_⟩
        simp at c15
      · refine ok_skip (h13 _ ?_)
        refine ok_seq fun K17 h17 => ok_region rfl (q_as _ rfl (run_nil (h17 _ ?_))); clear h17 K17
        refine ok_ret ⟨_, rfl, ?_⟩
        rfl
end Go.Ring
