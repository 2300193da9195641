/- A part of the proof. No condition. -/
import Derived.Test.YtanilephcohjkaaGreatG2
namespace Go.Ring
open Go Go.RowKit Go.Eager Go.Abs Go.Proofs
set_option maxRecDepth 100000
set_option linter.unusedVariables false
set_option linter.unusedSimpArgs false
def NodeOk (n : RingNode) : Prop := nameB n.id = true ∧ 1 ≤ n.st ∧ n.st ≤ 3 ∧ 1 ≤ n.toks.length ∧ n.toks.length ≤ 16 ∧ Ris n.toks ∧ ∀ t ∈ n.toks, 0 ≤ t ∧ t < 2147483648
def At (r : Ring) (i : Nat) (n : RingNode) : Prop := NodeOk n ∧ (∀ p, 0 < i → r.nodes[i - 1]? = some p → cmpT p.id.data.toList n.id.data.toList < 0) ∧ ∀ j p, j < i → r.nodes[j]? = some p → ∀ t ∈ n.toks, t ∉ p.toks
def GoodR (r : Ring) : Prop := 1 ≤ r.copies ∧ r.copies ≤ 5 ∧ r.nodes.length ≤ 20 ∧ ∀ i n, r.nodes[i]? = some n → At r i n

theorem ris_le {xs : List Int} (h : Ris xs) : ∀ (j i : Nat), i ≤ j → j < xs.length → xs.getD i 0 ≤ xs.getD j 0
  | 0, i, hij, _ => by obtain rfl : i = 0 := by omega
                       exact Int.le_refl _
  | j + 1, i, hij, hj => by
    by_cases e : i = j + 1
    · subst e; exact Int.le_refl _
    · have := ris_le h j i (by omega) (by omega)
      have h2 := h (j + 1) (by omega) hj
      simp only [Nat.add_sub_cancel] at h2
      omega
theorem f141_ok (n : RingNode) (hn : SRingNode n) : PFn Tryz.prog 141 [eRingNode n] (bool (pB (NodeOk n))) := by
  obtain ⟨hn1, hn2⟩ := hn
  refine fn_ok' (n := 51) Tryz.func141 rfl rfl rfl (Nat.le_of_ble_eq_true rfl) rfl fun w0 O => ?_
  refine ok_seq fun K1 h1 => ok_region rfl (q_boxs _ rfl (Nat.zero_lt_succ _) (q_as _ rfl (run_nil (h1 _ ?_)))); clear h1 K1
  have hl : (n.toks.map int).length = n.toks.length := by simp
  refine ok_seq fun K2 h2 => ?_
  refine ok_seq fun K3 h3 => ?_
  refine ok_region rfl (q_fa _ fd45_0 rfl rfl (by decide) (q_ld _ ag9 rfl rfl (q_call (f171_ok _ hn1) cl171 rfl rfl (q_un _ _ rfl rfl (q_mv _ rfl (q_or 3 3 rfl rfl rfl rfl rfl (fun hb11 =>
      q_fa _ fd45_1 rfl rfl (by decide) (q_ld _ ag3 rfl rfl (q_bin _ _ _ rfl rfl rfl (run_nil ⟨rfl, rfl, rfl, rfl⟩)))) (
    q_mv _ rfl (q_or 3 3 rfl rfl rfl rfl rfl (fun hb16 =>
      q_fa _ fd45_1 rfl rfl (by decide) (q_ld _ ag3 rfl rfl (q_bin _ _ _ rfl rfl rfl (run_nil ⟨rfl, rfl, rfl, rfl⟩)))) (
    q_mv _ rfl (q_or 4 4 rfl rfl rfl rfl rfl (fun hb22 =>
      q_fa _ fd45_2 rfl rfl (by decide) (q_ld _ ag40 rfl rfl (q_len eS40 rfl (q_bin _ _ _ rfl rfl rfl (run_nil ⟨rfl, rfl, rfl, rfl⟩))))) (
    q_mv _ rfl (q_or 4 4 rfl rfl rfl rfl rfl (fun hb28 =>
      q_fa _ fd45_2 rfl rfl (by decide) (q_ld _ ag40 rfl rfl (q_len eS40 rfl (q_bin _ _ _ rfl rfl rfl (run_nil ⟨rfl, rfl, rfl, rfl⟩))))) (
    q_mv _ rfl (q_or 4 4 rfl rfl rfl rfl rfl (fun hb34 =>
      q_fa _ fd45_2 rfl rfl (by decide) (q_ld _ ag40 rfl rfl (q_call (f199_ok _ hn2) cl199 rfl rfl (q_un _ _ rfl rfl (run_nil ⟨rfl, rfl, rfl, rfl⟩))))) (
    run_nil (h3 _ ?_))))))))))))))))
  clear h3 K3
  refine ok_cond rfl (fun c4 => ?_) (fun c4 => ?_)
  · refine ok_seq fun K5 h5 => ok_region rfl (q_as _ rfl (run_nil (h5 _ ?_)))
    refine ok_ret ⟨_, rfl, ?_⟩
    rw [pB_false]; · rfl
    rintro ⟨a1, a2, a3, a4, a5, a6, a7⟩
    rw [a1, risB_true a6, hl] at c4
    simp only [Bool.not_true, Bool.false_or, Bool.true_and, Bool.or_eq_true, decide_eq_true_eq, Bool.not_eq_true', decide_eq_false_iff_not] at c4
    omega
  · refine ok_skip (h2 _ ?_)
    simp only [Bool.or_eq_false_iff, decide_eq_false_iff_not, Bool.not_eq_false', Bool.and_eq_true, decide_eq_true_eq, hl] at c4
    obtain ⟨⟨⟨⟨⟨a1, a2⟩, a3⟩, a4⟩, a5⟩, a6, _⟩ := c4
    have a6' : Ris n.toks := by simpa [risB] using a6
    have a4' : 1 ≤ n.toks.length := by omega
    refine ok_seq fun K6 h6 => ?_
    refine ok_region rfl (q_fa _ fd45_2 rfl rfl (by decide) (q_ld _ ag40 rfl rfl (q_ia (s := int (n.toks.getD 0 0)) el40 rfl rfl (by omega) (iget (iget' a4')) (q_ld _ ag3 rfl rfl (q_bin _ _ _ rfl rfl rfl (q_mv _ rfl (q_and 9 9 rfl rfl rfl rfl rfl (fun hb50 =>
        q_fa _ fd45_2 rfl rfl (by decide) (q_ld _ ag40 rfl rfl (q_fa _ fd45_2 rfl rfl (by decide) (q_ld _ ag40 rfl rfl (q_len eS40 rfl (q_sub rfl rfl (by omega) (q_ia (s := int (n.toks.getD (n.toks.length - 1) 0)) el40 rfl rfl (by omega) (by rw [hl, show ((n.toks.length : Int) - 1).toNat = n.toks.length - 1 by omega]; exact iget (iget' (by omega))) (
        q_ld _ ag3 rfl rfl (q_bin _ _ _ rfl rfl rfl (run_nil ⟨rfl, rfl, rfl, rfl⟩)))))))))) (
      q_as _ rfl (run_nil (h6 _ ?_))))))))))
    refine ok_ret ⟨_, rfl, ?_⟩
    have e : (decide (0 ≤ n.toks.getD 0 0) && decide (n.toks.getD (n.toks.length - 1) 0 < 2147483648)) = pB (NodeOk n) := by
      rw [Bool.eq_iff_iff]
      simp only [Bool.and_eq_true, decide_eq_true_eq, pB]
      constructor
      · rintro ⟨b1, b2⟩
        refine ⟨a1, by omega, by omega, a4', by omega, a6', fun t ht => ?_⟩
        obtain ⟨i, hi⟩ := List.getElem?_of_mem ht
        have hlt := (List.getElem?_eq_some_iff.1 hi).1
        have e1 : n.toks.getD i 0 = t := by rw [List.getD_eq_getElem?_getD, hi]; rfl
        have := ris_le a6' i 0 (by omega) hlt
        have := ris_le a6' (n.toks.length - 1) i (by omega) (by omega)
        omega
      · rintro ⟨_, _, _, _, _, _, a7⟩
        have g : ∀ i, i < n.toks.length → n.toks.getD i 0 ∈ n.toks := fun i hi => List.mem_of_getElem? (iget' hi)
        exact ⟨(a7 _ (g 0 a4')).1, (a7 _ (g _ (by omega))).2⟩
    rw [← e]; rfl
end Go.Ring
