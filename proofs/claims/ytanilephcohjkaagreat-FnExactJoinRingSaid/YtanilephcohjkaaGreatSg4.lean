/- Parts of the proof, laid together: G15 G6. No condition. -/
import Derived.Test.YtanilephcohjkaaGreatSg3
/- Tokens of a ring in order; the owners of a place. No condition. -/
namespace Go.Ring
open Go Go.RowKit Go.Eager Go.Abs Go.Proofs
set_option maxRecDepth 100000
set_option linter.unusedVariables false
set_option linter.unusedSimpArgs false

abbrev Tok := Int × Nat
def dstI (p t : Int) : Int := (t - p + 2147483648) % 2147483648
def nstep (p : Int) (done : List Nat) (b : Int × Int) (t : Tok) : Int × Int := if t.2 ∈ done then b else if b.1 < 0 ∨ dstI p t.1 < b.2 then ((t.2 : Int), dstI p t.1) else b
def nfold (p : Int) (done : List Nat) (l : List Tok) : Int × Int := l.foldl (nstep p done) (-1, 0)
theorem nfold_snoc (p : Int) (done : List Nat) (l : List Tok) (t : Tok) : nfold p done (l ++ [t]) = nstep p done (nfold p done l) t := by unfold nfold; rw [List.foldl_append]; rfl
theorem nfold_spec (p : Int) (done : List Nat) (l : List Tok) : (nfold p done l = (-1, 0) ∧ ∀ t ∈ l, t.2 ∈ done) ∨ ∃ t ∈ l, t.2 ∉ done ∧ nfold p done l = ((t.2 : Int), dstI p t.1) ∧ ∀ u ∈ l, u.2 ∉ done → dstI p t.1 ≤ dstI p u.1 := by
  have H : ∀ r : List Tok, (nfold p done r.reverse = (-1, 0) ∧ ∀ t ∈ r, t.2 ∈ done) ∨ ∃ t ∈ r, t.2 ∉ done ∧ nfold p done r.reverse = ((t.2 : Int), dstI p t.1) ∧ ∀ u ∈ r, u.2 ∉ done → dstI p t.1 ≤ dstI p u.1 := by
    intro r
    induction r with
    | nil => exact .inl ⟨rfl, fun t ht => by simp at ht⟩
    | cons x r ih =>
      rw [List.reverse_cons, nfold_snoc]
      by_cases hx : x.2 ∈ done
      · have e : ∀ b, nstep p done b x = b := fun b => by unfold nstep; rw [if_pos hx]
        rw [e]
        rcases ih with ⟨h1, h2⟩ | ⟨t, ht, h1, h2, h3⟩
        · refine .inl ⟨h1, fun t ht => ?_⟩
          rcases List.mem_cons.1 ht with rfl | ht
          · exact hx
          · exact h2 t ht
        · refine .inr ⟨t, List.mem_cons_of_mem _ ht, h1, h2, fun u hu hd => ?_⟩
          rcases List.mem_cons.1 hu with rfl | hu
          · exact (hd hx).elim
          · exact h3 u hu hd
      · rcases ih with ⟨h1, h2⟩ | ⟨t, ht, h1, h2, h3⟩
        · refine .inr ⟨x, List.mem_cons_self, hx, ?_, fun u hu hd => ?_⟩
          · rw [h1]; unfold nstep; rw [if_neg hx, if_pos (.inl (by decide))]
          · rcases List.mem_cons.1 hu with rfl | hu
            · exact Int.le_refl _
            · exact (hd (h2 u hu)).elim
        · rw [h2]
          unfold nstep
          rw [if_neg hx]
          by_cases hl : ((t.2 : Int), dstI p t.1).1 < 0 ∨ dstI p x.1 < ((t.2 : Int), dstI p t.1).2
          · rw [if_pos hl]
            have hlt : dstI p x.1 < dstI p t.1 := by
              rcases hl with h | h
              · simp only at h; omega
              · exact h
            refine .inr ⟨x, List.mem_cons_self, hx, rfl, fun u hu hd => ?_⟩
            rcases List.mem_cons.1 hu with rfl | hu
            · exact Int.le_refl _
            · have := h3 u hu hd; omega
          · rw [if_neg hl]
            refine .inr ⟨t, List.mem_cons_of_mem _ ht, h1, rfl, fun u hu hd => ?_⟩
            rcases List.mem_cons.1 hu with rfl | hu
            · simp only [not_or] at hl; omega
            · exact h3 u hu hd
  have := H l.reverse
  simpa using this
def pickG (c : Int) : List Tok → List Nat → List Nat
  | [], out => out
  | t :: r, out => if (out.length : Int) < c ∧ t.2 ∉ out then pickG c r (out ++ [t.2]) else pickG c r out
theorem pick_full (c : Int) : ∀ (l : List Tok) (out : List Nat), ¬ (out.length : Int) < c → pickG c l out = out
  | [], out, h => rfl
  | t :: r, out, h => by unfold pickG; rw [if_neg (fun h' => h h'.1)]; exact pick_full c r out h
theorem pick_none (c : Int) : ∀ (l : List Tok) (out : List Nat), (∀ t ∈ l, t.2 ∈ out) → pickG c l out = out
  | [], out, h => rfl
  | t :: r, out, h => by unfold pickG; rw [if_neg (fun h' => h'.2 (h t List.mem_cons_self))]; exact pick_none c r out fun u hu => h u (List.mem_cons_of_mem _ hu)
theorem pick_next (c : Int) : ∀ (l : List Tok) (out : List Nat) (t : Tok), (out.length : Int) < c → l.find? (fun u => decide (u.2 ∉ out)) = some t → pickG c l out = pickG c l (out ++ [t.2])
  | [], out, t, h, hf => by simp at hf
  | x :: r, out, t, h, hf => by
    by_cases hx : x.2 ∈ out
    · rw [List.find?_cons_of_neg (by simpa using hx)] at hf
      have ih := pick_next c r out t h hf
      have e1 : pickG c (x :: r) out = pickG c r out := by rw [pickG, if_neg (fun h' => h'.2 hx)]
      have e2 : pickG c (x :: r) (out ++ [t.2]) = pickG c r (out ++ [t.2]) := by rw [pickG, if_neg (fun h' => h'.2 (List.mem_append_left _ hx))]
      rw [e1, e2, ih]
    · rw [List.find?_cons_of_pos (by simpa using hx)] at hf
      cases hf
      have e1 : pickG c (x :: r) out = pickG c r (out ++ [x.2]) := by rw [pickG, if_pos ⟨h, hx⟩]
      have e2 : pickG c (x :: r) (out ++ [x.2]) = pickG c r (out ++ [x.2]) := by rw [pickG, if_neg (fun h' => h'.2 (by simp))]
      rw [e1, e2]
theorem nfold_find {p : Int} {done : List Nat} {l C : List Tok} (hp : l.Perm C) (hs : C.Pairwise fun a b => dstI p a.1 < dstI p b.1) :
    (C.find? (fun u => decide (u.2 ∉ done)) = none ∧ (nfold p done l).1 = -1) ∨ ∃ t, C.find? (fun u => decide (u.2 ∉ done)) = some t ∧ (nfold p done l).1 = (t.2 : Int) := by
  rcases nfold_spec p done l with ⟨h1, h2⟩ | ⟨t, ht, h1, h2, h3⟩
  · refine .inl ⟨?_, by rw [h1]⟩
    rw [List.find?_eq_none]
    intro u hu
    have := h2 u (hp.symm.mem_iff.1 hu)
    simpa using this
  · refine .inr ⟨t, ?_, by rw [h2]⟩
    have htC := hp.mem_iff.1 ht
    have h3' : ∀ u ∈ C, u.2 ∉ done → dstI p t.1 ≤ dstI p u.1 := fun u hu hd => h3 u (hp.mem_iff.2 hu) hd
    clear h2 h3 ht hp
    induction C with
    | nil => simp at htC
    | cons x r ih =>
      obtain ⟨a1, a2⟩ := List.pairwise_cons.1 hs
      by_cases hx : x.2 ∈ done
      · rw [List.find?_cons_of_neg (by simpa using hx)]
        refine ih a2 ?_ (fun u hu => h3' u (List.mem_cons_of_mem _ hu))
        rcases List.mem_cons.1 htC with rfl | h
        · exact (h1 hx).elim
        · exact h
      · rw [List.find?_cons_of_pos (by simpa using hx)]
        rcases List.mem_cons.1 htC with rfl | h
        · rfl
        · have := a1 t h
          have := h3' x List.mem_cons_self hx
          omega
def cyc (S : List Tok) (n : Nat) : List Tok := S.drop n ++ S.take n
theorem cyc_perm (S : List Tok) (n : Nat) : (cyc S n).Perm S := by
  unfold cyc
  refine List.perm_append_comm.trans ?_
  rw [List.take_append_drop]
theorem dst_hi {p t : Int} (h0 : 0 ≤ p) (h1 : p ≤ t) (h2 : t < 2147483648) : dstI p t = t - p := by unfold dstI; omega
theorem dst_lo {p t : Int} (h0 : 0 ≤ t) (h1 : t < p) (h2 : p < 2147483648) : dstI p t = t - p + 2147483648 := by unfold dstI; omega
theorem cyc_sorted {S : List Tok} {n : Nat} {p : Int} (hp0 : 0 ≤ p) (hp1 : p < 2147483648) (hs : S.Pairwise fun a b => a.1 < b.1) (hr : ∀ t ∈ S, 0 ≤ t.1 ∧ t.1 < 2147483648) (hlo : ∀ t ∈ S.take n, t.1 < p) (hhi : ∀ t ∈ S.drop n, p ≤ t.1) :
    (cyc S n).Pairwise fun a b => dstI p a.1 < dstI p b.1 := by
  have hs' := hs
  rw [← List.take_append_drop n S] at hs'
  obtain ⟨a1, a2, a3⟩ := List.pairwise_append.1 hs'
  unfold cyc
  rw [List.pairwise_append]
  refine ⟨?_, ?_, fun a ha b hb => ?_⟩
  · refine List.Pairwise.imp_of_mem (fun {a b} ha hb h => ?_) a2
    rw [dst_hi hp0 (hhi a ha) (hr a (List.mem_of_mem_drop ha)).2, dst_hi hp0 (hhi b hb) (hr b (List.mem_of_mem_drop hb)).2]; omega
  · refine List.Pairwise.imp_of_mem (fun {a b} ha hb h => ?_) a1
    rw [dst_lo (hr a (List.mem_of_mem_take ha)).1 (hlo a ha) hp1, dst_lo (hr b (List.mem_of_mem_take hb)).1 (hlo b hb) hp1]; omega
  · rw [dst_hi hp0 (hhi a ha) (hr a (List.mem_of_mem_drop ha)).2, dst_lo (hr b (List.mem_of_mem_take hb)).1 (hlo b hb) hp1]
    have := (hr a (List.mem_of_mem_drop ha)).2
    have := (hr b (List.mem_of_mem_take hb)).1
    omega
theorem cyc_get {S : List Tok} {n i : Nat} (hn : n ≤ S.length) (hi : i < S.length) : (cyc S n)[i]? = S[(n + i) % S.length]? := by
  unfold cyc
  by_cases h : i < S.length - n
  · rw [List.getElem?_append_left (by simp; omega), List.getElem?_drop, Nat.mod_eq_of_lt (by omega)]
  · rw [List.getElem?_append_right (by simp; omega), List.getElem?_take, List.length_drop]
    have e : (n + i) % S.length = i - (S.length - n) := by
      rw [Nat.mod_eq_sub_mod (by omega), Nat.mod_eq_of_lt (by omega)]; omega
    rw [e, if_pos (by omega)]

def tksF : List RingNode → Nat → List Tok
  | [], _ => []
  | n :: r, i => n.toks.map (fun t => (t, i)) ++ tksF r (i + 1)
theorem tksF_snoc : ∀ (l : List RingNode) (n : RingNode) (i : Nat), tksF (l ++ [n]) i = tksF l i ++ n.toks.map fun t => (t, i + l.length)
  | [], n, i => by simp [tksF]
  | m :: l, n, i => by simp only [List.cons_append, tksF, tksF_snoc l n (i + 1), List.append_assoc, List.length_cons]; congr 3; funext t; congr 1; omega
def pre (r : Ring) (k : Nat) : List Tok := tksF (r.nodes.take k) 0
def tks (r : Ring) : List Tok := tksF r.nodes 0
theorem pre_zero' (r : Ring) : pre r 0 = [] := rfl
theorem pre_snoc {r : Ring} {k : Nat} {n : RingNode} (h : r.nodes[k]? = some n) : pre r (k + 1) = pre r k ++ n.toks.map fun t => (t, k) := by
  have hlt := (List.getElem?_eq_some_iff.1 h).1
  unfold pre
  rw [List.take_add_one, h, Option.toList_some, tksF_snoc, List.length_take, Nat.min_eq_left (by omega), Nat.zero_add]
theorem pre_end {r : Ring} {k : Nat} (h : r.nodes.length ≤ k) : pre r k = tks r := by unfold pre tks; rw [List.take_of_length_le h]
theorem mem_pre {r : Ring} {t : Tok} : ∀ {k : Nat}, t ∈ pre r k → ∃ n, t.2 < k ∧ r.nodes[t.2]? = some n ∧ t.1 ∈ n.toks
  | 0, h => by simp [pre, tksF] at h
  | k + 1, h => by
    cases hn : r.nodes[k]? with
    | none =>
      have hk := List.getElem?_eq_none_iff.1 hn
      have e : pre r (k + 1) = pre r k := by unfold pre; rw [List.take_of_length_le (by omega), List.take_of_length_le hk]
      rw [e] at h
      obtain ⟨n, h1, h2⟩ := mem_pre h
      exact ⟨n, by omega, h2⟩
    | some n =>
      rw [pre_snoc hn] at h
      rcases List.mem_append.1 h with h | h
      · obtain ⟨m, h1, h2⟩ := mem_pre h; exact ⟨m, by omega, h2⟩
      · obtain ⟨x, hx, rfl⟩ := List.mem_map.1 h
        exact ⟨n, Nat.lt_succ_self k, hn, hx⟩
def lowT (p : Int) : List Tok → Nat
  | [] => 0
  | t :: r => if t.1 < p then lowT p r + 1 else 0
theorem lowT_eq (p : Int) : ∀ (S : List Tok) (k : Nat), k ≤ S.length → (∀ i x, i < k → S[i]? = some x → x.1 < p) → (∀ x, S[k]? = some x → ¬ x.1 < p) → lowT p S = k
  | [], k, h, _, _ => by simp at h; subst h; rfl
  | t :: r, 0, _, _, h2 => by have := h2 t rfl; unfold lowT; rw [if_neg this]
  | t :: r, k + 1, h, h1, h2 => by
    have := h1 0 t (by omega) rfl
    unfold lowT
    rw [if_pos this, lowT_eq p r k (by simpa using h) (fun i x hi hx => h1 (i + 1) x (by omega) hx) (fun x hx => h2 x hx)]
theorem lowT_le (p : Int) : ∀ S : List Tok, lowT p S ≤ S.length
  | [] => Nat.le_refl _
  | t :: r => by have := lowT_le p r; unfold lowT; split <;> simp <;> omega
theorem lowT_lo (p : Int) : ∀ (S : List Tok), ∀ t ∈ S.take (lowT p S), t.1 < p
  | [], t, h => by simp at h
  | x :: r, t, h => by
    unfold lowT at h
    split at h
    · rename_i hx
      rw [List.take_succ_cons] at h
      rcases List.mem_cons.1 h with rfl | h
      · exact hx
      · exact lowT_lo p r t h
    · simp at h
theorem lowT_hi (p : Int) : ∀ (S : List Tok), (S.Pairwise fun a b => a.1 < b.1) → ∀ t ∈ S.drop (lowT p S), p ≤ t.1
  | [], _, t, h => by simp at h
  | x :: r, hs, t, h => by
    obtain ⟨a1, a2⟩ := List.pairwise_cons.1 hs
    unfold lowT at h
    split at h
    · rw [List.drop_succ_cons] at h
      exact lowT_hi p r a2 t h
    · rename_i hx
      rw [List.drop_zero] at h
      rcases List.mem_cons.1 h with rfl | h
      · omega
      · have := a1 t h; omega
def sortT (l : List Tok) : List Tok := l.mergeSort fun x y => decide (x.1 ≤ y.1)
theorem sortT_perm (l : List Tok) : (sortT l).Perm l := List.mergeSort_perm l _
theorem sortT_le (l : List Tok) : (sortT l).Pairwise fun a b => decide (a.1 ≤ b.1) = true := List.pairwise_mergeSort (fun a b c h1 h2 => by simp only [decide_eq_true_eq] at *; omega) (fun a b => by simp only [Bool.or_eq_true, decide_eq_true_eq]; omega) l
theorem distinct_mem {l : List Tok} (h : l.Pairwise fun a b => a.1 ≠ b.1) : ∀ a ∈ l, ∀ b ∈ l, a.1 = b.1 → a = b := by
  induction l with
  | nil => intro a ha; simp at ha
  | cons x r ih =>
    obtain ⟨a1, a2⟩ := List.pairwise_cons.1 h
    intro a ha b hb he
    rcases List.mem_cons.1 ha with ha | ha
    · rcases List.mem_cons.1 hb with hb | hb
      · rw [ha, hb]
      · exact (a1 b hb (by rw [← ha]; exact he)).elim
    · rcases List.mem_cons.1 hb with hb | hb
      · exact (a1 a ha (by rw [← hb]; exact he.symm)).elim
      · exact ih a2 a ha b hb he
theorem sortT_eq {l ys : List Tok} (hd : l.Pairwise fun a b => a.1 ≠ b.1) (hp : ys.Perm l) (hs : ys.Pairwise fun a b => a.1 ≤ b.1) : ys = sortT l :=
  List.Perm.eq_of_pairwise (le := fun a b => decide (a.1 ≤ b.1) = true) (fun a b ha hb h1 h2 => by
    simp only [decide_eq_true_eq] at h1 h2
    exact distinct_mem hd a (hp.mem_iff.1 ha) b ((sortT_perm l).mem_iff.1 hb) (by omega)) (hs.imp fun {a b} h => by simpa using h) (sortT_le l) (hp.trans (sortT_perm l).symm)
theorem sortT_lt {l : List Tok} (hd : l.Pairwise fun a b => a.1 ≠ b.1) : (sortT l).Pairwise fun a b => a.1 < b.1 := by
  have h1 := sortT_le l
  have h2 : (sortT l).Pairwise fun a b => a.1 ≠ b.1 := (sortT_perm l).symm.pairwise hd (fun {a b} h => fun e => h e.symm)
  exact (h1.and h2).imp fun {a b} h => by have := h.1; simp only [decide_eq_true_eq] at this; have := h.2; omega
def ownL (r : Ring) (p : Int) : List Nat := pickG r.copies (cyc (sortT (tks r)) (lowT p (sortT (tks r)))) []

theorem ris_pw {xs : List Int} (h : Ris xs) : xs.Pairwise (· < ·) := by
  rw [List.pairwise_iff_getElem]
  intro i j hi hj hij
  have h1 := ris_le h (j - 1) i (by omega) (by omega)
  have h2 := h j (by omega) hj
  have e1 : xs.getD i 0 = xs[i] := by rw [List.getD_eq_getElem?_getD, List.getElem?_eq_getElem hi]; rfl
  have e2 : xs.getD j 0 = xs[j] := by rw [List.getD_eq_getElem?_getD, List.getElem?_eq_getElem hj]; rfl
  omega
theorem pre_distinct {r : Ring} (hg : GoodR r) : ∀ k, (pre r k).Pairwise fun a b => a.1 ≠ b.1
  | 0 => List.Pairwise.nil
  | k + 1 => by
    have ih := pre_distinct hg k
    cases hn : r.nodes[k]? with
    | none =>
      have hk := List.getElem?_eq_none_iff.1 hn
      have e : pre r (k + 1) = pre r k := by unfold pre; rw [List.take_of_length_le (by omega), List.take_of_length_le hk]
      rw [e]; exact ih
    | some n =>
      obtain ⟨hN, _, hA⟩ := hg.2.2.2 k n hn
      rw [pre_snoc hn, List.pairwise_append]
      refine ⟨ih, ?_, fun a ha b hb => ?_⟩
      · rw [List.pairwise_map]
        exact (ris_pw hN.2.2.2.2.2.1).imp fun {a b} h => by simp only; omega
      · obtain ⟨x, hx, rfl⟩ := List.mem_map.1 hb
        obtain ⟨m, h1, h2, h3⟩ := mem_pre ha
        intro e
        simp only at e
        exact hA a.2 m h1 h2 x hx (e ▸ h3)
theorem tks_distinct {r : Ring} (hg : GoodR r) : (tks r).Pairwise fun a b => a.1 ≠ b.1 := by rw [← pre_end (Nat.le_refl _)]; exact pre_distinct hg _
theorem tks_mem {r : Ring} {t : Tok} (h : t ∈ tks r) : ∃ n, r.nodes[t.2]? = some n ∧ t.1 ∈ n.toks := by
  rw [← pre_end (Nat.le_refl _)] at h
  obtain ⟨n, _, h1, h2⟩ := mem_pre h
  exact ⟨n, h1, h2⟩
theorem tks_range {r : Ring} (hg : GoodR r) {t : Tok} (h : t ∈ tks r) : 0 ≤ t.1 ∧ t.1 < 2147483648 ∧ t.2 < r.nodes.length := by
  obtain ⟨n, h1, h2⟩ := tks_mem h
  have := (hg.2.2.2 t.2 n h1).1.2.2.2.2.2.2 t.1 h2
  exact ⟨this.1, this.2, slt h1⟩
theorem pre_len_le {r : Ring} (hg : GoodR r) : ∀ k, (pre r k).length ≤ 16 * k
  | 0 => Nat.le_refl _
  | k + 1 => by
    have ih := pre_len_le hg k
    cases hn : r.nodes[k]? with
    | none =>
      have hk := List.getElem?_eq_none_iff.1 hn
      have e : pre r (k + 1) = pre r k := by unfold pre; rw [List.take_of_length_le (by omega), List.take_of_length_le hk]
      rw [e]; omega
    | some n =>
      have := (hg.2.2.2 k n hn).1.2.2.2.2.1
      rw [pre_snoc hn, List.length_append, List.length_map]; omega
theorem tks_len {r : Ring} (hg : GoodR r) : (tks r).length ≤ 320 := by
  have h1 := pre_len_le hg r.nodes.length
  rw [pre_end (Nat.le_refl _)] at h1
  have := hg.2.2.1
  omega
theorem tks_pos {r : Ring} (hg : GoodR r) (h : 0 < r.nodes.length) : 0 < (tks r).length := by
  obtain ⟨n, hn⟩ := sget h
  have h2 := (hg.2.2.2 0 n hn).1.2.2.2.1
  obtain ⟨t, ht⟩ := sget (l := n.toks) (i := 0) (by omega)
  have h3 : (t, 0) ∈ pre r 1 := by rw [pre_snoc hn]; exact List.mem_append_right _ (List.mem_map.2 ⟨t, smem ht, rfl⟩)
  have h4 : ∀ l : List RingNode, ∀ m, m ∈ l → ∀ i, ∀ x ∈ m.toks, 0 < (tksF l i).length := by
    intro l
    induction l with
    | nil => intro m hm; simp at hm
    | cons a l ih =>
      intro m hm i x hx
      simp only [tksF, List.length_append, List.length_map]
      rcases List.mem_cons.1 hm with rfl | hm
      · have := List.length_pos_of_mem hx; omega
      · have := ih m hm (i + 1) x hx; omega
  exact h4 r.nodes n (smem hn) 0 t (smem ht)
theorem sort_range {r : Ring} (hg : GoodR r) {t : Tok} (h : t ∈ sortT (tks r)) : 0 ≤ t.1 ∧ t.1 < 2147483648 ∧ t.2 < r.nodes.length := tks_range hg ((sortT_perm _).mem_iff.1 h)
theorem next_own {r : Ring} (hg : GoodR r) {p : Int} (hp0 : 0 ≤ p) (hp1 : p < 2147483648) (out : List Nat) (h : (out.length : Int) < r.copies) :
    ((nfold p out (tks r)).1 = -1 ∧ pickG r.copies (cyc (sortT (tks r)) (lowT p (sortT (tks r)))) out = out) ∨
    ∃ i : Nat, (nfold p out (tks r)).1 = i ∧ i < r.nodes.length ∧ pickG r.copies (cyc (sortT (tks r)) (lowT p (sortT (tks r)))) out = pickG r.copies (cyc (sortT (tks r)) (lowT p (sortT (tks r)))) (out ++ [i]) := by
  have hd := tks_distinct hg
  have hlt := sortT_lt hd
  have hC := cyc_sorted (n := lowT p (sortT (tks r))) hp0 hp1 hlt (fun t ht => by have := sort_range hg ht; exact ⟨this.1, this.2.1⟩) (lowT_lo p _) (lowT_hi p _ hlt)
  have hperm : (tks r).Perm (cyc (sortT (tks r)) (lowT p (sortT (tks r)))) := ((cyc_perm _ _).trans (sortT_perm _)).symm
  rcases nfold_find (done := out) hperm hC with ⟨h1, h2⟩ | ⟨t, h1, h2⟩
  · refine .inl ⟨h2, pick_none _ _ _ fun t ht => ?_⟩
    have := List.find?_eq_none.1 h1 t ht
    simpa using this
  · refine .inr ⟨t.2, h2, ?_, pick_next _ _ _ t h h1⟩
    have := List.mem_of_find?_eq_some h1
    exact (tks_range hg (hperm.mem_iff.2 this)).2.2

@[reducible] def fw (f : Nat) : SV := .raw (.func (.func f) #[] #[])
theorem shr1w {n m : Int} (h : n / 2 = m) : vBin .shr (.int .u64 n) (.int .u64 1) = some (.int .u64 m) := by subst h; rfl
def toP (t : Tok) : Int × Int := (t.1, (t.2 : Int))
@[reducible] def rowT (l : List Tok) : List SV := (l.map toP).map pairSV
@[reducible] def intsN (l : List Nat) : SV := ints (l.map fun (i : Nat) => (i : Int))
def cmpI (x y : Int) : Int := if x < y then -1 else if y < x then 1 else 0
theorem tget {l : List Tok} {i : Nat} {t : Tok} (h : l[i]? = some t) : (rowT l)[i]? = some (pairSV (toP t)) := by rw [List.getElem?_map, List.getElem?_map, h]; rfl
theorem rowT_len (l : List Tok) : (rowT l).length = l.length := by simp
theorem f210_c (x : Int) : PFn Tryz.prog 210 [int x] (bool false) := by
  refine fn_ok' (n := 6) Tryz.func210 rfl rfl rfl (Nat.le_of_ble_eq_true rfl) rfl fun w0 O => ?_
  refine ok_seq fun K1 h1 => ok_region rfl (q_as _ rfl (run_nil (h1 _ ?_)))
  refine ok_seq fun K2 h2 => ok_region rfl (q_mv _ rfl (q_mv _ rfl (q_bin _ _ _ rfl rfl rfl (q_as _ rfl (run_nil (h2 _ ?_))))))
  refine ok_ret ⟨_, rfl, ?_⟩
  simp [tupSV]
theorem f157_c (x y : Int) : PFn Tryz.prog 157 [int x, int y] (int (cmpI x y)) := by
  refine fn_ok' (n := 20) Tryz.func157 rfl rfl rfl (Nat.le_of_ble_eq_true rfl) rfl fun w0 O => ?_
  refine ok_seq fun K1 h1 => ok_region rfl (q_as _ rfl (run_nil (h1 _ ?_)))
  refine ok_seq fun K2 h2 => ok_region rfl (q_mv _ rfl (q_call (f210_c x) cl210 rfl rfl (q_as _ rfl (run_nil (h2 _ ?_)))))
  refine ok_seq fun K3 h3 => ok_region rfl (q_mv _ rfl (q_call (f210_c y) cl210 rfl rfl (q_as _ rfl (run_nil (h3 _ ?_)))))
  refine ok_seq fun K4 h4 => ?_
  refine ok_seq fun K5 h5 => ok_region rfl (q_mv _ rfl (run_nil (h5 _ ?_)))
  refine ok_cond rfl (fun c6 => ?_) (fun c6 => ?_)
  · cases c6
  · refine ok_skip (h4 _ ?_)
    refine ok_seq fun K12 h12 => ?_
    refine ok_seq fun K13 h13 => ok_region rfl (q_mv _ rfl (run_nil (h13 _ ?_)))
    refine ok_cond rfl (fun c14 => ?_) (fun c14 => ?_)
    · cases c14
    · refine ok_skip (h12 _ ?_)
      refine ok_seq fun K16 h16 => ?_
      refine ok_seq fun K17 h17 => ok_region rfl (q_mv _ rfl (q_mv _ rfl (q_bin _ _ _ rfl rfl rfl (run_nil (h17 _ ?_)))))
      refine ok_cond rfl (fun c18 => ?_) (fun c18 => ?_)
      · refine ok_seq fun K19 h19 => ?_
        refine ok_region rfl (q_as _ rfl (run_nil (h19 _ ?_)))
        refine ok_ret ⟨_, rfl, ?_⟩
        rw [cmpI, if_pos (of_decide_eq_true c18)]; rfl
      · refine ok_skip (h16 _ ?_)
        refine ok_seq fun K20 h20 => ?_
        refine ok_seq fun K21 h21 => ok_region rfl (q_mv _ rfl (q_mv _ rfl (q_bin _ _ _ rfl rfl rfl (run_nil (h21 _ ?_)))))
        refine ok_cond rfl (fun c22 => ?_) (fun c22 => ?_)
        · refine ok_seq fun K23 h23 => ?_
          refine ok_region rfl (q_as _ rfl (run_nil (h23 _ ?_)))
          refine ok_ret ⟨_, rfl, ?_⟩
          rw [cmpI, if_neg (of_decide_eq_false c18), if_pos (of_decide_eq_true c22)]; rfl
        · refine ok_skip (h20 _ ?_)
          refine ok_seq fun K24 h24 => ok_region rfl (q_as _ rfl (run_nil (h24 _ ?_)))
          refine ok_ret ⟨_, rfl, ?_⟩
          rw [cmpI, if_neg (of_decide_eq_false c18), if_neg (of_decide_eq_false c22)]; rfl
def idxI (x : Int) : List Int → Nat → Int
  | [], _ => -1
  | y :: r, k => if x = y then (k : Int) else idxI x r (k + 1)
theorem idxI_at {x y : Int} {l : List Int} {k : Nat} (h : l[k]? = some y) : idxI x (l.drop k) k = if x = y then (k : Int) else idxI x (l.drop (k + 1)) (k + 1) := by
  obtain ⟨hlt, he⟩ := List.getElem?_eq_some_iff.1 h
  rw [List.drop_eq_getElem_cons hlt, he]; rfl
theorem idxI_end {x : Int} {l : List Int} {k : Nat} (h : l.length ≤ k) : idxI x (l.drop k) k = -1 := by rw [List.drop_of_length_le h]; rfl
theorem idxI_mem (x : Int) : ∀ (l : List Int) (k : Nat), (0 ≤ idxI x l k) ↔ x ∈ l
  | [], k => by simp [idxI]
  | y :: r, k => by
    unfold idxI
    by_cases h : x = y
    · rw [if_pos h, h]; simp
    · rw [if_neg h, idxI_mem x r (k + 1)]; simp [h]
theorem f198_ok (l : List Int) (hl : l.length ≤ 1048576) (x : Int) : PFn Tryz.prog 198 [ints l, int x] (int (idxI x l 0)) := by
  refine fn_ok' (n := 19) Tryz.func198 rfl rfl rfl (Nat.le_of_ble_eq_true rfl) rfl fun w0 O => ?_
  refine ok_seq fun K1 h1 => ok_region rfl (q_as _ rfl (run_nil (h1 _ ?_)))
  refine ok_seq fun K2 h2 => ?_
  refine ok_seq fun K3 h3 => ok_region rfl (q_mv _ rfl (q_len eS40 rfl (q_mv _ rfl (run_nil (h3 _ ?_)))))
  rw [List.length_map]
  refine ok_block ?_
  refine ok_loop (fun (k : Nat) => ⟨[(0, .sv (ints l)), (1, .sv (int x)), (7, .sv (int l.length)), (8, .sv (int k))], []⟩) (fun k => idxI x l 0 = idxI x (l.drop k) k) (fun k => l.length - k) 0 rfl (le_same ⟨rfl, rfl, rfl, rfl, trivial⟩) (fun k J => ?_)
  refine ok_seq fun K4 h4 => ok_region rfl (q_bin _ _ _ rfl rfl rfl (run_nil (h4 _ ?_)))
  refine ok_seq fun K5 h5 => ?_
  refine ok_cond rfl (fun c6 => ?_) (fun c6 => ?_)
  · have hk : k < l.length := by simpa using c6
    obtain ⟨u, hu⟩ := sget hk
    rw [idxI_at hu] at J
    refine ok_skip (h5 _ ?_)
    refine ok_seq fun K7 h7 => ?_
    refine ok_block ?_
    refine ok_seq fun K8 h8 => ok_region rfl (q_mv _ rfl (q_as _ rfl (run_nil (h8 _ ?_))))
    refine ok_seq fun K9 h9 => ok_region rfl (q_mv _ rfl (q_mv _ rfl (q_mv _ rfl (q_ia (s := int u) el40 rfl rfl (by omega) (mget (f := int) hu) (q_ld _ ag3 rfl rfl (q_bin _ _ _ rfl rfl rfl (run_nil (h9 _ ?_))))))))
    refine ok_cond rfl (fun c10 => ?_) (fun c10 => ?_)
    · refine ok_seq fun K11 h11 => ?_
      refine ok_region rfl (q_mv _ rfl (q_as _ rfl (run_nil (h11 _ ?_))))
      refine ok_ret ⟨_, rfl, ?_⟩
      rw [J, if_pos (of_decide_eq_true c10)]; rfl
    · rw [if_neg (of_decide_eq_false c10)] at J
      refine ok_skip (h7 _ ?_)
      refine ok_last fun K12 h12 => ok_region rfl (
        q_add rfl rfl (by omega) (q_mv _ rfl (run_nil (h12 _ (⟨k + 1, by omega, J, le_same ⟨rfl, rfl, rfl, rfl, trivial⟩⟩)))))
  · rw [idxI_end (by simpa using c6)] at J
    refine ok_exit (h2 _ ?_)
    refine ok_seq fun K13 h13 => ok_region rfl (q_as _ rfl (run_nil (h13 _ ?_)))
    refine ok_ret ⟨_, rfl, ?_⟩
    rw [J]; rfl
theorem f136_ok (l : List Int) (hl : l.length ≤ 1048576) (x : Int) : PFn Tryz.prog 136 [ints l, int x] (bool (decide (x ∈ l))) := by
  refine fn_ok' (n := 9) Tryz.func136 rfl rfl rfl (Nat.le_of_ble_eq_true rfl) rfl fun w0 O => ?_
  refine ok_seq fun K1 h1 => ok_region rfl (q_as _ rfl (run_nil (h1 _ ?_)))
  refine ok_seq fun K2 h2 => ok_region rfl (q_mv _ rfl (q_mv _ rfl (q_call (f198_ok l hl x) cl198 rfl rfl (q_bin _ _ _ rfl rfl rfl (q_as _ rfl (run_nil (h2 _ ?_)))))))
  refine ok_ret ⟨_, rfl, ?_⟩
  have e : decide (0 ≤ idxI x l 0) = decide (x ∈ l) := by rw [decide_eq_decide]; exact idxI_mem x l 0
  rw [← e]; rfl
theorem f161_ok (t : Tok) (p : Int) : PFn Tryz.prog 161 [pairSV (toP t), int p] (int (cmpI t.1 p)) := by
  refine fn_ok' (n := 9) Tryz.func161 rfl rfl rfl (Nat.le_of_ble_eq_true rfl) rfl fun w0 O => ?_
  refine ok_seq fun K1 h1 => ok_region rfl (q_boxs _ rfl (Nat.zero_lt_succ _) (q_as _ rfl (run_nil (h1 _ ?_))))
  refine ok_seq fun K2 h2 => ok_region rfl (q_fa _ fd183_0 rfl rfl (by decide) (q_ld _ ag3 rfl rfl (q_mv _ rfl (q_call (f157_c t.1 p) cl157 rfl rfl (q_as _ rfl (run_nil (h2 _ ?_)))))))
  refine ok_ret ⟨_, rfl, ?_⟩
  rfl
theorem cmpI_neg {x y : Int} : cmpI x y < 0 ↔ x < y := by
  unfold cmpI
  by_cases h1 : x < y
  · rw [if_pos h1]; simp [h1]
  · rw [if_neg h1]
    by_cases h2 : y < x
    · rw [if_pos h2]; simp [h1]
    · rw [if_neg h2]; simp [h1]
def fndT (p : Int) (S : List Tok) : Bool := match S[lowT p S]? with | some t => decide (cmpI t.1 p = 0) | none => false
theorem f160_ok (S : List Tok) (hl1 : S.length ≤ 1048576) (hs : S.Pairwise fun a b => a.1 < b.1) (p : Int) : PFn Tryz.prog 160 [.sl 2 (rowT S), int p, fw 161] (.tup [int (lowT p S), bool (fndT p S)]) := by
  have hs' : ∀ (i j : Nat) (x y : Tok), i < j → S[i]? = some x → S[j]? = some y → x.1 < y.1 := by
    intro i j x y hij hx hy
    obtain ⟨hi, rfl⟩ := List.getElem?_eq_some_iff.1 hx
    obtain ⟨hj, rfl⟩ := List.getElem?_eq_some_iff.1 hy
    exact List.pairwise_iff_getElem.1 hs i j hi hj hij
  refine fn_ok' (n := 49) Tryz.func160 rfl rfl rfl (Nat.le_of_ble_eq_true rfl) rfl fun w0 O => ?_
  refine ok_seq fun K1 h1 => ok_region rfl (q_as _ rfl (q_as _ rfl (run_nil (h1 _ ?_))))
  refine ok_seq fun K2 h2 => ok_region rfl (q_mv _ rfl (q_len eS117 rfl (q_as _ rfl (run_nil (h2 _ ?_)))))
  rw [rowT_len]
  refine ok_seq fun K3 h3 => ok_region rfl (q_mv _ rfl (q_as _ rfl (q_as _ rfl (run_nil (h3 _ ?_)))))
  refine ok_seq fun K4 h4 => ?_
  refine ok_block ?_
  refine ok_loop (fun (s : Nat × Nat) => ⟨[(0, .sv (.sl 2 (rowT S))), (1, .sv (int p)), (2, .sv (fw 161)), (8, .sv (int S.length)), (9, .sv (int s.1)), (10, .sv (int s.2))], []⟩) (fun s => s.1 ≤ s.2 ∧ s.2 ≤ S.length ∧ (∀ i x, i < s.1 → S[i]? = some x → x.1 < p) ∧ (∀ i x, s.2 ≤ i → S[i]? = some x → ¬ x.1 < p)) (fun s => s.2 - s.1) (0, S.length) ⟨Nat.zero_le _, Nat.le_refl _, fun i x h => by simp only at h; omega, fun i x h hx => by have := slt hx; simp only at h; omega⟩ (le_same ⟨rfl, rfl, rfl, rfl, rfl, rfl, trivial⟩) (fun s J => ?_)
  obtain ⟨lo, hi⟩ := s
  obtain ⟨j1, j2, j3, j4⟩ := J
  simp only at j1 j2 j3 j4
  refine ok_seq fun K5 h5 => ?_
  refine ok_seq fun K6 h6 => ok_region rfl (q_mv _ rfl (q_mv _ rfl (q_bin _ _ _ rfl rfl rfl (run_nil (h6 _ ?_)))))
  refine ok_cond rfl (fun c7 => ?_) (fun c7 => ?_)
  · refine ok_skip (h5 _ ?_)
    have c := of_decide_eq_true c7
    obtain ⟨mid, hmid, hm1, hm2⟩ : ∃ mid : Nat, ((lo : Int) + hi) / 2 = mid ∧ lo ≤ mid ∧ mid < hi := ⟨(lo + hi) / 2, by omega, by omega, by omega⟩
    obtain ⟨u, hu⟩ := sget (l := S) (i := mid) (by omega)
    refine ok_block ?_
    refine ok_seq fun K8 h8 => ok_region rfl (q_mv _ rfl (q_mv _ rfl (q_add rfl rfl (by omega) (q_cv aS3 ik172 rfl (IntWalk.u64_in _ (by omega)) (q_bin (.int .u64 ((lo : Int) + hi)) (.int .u64 1) (.int .u64 (mid : Int)) rfl rfl (shr1w hmid) (q_cv aS172 ik3 rfl (IntWalk.i64_in _ (by omega)) (q_as _ rfl (run_nil (h8 _ ?_)))))))))
    refine ok_seq fun K9 h9 => ok_region rfl (q_mv _ rfl (q_mv _ rfl (q_mv _ rfl (q_ia el117 rfl rfl (by omega) (tget hu) (q_lds _ ag183 rfl sz183 (q_mv _ rfl (q_callv (f161_ok u p) cl161 rfl rfl rfl (q_bin _ _ _ rfl rfl rfl (run_nil (h9 _ ?_))))))))))
    refine ok_cond rfl (fun c10 => ?_) (fun c10 => ?_)
    · have d := cmpI_neg.1 (of_decide_eq_true c10)
      refine ok_last fun K20 h20 => ok_region rfl (q_mv _ rfl (q_add rfl rfl (by omega) (q_as _ rfl (run_nil (h20 _ ⟨(mid + 1, hi), by simp only; omega, ⟨by simp only; omega, j2, ?_, j4⟩, le_same ⟨rfl, rfl, rfl, rfl, rfl, rfl, trivial⟩⟩)))))
      intro i x hi hx
      rcases Nat.lt_or_ge i mid with h | h
      · have := hs' i mid x u h hx hu; omega
      · simp only at hi; obtain rfl : i = mid := by omega
        rw [hu] at hx; cases hx; exact d
    · have d : ¬ u.1 < p := fun h => of_decide_eq_false c10 (cmpI_neg.2 h)
      refine ok_last fun K20 h20 => ok_region rfl (q_mv _ rfl (q_as _ rfl (run_nil (h20 _ ⟨(lo, mid), by simp only; omega, ⟨hm1, by simp only; omega, j3, ?_⟩, le_same ⟨rfl, rfl, rfl, rfl, rfl, rfl, trivial⟩⟩))))
      intro i x hi hx d'
      simp only at hi
      rcases Nat.lt_or_ge mid i with h | h
      · have := hs' mid i u x h hu hx; omega
      · obtain rfl : i = mid := by omega
        rw [hu] at hx; cases hx; exact d d'
  · refine ok_exit (h4 _ ?_)
    have c := of_decide_eq_false c7
    obtain rfl : lo = hi := by omega
    have e := lowT_eq p S lo j2 j3 (fun x hx => j4 lo x (Nat.le_refl _) hx)
    obtain ⟨v, hv⟩ : ∃ v : Tok, lo < S.length → S[lo]? = some v := by
      rcases Nat.lt_or_ge lo S.length with h | h
      · obtain ⟨v, hv⟩ := sget h; exact ⟨v, fun _ => hv⟩
      · exact ⟨(0, 0), fun h' => by omega⟩
    refine ok_seq fun K11 h11 => ?_
    refine ok_region rfl (q_mv _ rfl (q_mv _ rfl (q_mv _ rfl (q_bin _ _ _ rfl rfl rfl (q_mv _ rfl (q_and 8 8 rfl rfl rfl rfl rfl (fun hb48 =>
        q_mv _ rfl (q_mv _ rfl (q_mv _ rfl (q_ia el117 rfl rfl (by omega) (tget (hv (by have := of_decide_eq_true hb48; omega))) (q_lds _ ag183 rfl sz183 (q_mv _ rfl (q_callv (f161_ok v p) cl161 rfl rfl rfl (q_bin _ _ _ rfl rfl rfl (run_nil ⟨rfl, rfl, rfl, rfl⟩))))))))) (
      q_as _ rfl (q_as _ rfl (run_nil (h11 _ ?_))))))))))
    refine ok_ret ⟨_, rfl, ?_⟩
    have : (decide ((lo : Int) < S.length) && decide (cmpI v.1 p = 0)) = fndT p S := by
      unfold fndT
      rw [e]
      rcases Nat.lt_or_ge lo S.length with h | h
      · rw [hv h, decide_eq_true (by omega)]; rfl
      · rw [List.getElem?_eq_none h, decide_eq_false (by omega)]; rfl
    rw [← this, e]; rfl

end Go.Ring

/- Times, values, labels, samples: what both programs ask of them. No condition. -/
namespace Go.Ring
open Go Go.RowKit Go.Eager Go.Abs Go.Proofs
set_option maxRecDepth 100000
set_option linter.unusedVariables false
set_option linter.unusedSimpArgs false
def TimeOk (t : Int) : Prop := 0 ≤ t ∧ t ≤ 1000000000000
def prB (c : UInt8) : Bool := !(decide ((c.toNat : Int) < 32) || decide (126 < (c.toNat : Int)))
def printedB (s : ByteArray) : Bool := s.data.toList.all prB
def valueB (s : ByteArray) : Bool := decide (1 ≤ s.size) && decide (s.size ≤ 100) && printedB s
def cmpB (a b : ByteArray) : Int := cmpT a.data.toList b.data.toList
def LabelAt (l : List Label) (i : Nat) (x : Label) : Prop := nameB x.name = true ∧ valueB x.value = true ∧ ∀ p, 0 < i → l[i - 1]? = some p → cmpB p.name x.name < 0
def LabelsOk (l : List Label) : Prop := l.length ≤ 20 ∧ ∀ i x, l[i]? = some x → LabelAt l i x
def SampleAt (l : List Sample) (i : Nat) (x : Sample) : Prop := TimeOk x.time ∧ ∀ p, 0 < i → l[i - 1]? = some p → p.time < x.time
def SamplesOk (l : List Sample) : Prop := l.length ≤ 2000 ∧ ∀ i x, l[i]? = some x → SampleAt l i x
theorem ne_empty (s : ByteArray) : (!decide (s.data.toList = (⟨#[]⟩ : ByteArray).data.toList)) = decide (1 ≤ s.size) := by
  have h := size_list s
  rw [← h]
  cases s.data.toList with
  | nil => rfl
  | cons a l => simp
theorem cmpB_less (a b : ByteArray) : Op.bytesLess a.data.toList b.data.toList = decide (cmpB a b < 0) := cmpT_less _ _
theorem at_step {α : Type} {l : List α} {P : Nat → α → Prop} {k : Nat} {x : α} (J : ∀ i y, i < k → l[i]? = some y → P i y) (hx : l[k]? = some x) (h : P k x) : ∀ i y, i < k + 1 → l[i]? = some y → P i y := by
  intro i y hi hy
  rcases Nat.lt_or_ge i k with h1 | h1
  · exact J i y h1 hy
  · obtain rfl : i = k := by omega
    rw [hx] at hy; cases hy; exact h
theorem at_all {α : Type} {l : List α} {P : Nat → α → Prop} {k : Nat} (J : ∀ i y, i < k → l[i]? = some y → P i y) (hk : l.length ≤ k) : ∀ i y, l[i]? = some y → P i y := fun i y hy => J i y (by have := slt hy; omega) hy
theorem prev {α : Type} {l : List α} {k : Nat} (hk : k < l.length) : ∃ p, 0 < k → l[k - 1]? = some p := by
  rcases Nat.eq_zero_or_pos k with h | h
  · exact ⟨l[k], fun h' => by omega⟩
  · exact ⟨l[k - 1]'(by omega), fun _ => List.getElem?_eq_getElem (by omega)⟩
theorem pget {α : Type} {f : α → SV} {l : List α} {k : Nat} {p : α} (hp : 0 < k → l[k - 1]? = some p) (h : 0 < k) : (l.map f)[((k : Int) - 1).toNat]? = some (f p) := by
  rw [show ((k : Int) - 1).toNat = k - 1 by omega]; exact mget (hp h)
theorem f78_ok (t : Int) : PFn Tryz.prog 78 [int t] (bool (pB (TimeOk t))) := by
  refine fn_ok' (n := 9) Tryz.func78 rfl rfl rfl (Nat.le_of_ble_eq_true rfl) rfl fun w0 O => ?_
  refine ok_seq fun K1 h1 => ok_region rfl (q_as _ rfl (run_nil (h1 _ ?_)))
  refine ok_seq fun K2 h2 => ?_
  refine ok_region rfl (q_mv _ rfl (q_bin _ _ _ rfl rfl rfl (q_mv _ rfl (q_and 2 2 rfl rfl rfl rfl rfl (fun hb8 =>
      q_mv _ rfl (q_bin _ _ _ rfl rfl rfl (run_nil ⟨rfl, rfl, rfl, rfl⟩))) (
    q_as _ rfl (run_nil (h2 _ ?_)))))))
  refine ok_ret ⟨_, rfl, ?_⟩
  unfold TimeOk
  by_cases h1 : 0 ≤ t <;> by_cases h2 : t ≤ 1000000000000 <;> simp [tupSV, pB, h1, h2]
theorem f85_ok (t : Int) : PFn Tryz.prog 85 [int t] (bool (pB (TimeOk t))) := by
  refine fn_ok' (n := 9) Tryz.func85 rfl rfl rfl (Nat.le_of_ble_eq_true rfl) rfl fun w0 O => ?_
  refine ok_seq fun K1 h1 => ok_region rfl (q_as _ rfl (run_nil (h1 _ ?_)))
  refine ok_seq fun K2 h2 => ?_
  refine ok_region rfl (q_mv _ rfl (q_bin _ _ _ rfl rfl rfl (q_mv _ rfl (q_and 2 2 rfl rfl rfl rfl rfl (fun hb8 =>
      q_mv _ rfl (q_bin _ _ _ rfl rfl rfl (run_nil ⟨rfl, rfl, rfl, rfl⟩))) (
    q_as _ rfl (run_nil (h2 _ ?_)))))))
  refine ok_ret ⟨_, rfl, ?_⟩
  unfold TimeOk
  by_cases h1 : 0 ≤ t <;> by_cases h2 : t ≤ 1000000000000 <;> simp [tupSV, pB, h1, h2]
theorem f172_ok (s : ByteArray) (hs : s.size ≤ 1048576) : PFn Tryz.prog 172 [str s] (bool (printedB s)) := by
  refine fn_ok' (n := 20) Tryz.func172 rfl rfl rfl (Nat.le_of_ble_eq_true rfl) rfl fun w0 O => ?_
  refine ok_seq fun K1 h1 => ok_region rfl (q_as _ rfl (run_nil (h1 _ ?_)))
  refine ok_seq fun K2 h2 => ?_
  refine ok_seq fun K3 h3 => ok_region rfl (q_as _ rfl (run_nil (h3 _ ?_)))
  refine ok_block ?_
  refine ok_loop (fun (k : Nat) => ⟨[(0, .sv (str s)), (3, .sv (int k))], []⟩) (fun k => (s.data.toList.take k).all prB = true) (fun k => s.size - k) 0 rfl (le_same ⟨rfl, rfl, trivial⟩) (fun k J => ?_)
  refine ok_seq fun K4 h4 => ?_
  refine ok_seq fun K5 h5 => ok_region rfl (q_mv _ rfl (q_mv _ rfl (q_lens st9 rfl (q_bin _ _ _ rfl rfl rfl (run_nil (h5 _ ?_))))))
  refine ok_cond rfl (fun c6 => ?_) (fun c6 => ?_)
  · refine ok_skip (h4 _ ?_)
    have hk : k < s.size := by simpa using c6
    obtain ⟨c, hc⟩ : ∃ c, s.data.toList[k]? = some c := ⟨_, bget' hk⟩
    refine ok_seq fun K7 h7 => ?_
    refine ok_block ?_
    refine ok_seq fun K8 h8 => ?_
    refine ok_region rfl (q_mv _ rfl (q_mv _ rfl (q_ix st9 rfl rfl (by omega) (bget hc) (q_bin _ _ _ rfl rfl rfl (q_mv _ rfl (q_or 4 4 rfl rfl rfl rfl rfl (fun hb19 =>
        q_mv _ rfl (q_mv _ rfl (q_ix st9 rfl rfl (by omega) (bget hc) (q_bin _ _ _ rfl rfl rfl (run_nil ⟨rfl, rfl, rfl, rfl⟩))))) (
      run_nil (h8 _ ?_))))))))
    refine ok_cond rfl (fun c9 => ?_) (fun c9 => ?_)
    · refine ok_seq fun K10 h10 => ?_
      refine ok_region rfl (q_as _ rfl (run_nil (h10 _ ?_)))
      refine ok_ret ⟨_, rfl, ?_⟩
      have : printedB s = false := all_not hc (by simp only [prB]; rw [show (decide ((c.toNat : Int) < 32) || decide (126 < (c.toNat : Int))) = true from c9]; rfl)
      rw [this]; rfl
    · refine ok_skip (h7 _ ?_)
      refine ok_region rfl (q_mv _ rfl (q_add rfl rfl (by omega) (q_as _ rfl (run_nil (⟨k + 1, by omega, all_step hc J (by simp only [prB]; rw [show (decide ((c.toNat : Int) < 32) || decide (126 < (c.toNat : Int))) = false from c9]; rfl), le_same ⟨rfl, rfl, trivial⟩⟩)))))
  · refine ok_exit (h2 _ ?_)
    refine ok_seq fun K11 h11 => ok_region rfl (q_as _ rfl (run_nil (h11 _ ?_)))
    refine ok_ret ⟨_, rfl, ?_⟩
    have hk : s.size ≤ k := by simpa using c6
    rw [List.take_of_length_le (by rw [size_list]; exact hk)] at J
    rw [show printedB s = true from J]; rfl
theorem f227_ok (s : ByteArray) (hs : s.size ≤ 1048576) (m : Int) : PFn Tryz.prog 227 [str s, int m] (bool (decide ((s.size : Int) ≤ m) && printedB s)) := by
  refine fn_ok' (n := 26) Tryz.func227 rfl rfl rfl (Nat.le_of_ble_eq_true rfl) rfl fun w0 O => ?_
  refine ok_seq fun K1 h1 => ok_region rfl (q_as _ rfl (run_nil (h1 _ ?_)))
  refine ok_seq fun K2 h2 => ?_
  refine ok_seq fun K3 h3 => ok_region rfl (q_mv _ rfl (q_lens st9 rfl (q_mv _ rfl (q_bin _ _ _ rfl rfl rfl (run_nil (h3 _ ?_))))))
  refine ok_cond rfl (fun c4 => ?_) (fun c4 => ?_)
  · refine ok_seq fun K5 h5 => ?_
    refine ok_region rfl (q_as _ rfl (run_nil (h5 _ ?_)))
    refine ok_ret ⟨_, rfl, ?_⟩
    have c := of_decide_eq_true c4
    rw [decide_eq_false (by omega)]; rfl
  · refine ok_skip (h2 _ ?_)
    refine ok_seq fun K6 h6 => ?_
    refine ok_seq fun K7 h7 => ok_region rfl (q_mv _ rfl (q_lens st9 rfl (q_mv _ rfl (run_nil (h7 _ ?_)))))
    refine ok_block ?_
    refine ok_loop (fun (k : Nat) => ⟨[(0, .sv (str s)), (11, .sv (int s.size)), (12, .sv (int k))], []⟩) (fun k => (s.data.toList.take k).all prB = true) (fun k => s.size - k) 0 rfl (le_same ⟨rfl, rfl, rfl, trivial⟩) (fun k J => ?_)
    refine ok_seq fun K8 h8 => ok_region rfl (q_bin _ _ _ rfl rfl rfl (run_nil (h8 _ ?_)))
    refine ok_seq fun K9 h9 => ?_
    refine ok_cond rfl (fun c10 => ?_) (fun c10 => ?_)
    · refine ok_skip (h9 _ ?_)
      have hk : k < s.size := by simpa using c10
      obtain ⟨c, hc⟩ : ∃ c, s.data.toList[k]? = some c := ⟨_, bget' hk⟩
      refine ok_seq fun K11 h11 => ?_
      refine ok_block ?_
      refine ok_seq fun K12 h12 => ok_region rfl (q_mv _ rfl (q_as _ rfl (run_nil (h12 _ ?_))))
      refine ok_seq fun K13 h13 => ?_
      refine ok_region rfl (q_mv _ rfl (q_mv _ rfl (q_ix st9 rfl rfl (by omega) (bget hc) (q_bin _ _ _ rfl rfl rfl (q_mv _ rfl (q_or 4 4 rfl rfl rfl rfl rfl (fun hb24 =>
          q_mv _ rfl (q_mv _ rfl (q_ix st9 rfl rfl (by omega) (bget hc) (q_bin _ _ _ rfl rfl rfl (run_nil ⟨rfl, rfl, rfl, rfl⟩))))) (
        run_nil (h13 _ ?_))))))))
      refine ok_cond rfl (fun c14 => ?_) (fun c14 => ?_)
      · refine ok_seq fun K15 h15 => ?_
        refine ok_region rfl (q_as _ rfl (run_nil (h15 _ ?_)))
        refine ok_ret ⟨_, rfl, ?_⟩
        have : printedB s = false := all_not hc (by simp only [prB]; rw [show (decide ((c.toNat : Int) < 32) || decide (126 < (c.toNat : Int))) = true from c14]; rfl)
        rw [this, Bool.and_false]; rfl
      · refine ok_skip (h11 _ ?_)
        refine ok_region rfl (q_add rfl rfl (by omega) (q_mv _ rfl (run_nil (⟨k + 1, by omega, all_step hc J (by simp only [prB]; rw [show (decide ((c.toNat : Int) < 32) || decide (126 < (c.toNat : Int))) = false from c14]; rfl), le_same ⟨rfl, rfl, rfl, trivial⟩⟩))))
    · refine ok_exit (h6 _ ?_)
      refine ok_seq fun K16 h16 => ok_region rfl (q_as _ rfl (run_nil (h16 _ ?_)))
      refine ok_ret ⟨_, rfl, ?_⟩
      have hk : s.size ≤ k := by simpa using c10
      rw [List.take_of_length_le (by rw [size_list]; exact hk)] at J
      have c := of_decide_eq_false c4
      rw [show printedB s = true from J, decide_eq_true (by omega)]; rfl
theorem f203_ok (s : ByteArray) (hs : s.size ≤ 1048576) : PFn Tryz.prog 203 [str s] (bool (valueB s)) := by
  refine fn_ok' (n := 15) Tryz.func203 rfl rfl rfl (Nat.le_of_ble_eq_true rfl) rfl fun w0 O => ?_
  refine ok_seq fun K1 h1 => ok_region rfl (q_as _ rfl (run_nil (h1 _ ?_)))
  refine ok_seq fun K2 h2 => ?_
  refine ok_region rfl (q_mv _ rfl (q_lens st9 rfl (q_bin _ _ _ rfl rfl rfl (q_mv _ rfl (q_and 3 3 rfl rfl rfl rfl rfl (fun hb10 =>
      q_mv _ rfl (q_lens st9 rfl (q_bin _ _ _ rfl rfl rfl (run_nil ⟨rfl, rfl, rfl, rfl⟩)))) (
    q_mv _ rfl (q_and 2 2 rfl rfl rfl rfl rfl (fun hb14 =>
      q_mv _ rfl (q_call (f172_ok s hs) cl172 rfl rfl (run_nil ⟨rfl, rfl, rfl, rfl⟩))) (
    q_as _ rfl (run_nil (h2 _ ?_))))))))))
  refine ok_ret ⟨_, rfl, ?_⟩
  simp only [tupSV, valueB]
  rw [show decide ((s.size : Int) ≥ 1) = decide (1 ≤ s.size) by rw [decide_eq_decide]; omega, show decide ((s.size : Int) ≤ 100) = decide (s.size ≤ 100) by rw [decide_eq_decide]; omega]
theorem f211_ok (s : ByteArray) (hs : s.size ≤ 1048576) : PFn Tryz.prog 211 [str s] (bool (valueB s)) := by
  refine fn_ok' (n := 9) Tryz.func211 rfl rfl rfl (Nat.le_of_ble_eq_true rfl) rfl fun w0 O => ?_
  refine ok_seq fun K1 h1 => ok_region rfl (q_as _ rfl (run_nil (h1 _ ?_)))
  refine ok_seq fun K2 h2 => ?_
  refine ok_region rfl (q_mv _ rfl (q_bin _ _ _ rfl rfl rfl (q_mv _ rfl (q_and 2 2 rfl rfl rfl rfl rfl (fun hb8 =>
      q_mv _ rfl (q_call (f227_ok s hs 100) cl227 rfl rfl (run_nil ⟨rfl, rfl, rfl, rfl⟩))) (
    q_as _ rfl (run_nil (h2 _ ?_)))))))
  refine ok_ret ⟨_, rfl, ?_⟩
  simp only [tupSV, valueB]
  rw [show decide ((s.size : Int) ≤ 100) = decide (s.size ≤ 100) by rw [decide_eq_decide]; omega, Bool.and_assoc]
  exact congrArg (fun b => SV.raw (.bool (b && (decide (s.size ≤ 100) && printedB s)))) (ne_empty s)
theorem f148_ok (l : List Label) (hl : l.length ≤ 1048576 ∧ ∀ y ∈ l, SLabel y) : PFn Tryz.prog 148 [eLabelS l] (bool (pB (LabelsOk l))) := by
  obtain ⟨hl1, hl2⟩ := hl
  refine fn_ok' (n := 42) Tryz.func148 rfl rfl rfl (Nat.le_of_ble_eq_true rfl) rfl fun w0 O => ?_
  refine ok_seq fun K1 h1 => ok_region rfl (q_as _ rfl (run_nil (h1 _ ?_)))
  refine ok_seq fun K2 h2 => ?_
  refine ok_seq fun K3 h3 => ok_region rfl (q_mv _ rfl (q_len eS78 rfl (q_bin _ _ _ rfl rfl rfl (run_nil (h3 _ ?_)))))
  refine ok_cond rfl (fun c4 => ?_) (fun c4 => ?_)
  · refine ok_seq fun K5 h5 => ?_
    refine ok_region rfl (q_as _ rfl (run_nil (h5 _ ?_)))
    refine ok_ret ⟨_, rfl, ?_⟩
    have c := of_decide_eq_true c4
    rw [List.length_map] at c
    rw [pB_false (fun h => by have := h.1; omega)]; rfl
  · refine ok_skip (h2 _ ?_)
    have hl3 := of_decide_eq_false c4
    refine ok_seq fun K6 h6 => ?_
    refine ok_seq fun K7 h7 => ok_region rfl (q_mv _ rfl (q_len eS78 rfl (q_mv _ rfl (run_nil (h7 _ ?_)))))
    rw [List.length_map] at *
    refine ok_block ?_
    refine ok_loop (fun (k : Nat) => ⟨[(0, .sv (eLabelS l)), (8, .sv (eLabelS l)), (9, .sv (int l.length)), (10, .sv (int k))], []⟩) (fun k => ∀ i y, i < k → l[i]? = some y → LabelAt l i y) (fun k => l.length - k) 0 (fun i y h => by omega) (le_same ⟨rfl, rfl, rfl, rfl, trivial⟩) (fun k J => ?_)
    refine ok_seq fun K8 h8 => ok_region rfl (q_bin _ _ _ rfl rfl rfl (run_nil (h8 _ ?_)))
    refine ok_seq fun K9 h9 => ?_
    refine ok_cond rfl (fun c10 => ?_) (fun c10 => ?_)
    · refine ok_skip (h9 _ ?_)
      have hk : k < l.length := by simpa using c10
      obtain ⟨u, hu⟩ := sget hk
      obtain ⟨p, hp⟩ := prev hk
      refine ok_seq fun K11 h11 => ?_
      refine ok_block ?_
      refine ok_seq fun K12 h12 => ok_region rfl (q_mv _ rfl (q_ia el78 rfl rfl (by omega) (mget hu) (q_lds _ ag190 rfl sz190 (q_alloc _ ze190 rfl rfl rfl rfl (q_as _ rfl (q_sts _ rfl rfl rfl sz190 (Nat.le_of_ble_eq_true rfl) rfl (run_nil (h12 _ ?_))))))))
      refine ok_seq fun K13 h13 => ?_
      refine ok_region_i (by kernel_rfl) (by kernel_rfl) rfl (
        q_fap fd190_0 rfl (by decide) (q_ldb _ ag9 rfl rfl rfl (q_call (f171_ok u.name (hl2 u (smem hu)).1) cl171 rfl rfl (q_un _ _ rfl rfl (q_mv _ rfl (q_or 4 4 rfl rfl rfl rfl rfl (fun hb24 =>
          q_fap fd190_1 rfl (by decide) (q_ldb _ ag9 rfl rfl rfl (q_call (f203_ok u.value (hl2 u (smem hu)).2) cl203 rfl rfl (q_un _ _ rfl rfl (run_nil ⟨rfl, rfl, rfl, rfl⟩))))) (
        q_mv _ rfl (q_or 14 4 rfl rfl rfl rfl rfl (fun hb40 =>
          q_mv _ rfl (q_bin _ _ _ rfl rfl rfl (q_mv _ rfl (q_and 10 10 rfl rfl rfl rfl rfl (fun hb39 =>
            q_mv _ rfl (q_mv _ rfl (q_sub rfl rfl (by omega) (q_ia el78 rfl rfl (by have := of_decide_eq_true hb39; omega) (pget hp (by have := of_decide_eq_true hb39; omega)) (q_fa _ fd190_0 rfl rfl (by decide) (q_ld _ ag9 rfl rfl (q_fap fd190_0 rfl (by decide) (
            q_ldb _ ag9 rfl rfl rfl (q_call (f66_ok p.name u.name (hl2 p (smem (hp (by have := of_decide_eq_true hb39; omega)))).1 (hl2 u (smem hu)).1) cl66 rfl rfl (q_bin _ _ _ rfl rfl rfl (run_nil ⟨rfl, rfl, rfl, rfl⟩))))))))))) (
          run_nil ⟨rfl, rfl, rfl, rfl⟩))))) (
        run_nil (h13 _ ?_))))))))))
      refine ok_cond rfl (fun c14 => ?_) (fun c14 => ?_)
      · refine ok_seq fun K15 h15 => ?_
        refine ok_region rfl (q_as _ rfl (run_nil (h15 _ ?_)))
        refine ok_ret ⟨_, rfl, ?_⟩
        rw [pB_false]; · rfl
        rintro ⟨_, h⟩
        obtain ⟨d1, d2, d3⟩ := h k u hu
        rw [d1, d2] at c14
        simp only [Bool.not_true, Bool.false_or, Bool.and_eq_true, decide_eq_true_eq] at c14
        have := d3 p (by omega) (hp (by omega))
        unfold cmpB at this; omega
      · refine ok_skip (h11 _ ?_)
        refine ok_region rfl (q_add rfl rfl (by omega) (q_mv _ rfl (run_nil (⟨k + 1, by omega, ?_, le_sub ⟨rfl, rfl, rfl, rfl, trivial⟩ trivial⟩))))
        refine at_step J hu ?_
        simp only [Bool.or_eq_false_iff, Bool.not_eq_false', Bool.and_eq_false_iff, decide_eq_false_iff_not, decide_eq_true_eq] at c14
        obtain ⟨⟨d1, d2⟩, d3⟩ := c14
        refine ⟨d1, d2, fun q h0 hq => ?_⟩
        rw [hp h0] at hq; cases hq
        unfold cmpB; omega
    · refine ok_exit (h6 _ ?_)
      refine ok_seq fun K16 h16 => ok_region rfl (q_as _ rfl (run_nil (h16 _ ?_)))
      refine ok_ret ⟨_, rfl, ?_⟩
      have hk : l.length ≤ k := by simpa using c10
      rw [pB_true ⟨by omega, at_all J hk⟩]; rfl
theorem f158_ok (l : List Label) (hl : l.length ≤ 1048576 ∧ ∀ y ∈ l, SLabel y) : PFn Tryz.prog 158 [eLabelS l] (bool (pB (LabelsOk l))) := by
  obtain ⟨hl1, hl2⟩ := hl
  refine fn_ok' (n := 41) Tryz.func158 rfl rfl rfl (Nat.le_of_ble_eq_true rfl) rfl fun w0 O => ?_
  refine ok_seq fun K1 h1 => ok_region rfl (q_as _ rfl (run_nil (h1 _ ?_)))
  refine ok_seq fun K2 h2 => ?_
  refine ok_seq fun K3 h3 => ok_region rfl (q_mv _ rfl (q_len eS78 rfl (q_bin _ _ _ rfl rfl rfl (run_nil (h3 _ ?_)))))
  refine ok_cond rfl (fun c4 => ?_) (fun c4 => ?_)
  · refine ok_seq fun K5 h5 => ?_
    refine ok_region rfl (q_as _ rfl (run_nil (h5 _ ?_)))
    refine ok_ret ⟨_, rfl, ?_⟩
    have c := of_decide_eq_true c4
    rw [List.length_map] at c
    rw [pB_false (fun h => by have := h.1; omega)]; rfl
  · refine ok_skip (h2 _ ?_)
    have hl3 := of_decide_eq_false c4
    refine ok_seq fun K6 h6 => ?_
    refine ok_seq fun K7 h7 => ok_region rfl (q_mv _ rfl (q_len eS78 rfl (q_mv _ rfl (run_nil (h7 _ ?_)))))
    rw [List.length_map] at *
    refine ok_block ?_
    refine ok_loop (fun (k : Nat) => ⟨[(0, .sv (eLabelS l)), (8, .sv (eLabelS l)), (9, .sv (int l.length)), (10, .sv (int k))], []⟩) (fun k => ∀ i y, i < k → l[i]? = some y → LabelAt l i y) (fun k => l.length - k) 0 (fun i y h => by omega) (le_same ⟨rfl, rfl, rfl, rfl, trivial⟩) (fun k J => ?_)
    refine ok_seq fun K8 h8 => ok_region rfl (q_bin _ _ _ rfl rfl rfl (run_nil (h8 _ ?_)))
    refine ok_seq fun K9 h9 => ?_
    refine ok_cond rfl (fun c10 => ?_) (fun c10 => ?_)
    · refine ok_skip (h9 _ ?_)
      have hk : k < l.length := by simpa using c10
      obtain ⟨u, hu⟩ := sget hk
      obtain ⟨p, hp⟩ := prev hk
      refine ok_seq fun K11 h11 => ?_
      refine ok_block ?_
      refine ok_seq fun K12 h12 => ok_region rfl (q_mv _ rfl (q_ia el78 rfl rfl (by omega) (mget hu) (q_lds _ ag190 rfl sz190 (q_alloc _ ze190 rfl rfl rfl rfl (q_as _ rfl (q_sts _ rfl rfl rfl sz190 (Nat.le_of_ble_eq_true rfl) rfl (run_nil (h12 _ ?_))))))))
      refine ok_seq fun K13 h13 => ?_
      refine ok_region_i (by kernel_rfl) (by kernel_rfl) rfl (
        q_fap fd190_0 rfl (by decide) (q_ldb _ ag9 rfl rfl rfl (q_call (f195_ok u.name (hl2 u (smem hu)).1) cl195 rfl rfl (q_un _ _ rfl rfl (q_mv _ rfl (q_or 4 4 rfl rfl rfl rfl rfl (fun hb24 =>
          q_fap fd190_1 rfl (by decide) (q_ldb _ ag9 rfl rfl rfl (q_call (f211_ok u.value (hl2 u (smem hu)).2) cl211 rfl rfl (q_un _ _ rfl rfl (run_nil ⟨rfl, rfl, rfl, rfl⟩))))) (
        q_mv _ rfl (q_or 13 4 rfl rfl rfl rfl rfl (fun hb39 =>
          q_mv _ rfl (q_bin _ _ _ rfl rfl rfl (q_mv _ rfl (q_and 9 9 rfl rfl rfl rfl rfl (fun hb38 =>
            q_mv _ rfl (q_mv _ rfl (q_sub rfl rfl (by omega) (q_ia el78 rfl rfl (by have := of_decide_eq_true hb38; omega) (pget hp (by have := of_decide_eq_true hb38; omega)) (q_fa _ fd190_0 rfl rfl (by decide) (q_ld _ ag9 rfl rfl (q_fap fd190_0 rfl (by decide) (
            q_ldb _ ag9 rfl rfl rfl (q_bin _ _ _ rfl rfl rfl (run_nil ⟨rfl, rfl, rfl, rfl⟩)))))))))) (
          run_nil ⟨rfl, rfl, rfl, rfl⟩))))) (
        run_nil (h13 _ ?_))))))))))
      refine ok_cond rfl (fun c14 => ?_) (fun c14 => ?_)
      · refine ok_seq fun K15 h15 => ?_
        refine ok_region rfl (q_as _ rfl (run_nil (h15 _ ?_)))
        refine ok_ret ⟨_, rfl, ?_⟩
        rw [pB_false]; · rfl
        rintro ⟨_, h⟩
        obtain ⟨d1, d2, d3⟩ := h k u hu
        rw [d1, d2] at c14
        simp only [Bool.not_true, Bool.false_or, Bool.and_eq_true, decide_eq_true_eq, cmpB_less, Bool.not_eq_true', decide_eq_false_iff_not] at c14
        have := d3 p (by omega) (hp (by omega))
        omega
      · refine ok_skip (h11 _ ?_)
        refine ok_region rfl (q_add rfl rfl (by omega) (q_mv _ rfl (run_nil (⟨k + 1, by omega, ?_, le_sub ⟨rfl, rfl, rfl, rfl, trivial⟩ trivial⟩))))
        refine at_step J hu ?_
        simp only [Bool.or_eq_false_iff, Bool.not_eq_false', Bool.and_eq_false_iff, decide_eq_false_iff_not, decide_eq_true_eq, cmpB_less] at c14
        obtain ⟨⟨d1, d2⟩, d3⟩ := c14
        refine ⟨d1, d2, fun q h0 hq => ?_⟩
        rw [hp h0] at hq; cases hq
        rcases d3 with d3 | d3
        · omega
        · exact d3
    · refine ok_exit (h6 _ ?_)
      refine ok_seq fun K16 h16 => ok_region rfl (q_as _ rfl (run_nil (h16 _ ?_)))
      refine ok_ret ⟨_, rfl, ?_⟩
      have hk : l.length ≤ k := by simpa using c10
      rw [pB_true ⟨by omega, at_all J hk⟩]; rfl
theorem f175_ok (l : List Sample) (hl : l.length ≤ 1048576) : PFn Tryz.prog 175 [eSampleS l] (bool (pB (SamplesOk l))) := by
  refine fn_ok' (n := 35) Tryz.func175 rfl rfl rfl (Nat.le_of_ble_eq_true rfl) rfl fun w0 O => ?_
  refine ok_seq fun K1 h1 => ok_region rfl (q_as _ rfl (run_nil (h1 _ ?_)))
  refine ok_seq fun K2 h2 => ?_
  refine ok_seq fun K3 h3 => ok_region rfl (q_mv _ rfl (q_len eS123 rfl (q_mv _ rfl (run_nil (h3 _ ?_)))))
  rw [List.length_map] at *
  refine ok_block ?_
  refine ok_loop (fun (k : Nat) => ⟨[(0, .sv (eSampleS l)), (5, .sv (eSampleS l)), (6, .sv (int l.length)), (7, .sv (int k))], []⟩) (fun k => ∀ i y, i < k → l[i]? = some y → SampleAt l i y) (fun k => l.length - k) 0 (fun i y h => by omega) (le_same ⟨rfl, rfl, rfl, rfl, trivial⟩) (fun k J => ?_)
  refine ok_seq fun K4 h4 => ok_region rfl (q_bin _ _ _ rfl rfl rfl (run_nil (h4 _ ?_)))
  refine ok_seq fun K5 h5 => ?_
  refine ok_cond rfl (fun c6 => ?_) (fun c6 => ?_)
  · refine ok_skip (h5 _ ?_)
    have hk : k < l.length := by simpa using c6
    obtain ⟨u, hu⟩ := sget hk
    obtain ⟨p, hp⟩ := prev hk
    refine ok_seq fun K7 h7 => ?_
    refine ok_block ?_
    refine ok_seq fun K8 h8 => ok_region rfl (q_mv _ rfl (q_ia el123 rfl rfl (by omega) (mget hu) (q_lds _ ag122 rfl sz122 (q_alloc _ ze122 rfl rfl rfl rfl (q_as _ rfl (q_sts _ rfl rfl rfl sz122 (Nat.le_of_ble_eq_true rfl) rfl (run_nil (h8 _ ?_))))))))
    refine ok_seq fun K9 h9 => ?_
    refine ok_region_i (by kernel_rfl) (by kernel_rfl) rfl (
      q_fap fd122_0 rfl (by decide) (q_ldb _ ag3 rfl rfl rfl (q_call (f78_ok u.time) cl78 rfl rfl (q_un _ _ rfl rfl (q_mv _ rfl (q_or 13 4 rfl rfl rfl rfl rfl (fun hb30 =>
        q_mv _ rfl (q_bin _ _ _ rfl rfl rfl (q_mv _ rfl (q_and 9 9 rfl rfl rfl rfl rfl (fun hb29 =>
          q_mv _ rfl (q_mv _ rfl (q_sub rfl rfl (by omega) (q_ia el123 rfl rfl (by have := of_decide_eq_true hb29; omega) (pget hp (by have := of_decide_eq_true hb29; omega)) (q_fa _ fd122_0 rfl rfl (by decide) (q_ld _ ag3 rfl rfl (q_fap fd122_0 rfl (by decide) (
          q_ldb _ ag3 rfl rfl rfl (q_bin _ _ _ rfl rfl rfl (run_nil ⟨rfl, rfl, rfl, rfl⟩)))))))))) (
        run_nil ⟨rfl, rfl, rfl, rfl⟩))))) (
      run_nil (h9 _ ?_))))))))
    refine ok_cond rfl (fun c10 => ?_) (fun c10 => ?_)
    · refine ok_seq fun K11 h11 => ?_
      refine ok_region rfl (q_as _ rfl (run_nil (h11 _ ?_)))
      refine ok_ret ⟨_, rfl, ?_⟩
      rw [pB_false]; · rfl
      rintro ⟨_, h⟩
      obtain ⟨d1, d3⟩ := h k u hu
      rw [pB_true d1] at c10
      simp only [Bool.not_true, Bool.false_or, Bool.and_eq_true, decide_eq_true_eq] at c10
      have := d3 p (by omega) (hp (by omega))
      omega
    · refine ok_skip (h7 _ ?_)
      refine ok_region rfl (q_add rfl rfl (by omega) (q_mv _ rfl (run_nil (⟨k + 1, by omega, ?_, le_sub ⟨rfl, rfl, rfl, rfl, trivial⟩ trivial⟩))))
      refine at_step J hu ?_
      simp only [Bool.or_eq_false_iff, Bool.not_eq_false', Bool.and_eq_false_iff, decide_eq_false_iff_not] at c10
      obtain ⟨d1, d3⟩ := c10
      refine ⟨of_pB d1, fun q h0 hq => ?_⟩
      rw [hp h0] at hq; cases hq
      omega
  · refine ok_exit (h2 _ ?_)
    refine ok_seq fun K12 h12 => ok_region rfl (q_mv _ rfl (q_len eS123 rfl (q_bin _ _ _ rfl rfl rfl (q_as _ rfl (run_nil (h12 _ ?_))))))
    refine ok_ret ⟨_, rfl, ?_⟩
    have hk : l.length ≤ k := by simpa using c6
    rw [List.length_map]
    by_cases h : l.length ≤ 2000
    · rw [pB_true ⟨h, at_all J hk⟩, decide_eq_true (by omega)]; rfl
    · rw [pB_false (fun h' => h h'.1), decide_eq_false (by omega)]; rfl
theorem f168_ok (l : List Sample) (hl : l.length ≤ 1048576) : PFn Tryz.prog 168 [eSampleS l] (bool (pB (SamplesOk l))) := by
  refine fn_ok' (n := 35) Tryz.func168 rfl rfl rfl (Nat.le_of_ble_eq_true rfl) rfl fun w0 O => ?_
  refine ok_seq fun K1 h1 => ok_region rfl (q_as _ rfl (run_nil (h1 _ ?_)))
  refine ok_seq fun K2 h2 => ?_
  refine ok_seq fun K3 h3 => ok_region rfl (q_mv _ rfl (q_len eS123 rfl (q_bin _ _ _ rfl rfl rfl (run_nil (h3 _ ?_)))))
  refine ok_cond rfl (fun c4 => ?_) (fun c4 => ?_)
  · refine ok_seq fun K5 h5 => ?_
    refine ok_region rfl (q_as _ rfl (run_nil (h5 _ ?_)))
    refine ok_ret ⟨_, rfl, ?_⟩
    have c := of_decide_eq_true c4
    rw [List.length_map] at c
    rw [pB_false (fun h => by have := h.1; omega)]; rfl
  · refine ok_skip (h2 _ ?_)
    have hl3 := of_decide_eq_false c4
    refine ok_seq fun K6 h6 => ?_
    refine ok_seq fun K7 h7 => ok_region rfl (q_mv _ rfl (q_len eS123 rfl (q_mv _ rfl (run_nil (h7 _ ?_)))))
    rw [List.length_map] at *
    refine ok_block ?_
    refine ok_loop (fun (k : Nat) => ⟨[(0, .sv (eSampleS l)), (8, .sv (eSampleS l)), (9, .sv (int l.length)), (10, .sv (int k))], []⟩) (fun k => ∀ i y, i < k → l[i]? = some y → SampleAt l i y) (fun k => l.length - k) 0 (fun i y h => by omega) (le_same ⟨rfl, rfl, rfl, rfl, trivial⟩) (fun k J => ?_)
    refine ok_seq fun K8 h8 => ok_region rfl (q_bin _ _ _ rfl rfl rfl (run_nil (h8 _ ?_)))
    refine ok_seq fun K9 h9 => ?_
    refine ok_cond rfl (fun c10 => ?_) (fun c10 => ?_)
    · refine ok_skip (h9 _ ?_)
      have hk : k < l.length := by simpa using c10
      obtain ⟨u, hu⟩ := sget hk
      obtain ⟨p, hp⟩ := prev hk
      refine ok_seq fun K11 h11 => ?_
      refine ok_block ?_
      refine ok_seq fun K12 h12 => ok_region rfl (q_mv _ rfl (q_ia el123 rfl rfl (by omega) (mget hu) (q_lds _ ag122 rfl sz122 (q_alloc _ ze122 rfl rfl rfl rfl (q_as _ rfl (q_sts _ rfl rfl rfl sz122 (Nat.le_of_ble_eq_true rfl) rfl (run_nil (h12 _ ?_))))))))
      refine ok_seq fun K13 h13 => ?_
      refine ok_region_i (by kernel_rfl) (by kernel_rfl) rfl (
        q_fap fd122_0 rfl (by decide) (q_ldb _ ag3 rfl rfl rfl (q_call (f85_ok u.time) cl85 rfl rfl (q_un _ _ rfl rfl (q_mv _ rfl (q_or 13 4 rfl rfl rfl rfl rfl (fun hb33 =>
          q_mv _ rfl (q_bin _ _ _ rfl rfl rfl (q_mv _ rfl (q_and 9 9 rfl rfl rfl rfl rfl (fun hb32 =>
            q_mv _ rfl (q_mv _ rfl (q_sub rfl rfl (by omega) (q_ia el123 rfl rfl (by have := of_decide_eq_true hb32; omega) (pget hp (by have := of_decide_eq_true hb32; omega)) (q_fa _ fd122_0 rfl rfl (by decide) (q_ld _ ag3 rfl rfl (q_fap fd122_0 rfl (by decide) (
            q_ldb _ ag3 rfl rfl rfl (q_bin _ _ _ rfl rfl rfl (run_nil ⟨rfl, rfl, rfl, rfl⟩)))))))))) (
          run_nil ⟨rfl, rfl, rfl, rfl⟩))))) (
        run_nil (h13 _ ?_))))))))
      refine ok_cond rfl (fun c14 => ?_) (fun c14 => ?_)
      · refine ok_seq fun K15 h15 => ?_
        refine ok_region rfl (q_as _ rfl (run_nil (h15 _ ?_)))
        refine ok_ret ⟨_, rfl, ?_⟩
        rw [pB_false]; · rfl
        rintro ⟨_, h⟩
        obtain ⟨d1, d3⟩ := h k u hu
        rw [pB_true d1] at c14
        simp only [Bool.not_true, Bool.false_or, Bool.and_eq_true, decide_eq_true_eq] at c14
        have := d3 p (by omega) (hp (by omega))
        omega
      · refine ok_skip (h11 _ ?_)
        refine ok_region rfl (q_add rfl rfl (by omega) (q_mv _ rfl (run_nil (⟨k + 1, by omega, ?_, le_sub ⟨rfl, rfl, rfl, rfl, trivial⟩ trivial⟩))))
        refine at_step J hu ?_
        simp only [Bool.or_eq_false_iff, Bool.not_eq_false', Bool.and_eq_false_iff, decide_eq_false_iff_not] at c14
        obtain ⟨d1, d3⟩ := c14
        refine ⟨of_pB d1, fun q h0 hq => ?_⟩
        rw [hp h0] at hq; cases hq
        omega
    · refine ok_exit (h6 _ ?_)
      refine ok_seq fun K16 h16 => ok_region rfl (q_as _ rfl (run_nil (h16 _ ?_)))
      refine ok_ret ⟨_, rfl, ?_⟩
      have hk : l.length ≤ k := by simpa using c10
      rw [pB_true ⟨by omega, at_all J hk⟩]; rfl
end Go.Ring
