/- Parts of the proof, laid together: G15 J3 J4 I1 J5. No condition. -/
import Derived.Test.YtanilephcohjkaaGreatSg9
import Derived.Test.YtanilephcohjkaaGreatEg3
import Derived.KernelRfl
/- Tokens of a ring in order; the owners of a place. No condition. -/
namespace Go.Ring
open Go Go.RowKit Go.Eager Go.Abs Go.Proofs
set_option maxRecDepth 100000
set_option linter.unusedVariables false
set_option linter.unusedSimpArgs false

/-- A token: where it stands, whose it is. -/
abbrev Tok := Int × Nat
def dstI (p t : Int) : Int := (t - p + 2147483648) % 2147483648
def nstep (p : Int) (done : List Nat) (b : Int × Int) (t : Tok) : Int × Int := if t.2 ∈ done then b else if b.1 < 0 ∨ dstI p t.1 < b.2 then ((t.2 : Int), dstI p t.1) else b
def nfold (p : Int) (done : List Nat) (l : List Tok) : Int × Int := l.foldl (nstep p done) (-1, 0)
theorem nfold_snoc (p : Int) (done : List Nat) (l : List Tok) (t : Tok) : nfold p done (l ++ [t]) = nstep p done (nfold p done l) t := by unfold nfold; rw [List.foldl_append]; rfl
theorem nfold_spec (p : Int) (done : List Nat) (l : List Tok) : (nfold p done l = (-1, 0) ∧ ∀ t ∈ l, t.2 ∈ done) ∨ ∃ t ∈ l, t.2 ∉ done ∧ nfold p done l = ((t.2 : Int), dstI p t.1) ∧ ∀ u ∈ l, u.2 ∉ done → dstI p t.1 ≤ dstI p u.1 := by
  have H : ∀ r : List Tok, (nfold p done r.reverse = (-1, 0) ∧ ∀ t ∈ r, t.2 ∈ done) ∨ ∃ t ∈ r, t.2 ∉ done ∧ nfold p done r.reverse = ((t.2 : Int), dstI p t.1) ∧ ∀ u ∈ r, u.2 ∉ done → dstI p t.1 ≤ dstI p u.1 := by
    intro r
    induction r with
    | nil => exact .inl ⟨rfl, fun t ht => by simp at ht⟩
    | cons x r ih =>
      rw [List.reverse_cons, nfold_snoc]
      by_cases hx : x.2 ∈ done
      · have e : ∀ b, nstep p done b x = b := fun b => by unfold nstep; rw [if_pos hx]
        rw [e]
        rcases ih with ⟨h1, h2⟩ | ⟨t, ht, h1, h2, h3⟩
        · refine .inl ⟨h1, fun t ht => ?_⟩
          rcases List.mem_cons.1 ht with rfl | ht
          · exact hx
          · exact h2 t ht
        · refine .inr ⟨t, List.mem_cons_of_mem _ ht, h1, h2, fun u hu hd => ?_⟩
          rcases List.mem_cons.1 hu with rfl | hu
          · exact (hd hx).elim
          · exact h3 u hu hd
      · rcases ih with ⟨h1, h2⟩ | ⟨t, ht, h1, h2, h3⟩
        · refine .inr ⟨x, List.mem_cons_self, hx, ?_, fun u hu hd => ?_⟩
          · rw [h1]; unfold nstep; rw [if_neg hx, if_pos (.inl (by decide))]
          · rcases List.mem_cons.1 hu with rfl | hu
            · exact Int.le_refl _
            · exact (hd (h2 u hu)).elim
        · rw [h2]
          unfold nstep
          rw [if_neg hx]
          by_cases hl : ((t.2 : Int), dstI p t.1).1 < 0 ∨ dstI p x.1 < ((t.2 : Int), dstI p t.1).2
          · rw [if_pos hl]
            have hlt : dstI p x.1 < dstI p t.1 := by
              rcases hl with h | h
              · simp only at h; omega
              · exact h
            refine .inr ⟨x, List.mem_cons_self, hx, rfl, fun u hu hd => ?_⟩
            rcases List.mem_cons.1 hu with rfl | hu
            · exact Int.le_refl _
            · have := h3 u hu hd; omega
          · rw [if_neg hl]
            refine .inr ⟨t, List.mem_cons_of_mem _ ht, h1, rfl, fun u hu hd => ?_⟩
            rcases List.mem_cons.1 hu with rfl | hu
            · simp only [not_or] at hl; omega
            · exact h3 u hu hd
  have := H l.reverse
  simpa using this
/-- The first that none has yet, taken in order, as many as wanted. -/
def pickG (c : Int) : List Tok → List Nat → List Nat
  | [], out => out
  | t :: r, out => if (out.length : Int) < c ∧ t.2 ∉ out then pickG c r (out ++ [t.2]) else pickG c r out
theorem pick_full (c : Int) : ∀ (l : List Tok) (out : List Nat), ¬ (out.length : Int) < c → pickG c l out = out
  | [], out, h => rfl
  | t :: r, out, h => by unfold pickG; rw [if_neg (fun h' => h h'.1)]; exact pick_full c r out h
theorem pick_none (c : Int) : ∀ (l : List Tok) (out : List Nat), (∀ t ∈ l, t.2 ∈ out) → pickG c l out = out
  | [], out, h => rfl
  | t :: r, out, h => by unfold pickG; rw [if_neg (fun h' => h'.2 (h t List.mem_cons_self))]; exact pick_none c r out fun u hu => h u (List.mem_cons_of_mem _ hu)
theorem pick_next (c : Int) : ∀ (l : List Tok) (out : List Nat) (t : Tok), (out.length : Int) < c → l.find? (fun u => decide (u.2 ∉ out)) = some t → pickG c l out = pickG c l (out ++ [t.2])
  | [], out, t, h, hf => by simp at hf
  | x :: r, out, t, h, hf => by
    by_cases hx : x.2 ∈ out
    · rw [List.find?_cons_of_neg (by simpa using hx)] at hf
      have ih := pick_next c r out t h hf
      have e1 : pickG c (x :: r) out = pickG c r out := by rw [pickG, if_neg (fun h' => h'.2 hx)]
      have e2 : pickG c (x :: r) (out ++ [t.2]) = pickG c r (out ++ [t.2]) := by rw [pickG, if_neg (fun h' => h'.2 (List.mem_append_left _ hx))]
      rw [e1, e2, ih]
    · rw [List.find?_cons_of_pos (by simpa using hx)] at hf
      cases hf
      have e1 : pickG c (x :: r) out = pickG c r (out ++ [x.2]) := by rw [pickG, if_pos ⟨h, hx⟩]
      have e2 : pickG c (x :: r) (out ++ [x.2]) = pickG c r (out ++ [x.2]) := by rw [pickG, if_neg (fun h' => h'.2 (by simp))]
      rw [e1, e2]
/-- In order of their distance the first one is the nearest. -/
theorem nfold_find {p : Int} {done : List Nat} {l C : List Tok} (hp : l.Perm C) (hs : C.Pairwise fun a b => dstI p a.1 < dstI p b.1) :
    (C.find? (fun u => decide (u.2 ∉ done)) = none ∧ (nfold p done l).1 = -1) ∨ ∃ t, C.find? (fun u => decide (u.2 ∉ done)) = some t ∧ (nfold p done l).1 = (t.2 : Int) := by
  rcases nfold_spec p done l with ⟨h1, h2⟩ | ⟨t, ht, h1, h2, h3⟩
  · refine .inl ⟨?_, by rw [h1]⟩
    rw [List.find?_eq_none]
    intro u hu
    have := h2 u (hp.symm.mem_iff.1 hu)
    simpa using this
  · refine .inr ⟨t, ?_, by rw [h2]⟩
    have htC := hp.mem_iff.1 ht
    have h3' : ∀ u ∈ C, u.2 ∉ done → dstI p t.1 ≤ dstI p u.1 := fun u hu hd => h3 u (hp.mem_iff.2 hu) hd
    clear h2 h3 ht hp
    induction C with
    | nil => simp at htC
    | cons x r ih =>
      obtain ⟨a1, a2⟩ := List.pairwise_cons.1 hs
      by_cases hx : x.2 ∈ done
      · rw [List.find?_cons_of_neg (by simpa using hx)]
        refine ih a2 ?_ (fun u hu => h3' u (List.mem_cons_of_mem _ hu))
        rcases List.mem_cons.1 htC with rfl | h
        · exact (h1 hx).elim
        · exact h
      · rw [List.find?_cons_of_pos (by simpa using hx)]
        rcases List.mem_cons.1 htC with rfl | h
        · rfl
        · have := a1 t h
          have := h3' x List.mem_cons_self hx
          omega
/-- In order, from a place on, and then from the beginning. -/
def cyc (S : List Tok) (n : Nat) : List Tok := S.drop n ++ S.take n
theorem cyc_perm (S : List Tok) (n : Nat) : (cyc S n).Perm S := by
  unfold cyc
  refine List.perm_append_comm.trans ?_
  rw [List.take_append_drop]
theorem dst_hi {p t : Int} (h0 : 0 ≤ p) (h1 : p ≤ t) (h2 : t < 2147483648) : dstI p t = t - p := by unfold dstI; omega
theorem dst_lo {p t : Int} (h0 : 0 ≤ t) (h1 : t < p) (h2 : p < 2147483648) : dstI p t = t - p + 2147483648 := by unfold dstI; omega
theorem cyc_sorted {S : List Tok} {n : Nat} {p : Int} (hp0 : 0 ≤ p) (hp1 : p < 2147483648) (hs : S.Pairwise fun a b => a.1 < b.1) (hr : ∀ t ∈ S, 0 ≤ t.1 ∧ t.1 < 2147483648) (hlo : ∀ t ∈ S.take n, t.1 < p) (hhi : ∀ t ∈ S.drop n, p ≤ t.1) :
    (cyc S n).Pairwise fun a b => dstI p a.1 < dstI p b.1 := by
  have hs' := hs
  rw [← List.take_append_drop n S] at hs'
  obtain ⟨a1, a2, a3⟩ := List.pairwise_append.1 hs'
  unfold cyc
  rw [List.pairwise_append]
  refine ⟨?_, ?_, fun a ha b hb => ?_⟩
  · refine List.Pairwise.imp_of_mem (fun {a b} ha hb h => ?_) a2
    rw [dst_hi hp0 (hhi a ha) (hr a (List.mem_of_mem_drop ha)).2, dst_hi hp0 (hhi b hb) (hr b (List.mem_of_mem_drop hb)).2]; omega
  · refine List.Pairwise.imp_of_mem (fun {a b} ha hb h => ?_) a1
    rw [dst_lo (hr a (List.mem_of_mem_take ha)).1 (hlo a ha) hp1, dst_lo (hr b (List.mem_of_mem_take hb)).1 (hlo b hb) hp1]; omega
  · rw [dst_hi hp0 (hhi a ha) (hr a (List.mem_of_mem_drop ha)).2, dst_lo (hr b (List.mem_of_mem_take hb)).1 (hlo b hb) hp1]
    have := (hr a (List.mem_of_mem_drop ha)).2
    have := (hr b (List.mem_of_mem_take hb)).1
    omega
theorem cyc_get {S : List Tok} {n i : Nat} (hn : n ≤ S.length) (hi : i < S.length) : (cyc S n)[i]? = S[(n + i) % S.length]? := by
  unfold cyc
  by_cases h : i < S.length - n
  · rw [List.getElem?_append_left (by simp; omega), List.getElem?_drop, Nat.mod_eq_of_lt (by omega)]
  · rw [List.getElem?_append_right (by simp; omega), List.getElem?_take, List.length_drop]
    have e : (n + i) % S.length = i - (S.length - n) := by
      rw [Nat.mod_eq_sub_mod (by omega), Nat.mod_eq_of_lt (by omega)]; omega
    rw [e, if_pos (by omega)]

def tksF : List RingNode → Nat → List Tok
  | [], _ => []
  | n :: r, i => n.toks.map (fun t => (t, i)) ++ tksF r (i + 1)
theorem tksF_snoc : ∀ (l : List RingNode) (n : RingNode) (i : Nat), tksF (l ++ [n]) i = tksF l i ++ n.toks.map fun t => (t, i + l.length)
  | [], n, i => by simp [tksF]
  | m :: l, n, i => by simp only [List.cons_append, tksF, tksF_snoc l n (i + 1), List.append_assoc, List.length_cons]; congr 3; funext t; congr 1; omega
def pre (r : Ring) (k : Nat) : List Tok := tksF (r.nodes.take k) 0
def tks (r : Ring) : List Tok := tksF r.nodes 0
theorem pre_zero' (r : Ring) : pre r 0 = [] := rfl
theorem pre_snoc {r : Ring} {k : Nat} {n : RingNode} (h : r.nodes[k]? = some n) : pre r (k + 1) = pre r k ++ n.toks.map fun t => (t, k) := by
  have hlt := (List.getElem?_eq_some_iff.1 h).1
  unfold pre
  rw [List.take_add_one, h, Option.toList_some, tksF_snoc, List.length_take, Nat.min_eq_left (by omega), Nat.zero_add]
theorem pre_end {r : Ring} {k : Nat} (h : r.nodes.length ≤ k) : pre r k = tks r := by unfold pre tks; rw [List.take_of_length_le h]
theorem mem_pre {r : Ring} {t : Tok} : ∀ {k : Nat}, t ∈ pre r k → ∃ n, t.2 < k ∧ r.nodes[t.2]? = some n ∧ t.1 ∈ n.toks
  | 0, h => by simp [pre, tksF] at h
  | k + 1, h => by
    cases hn : r.nodes[k]? with
    | none =>
      have hk := List.getElem?_eq_none_iff.1 hn
      have e : pre r (k + 1) = pre r k := by unfold pre; rw [List.take_of_length_le (by omega), List.take_of_length_le hk]
      rw [e] at h
      obtain ⟨n, h1, h2⟩ := mem_pre h
      exact ⟨n, by omega, h2⟩
    | some n =>
      rw [pre_snoc hn] at h
      rcases List.mem_append.1 h with h | h
      · obtain ⟨m, h1, h2⟩ := mem_pre h; exact ⟨m, by omega, h2⟩
      · obtain ⟨x, hx, rfl⟩ := List.mem_map.1 h
        exact ⟨n, Nat.lt_succ_self k, hn, hx⟩
def lowT (p : Int) : List Tok → Nat
  | [] => 0
  | t :: r => if t.1 < p then lowT p r + 1 else 0
theorem lowT_eq (p : Int) : ∀ (S : List Tok) (k : Nat), k ≤ S.length → (∀ i x, i < k → S[i]? = some x → x.1 < p) → (∀ x, S[k]? = some x → ¬ x.1 < p) → lowT p S = k
  | [], k, h, _, _ => by simp at h; subst h; rfl
  | t :: r, 0, _, _, h2 => by have := h2 t rfl; unfold lowT; rw [if_neg this]
  | t :: r, k + 1, h, h1, h2 => by
    have := h1 0 t (by omega) rfl
    unfold lowT
    rw [if_pos this, lowT_eq p r k (by simpa using h) (fun i x hi hx => h1 (i + 1) x (by omega) hx) (fun x hx => h2 x hx)]
theorem lowT_le (p : Int) : ∀ S : List Tok, lowT p S ≤ S.length
  | [] => Nat.le_refl _
  | t :: r => by have := lowT_le p r; unfold lowT; split <;> simp <;> omega
theorem lowT_lo (p : Int) : ∀ (S : List Tok), ∀ t ∈ S.take (lowT p S), t.1 < p
  | [], t, h => by simp at h
  | x :: r, t, h => by
    unfold lowT at h
    split at h
    · rename_i hx
      rw [List.take_succ_cons] at h
      rcases List.mem_cons.1 h with rfl | h
      · exact hx
      · exact lowT_lo p r t h
    · simp at h
theorem lowT_hi (p : Int) : ∀ (S : List Tok), (S.Pairwise fun a b => a.1 < b.1) → ∀ t ∈ S.drop (lowT p S), p ≤ t.1
  | [], _, t, h => by simp at h
  | x :: r, hs, t, h => by
    obtain ⟨a1, a2⟩ := List.pairwise_cons.1 hs
    unfold lowT at h
    split at h
    · rw [List.drop_succ_cons] at h
      exact lowT_hi p r a2 t h
    · rename_i hx
      rw [List.drop_zero] at h
      rcases List.mem_cons.1 h with rfl | h
      · omega
      · have := a1 t h; omega
def sortT (l : List Tok) : List Tok := l.mergeSort fun x y => decide (x.1 ≤ y.1)
theorem sortT_perm (l : List Tok) : (sortT l).Perm l := List.mergeSort_perm l _
theorem sortT_le (l : List Tok) : (sortT l).Pairwise fun a b => decide (a.1 ≤ b.1) = true := List.pairwise_mergeSort (fun a b c h1 h2 => by simp only [decide_eq_true_eq] at *; omega) (fun a b => by simp only [Bool.or_eq_true, decide_eq_true_eq]; omega) l
theorem distinct_mem {l : List Tok} (h : l.Pairwise fun a b => a.1 ≠ b.1) : ∀ a ∈ l, ∀ b ∈ l, a.1 = b.1 → a = b := by
  induction l with
  | nil => intro a ha; simp at ha
  | cons x r ih =>
    obtain ⟨a1, a2⟩ := List.pairwise_cons.1 h
    intro a ha b hb he
    rcases List.mem_cons.1 ha with ha | ha
    · rcases List.mem_cons.1 hb with hb | hb
      · rw [ha, hb]
      · exact (a1 b hb (by rw [← ha]; exact he)).elim
    · rcases List.mem_cons.1 hb with hb | hb
      · exact (a1 a ha (by rw [← hb]; exact he.symm)).elim
      · exact ih a2 a ha b hb he
theorem sortT_eq {l ys : List Tok} (hd : l.Pairwise fun a b => a.1 ≠ b.1) (hp : ys.Perm l) (hs : ys.Pairwise fun a b => a.1 ≤ b.1) : ys = sortT l :=
  List.Perm.eq_of_pairwise (le := fun a b => decide (a.1 ≤ b.1) = true) (fun a b ha hb h1 h2 => by
    simp only [decide_eq_true_eq] at h1 h2
    exact distinct_mem hd a (hp.mem_iff.1 ha) b ((sortT_perm l).mem_iff.1 hb) (by omega)) (hs.imp fun {a b} h => by simpa using h) (sortT_le l) (hp.trans (sortT_perm l).symm)
theorem sortT_lt {l : List Tok} (hd : l.Pairwise fun a b => a.1 ≠ b.1) : (sortT l).Pairwise fun a b => a.1 < b.1 := by
  have h1 := sortT_le l
  have h2 : (sortT l).Pairwise fun a b => a.1 ≠ b.1 := (sortT_perm l).symm.pairwise hd (fun {a b} h => fun e => h e.symm)
  exact (h1.and h2).imp fun {a b} h => by have := h.1; simp only [decide_eq_true_eq] at this; have := h.2; omega
/-- The owners of a place, by their numbers. -/
def ownL (r : Ring) (p : Int) : List Nat := pickG r.copies (cyc (sortT (tks r)) (lowT p (sortT (tks r)))) []

theorem ris_pw {xs : List Int} (h : Ris xs) : xs.Pairwise (· < ·) := by
  rw [List.pairwise_iff_getElem]
  intro i j hi hj hij
  have h1 := ris_le h (j - 1) i (by omega) (by omega)
  have h2 := h j (by omega) hj
  have e1 : xs.getD i 0 = xs[i] := by rw [List.getD_eq_getElem?_getD, List.getElem?_eq_getElem hi]; rfl
  have e2 : xs.getD j 0 = xs[j] := by rw [List.getD_eq_getElem?_getD, List.getElem?_eq_getElem hj]; rfl
  omega
theorem pre_distinct {r : Ring} (hg : GoodR r) : ∀ k, (pre r k).Pairwise fun a b => a.1 ≠ b.1
  | 0 => List.Pairwise.nil
  | k + 1 => by
    have ih := pre_distinct hg k
    cases hn : r.nodes[k]? with
    | none =>
      have hk := List.getElem?_eq_none_iff.1 hn
      have e : pre r (k + 1) = pre r k := by unfold pre; rw [List.take_of_length_le (by omega), List.take_of_length_le hk]
      rw [e]; exact ih
    | some n =>
      obtain ⟨hN, _, hA⟩ := hg.2.2.2 k n hn
      rw [pre_snoc hn, List.pairwise_append]
      refine ⟨ih, ?_, fun a ha b hb => ?_⟩
      · rw [List.pairwise_map]
        exact (ris_pw hN.2.2.2.2.2.1).imp fun {a b} h => by simp only; omega
      · obtain ⟨x, hx, rfl⟩ := List.mem_map.1 hb
        obtain ⟨m, h1, h2, h3⟩ := mem_pre ha
        intro e
        simp only at e
        exact hA a.2 m h1 h2 x hx (e ▸ h3)
theorem tks_distinct {r : Ring} (hg : GoodR r) : (tks r).Pairwise fun a b => a.1 ≠ b.1 := by rw [← pre_end (Nat.le_refl _)]; exact pre_distinct hg _
theorem tks_mem {r : Ring} {t : Tok} (h : t ∈ tks r) : ∃ n, r.nodes[t.2]? = some n ∧ t.1 ∈ n.toks := by
  rw [← pre_end (Nat.le_refl _)] at h
  obtain ⟨n, _, h1, h2⟩ := mem_pre h
  exact ⟨n, h1, h2⟩
theorem tks_range {r : Ring} (hg : GoodR r) {t : Tok} (h : t ∈ tks r) : 0 ≤ t.1 ∧ t.1 < 2147483648 ∧ t.2 < r.nodes.length := by
  obtain ⟨n, h1, h2⟩ := tks_mem h
  have := (hg.2.2.2 t.2 n h1).1.2.2.2.2.2.2 t.1 h2
  exact ⟨this.1, this.2, slt h1⟩
theorem pre_len_le {r : Ring} (hg : GoodR r) : ∀ k, (pre r k).length ≤ 16 * k
  | 0 => Nat.le_refl _
  | k + 1 => by
    have ih := pre_len_le hg k
    cases hn : r.nodes[k]? with
    | none =>
      have hk := List.getElem?_eq_none_iff.1 hn
      have e : pre r (k + 1) = pre r k := by unfold pre; rw [List.take_of_length_le (by omega), List.take_of_length_le hk]
      rw [e]; omega
    | some n =>
      have := (hg.2.2.2 k n hn).1.2.2.2.2.1
      rw [pre_snoc hn, List.length_append, List.length_map]; omega
theorem tks_len {r : Ring} (hg : GoodR r) : (tks r).length ≤ 320 := by
  have h1 := pre_len_le hg r.nodes.length
  rw [pre_end (Nat.le_refl _)] at h1
  have := hg.2.2.1
  omega
theorem tks_pos {r : Ring} (hg : GoodR r) (h : 0 < r.nodes.length) : 0 < (tks r).length := by
  obtain ⟨n, hn⟩ := sget h
  have h2 := (hg.2.2.2 0 n hn).1.2.2.2.1
  obtain ⟨t, ht⟩ := sget (l := n.toks) (i := 0) (by omega)
  have h3 : (t, 0) ∈ pre r 1 := by rw [pre_snoc hn]; exact List.mem_append_right _ (List.mem_map.2 ⟨t, smem ht, rfl⟩)
  have h4 : ∀ l : List RingNode, ∀ m, m ∈ l → ∀ i, ∀ x ∈ m.toks, 0 < (tksF l i).length := by
    intro l
    induction l with
    | nil => intro m hm; simp at hm
    | cons a l ih =>
      intro m hm i x hx
      simp only [tksF, List.length_append, List.length_map]
      rcases List.mem_cons.1 hm with rfl | hm
      · have := List.length_pos_of_mem hx; omega
      · have := ih m hm (i + 1) x hx; omega
  exact h4 r.nodes n (smem hn) 0 t (smem ht)
theorem sort_range {r : Ring} (hg : GoodR r) {t : Tok} (h : t ∈ sortT (tks r)) : 0 ≤ t.1 ∧ t.1 < 2147483648 ∧ t.2 < r.nodes.length := tks_range hg ((sortT_perm _).mem_iff.1 h)
/-- The nearest of those that none has is the next in order. -/
theorem next_own {r : Ring} (hg : GoodR r) {p : Int} (hp0 : 0 ≤ p) (hp1 : p < 2147483648) (out : List Nat) (h : (out.length : Int) < r.copies) :
    ((nfold p out (tks r)).1 = -1 ∧ pickG r.copies (cyc (sortT (tks r)) (lowT p (sortT (tks r)))) out = out) ∨
    ∃ i : Nat, (nfold p out (tks r)).1 = i ∧ i < r.nodes.length ∧ pickG r.copies (cyc (sortT (tks r)) (lowT p (sortT (tks r)))) out = pickG r.copies (cyc (sortT (tks r)) (lowT p (sortT (tks r)))) (out ++ [i]) := by
  have hd := tks_distinct hg
  have hlt := sortT_lt hd
  have hC := cyc_sorted (n := lowT p (sortT (tks r))) hp0 hp1 hlt (fun t ht => by have := sort_range hg ht; exact ⟨this.1, this.2.1⟩) (lowT_lo p _) (lowT_hi p _ hlt)
  have hperm : (tks r).Perm (cyc (sortT (tks r)) (lowT p (sortT (tks r)))) := ((cyc_perm _ _).trans (sortT_perm _)).symm
  rcases nfold_find (done := out) hperm hC with ⟨h1, h2⟩ | ⟨t, h1, h2⟩
  · refine .inl ⟨h2, pick_none _ _ _ fun t ht => ?_⟩
    have := List.find?_eq_none.1 h1 t ht
    simpa using this
  · refine .inr ⟨t.2, h2, ?_, pick_next _ _ _ t h h1⟩
    have := List.mem_of_find?_eq_some h1
    exact (tks_range hg (hperm.mem_iff.2 this)).2.2

@[reducible] def fw (f : Nat) : SV := .raw (.func (.func f) #[] #[])
theorem shr1w {n m : Int} (h : n / 2 = m) : vBin .shr (.int .u64 n) (.int .u64 1) = some (.int .u64 m) := by subst h; rfl
def toP (t : Tok) : Int × Int := (t.1, (t.2 : Int))
@[reducible] def rowT (l : List Tok) : List SV := (l.map toP).map pairSV
@[reducible] def intsN (l : List Nat) : SV := ints (l.map fun (i : Nat) => (i : Int))
def cmpI (x y : Int) : Int := if x < y then -1 else if y < x then 1 else 0
theorem tget {l : List Tok} {i : Nat} {t : Tok} (h : l[i]? = some t) : (rowT l)[i]? = some (pairSV (toP t)) := by rw [List.getElem?_map, List.getElem?_map, h]; rfl
theorem rowT_len (l : List Tok) : (rowT l).length = l.length := by simp
theorem f210_c (x : Int) : PFn Tryz.prog 210 [int x] (bool false) := by
  refine fn_ok' (n := 6) Tryz.func210 rfl rfl rfl (Nat.le_of_ble_eq_true rfl) rfl fun w0 O => ?_
  refine ok_seq fun K1 h1 => ok_region rfl (q_as _ rfl (run_nil (h1 _ ?_))); clear h1 K1
  refine ok_seq fun K2 h2 => ok_region rfl (q_mv _ rfl (q_mv _ rfl (q_bin _ _ _ rfl rfl rfl (q_as _ rfl (run_nil (h2 _ ?_)))))); clear h2 K2
  refine ok_ret ⟨_, rfl, ?_⟩
  simp [tupSV]
theorem f157_c (x y : Int) : PFn Tryz.prog 157 [int x, int y] (int (cmpI x y)) := by
  refine fn_ok' (n := 20) Tryz.func157 rfl rfl rfl (Nat.le_of_ble_eq_true rfl) rfl fun w0 O => ?_
  refine ok_seq fun K1 h1 => ok_region rfl (q_as _ rfl (run_nil (h1 _ ?_))); clear h1 K1
  refine ok_seq fun K2 h2 => ok_region rfl (q_mv _ rfl (q_call (f210_c x) cl210 rfl rfl (q_as _ rfl (run_nil (h2 _ ?_))))); clear h2 K2
  refine ok_seq fun K3 h3 => ok_region rfl (q_mv _ rfl (q_call (f210_c y) cl210 rfl rfl (q_as _ rfl (run_nil (h3 _ ?_))))); clear h3 K3
  refine ok_seq fun K4 h4 => ?_
  refine ok_seq fun K5 h5 => ok_region rfl (q_mv _ rfl (run_nil (h5 _ ?_))); clear h5 K5
  refine ok_cond rfl (fun c6 => ?_) (fun c6 => ?_)
  · cases c6
  · refine ok_skip (h4 _ ?_)
    refine ok_seq fun K12 h12 => ?_
    refine ok_seq fun K13 h13 => ok_region rfl (q_mv _ rfl (run_nil (h13 _ ?_))); clear h13 K13
    refine ok_cond rfl (fun c14 => ?_) (fun c14 => ?_)
    · cases c14
    · refine ok_skip (h12 _ ?_)
      refine ok_seq fun K16 h16 => ?_
      refine ok_seq fun K17 h17 => ok_region rfl (q_mv _ rfl (q_mv _ rfl (q_bin _ _ _ rfl rfl rfl (run_nil (h17 _ ?_))))); clear h17 K17
      refine ok_cond rfl (fun c18 => ?_) (fun c18 => ?_)
      · refine ok_seq fun K19 h19 => ?_
        refine ok_region rfl (q_as _ rfl (run_nil (h19 _ ?_)))
        clear h19 K19
        refine ok_ret ⟨_, rfl, ?_⟩
        rw [cmpI, if_pos (of_decide_eq_true c18)]; rfl
      · refine ok_skip (h16 _ ?_)
        refine ok_seq fun K20 h20 => ?_
        refine ok_seq fun K21 h21 => ok_region rfl (q_mv _ rfl (q_mv _ rfl (q_bin _ _ _ rfl rfl rfl (run_nil (h21 _ ?_))))); clear h21 K21
        refine ok_cond rfl (fun c22 => ?_) (fun c22 => ?_)
        · refine ok_seq fun K23 h23 => ?_
          refine ok_region rfl (q_as _ rfl (run_nil (h23 _ ?_)))
          clear h23 K23
          refine ok_ret ⟨_, rfl, ?_⟩
          rw [cmpI, if_neg (of_decide_eq_false c18), if_pos (of_decide_eq_true c22)]; rfl
        · refine ok_skip (h20 _ ?_)
          refine ok_seq fun K24 h24 => ok_region rfl (q_as _ rfl (run_nil (h24 _ ?_))); clear h24 K24
          refine ok_ret ⟨_, rfl, ?_⟩
          rw [cmpI, if_neg (of_decide_eq_false c18), if_neg (of_decide_eq_false c22)]; rfl
def idxI (x : Int) : List Int → Nat → Int
  | [], _ => -1
  | y :: r, k => if x = y then (k : Int) else idxI x r (k + 1)
theorem idxI_at {x y : Int} {l : List Int} {k : Nat} (h : l[k]? = some y) : idxI x (l.drop k) k = if x = y then (k : Int) else idxI x (l.drop (k + 1)) (k + 1) := by
  obtain ⟨hlt, he⟩ := List.getElem?_eq_some_iff.1 h
  rw [List.drop_eq_getElem_cons hlt, he]; rfl
theorem idxI_end {x : Int} {l : List Int} {k : Nat} (h : l.length ≤ k) : idxI x (l.drop k) k = -1 := by rw [List.drop_of_length_le h]; rfl
theorem idxI_mem (x : Int) : ∀ (l : List Int) (k : Nat), (0 ≤ idxI x l k) ↔ x ∈ l
  | [], k => by simp [idxI]
  | y :: r, k => by
    unfold idxI
    by_cases h : x = y
    · rw [if_pos h, h]; simp
    · rw [if_neg h, idxI_mem x r (k + 1)]; simp [h]
theorem f198_ok (l : List Int) (hl : l.length ≤ 1048576) (x : Int) : PFn Tryz.prog 198 [ints l, int x] (int (idxI x l 0)) := by
  refine fn_ok' (n := 19) Tryz.func198 rfl rfl rfl (Nat.le_of_ble_eq_true rfl) rfl fun w0 O => ?_
  refine ok_seq fun K1 h1 => ok_region rfl (q_as _ rfl (run_nil (h1 _ ?_))); clear h1 K1
  refine ok_seq fun K2 h2 => ?_
  refine ok_seq fun K3 h3 => ok_region rfl (q_mv _ rfl (q_len eS40 rfl (q_mv _ rfl (run_nil (h3 _ ?_))))); clear h3 K3
  rw [List.length_map]
  refine ok_block ?_
  refine ok_loop (fun (k : Nat) => ⟨[(0, .sv (ints l)), (1, .sv (int x)), (7, .sv (int l.length)), (8, .sv (int k))], []⟩) (fun k => idxI x l 0 = idxI x (l.drop k) k) (fun k => l.length - k) 0 rfl (le_same ⟨rfl, rfl, rfl, rfl, trivial⟩) (fun k J => ?_)
  refine ok_seq fun K4 h4 => ok_region rfl (q_bin _ _ _ rfl rfl rfl (run_nil (h4 _ ?_))); clear h4 K4
  refine ok_seq fun K5 h5 => ?_
  refine ok_cond rfl (fun c6 => ?_) (fun c6 => ?_)
  · have hk : k < l.length := by simpa using c6
    obtain ⟨u, hu⟩ := sget hk
    rw [idxI_at hu] at J
    refine ok_skip (h5 _ ?_)
    refine ok_seq fun K7 h7 => ?_
    refine ok_block ?_
    refine ok_seq fun K8 h8 => ok_region rfl (q_mv _ rfl (q_as _ rfl (run_nil (h8 _ ?_)))); clear h8 K8
    refine ok_seq fun K9 h9 => ok_region rfl (q_mv _ rfl (q_mv _ rfl (q_mv _ rfl (q_ia (s := int u) el40 rfl rfl (by omega) (mget (f := int) hu) (q_ld _ ag3 rfl rfl (q_bin _ _ _ rfl rfl rfl (run_nil (h9 _ ?_)))))))); clear h9 K9
    refine ok_cond rfl (fun c10 => ?_) (fun c10 => ?_)
    · refine ok_seq fun K11 h11 => ?_
      refine ok_region rfl (q_mv _ rfl (q_as _ rfl (run_nil (h11 _ ?_))))
      clear h11 K11
      refine ok_ret ⟨_, rfl, ?_⟩
      rw [J, if_pos (of_decide_eq_true c10)]; rfl
    · rw [if_neg (of_decide_eq_false c10)] at J
      refine ok_skip (h7 _ ?_)
      refine ok_last fun K12 h12 => ok_region rfl (
        q_add rfl rfl (by omega) (q_mv _ rfl (run_nil (h12 _ (⟨k + 1, by omega, J, le_same ⟨rfl, rfl, rfl, rfl, trivial⟩⟩)))))
  · rw [idxI_end (by simpa using c6)] at J
    refine ok_exit (h2 _ ?_)
    refine ok_seq fun K13 h13 => ok_region rfl (q_as _ rfl (run_nil (h13 _ ?_))); clear h13 K13
    refine ok_ret ⟨_, rfl, ?_⟩
    rw [J]; rfl
theorem f136_ok (l : List Int) (hl : l.length ≤ 1048576) (x : Int) : PFn Tryz.prog 136 [ints l, int x] (bool (decide (x ∈ l))) := by
  refine fn_ok' (n := 9) Tryz.func136 rfl rfl rfl (Nat.le_of_ble_eq_true rfl) rfl fun w0 O => ?_
  refine ok_seq fun K1 h1 => ok_region rfl (q_as _ rfl (run_nil (h1 _ ?_))); clear h1 K1
  refine ok_seq fun K2 h2 => ok_region rfl (q_mv _ rfl (q_mv _ rfl (q_call (f198_ok l hl x) cl198 rfl rfl (q_bin _ _ _ rfl rfl rfl (q_as _ rfl (run_nil (h2 _ ?_))))))); clear h2 K2
  refine ok_ret ⟨_, rfl, ?_⟩
  have e : decide (0 ≤ idxI x l 0) = decide (x ∈ l) := by rw [decide_eq_decide]; exact idxI_mem x l 0
  rw [← e]; rfl
theorem f161_ok (t : Tok) (p : Int) : PFn Tryz.prog 161 [pairSV (toP t), int p] (int (cmpI t.1 p)) := by
  refine fn_ok' (n := 9) Tryz.func161 rfl rfl rfl (Nat.le_of_ble_eq_true rfl) rfl fun w0 O => ?_
  refine ok_seq fun K1 h1 => ok_region rfl (q_boxs _ rfl (Nat.zero_lt_succ _) (q_as _ rfl (run_nil (h1 _ ?_)))); clear h1 K1
  refine ok_seq fun K2 h2 => ok_region rfl (q_fa _ fd183_0 rfl rfl (by decide) (q_ld _ ag3 rfl rfl (q_mv _ rfl (q_call (f157_c t.1 p) cl157 rfl rfl (q_as _ rfl (run_nil (h2 _ ?_))))))); clear h2 K2
  refine ok_ret ⟨_, rfl, ?_⟩
  rfl
theorem cmpI_neg {x y : Int} : cmpI x y < 0 ↔ x < y := by
  unfold cmpI
  by_cases h1 : x < y
  · rw [if_pos h1]; simp [h1]
  · rw [if_neg h1]
    by_cases h2 : y < x
    · rw [if_pos h2]; simp [h1]
    · rw [if_neg h2]; simp [h1]
def fndT (p : Int) (S : List Tok) : Bool := match S[lowT p S]? with | some t => decide (cmpI t.1 p = 0) | none => false
theorem f160_ok (S : List Tok) (hl1 : S.length ≤ 1048576) (hs : S.Pairwise fun a b => a.1 < b.1) (p : Int) : PFn Tryz.prog 160 [.sl 2 (rowT S), int p, fw 161] (.tup [int (lowT p S), bool (fndT p S)]) := by
  have hs' : ∀ (i j : Nat) (x y : Tok), i < j → S[i]? = some x → S[j]? = some y → x.1 < y.1 := by
    intro i j x y hij hx hy
    obtain ⟨hi, rfl⟩ := List.getElem?_eq_some_iff.1 hx
    obtain ⟨hj, rfl⟩ := List.getElem?_eq_some_iff.1 hy
    exact List.pairwise_iff_getElem.1 hs i j hi hj hij
  refine fn_ok' (n := 49) Tryz.func160 rfl rfl rfl (Nat.le_of_ble_eq_true rfl) rfl fun w0 O => ?_
  refine ok_seq fun K1 h1 => ok_region rfl (q_as _ rfl (q_as _ rfl (run_nil (h1 _ ?_)))); clear h1 K1
  refine ok_seq fun K2 h2 => ok_region rfl (q_mv _ rfl (q_len eS117 rfl (q_as _ rfl (run_nil (h2 _ ?_))))); clear h2 K2
  rw [rowT_len]
  refine ok_seq fun K3 h3 => ok_region rfl (q_mv _ rfl (q_as _ rfl (q_as _ rfl (run_nil (h3 _ ?_))))); clear h3 K3
  refine ok_seq fun K4 h4 => ?_
  refine ok_block ?_
  refine ok_loop (fun (s : Nat × Nat) => ⟨[(0, .sv (.sl 2 (rowT S))), (1, .sv (int p)), (2, .sv (fw 161)), (8, .sv (int S.length)), (9, .sv (int s.1)), (10, .sv (int s.2))], []⟩) (fun s => s.1 ≤ s.2 ∧ s.2 ≤ S.length ∧ (∀ i x, i < s.1 → S[i]? = some x → x.1 < p) ∧ (∀ i x, s.2 ≤ i → S[i]? = some x → ¬ x.1 < p)) (fun s => s.2 - s.1) (0, S.length) ⟨Nat.zero_le _, Nat.le_refl _, fun i x h => by simp only at h; omega, fun i x h hx => by have := slt hx; simp only at h; omega⟩ (le_same ⟨rfl, rfl, rfl, rfl, rfl, rfl, trivial⟩) (fun s J => ?_)
  obtain ⟨lo, hi⟩ := s
  obtain ⟨j1, j2, j3, j4⟩ := J
  simp only at j1 j2 j3 j4
  refine ok_seq fun K5 h5 => ?_
  refine ok_seq fun K6 h6 => ok_region rfl (q_mv _ rfl (q_mv _ rfl (q_bin _ _ _ rfl rfl rfl (run_nil (h6 _ ?_))))); clear h6 K6
  refine ok_cond rfl (fun c7 => ?_) (fun c7 => ?_)
  · refine ok_skip (h5 _ ?_)
    have c := of_decide_eq_true c7
    obtain ⟨mid, hmid, hm1, hm2⟩ : ∃ mid : Nat, ((lo : Int) + hi) / 2 = mid ∧ lo ≤ mid ∧ mid < hi := ⟨(lo + hi) / 2, by omega, by omega, by omega⟩
    obtain ⟨u, hu⟩ := sget (l := S) (i := mid) (by omega)
    refine ok_block ?_
    refine ok_seq fun K8 h8 => ok_region rfl (q_mv _ rfl (q_mv _ rfl (q_add rfl rfl (by omega) (q_cv aS3 ik172 rfl (IntWalk.u64_in _ (by omega)) (q_bin (.int .u64 ((lo : Int) + hi)) (.int .u64 1) (.int .u64 (mid : Int)) rfl rfl (shr1w hmid) (q_cv aS172 ik3 rfl (IntWalk.i64_in _ (by omega)) (q_as _ rfl (run_nil (h8 _ ?_))))))))); clear h8 K8
    refine ok_seq fun K9 h9 => ok_region rfl (q_mv _ rfl (q_mv _ rfl (q_mv _ rfl (q_ia el117 rfl rfl (by omega) (tget hu) (q_lds _ ag183 rfl sz183 (q_mv _ rfl (q_callv (f161_ok u p) cl161 rfl rfl rfl (q_bin _ _ _ rfl rfl rfl (run_nil (h9 _ ?_)))))))))); clear h9 K9
    refine ok_cond rfl (fun c10 => ?_) (fun c10 => ?_)
    · have d := cmpI_neg.1 (of_decide_eq_true c10)
      refine ok_last fun K20 h20 => ok_region rfl (q_mv _ rfl (q_add rfl rfl (by omega) (q_as _ rfl (run_nil (h20 _ ⟨(mid + 1, hi), by simp only; omega, ⟨by simp only; omega, j2, ?_, j4⟩, le_same ⟨rfl, rfl, rfl, rfl, rfl, rfl, trivial⟩⟩)))))
      intro i x hi hx
      rcases Nat.lt_or_ge i mid with h | h
      · have := hs' i mid x u h hx hu; omega
      · simp only at hi; obtain rfl : i = mid := by omega
        rw [hu] at hx; cases hx; exact d
    · have d : ¬ u.1 < p := fun h => of_decide_eq_false c10 (cmpI_neg.2 h)
      refine ok_last fun K20 h20 => ok_region rfl (q_mv _ rfl (q_as _ rfl (run_nil (h20 _ ⟨(lo, mid), by simp only; omega, ⟨hm1, by simp only; omega, j3, ?_⟩, le_same ⟨rfl, rfl, rfl, rfl, rfl, rfl, trivial⟩⟩))))
      intro i x hi hx d'
      simp only at hi
      rcases Nat.lt_or_ge mid i with h | h
      · have := hs' mid i u x h hu hx; omega
      · obtain rfl : i = mid := by omega
        rw [hu] at hx; cases hx; exact d d'
  · refine ok_exit (h4 _ ?_)
    have c := of_decide_eq_false c7
    obtain rfl : lo = hi := by omega
    have e := lowT_eq p S lo j2 j3 (fun x hx => j4 lo x (Nat.le_refl _) hx)
    obtain ⟨v, hv⟩ : ∃ v : Tok, lo < S.length → S[lo]? = some v := by
      rcases Nat.lt_or_ge lo S.length with h | h
      · obtain ⟨v, hv⟩ := sget h; exact ⟨v, fun _ => hv⟩
      · exact ⟨(0, 0), fun h' => by omega⟩
    refine ok_seq fun K11 h11 => ?_
    refine ok_region rfl (q_mv _ rfl (q_mv _ rfl (q_mv _ rfl (q_bin _ _ _ rfl rfl rfl (q_mv _ rfl (q_and 8 8 rfl rfl rfl rfl rfl (fun hb48 =>
        q_mv _ rfl (q_mv _ rfl (q_mv _ rfl (q_ia el117 rfl rfl (by omega) (tget (hv (by have := of_decide_eq_true hb48; omega))) (q_lds _ ag183 rfl sz183 (q_mv _ rfl (q_callv (f161_ok v p) cl161 rfl rfl rfl (q_bin _ _ _ rfl rfl rfl (run_nil ⟨rfl, rfl, rfl, rfl⟩))))))))) (
      q_as _ rfl (q_as _ rfl (run_nil (h11 _ ?_))))))))))
    clear h11 K11
    refine ok_ret ⟨_, rfl, ?_⟩
    have : (decide ((lo : Int) < S.length) && decide (cmpI v.1 p = 0)) = fndT p S := by
      unfold fndT
      rw [e]
      rcases Nat.lt_or_ge lo S.length with h | h
      · rw [hv h, decide_eq_true (by omega)]; rfl
      · rw [List.getElem?_eq_none h, decide_eq_false (by omega)]; rfl
    rw [← this, e]; rfl

end Go.Ring

/- Samples joined, of two at one time the greater: program and reference. No condition beyond the sizes. -/
set_option maxRecDepth 100000
set_option linter.unusedVariables false
set_option linter.unusedSimpArgs false
namespace Go.Ring
open Go Go.RowKit Go.Eager Go.Abs Go.Proofs
def lowS (p : Int) : List Sample → Nat
  | [] => 0
  | t :: r => if t.time < p then lowS p r + 1 else 0
theorem lowS_eq (p : Int) : ∀ (S : List Sample) (k : Nat), k ≤ S.length → (∀ i x, i < k → S[i]? = some x → x.time < p) → (∀ x, S[k]? = some x → ¬ x.time < p) → lowS p S = k
  | [], k, h, _, _ => by simp at h; subst h; rfl
  | t :: r, 0, _, _, h2 => by have := h2 t rfl; unfold lowS; rw [if_neg this]
  | t :: r, k + 1, h, h1, h2 => by
    have := h1 0 t (by omega) rfl
    unfold lowS
    rw [if_pos this, lowS_eq p r k (by simpa using h) (fun i x hi hx => h1 (i + 1) x (by omega) hx) (fun x hx => h2 x hx)]
theorem f257_ok (t : Sample) (p : Int) : PFn Tryz.prog 257 [eSample t, int p] (int (cmpI t.time p)) := by
  refine fn_ok' (n := 9) Tryz.func257 rfl rfl rfl (Nat.le_of_ble_eq_true rfl) rfl fun w0 O => ?_
  refine ok_seq fun K1 h1 => ok_region rfl (q_boxs _ rfl (Nat.zero_lt_succ _) (q_as _ rfl (run_nil (h1 _ ?_)))); clear h1 K1
  refine ok_seq fun K2 h2 => ok_region rfl (q_fa _ fd122_0 rfl rfl (by decide) (q_ld _ ag3 rfl rfl (q_mv _ rfl (q_call (f157_c t.time p) cl157 rfl rfl (q_as _ rfl (run_nil (h2 _ ?_))))))); clear h2 K2
  refine ok_ret ⟨_, rfl, ?_⟩
  rfl
def fndS (p : Int) (S : List Sample) : Bool := match S[lowS p S]? with | some t => decide (cmpI t.time p = 0) | none => false
theorem f256_ok (S : List Sample) (hl1 : S.length ≤ 1048576) (hs : S.Pairwise fun a b => a.time < b.time) (p : Int) : PFn Tryz.prog 256 [eSampleS S, int p, fw 257] (.tup [int (lowS p S), bool (fndS p S)]) := by
  have hs' : ∀ (i j : Nat) (x y : Sample), i < j → S[i]? = some x → S[j]? = some y → x.time < y.1 := by
    intro i j x y hij hx hy
    obtain ⟨hi, rfl⟩ := List.getElem?_eq_some_iff.1 hx
    obtain ⟨hj, rfl⟩ := List.getElem?_eq_some_iff.1 hy
    exact List.pairwise_iff_getElem.1 hs i j hi hj hij
  refine fn_ok' (n := 49) Tryz.func256 rfl rfl rfl (Nat.le_of_ble_eq_true rfl) rfl fun w0 O => ?_
  refine ok_seq fun K1 h1 => ok_region rfl (q_as _ rfl (q_as _ rfl (run_nil (h1 _ ?_)))); clear h1 K1
  refine ok_seq fun K2 h2 => ok_region rfl (q_mv _ rfl (q_len eS123 rfl (q_as _ rfl (run_nil (h2 _ ?_))))); clear h2 K2
  rw [List.length_map]
  refine ok_seq fun K3 h3 => ok_region rfl (q_mv _ rfl (q_as _ rfl (q_as _ rfl (run_nil (h3 _ ?_))))); clear h3 K3
  refine ok_seq fun K4 h4 => ?_
  refine ok_block ?_
  refine ok_loop (fun (s : Nat × Nat) => ⟨[(0, .sv (eSampleS S)), (1, .sv (int p)), (2, .sv (fw 257)), (8, .sv (int S.length)), (9, .sv (int s.1)), (10, .sv (int s.2))], []⟩) (fun s => s.1 ≤ s.2 ∧ s.2 ≤ S.length ∧ (∀ i x, i < s.1 → S[i]? = some x → x.time < p) ∧ (∀ i x, s.2 ≤ i → S[i]? = some x → ¬ x.time < p)) (fun s => s.2 - s.1) (0, S.length) ⟨Nat.zero_le _, Nat.le_refl _, fun i x h => by simp only at h; omega, fun i x h hx => by have := slt hx; simp only at h; omega⟩ (le_same ⟨rfl, rfl, rfl, rfl, rfl, rfl, trivial⟩) (fun s J => ?_)
  obtain ⟨lo, hi⟩ := s
  obtain ⟨j1, j2, j3, j4⟩ := J
  simp only at j1 j2 j3 j4
  refine ok_seq fun K5 h5 => ?_
  refine ok_seq fun K6 h6 => ok_region rfl (q_mv _ rfl (q_mv _ rfl (q_bin _ _ _ rfl rfl rfl (run_nil (h6 _ ?_))))); clear h6 K6
  refine ok_cond rfl (fun c7 => ?_) (fun c7 => ?_)
  · refine ok_skip (h5 _ ?_)
    have c := of_decide_eq_true c7
    obtain ⟨mid, hmid, hm1, hm2⟩ : ∃ mid : Nat, ((lo : Int) + hi) / 2 = mid ∧ lo ≤ mid ∧ mid < hi := ⟨(lo + hi) / 2, by omega, by omega, by omega⟩
    obtain ⟨u, hu⟩ := sget (l := S) (i := mid) (by omega)
    refine ok_block ?_
    refine ok_seq fun K8 h8 => ok_region rfl (q_mv _ rfl (q_mv _ rfl (q_add rfl rfl (by omega) (q_cv aS3 ik172 rfl (IntWalk.u64_in _ (by omega)) (q_bin (.int .u64 ((lo : Int) + hi)) (.int .u64 1) (.int .u64 (mid : Int)) rfl rfl (shr1w hmid) (q_cv aS172 ik3 rfl (IntWalk.i64_in _ (by omega)) (q_as _ rfl (run_nil (h8 _ ?_))))))))); clear h8 K8
    refine ok_seq fun K9 h9 => ok_region rfl (q_mv _ rfl (q_mv _ rfl (q_mv _ rfl (q_ia el123 rfl rfl (by omega) (mget (f := eSample) hu) (q_lds _ ag122 rfl sz122 (q_mv _ rfl (q_callv (f257_ok u p) cl257 rfl rfl rfl (q_bin _ _ _ rfl rfl rfl (run_nil (h9 _ ?_)))))))))); clear h9 K9
    refine ok_cond rfl (fun c10 => ?_) (fun c10 => ?_)
    · have d := cmpI_neg.1 (of_decide_eq_true c10)
      refine ok_last fun K20 h20 => ok_region rfl (q_mv _ rfl (q_add rfl rfl (by omega) (q_as _ rfl (run_nil (h20 _ ⟨(mid + 1, hi), by simp only; omega, ⟨by simp only; omega, j2, ?_, j4⟩, le_same ⟨rfl, rfl, rfl, rfl, rfl, rfl, trivial⟩⟩)))))
      intro i x hi hx
      rcases Nat.lt_or_ge i mid with h | h
      · have := hs' i mid x u h hx hu; omega
      · simp only at hi; obtain rfl : i = mid := by omega
        rw [hu] at hx; cases hx; exact d
    · have d : ¬ u.time < p := fun h => of_decide_eq_false c10 (cmpI_neg.2 h)
      refine ok_last fun K20 h20 => ok_region rfl (q_mv _ rfl (q_as _ rfl (run_nil (h20 _ ⟨(lo, mid), by simp only; omega, ⟨hm1, by simp only; omega, j3, ?_⟩, le_same ⟨rfl, rfl, rfl, rfl, rfl, rfl, trivial⟩⟩))))
      intro i x hi hx d'
      simp only at hi
      rcases Nat.lt_or_ge mid i with h | h
      · have := hs' mid i u x h hu hx; omega
      · obtain rfl : i = mid := by omega
        rw [hu] at hx; cases hx; exact d d'
  · refine ok_exit (h4 _ ?_)
    have c := of_decide_eq_false c7
    obtain rfl : lo = hi := by omega
    have e := lowS_eq p S lo j2 j3 (fun x hx => j4 lo x (Nat.le_refl _) hx)
    obtain ⟨v, hv⟩ : ∃ v : Sample, lo < S.length → S[lo]? = some v := by
      rcases Nat.lt_or_ge lo S.length with h | h
      · obtain ⟨v, hv⟩ := sget h; exact ⟨v, fun _ => hv⟩
      · exact ⟨⟨0, 0⟩, fun h' => by omega⟩
    refine ok_seq fun K11 h11 => ?_
    refine ok_region rfl (q_mv _ rfl (q_mv _ rfl (q_mv _ rfl (q_bin _ _ _ rfl rfl rfl (q_mv _ rfl (q_and 8 8 rfl rfl rfl rfl rfl (fun hb48 =>
        q_mv _ rfl (q_mv _ rfl (q_mv _ rfl (q_ia el123 rfl rfl (by omega) (mget (f := eSample) (hv (by have := of_decide_eq_true hb48; omega))) (q_lds _ ag122 rfl sz122 (q_mv _ rfl (q_callv (f257_ok v p) cl257 rfl rfl rfl (q_bin _ _ _ rfl rfl rfl (run_nil ⟨rfl, rfl, rfl, rfl⟩))))))))) (
      q_as _ rfl (q_as _ rfl (run_nil (h11 _ ?_))))))))))
    clear h11 K11
    refine ok_ret ⟨_, rfl, ?_⟩
    have : (decide ((lo : Int) < S.length) && decide (cmpI v.time p = 0)) = fndS p S := by
      unfold fndS
      rw [e]
      rcases Nat.lt_or_ge lo S.length with h | h
      · rw [hv h, decide_eq_true (by omega)]; rfl
      · rw [List.getElem?_eq_none h, decide_eq_false (by omega)]; rfl
    rw [← this, e]; rfl


theorem f217_ok (S : List Sample) (hl1 : S.length ≤ 1048576) (hs : SrtS S) (p : Int) : PFn Tryz.prog 217 [eSampleS S, int p] (.tup [int (lowS p S), bool (fndS p S)]) := by
  refine fn_ok' (n := 11) Tryz.func217 rfl rfl rfl (Nat.le_of_ble_eq_true rfl) rfl fun w0 O => ?_
  refine ok_seq fun K1 h1 => ok_region rfl (q_as _ rfl (q_as _ rfl (run_nil (h1 _ ?_)))); clear h1 K1
  refine ok_seq fun K2 h2 => ok_region rfl (q_mv _ rfl (q_mv _ rfl (q_call (f256_ok S hl1 hs p) cl256 rfl rfl (q_ext _ rfl rfl (q_ext _ rfl rfl (q_as _ rfl (q_as _ rfl (run_nil (h2 _ ?_))))))))); clear h2 K2
  exact ok_ret ⟨_, rfl, rfl⟩
theorem vat_app {t : Int} : ∀ (a b : List Sample), vat t (a ++ b) = (vat t a).or (vat t b)
  | [], b => by simp [vat]
  | x :: a, b => by
    simp only [List.cons_append, vat]
    split
    · simp
    · exact vat_app a b
theorem vat_no {t : Int} : ∀ {l : List Sample}, (∀ x ∈ l, x.time ≠ t) → vat t l = none
  | [], _ => rfl
  | s :: l, h => by
    unfold vat
    rw [if_neg (h s (List.mem_cons_self ..))]
    exact vat_no fun x hx => h x (List.mem_cons_of_mem _ hx)
theorem vat_take {t : Int} {b : List Sample} {k : Nat} {s : Sample} (h : b[k]? = some s) : vat t (b.take (k + 1)) = (vat t (b.take k)).or (if s.time = t then some s.value else none) := by
  rw [List.take_add_one, h, Option.toList_some, vat_app]
  simp only [vat]
theorem srt_get {l : List Sample} (h : SrtS l) {i j : Nat} {x y : Sample} (hij : i < j) (hx : l[i]? = some x) (hy : l[j]? = some y) : x.time < y.time := by
  obtain ⟨hi, rfl⟩ := List.getElem?_eq_some_iff.1 hx
  obtain ⟨hj, rfl⟩ := List.getElem?_eq_some_iff.1 hy
  exact List.pairwise_iff_getElem.1 h i j hi hj hij
theorem gB_step {b : List Sample} (sb : SrtS b) {k : Nat} {s : Sample} (h : b[k]? = some s) (x : Sample) : gB (b.take (k + 1)) x = if x.time = s.time then ⟨x.time, if x.value < s.value then s.value else x.value⟩ else gB (b.take k) x := by
  unfold gB
  rw [vat_take h]
  by_cases e : x.time = s.time
  · have e0 : vat x.time (b.take k) = none := vat_no fun y hy e2 => by
      obtain ⟨j, hj⟩ := List.getElem?_of_mem hy
      have hjl := slt hj
      rw [List.length_take] at hjl
      rw [List.getElem?_take, if_pos (by omega)] at hj
      have := srt_get sb (show j < k by omega) hj h
      omega
    rw [e0, if_pos e.symm, if_pos e]
    rfl
  · rw [if_neg (fun e2 => e e2.symm), if_neg e, Option.or_none]
theorem gB_same {b : List Sample} (sb : SrtS b) {k : Nat} {s : Sample} (h : b[k]? = some s) {x : Sample} (e : x.time = s.time) : gB (b.take k) x = x := by
  unfold gB
  rw [vat_no (t := x.time) (l := b.take k) (fun y hy e2 => by
    obtain ⟨j, hj⟩ := List.getElem?_of_mem hy
    have hjl := slt hj
    rw [List.length_take] at hjl
    rw [List.getElem?_take, if_pos (by omega)] at hj
    have := srt_get sb (show j < k by omega) hj h
    omega)]
/-- Where the next one's time stands; what is written there. -/
theorem gr_at {a b : List Sample} (sa : SrtS a) (sb : SrtS b) {k : Nat} {s : Sample} (h : b[k]? = some s) :
    ∃ (i : Nat) (x : Sample), (mg a b)[i]? = some x ∧ x.time = s.time ∧ ((mg a b).map (gB (b.take k)))[i]? = some x ∧ lowS s.time ((mg a b).map (gB (b.take k))) = i ∧ fndS s.time ((mg a b).map (gB (b.take k))) = true ∧
      ((mg a b).map (gB (b.take k))).set i ⟨x.time, if x.value < s.value then s.value else x.value⟩ = (mg a b).map (gB (b.take (k + 1))) := by
  have hM := mg_srt sa sb
  have hv : vat s.time b ≠ none := by
    obtain ⟨h1, h2⟩ : vat s.time (b.take (k + 1)) = some s.value ∧ True := by
      rw [vat_take h, if_pos rfl, vat_no (l := b.take k) (fun y hy e2 => by
        obtain ⟨j, hj⟩ := List.getElem?_of_mem hy
        have hjl := slt hj
        rw [List.length_take] at hjl
        rw [List.getElem?_take, if_pos (by omega)] at hj
        have := srt_get sb (show j < k by omega) hj h
        omega)]
      exact ⟨rfl, trivial⟩
    have e := vat_app (t := s.time) (b.take (k + 1)) (b.drop (k + 1))
    rw [List.take_append_drop, h1] at e
    rw [e]; simp
  obtain ⟨x, hx, hxt⟩ : ∃ x ∈ mg a b, x.time = s.time := by
    have e := vat_mg (t := s.time) sa sb
    cases hq : vat s.time (mg a b) with
    | none =>
      rw [hq] at e
      cases ha : vat s.time a with
      | none => rw [ha] at e; simp at e; exact absurd e.symm hv
      | some v => rw [ha] at e; simp at e
    | some v => obtain ⟨x, hx, h1, _⟩ := vat_get hq; exact ⟨x, hx, h1⟩
  obtain ⟨i, hi⟩ := List.getElem?_of_mem hx
  have hgi : ((mg a b).map (gB (b.take k)))[i]? = some x := by rw [List.getElem?_map, hi, Option.map_some, gB_same sb h hxt]
  have hlow : lowS s.time ((mg a b).map (gB (b.take k))) = i := by
    refine lowS_eq _ _ i (by have := slt hgi; omega) (fun j y hj hy => ?_) (fun y hy => ?_)
    · rw [List.getElem?_map] at hy
      cases hq : (mg a b)[j]? with
      | none => rw [hq] at hy; simp at hy
      | some z =>
        rw [hq] at hy; simp at hy; subst hy
        rw [gB_time]
        have := srt_get hM hj hq hi
        omega
    · rw [hgi] at hy; cases hy; omega
  refine ⟨i, x, hi, hxt, hgi, hlow, ?_, ?_⟩
  · unfold fndS
    rw [hlow, hgi]
    simp [cmpI, hxt]
  · refine List.ext_getElem? fun j => ?_
    rw [List.getElem?_set]
    by_cases e : i = j
    · subst e
      rw [if_pos rfl, if_pos (slt hgi), List.getElem?_map, hi, Option.map_some, gB_step sb h, if_pos hxt]
    · rw [if_neg e, List.getElem?_map, List.getElem?_map]
      cases hq : (mg a b)[j]? with
      | none => rfl
      | some z =>
        have hne : ¬ (z.time = s.time) := fun e2 => by
          rcases Nat.lt_or_gt_of_ne e with c | c
          · have := srt_get hM c hi hq; omega
          · have := srt_get hM c hq hi; omega
        rw [Option.map_some, Option.map_some, gB_step sb h, if_neg hne]
theorem gB_nil (x : Sample) : gB [] x = x := rfl
theorem otr_flat {α : Type} {f : α → SV} {Z : Nat → Prop} {rs : List SV} {l : List α} (h : Otr Z rs (l.map f)) (hf : ∀ x, flatV (f x) = true) : rs = l.map f := by
  refine List.ext_getElem? fun i => ?_
  cases hq : rs[i]? with
  | none =>
    have : ¬ i < rs.length := fun hlt => by rw [List.getElem?_eq_getElem hlt] at hq; cases hq
    rw [h.len] at this
    exact (List.getElem?_eq_none (by omega)).symm
  | some r =>
    have hlt := slt hq
    rw [h.len, List.length_map] at hlt
    obtain ⟨x, hx⟩ := sget (l := l) hlt
    have hs := mget (f := f) hx
    rw [hs, flat_eq (hf x) (h.gd i r _ hq hs)]
theorem flat_sample (x : Sample) : flatV (eSample x) = true := rfl
theorem mg_empty {a b : List Sample} (h : b ≠ []) : mg a b ≠ [] := fun e => mg_ne (a := a) (fun h0 => h (List.eq_nil_of_length_eq_zero h0)) (by rw [e]; rfl)
theorem f164_t (a b : List Sample) (hl : a.length + b.length ≤ 1048576) (sa : SrtS a) (sb : SrtS b) : PFnT Tryz.prog 164 [eSampleS a, eSampleS b] (eSampleS (grM a b)) := by
  refine fnp_ok (n := 41) Tryz.func164 rfl rfl rfl (Nat.le_of_ble_eq_true rfl) rfl fun w0 O => ?_
  have hml := mg_len a b
  refine ok_seq fun K1 h1 => ok_region rfl (q_as _ rfl (run_nil (h1 _ ?_))); clear h1 K1
  refine ok_seq fun K2 h2 => ?_
  refine ok_region rfl (q_mv _ rfl (q_mv _ rfl (q_callg [1] (f216_t a b (by omega) (by omega)) cl216 ⟨.inl rfl, .inl rfl, trivial⟩ (fun r hr hz ha => ?_))))
  obtain ⟨Z0, v0, rfl⟩ := gd_sl_inv hr
  refine q_as _ rfl (run_nil (h2 _ ?_)); clear h2 K2
  refine Ok.le (le_sub (t' := [(1, .av (fun q => Zn q (.tr Z0 (eSampleS (mg a b)) v0)) (eSampleS b)), (5, .sv (.tr Z0 (eSampleS (mg a b)) v0))]) (h' := []) ⟨rfl, rfl, trivial⟩ trivial) ?_
  by_cases hb : b = []
  · subst hb
    have e : grM a [] = mg a [] := by unfold grM; exact (List.map_congr_left fun x _ => gB_nil x).trans (List.map_id _)
    rw [e]
    refine Ok.le le_unav ?_
    refine ok_seq fun K4 h4 => ?_
    refine ok_seq fun K3 h3 => ok_region rfl (q_mv _ rfl (q_len eS123 rfl (q_mv _ rfl (run_nil (h3 _ ?_))))); clear h3 K3
    refine ok_block ?_
    refine ok_loop (fun (k : Nat) => ⟨[(5, .sv (.tr Z0 (eSampleS (mg a [])) v0)), (14, .sv (int 0)), (15, .sv (int 0))], []⟩) (fun k => True) (fun k => k) 0 trivial (le_sub ⟨rfl, rfl, rfl, trivial⟩ trivial) (fun k J => ?_)
    refine ok_seq fun K5 h5 => ok_region rfl (q_bin _ _ _ rfl rfl rfl (run_nil (h5 _ ?_))); clear h5 K5
    refine ok_seq fun K6 h6 => ?_
    refine ok_cond rfl (fun c7 => ?_) (fun c7 => ?_)
    · exact absurd c7 (by simp)
    · refine ok_exit (h4 _ ?_)
      refine ok_seq fun K8 h8 => ok_region rfl (q_mv _ rfl (q_as _ rfl (run_nil (h8 _ ?_)))); clear h8 K8
      exact ok_ret ⟨_, ⟨_, _, rfl, rfl, rfl⟩, .tr _ _ _ _, hz⟩
  · have hne : (mg a b).map eSample ≠ [] := fun h => mg_empty (a := a) hb (List.map_eq_nil_iff.1 h)
    refine ok_otr 5 100 rfl hne (fun q hq => .inl (hz q (.tr _ _ _ hq))) rfl rfl ⟨fun q hq => .tr _ _ _ hq, trivial⟩ trivial (fun T rs hO => ?_)
    have hrs := otr_flat hO flat_sample
    subst hrs
    refine Ok.le le_unav ?_
    refine ok_seq fun K4 h4 => ?_
    refine ok_seq fun K3 h3 => ok_region rfl (q_mv _ rfl (q_len eS123 rfl (q_mv _ rfl (run_nil (h3 _ ?_))))); clear h3 K3
    rw [List.length_map]
    refine ok_block ?_
    refine ok_loop (fun (k : Nat) => ⟨[(5, .own 100), (13, .sv (eSampleS b)), (14, .sv (int b.length)), (15, .sv (int k))], [(100, .row 2 T (((mg a b).map (gB (b.take k))).map eSample))]⟩) (fun k => True) (fun k => b.length - k) 0 trivial (le_sub ⟨rfl, rfl, rfl, rfl, trivial⟩ ⟨by rw [List.take_zero, show (mg a b).map (gB []) = mg a b from (List.map_congr_left fun x _ => gB_nil x).trans (List.map_id _)]; rfl, trivial⟩) (fun k J => ?_)
    refine ok_seq fun K5 h5 => ok_region rfl (q_bin _ _ _ rfl rfl rfl (run_nil (h5 _ ?_))); clear h5 K5
    refine ok_seq fun K6 h6 => ?_
    refine ok_cond rfl (fun c7 => ?_) (fun c7 => ?_)
    · refine ok_skip (h6 _ ?_)
      have hk : k < b.length := by simpa using c7
      obtain ⟨s, hs⟩ := sget hk
      obtain ⟨i, x, g1, g2, g3, g4, g5, g6⟩ := gr_at sa sb hs
      have gS : SrtS ((mg a b).map (gB (b.take k))) := map_srt (mg_srt sa sb)
      have gL : ((mg a b).map (gB (b.take k))).length ≤ 1048576 := by rw [List.length_map]; omega
      generalize (mg a b).map (gB (b.take k)) = M at *
      have hil := slt g3
      refine ok_seq fun K8 h8 => ?_
      refine ok_block ?_
      refine ok_seq fun K9 h9 => ok_region rfl (q_ia el123 rfl rfl (by omega) (mget (f := eSample) hs) (q_lds _ ag122 rfl sz122 (q_alloc _ ze122 rfl rfl rfl rfl (q_sts _ rfl rfl rfl sz122 (Nat.le_of_ble_eq_true rfl) rfl (run_nil (h9 _ ?_)))))); clear h9 K9
      refine ok_seq fun K10 h10 => ?_
      refine ok_region rfl (q_mo _ rfl (q_fap fd122_0 rfl (by decide) (q_ldb (.sv (int s.time)) ag3 rfl rfl rfl (q_call (f217_ok M gL gS s.time) cl217 rfl rfl (q_mv _ rfl (q_ext _ rfl rfl (q_ext _ rfl rfl (q_as _ rfl (q_as _ rfl (run_nil (h10 _ ?_)))))))))))
      clear h10 K10
      rw [g4, g5]
      refine ok_seq fun K11 h11 => ok_region rfl (q_mv _ rfl (run_nil (h11 _ ?_))); clear h11 K11
      refine ok_cond rfl (fun c12 => ?_) (fun c12 => ?_)
      · refine ok_last fun K13 h13 => ok_region_i (by kernel_rfl) (by kernel_rfl) rfl (
          q_mo _ rfl (q_mv _ rfl (q_mo _ rfl (q_mv _ rfl (q_iao el123 rfl rfl rfl (by omega) (by rw [List.length_map]; exact hil) (q_fae fd122_1 rfl (by decide) (q_ldef (int x.value) ag3 rfl rfl (mget (f := eSample) g3) rfl (q_fap fd122_1 rfl (by decide) (q_ldb (.sv (int s.value)) ag3 rfl rfl rfl (
          q_max rfl rfl (q_iao el123 rfl rfl rfl (by omega) (by rw [List.length_map]; exact hil) (q_fae fd122_1 rfl (by decide) (q_stef sz3 rfl rfl (mget (f := eSample) g3) (by show 1 < 2; omega) rfl rfl rfl (run_nil (h13 _ (h8 _ ?_))))))))))))))))
        refine ok_last fun K14 h14 => ok_region rfl (q_add rfl rfl (by omega) (q_mv _ rfl (run_nil (h14 _ ⟨k + 1, by omega, trivial, le_sub ⟨rfl, rfl, rfl, rfl, trivial⟩ ⟨?_, trivial⟩⟩))))
        rw [← g6, List.map_set]
        rfl
      · exact absurd c12 (by simp)
    · rw [List.take_of_length_le (by have : ¬ ((k : Int) < b.length) := by simpa using c7
                                     omega)]
      refine ok_exit (h4 _ ?_)
      refine ok_seq fun K15 h15 => ok_region rfl (q_mo _ rfl (q_ao _ rfl (run_nil (h15 _ ?_)))); clear h15 K15
      obtain ⟨f1, f2, f3⟩ := gd_flatL (rs := (grM a b).map eSample) (fun r hr => by obtain ⟨x, _, rfl⟩ := List.mem_map.1 hr; exact flat_sample x)
      refine ok_treed (k := 100) (n := 2) (T := T) (rs := (grM a b).map eSample) (ss := (grM a b).map eSample) rfl rfl f1 f2 (fun r hr b hb => (f3 r hr b hb).elim) (fun Z v hZ => ?_)
      exact ok_ret ⟨_, ⟨_, _, rfl, rfl, rfl⟩, .tr Z 2 _ v, fun b hb => (hZ b (zn_tr hb)).elim id fun h => h.elim⟩
end Go.Ring

/- Samples joined: the reference. No condition beyond the sizes. -/
set_option maxRecDepth 100000
set_option linter.unusedVariables false
set_option linter.unusedSimpArgs false
namespace Go.Ring
open Go Go.RowKit Go.Eager Go.Abs Go.Proofs
theorem cut0 (t : Int) : ∀ l : List Sample, vat t l = ((cutF t t l)[0]?).map (·.value)
  | [] => rfl
  | s :: l => by
    unfold cutF
    rw [List.filter_cons]
    unfold vat
    by_cases h : s.time = t
    · subst h; simp
    · rw [if_neg h, if_neg (by simp; omega)]
      exact cut0 t l
theorem le_gd {Γ : Ctx} {t : List (Nat × LV)} {h : List (Nat × Ent)} {r s : SV} (k : Nat) (hk : t.lookup k = some (.sv r)) (g : Gd r s) : Le Γ ⟨(k, .sv s) :: t, h⟩ ⟨t, h⟩ := by
  rintro a w ⟨ρ, I⟩
  refine ⟨ρ, I.dfr, I.size, I.frm, fun t' lv hl => ?_, I.ent, I.new, I.sep, I.out, I.inn⟩
  rw [List.lookup_cons] at hl
  cases hq : (t' == k) with
  | true =>
    simp only [hq, Option.some.injEq] at hl
    subst hl
    have e : t' = k := by simpa using hq
    subst e
    exact g.rep (I.tmp t' _ hk)
  | false => simp only [hq] at hl; exact I.tmp t' lv hl
/-- The first k raised. -/
def raK (b M : List Sample) (k : Nat) : List Sample := (M.take k).map (gB b) ++ M.drop k
theorem raK_zero (b M : List Sample) : raK b M 0 = M := by simp [raK]
theorem raK_end (b M : List Sample) {k : Nat} (h : M.length ≤ k) : raK b M k = M.map (gB b) := by unfold raK; rw [List.take_of_length_le h, List.drop_of_length_le h, List.append_nil]
theorem raK_len (b M : List Sample) (k : Nat) : (raK b M k).length = M.length := by
  unfold raK
  rw [List.length_append, List.length_map, List.length_take, List.length_drop]
  omega
theorem raK_at {b M : List Sample} {k : Nat} {s : Sample} (h : M[k]? = some s) : (raK b M k)[k]? = some s := by
  have hk := slt h
  unfold raK
  rw [List.getElem?_append_right (by rw [List.length_map, List.length_take]; omega), List.length_map, List.length_take, show k - min k M.length = 0 by omega, List.getElem?_drop, Nat.add_zero]
  exact h
theorem raK_step {b M : List Sample} {k : Nat} {s : Sample} (h : M[k]? = some s) : raK b M (k + 1) = (raK b M k).set k (gB b s) := by
  have hk := slt h
  unfold raK
  rw [List.take_add_one, h, Option.toList_some, List.map_append, drop_cons h, List.set_append_right _ _ (by rw [List.length_map, List.length_take]; omega), List.length_map, List.length_take, show k - min k M.length = 0 by omega, List.set_cons_zero]
  simp
theorem set_same {α : Type} {l : List α} {k : Nat} {s : α} (h : l[k]? = some s) : l.set k s = l := by
  refine List.ext_getElem? fun j => ?_
  rw [List.getElem?_set]
  split
  · rename_i e; subst e; rw [if_pos (slt h), h]
  · rfl
theorem f152_t (a b : List Sample) (hl : a.length + b.length ≤ 1048576) (sa : SrtS a) (sb : SrtS b) : PFnT Tryz.prog 152 [eSampleS a, eSampleS b] (eSampleS (grM a b)) := by
  refine fnp_ok (n := 47) Tryz.func152 rfl rfl rfl (Nat.le_of_ble_eq_true rfl) rfl fun w0 O => ?_
  have hml := mg_len a b
  refine ok_seq fun K1 h1 => ok_region rfl (q_as _ rfl (run_nil (h1 _ ?_))); clear h1 K1
  refine ok_seq fun K2 h2 => ?_
  refine ok_region rfl (q_mv _ rfl (q_mv _ rfl (q_callg [1] (f206_t a b (by omega) (by omega)) cl206 ⟨.inl rfl, .inl rfl, trivial⟩ (fun r hr hz ha => ?_))))
  obtain ⟨Z0, v0, rfl⟩ := gd_sl_inv hr
  refine q_as _ rfl (run_nil (h2 _ ?_)); clear h2 K2
  refine Ok.le (le_sub (t' := [(1, .av (fun q => Zn q (.tr Z0 (eSampleS (mg a b)) v0)) (eSampleS b)), (5, .sv (.tr Z0 (eSampleS (mg a b)) v0))]) (h' := []) ⟨rfl, rfl, trivial⟩ trivial) ?_
  have eg : grM a b = (mg a b).map (gB b) := rfl
  rw [eg]
  generalize mg a b = M at *
  by_cases hM : M = []
  · subst hM
    refine Ok.le le_unav ?_
    refine ok_seq fun K4 h4 => ?_
    refine ok_seq fun K3 h3 => ok_region rfl (q_mv _ rfl (run_le (le_gd 12 rfl (.tr _ _ _ _)) (q_len eS123 rfl (q_mv _ rfl (run_nil (h3 _ ?_)))))); clear h3 K3
    refine ok_block ?_
    refine ok_loop (fun (k : Nat) => ⟨[(5, .sv (.tr Z0 (eSampleS []) v0)), (13, .sv (int 0)), (14, .sv (int 0))], []⟩) (fun k => True) (fun k => k) 0 trivial (le_sub ⟨rfl, rfl, rfl, trivial⟩ trivial) (fun k J => ?_)
    refine ok_seq fun K5 h5 => ok_region rfl (q_bin _ _ _ rfl rfl rfl (run_nil (h5 _ ?_))); clear h5 K5
    refine ok_seq fun K6 h6 => ?_
    refine ok_cond rfl (fun c7 => ?_) (fun c7 => ?_)
    · exact absurd c7 (by simp)
    · refine ok_exit (h4 _ ?_)
      refine ok_seq fun K8 h8 => ok_region rfl (q_mv _ rfl (q_as _ rfl (run_nil (h8 _ ?_)))); clear h8 K8
      exact ok_ret ⟨_, ⟨_, _, rfl, rfl, rfl⟩, .tr _ _ _ _, hz⟩
  · have hne : M.map eSample ≠ [] := fun h => hM (List.map_eq_nil_iff.1 h)
    refine ok_otr 5 100 rfl hne (fun q hq => .inl (hz q (.tr _ _ _ hq))) rfl rfl ⟨fun q hq => .tr _ _ _ hq, trivial⟩ trivial (fun T rs hO => ?_)
    have hrs := otr_flat hO flat_sample
    subst hrs
    refine Ok.le le_unav ?_
    refine ok_seq fun K4 h4 => ?_
    refine ok_seq fun K3 h3 => ok_region rfl (q_mo _ rfl (q_leno eS123 rfl rfl (q_mv _ rfl (run_nil (h3 _ ?_))))); clear h3 K3
    rw [List.length_map]
    refine ok_block ?_
    refine ok_loop (fun (k : Nat) => ⟨[(1, .sv (eSampleS b)), (5, .own 100), (12, .own 100), (13, .sv (int M.length)), (14, .sv (int k))], [(100, .row 2 T ((raK b M k).map eSample))]⟩) (fun k => True) (fun k => M.length - k) 0 trivial (le_sub ⟨rfl, rfl, rfl, rfl, rfl, trivial⟩ ⟨by rw [raK_zero]; rfl, trivial⟩) (fun k J => ?_)
    refine ok_seq fun K5 h5 => ok_region rfl (q_bin _ _ _ rfl rfl rfl (run_nil (h5 _ ?_))); clear h5 K5
    refine ok_seq fun K6 h6 => ?_
    refine ok_cond rfl (fun c7 => ?_) (fun c7 => ?_)
    · refine ok_skip (h6 _ ?_)
      have hk : k < M.length := by simpa using c7
      obtain ⟨s, hs⟩ := sget hk
      have hat := raK_at (b := b) hs
      have hst := raK_step (b := b) hs
      have hul := raK_len b M k
      have hlt : k < ((raK b M k).map eSample).length := by rw [List.length_map]; omega
      have hg : gB b s = match ((cutF s.time s.time b)[0]?).map (·.value) with | some v => ⟨s.time, if s.value < v then v else s.value⟩ | none => s := by unfold gB; rw [cut0]; cases (cutF s.time s.time b)[0]? <;> rfl
      have hcl := cutF_len s.time s.time b
      obtain ⟨x0, hx0⟩ := fst0 (cutF s.time s.time b)
      refine ok_seq_join (fun (L : List Sample) => ⟨[(1, .sv (eSampleS b)), (5, .own 100), (12, .own 100), (13, .sv (int M.length)), (14, .sv (int k))], [(100, .row 2 T (L.map eSample))]⟩) (fun L => L = raK b M (k + 1)) ?_ (fun L hL => ?_)
      · refine ok_block ?_
        refine ok_seq fun K9 h9 => ok_region rfl (q_mv _ rfl (q_iao el123 rfl rfl rfl (by omega) hlt (q_ldes ag122 rfl rfl (mget (f := eSample) hat) sz122 (q_alloc _ ze122 rfl rfl rfl rfl (q_as _ rfl (q_sts _ rfl rfl rfl sz122 (Nat.le_of_ble_eq_true rfl) rfl (run_nil (h9 _ ?_)))))))); clear h9 K9
        refine ok_seq fun K10 h10 => ok_region rfl (q_mv _ rfl (q_fap fd122_0 rfl (by decide) (q_ldb (.sv (int s.time)) ag3 rfl rfl rfl (q_fap fd122_0 rfl (by decide) (q_ldb (.sv (int s.time)) ag3 rfl rfl rfl (q_call (f118_ok b (by omega) s.time s.time) cl118 rfl rfl (q_as _ rfl (run_nil (h10 _ ?_))))))))); clear h10 K10
        refine ok_seq fun K11 h11 => ?_
        refine ok_region_i (by kernel_rfl) (by kernel_rfl) rfl (
          q_mv _ rfl (q_len eS123 rfl (q_bin _ _ _ rfl rfl rfl (q_mv _ rfl (q_and 7 7 rfl rfl rfl rfl rfl (fun hb =>
            q_mv _ rfl (q_ia el123 rfl rfl (by omega) (mget (f := eSample) (i := 0) (hx0 (by have := of_decide_eq_true hb; rw [List.length_map] at this; omega))) (q_fa _ fd122_1 rfl rfl (by decide) (q_ld (int x0.value) ag3 rfl rfl (q_fap fd122_1 rfl (by decide) (q_ldb (.sv (int s.value)) ag3 rfl rfl rfl (q_bin _ _ _ rfl rfl rfl (run_nil ⟨rfl, rfl, rfl, rfl⟩)))))))) (
          run_nil (h11 _ ?_)))))))
        clear h11 K11
        rw [List.length_map]
        refine ok_cond rfl (fun c12 => ?_) (fun c12 => ?_)
        · simp only [Bool.and_eq_true, decide_eq_true_eq] at c12
          have h0 := hx0 (by omega)
          rw [h0] at hg
          have hg' : gB b s = ⟨s.time, x0.value⟩ := by rw [hg]; simp [c12.2]
          rw [hg'] at hst
          refine ok_last fun K13 h13 => ok_region rfl (
            q_mo _ rfl (q_mv _ rfl (q_mv _ rfl (q_ia el123 rfl rfl (by omega) (mget (f := eSample) (i := 0) h0) (q_fa _ fd122_1 rfl rfl (by decide) (q_ld (int x0.value) ag3 rfl rfl (
            q_iao el123 rfl rfl rfl (by omega) hlt (q_fae fd122_1 rfl (by decide) (q_stef sz3 rfl rfl (mget (f := eSample) hat) (by show 1 < 2; omega) rfl rfl rfl (run_nil (h13 _ ⟨_, hst.symm, le_sub ⟨rfl, rfl, rfl, rfl, rfl, trivial⟩ ⟨by rw [List.map_set]; rfl, trivial⟩⟩)))))))))))
        · have hsame : gB b s = s := by
            rw [hg]
            cases hq : (cutF s.time s.time b)[0]? with
            | none => rfl
            | some y =>
              have h0 := hx0 (slt hq)
              rw [hq] at h0; cases h0
              have hlen : (0 : Int) < ((cutF s.time s.time b).length : Int) := by have := slt hq; omega
              have h2 : ¬ s.value < x0.value := fun h => by
                have : (decide ((0 : Int) < ((cutF s.time s.time b).length : Int)) && decide (s.value < x0.value)) = true := by simp only [Bool.and_eq_true, decide_eq_true_eq]; exact ⟨hlen, h⟩
                rw [c12] at this; cases this
              show (⟨s.time, if s.value < x0.value then x0.value else s.value⟩ : Sample) = s
              rw [if_neg h2]
          rw [hsame, set_same hat] at hst
          exact ok_skip ⟨_, hst.symm, le_sub ⟨rfl, rfl, rfl, rfl, rfl, trivial⟩ ⟨rfl, trivial⟩⟩
      · subst hL
        refine ok_last fun K14 h14 => ok_region rfl (q_add rfl rfl (by omega) (q_mv _ rfl (run_nil (h14 _ ⟨k + 1, by omega, trivial, le_sub ⟨rfl, rfl, rfl, rfl, rfl, trivial⟩ ⟨rfl, trivial⟩⟩))))
    · rw [raK_end b M (by have : ¬ ((k : Int) < M.length) := by simpa using c7
                          omega)]
      refine ok_exit (h4 _ ?_)
      refine ok_seq fun K15 h15 => ok_region rfl (q_mo _ rfl (q_ao _ rfl (run_nil (h15 _ ?_)))); clear h15 K15
      obtain ⟨f1, f2, f3⟩ := gd_flatL (rs := (M.map (gB b)).map eSample) (fun r hr => by obtain ⟨x, _, rfl⟩ := List.mem_map.1 hr; exact flat_sample x)
      refine ok_treed (k := 100) (n := 2) (T := T) (rs := (M.map (gB b)).map eSample) (ss := (M.map (gB b)).map eSample) rfl rfl f1 f2 (fun r hr b hb => (f3 r hr b hb).elim) (fun Z v hZ => ?_)
      exact ok_ret ⟨_, ⟨_, _, rfl, rfl, rfl⟩, .tr Z 2 _ v, fun b hb => (hZ b (zn_tr hb)).elim id fun h => h.elim⟩
end Go.Ring

/- The library's slices.Insert of one series: this program's own. No condition. -/
set_option maxRecDepth 100000
set_option linter.unusedVariables false
namespace Go.Ring
open Go Go.RowKit Go.Eager Go.Abs Go.Proofs
def insRen : Go.Shelf.Ren := ⟨fun | 22 => 165 | 29 => 218 | 30 => 219 | n => n, fun | 24 => 63 | 9 => 125 | n => n, fun x => x⟩
theorem insL165 : InsL Tryz.prog insRen 2 48 (.agg #[.slice none 0 0, .slice none 0 0]) := {
  mixed := by kernel_rfl
  f22 := ⟨Tryz.f165.name, Tryz.f165.targs, Tryz.func165.trans (congrArg some (by kernel_rfl))⟩
  f29 := ⟨Tryz.f218, Tryz.func218, by kernel_rfl, by kernel_rfl, by kernel_rfl, by kernel_rfl⟩
  t3 := Tryz.underlying3
  a3 := Tryz.isAgg3
  t4 := Tryz.underlying4
  a4 := Tryz.isAgg4
  z9 := Tryz.sizeOf125
  t24 := Tryz.underlying63
  a24 := Tryz.isAgg63
  i9 := by kernel_rfl
  zs := rfl }
theorem ins165 : InsC Tryz.prog 165 2 125 48 := insC_of insL165 (by omega)
end Go.Ring

/- Series joined: the program. No condition beyond the sizes. -/
set_option maxRecDepth 100000
set_option linter.unusedVariables false
set_option linter.unusedSimpArgs false
namespace Go.Ring
open Go Go.RowKit Go.Eager Go.Abs Go.Proofs
/-- Room for two rows of series, joined. -/
def Room (a b : List Series) : Prop := a.length + b.length ≤ 1048576 ∧ ∃ A B : Nat, (∀ s ∈ a, s.samples.length ≤ A) ∧ (∀ s ∈ b, s.samples.length ≤ B) ∧ A + B ≤ 1048576
theorem room_wt {a b : List Series} (h : wt a + wt b ≤ 1048576) : Room a b :=
  ⟨by have := wt_len a; have := wt_len b; omega, wt a, wt b, fun s hs => by have := wt_mem hs; omega, fun s hs => by have := wt_mem hs; omega, h⟩
theorem Room.ssa {a b : List Series} (h : Room a b) (ha : LbOk a) : a.length ≤ 1048576 ∧ ∀ y ∈ a, SSeries y := by
  obtain ⟨h1, A, B, h2, h3, h4⟩ := h
  exact ⟨by omega, fun y hy => ⟨ha y hy, by have := h2 y hy; omega⟩⟩
theorem Room.lb {a b : List Series} (h : Room a b) : b.length ≤ 1048576 := by have := h.1; omega
theorem lk_self {l : List Series} {x : Series} (hs : SrtL l) (hx : x ∈ l) : lk x.labels l = some x.samples := by
  induction l with
  | nil => simp at hx
  | cons y l ih =>
    obtain ⟨h1, h2⟩ := List.pairwise_cons.1 hs
    unfold lk
    rcases List.mem_cons.1 hx with rfl | hx
    · rw [if_pos rfl]
    · rw [if_neg (fun e => by have := h1 x hx; rw [e, cmpLs_self] at this; omega)]
      exact ih h2 hx
theorem jn_len : ∀ (b a : List Series), (jn a b).length ≤ a.length + b.length
  | [], a => Nat.le_refl _
  | u :: b, a => by
    have h1 := jn_len b (insJ a u)
    have h2 : (insJ a u).length ≤ a.length + 1 := by
      cases hf : fnd u.labels a with
      | true => obtain ⟨x, hx, _⟩ := fnd_get hf; rw [insJ_len_fnd hf hx]; omega
      | false => rw [insJ_len_new hf]; omega
    show (jn (insJ a u) b).length ≤ _
    simp only [List.length_cons]
    omega
/-- What is known of the series joined so far. -/
theorem accJ_inv {a b : List Series} (na : Nice a) (nb : Nice b) (hw : Room a b) {k : Nat} {u : Series} (hu : b[k]? = some u) :
    Nice (jn a (b.take k)) ∧ (jn a (b.take k)).length + 1 ≤ 1048576 ∧ (∀ x ∈ jn a (b.take k), x.samples.length ≤ 1048576) ∧ (∀ x ∈ jn a (b.take k), x.labels = u.labels → x.samples.length + u.samples.length ≤ 1048576) ∧ u.samples.length ≤ 1048576 := by
  obtain ⟨h1, A, B, h2, h3, h4⟩ := hw
  have nk : Nice (b.take k) := ⟨List.Pairwise.sublist (List.take_sublist k b) nb.s, fun y hy => nb.m y (List.mem_of_mem_take hy), fun y hy => nb.b y (List.mem_of_mem_take hy)⟩
  have nj := na.jn nk
  have hk := slt hu
  have h5 := jn_len (b.take k) a
  rw [List.length_take] at h5
  have hbu := h3 u (smem hu)
  have key : ∀ x ∈ jn a (b.take k), x.samples.length ≤ A + B ∧ (lk x.labels (b.take k) = none → x.samples.length ≤ A) := fun x hx => by
    have e := lk_jn (t := x.labels) na.s nk.s
    rw [lk_self nj.s hx] at e
    cases p : lk x.labels a with
    | none =>
      cases q : lk x.labels (b.take k) with
      | none => rw [p, q] at e; cases e
      | some w =>
        rw [p, q] at e; cases e
        obtain ⟨y, hy, _, hw⟩ := lk_mem q
        have := h3 y (List.mem_of_mem_take hy)
        rw [hw] at this
        exact ⟨by omega, fun h => by cases h⟩
    | some v =>
      obtain ⟨z, hz, _, hv⟩ := lk_mem p
      have h6 := h2 z hz
      rw [hv] at h6
      cases q : lk x.labels (b.take k) with
      | none => rw [p, q] at e; simp only [op2, Option.some.injEq] at e; rw [e]; exact ⟨by omega, fun _ => by omega⟩
      | some w =>
        rw [p, q] at e
        simp only [op2, Option.some.injEq] at e
        obtain ⟨y, hy, _, hw⟩ := lk_mem q
        have h7 := h3 y (List.mem_of_mem_take hy)
        rw [hw] at h7
        have h8 := grM_len v w
        rw [e]
        exact ⟨by omega, fun h => by cases h⟩
  refine ⟨nj, by omega, fun x hx => by have := (key x hx).1; omega, fun x hx hl => ?_, by omega⟩
  have hnone : lk x.labels (b.take k) = none := lk_none fun s hs e => by
    obtain ⟨i, hi⟩ := List.getElem?_of_mem hs
    have hik : i < k := by have := slt hi; rw [List.length_take] at this; omega
    rw [List.getElem?_take_of_lt hik] at hi
    have := srtL_iff.1 nb.s i k s u hik hi hu
    rw [e, hl, cmpLs_self] at this
    omega
  have := (key x hx).2 hnone
  omega
/-- One series' copy among others: its rows' copies changed. -/
theorem cps_mg {w0 : World} {rs : List SV} {acc : List Series} {p : Nat} {x : Series} {q : List Sample} (J : Cps w0 rs (acc.map eSeries)) (hx : acc[p]? = some x) {Z0 Z1 : Nat → Prop} {v0 v1 : Value} (hr : rs[p]? = some (.agg [.tr Z0 (eLabelS x.labels) v0, .tr Z1 (eSampleS x.samples) v1]))
    {Z3 : Nat → Prop} {v3 : Value} (hz : ∀ b, Z3 b → w0.heap.size ≤ b) (ha : ∀ y ∈ rs, ∀ b, Zn b y → ¬ Z3 b) :
    Cps w0 (rs.set p (.agg ([.tr Z0 (eLabelS x.labels) v0, .tr Z1 (eSampleS x.samples) v1].set 1 (.tr Z3 (eSampleS q) v3)))) ((acc.set p ⟨x.labels, q⟩).map eSeries) := by
  have e : (acc.set p ⟨x.labels, q⟩).map eSeries = (acc.map eSeries).set p (eSeries ⟨x.labels, q⟩) := by rw [List.map_set]
  have hmem := List.mem_of_getElem? hr
  have hz0 : ∀ b, Z0 b → Zn b (.agg [.tr Z0 (eLabelS x.labels) v0, .tr Z1 (eSampleS x.samples) v1]) := fun b h => .agg _ _ (List.mem_cons_self ..) (.tr Z0 _ v0 h)
  rw [e]
  refine J.set (gc_Series ⟨x.labels, q⟩ fun b h h' => ha _ hmem b (hz0 b h) h') (fun j y hj hy b hb hb' => ?_) (fun b hb => ?_)
  · simp only [List.set_cons_succ, List.set_cons_zero, znA_cons, znI_raw, znI_tr, znA_nil, or_false, false_or] at hb'
    rcases hb' with h | h
    · exact hj (J.ap j p b _ _ hy hr hb (hz0 b h))
    · exact ha y (List.mem_of_getElem? hy) b hb h
  · simp only [List.set_cons_succ, List.set_cons_zero, znA_cons, znI_raw, znI_tr, znA_nil, or_false, false_or] at hb
    rcases hb with h | h
    · exact J.nw _ hmem b (hz0 b h)
    · exact hz b h
/-- Copies are structs. -/
theorem cps_agg {w0 : World} {rs : List SV} {l : List Series} (J : Cps w0 rs (l.map eSeries)) : ∀ q ∈ rs, (∃ c, q = .agg c) ∨ q.one = true := fun q hq => by
  obtain ⟨i, hi⟩ := List.getElem?_of_mem hq
  obtain ⟨x, hx⟩ := sget (l := l) (i := i) (by have := slt hi; have h2 := J.len; rw [List.length_map] at h2; omega)
  obtain ⟨Z0, v0, Z1, v1, rfl, _⟩ := gi_Series (J.gd i q _ hi (mget (f := eSeries) hx))
  exact .inl ⟨_, rfl⟩
theorem f88_t (a b : List Series) (na : Nice a) (nb : Nice b) (hw : Room a b) : PFnT Tryz.prog 88 [eSeriesS a, eSeriesS b] (eSeriesS (jn a b)) := by
  refine fnp_ok (n := 51) Tryz.func88 rfl rfl rfl (Nat.le_of_ble_eq_true rfl) rfl fun w0 O => ?_
  have hbl := hw.lb
  have ha := na.b
  have hb := nb.b
  refine ok_seq fun K1 h1 => ok_region rfl (q_as _ rfl (run_nil (h1 _ ?_))); clear h1 K1
  refine ok_seq fun K2 h2 => ok_region rfl (q_mv _ rfl (q_callot (f133_o a (hw.ssa ha)) cl133 ⟨.inl rfl, trivial⟩ rfl rfl (fun rs0 hC0 hA0 => q_ao _ rfl (run_nil (h2 _ ?_))))); clear h2 K2
  refine ok_seq fun K3 h3 => ?_
  refine ok_seq fun K4 h4 => ok_region rfl (q_mv _ rfl (q_len eS63 rfl (q_mv _ rfl (run_nil (h4 _ ?_))))); clear h4 K4
  rw [List.length_map]
  refine ok_block ?_
  refine ok_loop (fun (s : Nat × List SV) => ⟨[(5, .own 5), (12, .sv (eSeriesS b)), (13, .sv (int b.length)), (14, .sv (int s.1))], [(5, .row 2 125 s.2)]⟩) (fun s => Cps w0 s.2 ((jn a (b.take s.1)).map eSeries)) (fun s => b.length - s.1) (0, rs0) hC0 (le_rek 5 11 ⟨rfl, rfl, rfl, rfl, trivial⟩ ⟨rfl, trivial⟩ rfl rfl rfl rfl ⟨rfl, trivial⟩) (fun s J => ?_)
  obtain ⟨k, rs⟩ := s
  simp only at J
  refine ok_seq fun K5 h5 => ok_region rfl (q_bin _ _ _ rfl rfl rfl (run_nil (h5 _ ?_))); clear h5 K5
  refine ok_seq fun K6 h6 => ?_
  refine ok_cond rfl (fun c7 => ?_) (fun c7 => ?_)
  · refine ok_skip (h6 _ ?_)
    have hk : k < b.length := by simpa using c7
    obtain ⟨u, hu⟩ := sget hk
    obtain ⟨n1, i3, i4, i5, hus⟩ := accJ_inv na nb hw hu
    have nu := hb u (smem hu)
    have hst := jn_step (a := a) hu
    have hsu := nb.m u (smem hu)
    generalize hacc : jn a (b.take k) = acc at *
    have i1 := srtL_iff.1 n1.s
    have i2 := n1.b
    have hss : acc.length ≤ 1048576 ∧ ∀ y ∈ acc, SSeries y := ⟨by omega, fun y hy => ⟨i2 y hy, i4 y hy⟩⟩
    have hrl : rs.length = acc.length := by rw [J.len, List.length_map]
    have hp := lowI_le u.labels acc
    have hpp : ((lowI u.labels acc : Nat) : Int).toNat = lowI u.labels acc := rfl
    refine ok_seq_join (fun (rs' : List SV) => ⟨[(5, .own 5), (12, .sv (eSeriesS b)), (13, .sv (int b.length)), (14, .sv (int k))], [(5, .row 2 125 rs')]⟩) (fun rs' => Cps w0 rs' ((insJ acc u).map eSeries)) ?_ (fun rs' J => ?_)
    · refine ok_block ?_
      refine ok_seq fun K8 h8 => ok_region rfl (q_ia el63 rfl rfl (by omega) (mget (f := eSeries) hu) (q_lds _ ag125 rfl sz125 (q_alloc _ ze125 rfl rfl rfl rfl (q_sts _ rfl rfl rfl sz125 (Nat.le_of_ble_eq_true rfl) rfl (run_nil (h8 _ ?_)))))); clear h8 K8
      refine ok_seq fun K9 h9 => ?_
      refine ok_region rfl (q_mo _ rfl (q_fap fd125_0 rfl (by decide) (q_ldb (.sv (eLabelS u.labels)) ag78 rfl rfl rfl (q_call (PFn.row1 (rs := rs) (f163_ok acc hss u.labels nu i1) J.len J.gd) cl163 rfl rfl (q_mv _ rfl (q_ext _ rfl rfl (q_ext _ rfl rfl (q_as _ rfl (
        q_as _ rfl (run_nil (h9 _ ?_)))))))))))
      clear h9 K9
      refine ok_seq fun K10 h10 => ok_region rfl (q_mv _ rfl (run_nil (h10 _ ?_))); clear h10 K10
      refine ok_cond rfl (fun c11 => ?_) (fun c11 => ?_)
      · obtain ⟨x, hx, hx0⟩ := fnd_get c11
        have hlt := slt hx
        obtain ⟨r, hr⟩ := sget (l := rs) (i := lowI u.labels acc) (by omega)
        obtain ⟨Z0, v0, Z1, v1, rfl, d01⟩ := gi_Series (J.gd _ r _ hr (mget (f := eSeries) hx))
        have hsx := n1.m x (smem hx)
        have hgl := i5 x (smem hx) ((cmpLs_zero _ _).1 hx0)
        refine ok_last fun K12 h12 => ok_region_i (by kernel_rfl) (by kernel_rfl) rfl (
          q_mo _ rfl (q_mv _ rfl (q_mo _ rfl (q_mv _ rfl (q_iao el63 rfl rfl rfl (by omega) (by show lowI u.labels acc < rs.length; omega) (q_fae fd125_1 rfl (by decide) (q_ldef (.tr Z1 (eSampleS x.samples) v1) ag123 rfl rfl hr rfl (q_fap fd125_1 rfl (by decide) (
          q_ldb (.sv (eSampleS u.samples)) ag123 rfl rfl rfl (q_callg [] (f164_t x.samples u.samples hgl hsx hsu) cl164 ⟨.inr (.inl ⟨_, rfl, .tr _ _ _ _⟩), .inl rfl, trivial⟩ (fun r3 hr3 hz3 ha3 => ?_)))))))))))
        obtain ⟨Z3, v3, rfl⟩ := gd_sl_inv hr3
        have hfin := cps_mg (q := grM x.samples u.samples) (v3 := v3) J hx hr (fun b h => hz3 b (.tr Z3 _ v3 h)) (fun y hy b hb hb' => ha3.2 5 2 125 _ y b rfl hy hb (.tr Z3 _ v3 hb'))
        rw [← insJ_fnd c11 hx] at hfin
        refine q_iao el63 rfl rfl rfl (by omega) (by show lowI u.labels acc < rs.length; omega) (q_fae fd125_1 rfl (by decide) (q_stef sz123 rfl rfl hr (by show 1 < 2; omega) rfl rfl rfl (run_nil (h12 _ ⟨_, hfin, le_sub ⟨rfl, rfl, rfl, rfl, trivial⟩ ⟨rfl, trivial⟩⟩))))
      · have hnew := insJ_new c11
        refine ok_last fun K13 h13 => ok_region_d [0, 0, 0, 1, 3, 0, 1, 3, 2, 3, 2, 0] #[[], [], [], [2], [2, 3], [], [5], [2, 3, 4, 5, 6], [2, 3, 4, 5, 6, 7], [2, 3, 4, 5, 6, 7, 8], [0, 1, 2, 3, 4, 5, 6, 7, 8, 9], [0, 1, 2, 3, 4, 5, 6, 7, 8, 9, 10]] [0, 1, 2, 3, 5, 6, 4, 7, 8, 9, 10, 11] (by kernel_rfl) (by kernel_rfl) rfl rfl (
          q_mo _ rfl (q_mv _ rfl (q_fap fd125_0 rfl (by decide) (q_ldb (.sv (eLabelS u.labels)) ag78 rfl rfl rfl (q_fap fd125_1 rfl (by decide) (q_ldb (.sv (eSampleS u.samples)) ag123 rfl rfl rfl (q_callr (f166_t u.labels nu.1) cl166 rfl (fun r0 hr0 hz0 ha0 => ?_))))))))
        obtain ⟨Z0, v0, rfl⟩ := gd_sl_inv hr0
        refine q_callr (f167_t u.samples hus) cl167 rfl (fun r1 hr1 hz1 ha1 => ?_)
        obtain ⟨Z1, v1, rfl⟩ := gd_sl_inv hr1
        have d01 : ∀ b, Z0 b → ¬ Z1 b := fun b h0 h1 => ha1.1 42 _ b rfl (.tr Z0 _ v0 h0) (.tr Z1 _ v1 h1)
        have hn : ∀ b, Zn b (.agg [.tr Z0 (eLabelS u.labels) v0, .tr Z1 (eSampleS u.samples) v1]) → w0.heap.size ≤ b := fun b hb => by
          simp only [znA_cons, znI_raw, znI_tr, znA_nil, or_false, false_or] at hb
          rcases hb with h | h
          · exact hz0 b (.tr Z0 _ v0 h)
          · exact hz1 b (.tr Z1 _ v1 h)
        have hfin := J.insAt (i := lowI u.labels acc) (by omega) (gc_Series u d01) (fun y hy b hb hb' => by
          simp only [znA_cons, znI_raw, znI_tr, znA_nil, or_false, false_or] at hb'
          rcases hb' with h | h
          · exact ha0.2 5 2 125 _ y b rfl hy hb (.tr Z0 _ v0 h)
          · exact ha1.2 5 2 125 _ y b rfl hy hb (.tr Z1 _ v1 h)) hn
        rw [← insAt_map eSeries, ← hnew] at hfin
        refine (q_bld _ (bl125 u) rfl rfl rfl (q_lito1 _ _ el63 ze125 (by decide) (by decide) rfl rfl rfl (.inl ⟨_, rfl⟩) rfl (
          q_ins (k := 5) (k2 := 47) (r := rs) (p := lowI u.labels acc) ins165 cl165 rfl rfl rfl rfl rfl (by decide) (by omega) (cps_agg J) (.inl ⟨_, rfl⟩) (by show (rs.length + 1) * 48 ≤ 140737488355328; omega) (by show rs.length + 1 ≤ maxLen; unfold maxLen; omega) rfl rfl (q_ao _ rfl (run_nil (h13 _ ⟨_, hfin, le_rek 5 48 ⟨rfl, rfl, rfl, rfl, trivial⟩ ⟨rfl, trivial⟩ rfl rfl rfl rfl ⟨rfl, trivial⟩⟩))))))
    · refine ok_last fun K14 h14 => ok_region rfl (
        q_add rfl rfl (by omega) (q_mv _ rfl (run_nil (h14 _ ⟨(k + 1, rs'), by simp only; omega, by simp only; rw [hst]; exact J, le_sub ⟨rfl, rfl, rfl, rfl, trivial⟩ ⟨rfl, trivial⟩⟩))))
  · rw [List.take_of_length_le (by have : ¬ ((k : Int) < b.length) := by simpa using c7
                                   omega)] at J
    refine ok_exit (h3 _ ?_)
    refine ok_seq fun K15 h15 => ok_region rfl (q_mo _ rfl (q_ao _ rfl (run_nil (h15 _ ?_)))); clear h15 K15
    refine ok_treed (k := 5) (n := 2) (T := 125) (rs := rs) (ss := (jn a b).map eSeries) rfl J.len J.gd J.ap (fun r hr b hb => .inl (J.nw r hr b hb)) (fun Z v hZ => ?_)
    exact ok_ret ⟨_, ⟨_, _, rfl, rfl, rfl⟩, .tr Z 2 _ v, fun b hb => (hZ b (zn_tr hb)).elim id fun h => h.elim⟩
end Go.Ring
