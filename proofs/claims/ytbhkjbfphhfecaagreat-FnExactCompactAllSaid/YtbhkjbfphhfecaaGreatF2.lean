/- Compacting: the plain law. No condition. -/
import Derived.Test.YtbhkjbfphhfecaaGreatE4
set_option maxRecDepth 100000
set_option linter.unusedVariables false
set_option linter.unusedSimpArgs false
namespace Go.Ring
open Go Go.RowKit Go.Eager Go.Abs Go.Proofs
/-- Those that are so stand side by side. -/
theorem side {α : Type} (p : α → Bool) : ∀ (l : List α), (∀ (i j k : Nat) (x y z : α), i < j → j < k → l[i]? = some x → l[j]? = some y → l[k]? = some z → p x = true → p z = true → p y = true) →
    ∃ i j, i ≤ j ∧ j ≤ l.length ∧ (∀ x ∈ l.take i, p x = false) ∧ (∀ x ∈ (l.take j).drop i, p x = true) ∧ (∀ x ∈ l.drop j, p x = false)
  | [], _ => ⟨0, 0, Nat.le_refl _, Nat.le_refl _, by simp, by simp, by simp⟩
  | x :: l, h => by
    obtain ⟨i, j, h1, h2, h3, h4, h5⟩ := side p l (fun i j k x y z hij hjk hx hy hz => h (i + 1) (j + 1) (k + 1) x y z (by omega) (by omega) (by simpa using hx) (by simpa using hy) (by simpa using hz))
    cases hp : p x with
    | false =>
      refine ⟨i + 1, j + 1, by omega, by simp only [List.length_cons]; omega, ?_, ?_, ?_⟩
      · intro y hy
        rw [List.take_succ_cons] at hy
        rcases List.mem_cons.1 hy with rfl | hy
        · exact hp
        · exact h3 y hy
      · intro y hy
        rw [List.take_succ_cons, List.drop_succ_cons] at hy
        exact h4 y hy
      · intro y hy
        rw [List.drop_succ_cons] at hy
        exact h5 y hy
    | true =>
      by_cases hij : i = j
      · refine ⟨0, 1, by omega, by simp only [List.length_cons]; omega, by simp, ?_, ?_⟩
        · intro y hy
          simp at hy
          subst hy; exact hp
        · intro y hy
          simp only [List.drop_succ_cons, List.drop_zero] at hy
          rw [← List.take_append_drop i l] at hy
          rcases List.mem_append.1 hy with hy | hy
          · exact h3 y hy
          · rw [hij] at hy; exact h5 y hy
      · have hi0 : i = 0 := by
          rcases Nat.eq_zero_or_pos i with h0 | h0
          · exact h0
          · exfalso
            obtain ⟨y, hy⟩ := sget (l := l) (i := 0) (by omega)
            obtain ⟨z, hz⟩ := sget (l := l) (i := i) (by omega)
            have hpz : p z = true := h4 z (by
              refine List.mem_of_getElem? (i := 0) ?_
              rw [List.getElem?_drop, Nat.add_zero, List.getElem?_take, if_pos (by omega)]; exact hz)
            have hpy := h 0 1 (i + 1) x y z (by omega) (by omega) rfl (by simpa using hy) (by simpa using hz) hp hpz
            have := h3 y (by
              refine List.mem_of_getElem? (i := 0) ?_
              rw [List.getElem?_take, if_pos h0]; exact hy)
            rw [hpy] at this
            cases this
        subst hi0
        refine ⟨0, j + 1, by omega, by simp only [List.length_cons]; omega, by simp, ?_, ?_⟩
        · intro y hy
          rw [List.take_succ_cons, List.drop_zero] at hy
          rcases List.mem_cons.1 hy with rfl | hy
          · exact hp
          · exact h4 y (by simpa using hy)
        · intro y hy
          rw [List.drop_succ_cons] at hy
          exact h5 y hy
theorem ixF_app {α : Type} (p : α → Bool) : ∀ (a b : List α) (n : Nat), ixF p (a ++ b) n = ixF p a n ++ ixF p b (n + a.length)
  | [], b, n => rfl
  | x :: a, b, n => by
    have ih := ixF_app p a b (n + 1)
    simp only [List.cons_append, ixF, ih, List.length_cons, show n + 1 + a.length = n + (a.length + 1) by omega]
    split <;> rfl
theorem ixF_no {α : Type} {p : α → Bool} : ∀ (a : List α) (n : Nat), (∀ x ∈ a, p x = false) → ixF p a n = []
  | [], n, _ => rfl
  | x :: a, n, h => by
    unfold ixF
    rw [if_neg (by rw [h x (List.mem_cons_self ..)]; simp)]
    exact ixF_no a (n + 1) fun y hy => h y (List.mem_cons_of_mem _ hy)
/-- Numbers in a row. -/
def upI : Nat → Nat → List Int
  | _, 0 => []
  | n, m + 1 => (n : Int) :: upI (n + 1) m
theorem upI_len : ∀ (n m : Nat), (upI n m).length = m
  | _, 0 => rfl
  | n, m + 1 => by simp only [upI, List.length_cons, upI_len (n + 1) m]
theorem upI_get : ∀ (n m k : Nat), k < m → (upI n m)[k]? = some ((n + k : Nat) : Int)
  | n, 0, k, h => by omega
  | n, m + 1, 0, _ => rfl
  | n, m + 1, k + 1, h => by
    have := upI_get (n + 1) m k (by omega)
    simp only [upI, List.getElem?_cons_succ, this]
    congr 2; omega
theorem ixF_all {α : Type} {p : α → Bool} : ∀ (a : List α) (n : Nat), (∀ x ∈ a, p x = true) → ixF p a n = upI n a.length
  | [], n, _ => rfl
  | x :: a, n, h => by
    unfold ixF
    rw [if_pos (h x (List.mem_cons_self ..))]
    simp only [List.length_cons, upI, ixF_all a (n + 1) fun y hy => h y (List.mem_cons_of_mem _ hy)]
theorem filter_no {α : Type} {p : α → Bool} {a : List α} (h : ∀ x ∈ a, p x = false) : a.filter p = [] := List.filter_eq_nil_iff.2 fun x hx => by rw [h x hx]; simp
theorem three {α : Type} (l : List α) {i j : Nat} (h : i ≤ j) : l = l.take i ++ ((l.take j).drop i ++ l.drop j) := by
  have e : l.take i = (l.take j).take i := by rw [List.take_take]; congr 1; omega
  rw [e, ← List.append_assoc, List.take_append_drop, List.take_append_drop]
theorem filter_mid {α : Type} {p : α → Bool} {l : List α} {i j : Nat} (h : i ≤ j) (h1 : ∀ x ∈ l.take i, p x = false) (h2 : ∀ x ∈ (l.take j).drop i, p x = true) (h3 : ∀ x ∈ l.drop j, p x = false) : l.filter p = (l.take j).drop i := by
  conv => lhs; rw [three l h]
  rw [List.filter_append, List.filter_append, filter_no h1, filter_no h3, List.filter_eq_self.2 h2, List.nil_append, List.append_nil]
theorem ixF_mid {α : Type} {p : α → Bool} {l : List α} {i j : Nat} (h : i ≤ j) (hj : j ≤ l.length) (h1 : ∀ x ∈ l.take i, p x = false) (h2 : ∀ x ∈ (l.take j).drop i, p x = true) (h3 : ∀ x ∈ l.drop j, p x = false) : ixF p l 0 = upI i (j - i) := by
  conv => lhs; rw [three l h]
  rw [ixF_app, ixF_app, ixF_no _ _ h1, ixF_no _ _ h3, ixF_all _ _ h2, List.nil_append, List.append_nil]
  have e1 : (l.take i).length = i := by rw [List.length_take]; omega
  have e2 : ((l.take j).drop i).length = j - i := by rw [List.length_drop, List.length_take]; omega
  rw [e1, e2, Nat.zero_add]
/-- What a plan says: some side by side, their span, their level, and what they are together. -/
structure PlanAt (base : Int) (l : List Block) (p : List Int) (i j : Nat) (A W L : Int) : Prop where
  lt : i < j
  le : j ≤ l.length
  p_eq : p = upI i (j - i)
  L2 : 2 ≤ L
  L4 : L ≤ 4
  wid : widI base L = W
  spn : ∃ b ∈ l, b.level = L - 1 ∧ b.from_ / W * W = A
  mid : l.filter (inI A W) = (l.take j).drop i
  no1 : ∀ x ∈ l.take i, inI A W x = false
  all : ∀ x ∈ (l.take j).drop i, inI A W x = true
  no2 : ∀ x ∈ l.drop j, inI A W x = false
  low : ∀ x ∈ (l.take j).drop i, x.level < L
  one : ∃ b ∈ (l.take j).drop i, b.level = L - 1
  good : BlockOk (mrgBk A W L ((l.take j).drop i))
theorem shelf_from_to {base : Int} {l : List Block} (h : ShelfOk base l) {x : Block} (hx : x ∈ l) : 0 ≤ x.from_ ∧ x.from_ < x.to := by
  obtain ⟨k, hk⟩ := List.getElem?_of_mem hx
  have := (h.2.2.2 k x hk).2.1
  exact ⟨this.1.1, this.2.1⟩
theorem planL_at {base : Int} {l : List Block} (h : ShelfOk base l) {L : Int} (hL : 2 ≤ L ∧ L ≤ 4) {p : List Int} (hp : planL base L l = some p) : ∃ i j A W, PlanAt base l p i j A W L := by
  unfold planL at hp
  obtain ⟨b, hb, ht⟩ := List.exists_of_findSome?_eq_some hp
  unfold tryB at ht
  split at ht
  · rename_i hc
    obtain ⟨c1, c2, c3, c4⟩ := hc
    cases ht
    generalize hW : widI base L = W at *
    generalize hA : b.from_ / W * W = A at *
    obtain ⟨i, j, s1, s2, s3, s4, s5⟩ := side (inI A W) l (fun i j k x y z hij hjk hx hy hz px pz => by
      have h1 := shelf_apart h hij hx hy
      have h2 := shelf_apart h hjk hy hz
      have h3 := shelf_from_to h (smem hx)
      have h4 := shelf_from_to h (smem hz)
      unfold inI at px pz ⊢
      simp only [Bool.and_eq_true, decide_eq_true_eq] at px pz ⊢
      omega)
    have hself := in_self h hL hb c1
    rw [hW, hA] at hself
    have hmid := filter_mid s1 s3 s4 s5
    have hbm : b ∈ (l.take j).drop i := by rw [← hmid]; exact List.mem_filter.2 ⟨hb, hself⟩
    have hlt : i < j := by
      rcases Nat.lt_or_ge i j with h1 | h1
      · exact h1
      · exfalso
        have e : ((l.take j).drop i).length = 0 := by rw [List.length_drop, List.length_take]; omega
        rw [List.length_eq_zero_iff.1 e] at hbm
        simp at hbm
    refine ⟨i, j, A, W, ⟨hlt, s2, ixF_mid s1 s2 s3 s4 s5, hL.1, hL.2, hW, ⟨b, hb, c1, hA⟩, hmid, s3, s4, s5, ?_, ⟨b, hbm, c1⟩, ?_⟩⟩
    · intro x hx
      rw [← hmid] at hx
      have h1 := List.any_eq_false.1 c3 x hx
      have := of_decide_eq_false (by simpa using h1 : decide (L ≤ x.level) = false)
      omega
    · rw [← hmid]; simpa [pB] using c4
  · cases ht
theorem planO_at {base : Int} {l : List Block} (h : ShelfOk base l) {p : List Int} (hp : planO base l = some p) : ∃ i j A W L, PlanAt base l p i j A W L := by
  unfold planO at hp
  cases h2 : planL base 2 l with
  | some x =>
    rw [h2] at hp; simp at hp; subst hp
    obtain ⟨i, j, A, W, h⟩ := planL_at h (by omega) h2
    exact ⟨i, j, A, W, 2, h⟩
  | none =>
    rw [h2] at hp
    cases h3 : planL base 3 l with
    | some x =>
      rw [h3] at hp; simp at hp; subst hp
      obtain ⟨i, j, A, W, h⟩ := planL_at h (by omega) h3
      exact ⟨i, j, A, W, 3, h⟩
    | none =>
      rw [h3] at hp; simp at hp
      obtain ⟨i, j, A, W, h⟩ := planL_at h (by omega) hp
      exact ⟨i, j, A, W, 4, h⟩
/-- The shelf behind one step. -/
def nxt (l : List Block) (i j : Nat) (b : Block) : List Block := l.take i ++ [b] ++ l.drop j
theorem nxt_len (l : List Block) (i j : Nat) (b : Block) (h : i < j) (hj : j ≤ l.length) : (nxt l i j b).length = i + 1 + (l.length - j) := by
  unfold nxt; simp only [List.length_append, List.length_take, List.length_drop, List.length_cons, List.length_nil]; omega
/-- Each ahead of the next. -/
def PW (l : List Block) : Prop := l.Pairwise fun x y => x.to ≤ y.from_
theorem shelf_pw {base : Int} {l : List Block} (h : ShelfOk base l) : PW l := List.pairwise_iff_getElem.2 fun i j hi hj hij => shelf_apart h hij (List.getElem?_eq_getElem hi) (List.getElem?_eq_getElem hj)
/-- Good, whatever stands beside. -/
def OneOk (base : Int) (x : Block) : Prop := widI base x.level ≠ 0 ∧ BlockOk x ∧ x.from_ % widI base x.level = 0 ∧ x.to = x.from_ + widI base x.level
theorem shelf_one {base : Int} {l : List Block} (h : ShelfOk base l) {x : Block} (hx : x ∈ l) : OneOk base x := by
  obtain ⟨k, hk⟩ := List.getElem?_of_mem hx
  obtain ⟨h1, h2, h3, h4, _⟩ := h.2.2.2 k x hk
  exact ⟨h1, h2, h3, h4⟩
theorem shelf_of {base : Int} {l : List Block} (hb : 1 ≤ base ∧ base ≤ 1000000) (hl : l.length ≤ 100) (h1 : ∀ x ∈ l, OneOk base x) (h2 : PW l) : ShelfOk base l :=
  ⟨hb.1, hb.2, hl, fun i x hx => ⟨(h1 x (smem hx)).1, (h1 x (smem hx)).2.1, (h1 x (smem hx)).2.2.1, (h1 x (smem hx)).2.2.2, fun p h0 hp => by
    have h3 := slt hx
    have h4 := slt hp
    have := List.pairwise_iff_getElem.1 h2 (i - 1) i h4 h3 (by omega)
    rw [(List.getElem?_eq_some_iff.1 hx).2, (List.getElem?_eq_some_iff.1 hp).2] at this
    exact this⟩⟩
theorem shelf_sub {base : Int} {l m : List Block} (h : ShelfOk base l) (hm : m.Sublist l) : ShelfOk base m :=
  shelf_of ⟨h.1, h.2.1⟩ (Nat.le_trans hm.length_le h.2.2.1) (fun x hx => shelf_one h (hm.subset hx)) ((shelf_pw h).sublist hm)
theorem mid_sub {α : Type} (l : List α) (i j : Nat) : ((l.take j).drop i).Sublist l := (List.drop_sublist _ _).trans (List.take_sublist _ _)
/-- What a step leaves is a shelf. -/
theorem nxt_shelf {base : Int} {l : List Block} (h : ShelfOk base l) {p : List Int} {i j : Nat} {A W L : Int} (P : PlanAt base l p i j A W L) : ShelfOk base (nxt l i j (mrgBk A W L ((l.take j).drop i))) := by
  have hb0 : 1 ≤ base ∧ base ≤ 1000000 := ⟨h.1, h.2.1⟩
  have hlt := P.lt; have hle := P.le
  obtain ⟨b, hb, hbl, hbA⟩ := P.spn
  have hW := P.wid
  obtain ⟨w1, w2⟩ := wid_ok (L := L) hb0 ⟨by have := P.L2; omega, P.L4⟩
  rw [hW] at w1 w2
  have hin : ∀ x ∈ l, inM A W x = inI A W x := fun x hx => by
    have := in_eq h ⟨P.L2, P.L4⟩ hb hbl hx
    rw [hW, hbA] at this; exact this
  obtain ⟨m, hm⟩ := sget (l := (l.take j).drop i) (i := 0) (by rw [List.length_drop, List.length_take]; omega)
  have hmI := P.all m (smem hm)
  have hml : l[i]? = some m := by
    rw [List.getElem?_drop, Nat.add_zero, List.getElem?_take, if_pos hlt] at hm; exact hm
  obtain ⟨q, hq⟩ := sget (l := l) (i := j - 1) (by omega)
  have hqI : inI A W q = true := P.all q (List.mem_of_getElem? (i := j - 1 - i) (by rw [List.getElem?_drop, List.getElem?_take, if_pos (by omega), show i + (j - 1 - i) = j - 1 by omega]; exact hq))
  have hmft := shelf_from_to h (smem hml)
  have hqft := shelf_from_to h (smem hq)
  unfold inI at hmI hqI
  simp only [Bool.and_eq_true, decide_eq_true_eq] at hmI hqI
  have h1 : ∀ x ∈ l.take i, x.to ≤ A := fun x hx => by
    obtain ⟨k, hk⟩ := List.getElem?_of_mem hx
    have hki := slt hk
    rw [List.length_take] at hki
    have hkl : l[k]? = some x := by rw [List.getElem?_take, if_pos (by omega)] at hk; exact hk
    have h2 := shelf_apart h (show k < i by omega) hkl hml
    have h3 := hin x (smem hkl)
    rw [P.no1 x hx] at h3
    unfold inM at h3
    simp only [Bool.or_eq_false_iff, Bool.and_eq_false_iff, decide_eq_false_iff_not] at h3
    have h4 := shelf_from_to h (smem hkl)
    omega
  have h2 : ∀ x ∈ l.drop j, A + W ≤ x.from_ := fun x hx => by
    obtain ⟨k, hk⟩ := List.getElem?_of_mem hx
    rw [List.getElem?_drop] at hk
    have h2 := shelf_apart h (show j - 1 < j + k by omega) hq hk
    have h3 := hin x (smem hk)
    rw [P.no2 x hx] at h3
    unfold inM at h3
    simp only [Bool.or_eq_false_iff, Bool.and_eq_false_iff, decide_eq_false_iff_not] at h3
    have h4 := shelf_from_to h (smem hk)
    omega
  refine shelf_of hb0 ?_ ?_ ?_
  · rw [nxt_len _ _ _ _ hlt hle]
    have := h.2.2.1
    omega
  · intro x hx
    unfold nxt at hx
    rw [List.mem_append, List.mem_append] at hx
    rcases hx with (hx | hx) | hx
    · exact shelf_one h (List.mem_of_mem_take hx)
    · simp at hx
      subst hx
      refine ⟨by show widI base L ≠ 0; omega, P.good, ?_, by show A + W = A + widI base L; rw [hW]⟩
      show A % widI base L = 0
      rw [hW, ← hbA]; exact Int.mul_emod_left _ _
    · exact shelf_one h (List.mem_of_mem_drop hx)
  · unfold PW nxt
    have hp := shelf_pw h
    unfold PW at hp
    rw [List.append_assoc, List.pairwise_append]
    refine ⟨hp.sublist (List.take_sublist _ _), ?_, ?_⟩
    · rw [List.singleton_append, List.pairwise_cons]
      exact ⟨fun x hx => h2 x hx, hp.sublist (List.drop_sublist _ _)⟩
    · intro x hx y hy
      have hx1 := h1 x hx
      rcases List.mem_append.1 hy with hy | hy
      · simp at hy; subst hy; exact hx1
      · have := h2 y hy; omega
/-- How much there is to be done. -/
def mu (l : List Block) : Nat := sumF (fun b => (5 - b.level).toNat) l
theorem sumF_le_one {α : Type} (c : α → Nat) : ∀ {l : List α} {x : α}, x ∈ l → c x ≤ sumF c l
  | y :: l, x, h => by
    rcases List.mem_cons.1 h with rfl | h
    · simp only [sumF]; omega
    · have := sumF_le_one c h; simp only [sumF]; omega
theorem nxt_sum {base : Int} {l : List Block} {p : List Int} {i j : Nat} {A W L : Int} (P : PlanAt base l p i j A W L) (c : Block → Nat) (b : Block) : sumF c (nxt l i j b) + sumF c ((l.take j).drop i) = sumF c l + c b := by
  conv => rhs; rw [three l (Nat.le_of_lt P.lt)]
  unfold nxt
  simp only [sumF_app, sumF]
  omega
theorem nxt_mu {base : Int} {l : List Block} {p : List Int} {i j : Nat} {A W L : Int} (P : PlanAt base l p i j A W L) (q : List Series) : mu (nxt l i j ⟨A, A + W, L, q, []⟩) < mu l := by
  have h1 := nxt_sum P (fun b => (5 - b.level).toNat) ⟨A, A + W, L, q, []⟩
  obtain ⟨b, hb, hbl⟩ := P.one
  have h2 := sumF_le_one (fun b : Block => (5 - b.level).toNat) hb
  have h3 := P.L4
  have h4 := P.L2
  simp only at h1 h2
  unfold mu
  rw [hbl] at h2
  omega
theorem nxt_wt {base : Int} {l : List Block} (hS : ∀ b ∈ l, SBlock b) {p : List Int} {i j : Nat} {A W L : Int} (P : PlanAt base l p i j A W L) : wtB (nxt l i j (mrgBk A W L ((l.take j).drop i))) ≤ wtB l := by
  have h1 := nxt_sum P (fun b => wt b.series) (mrgBk A W L ((l.take j).drop i))
  obtain ⟨_, _, h2⟩ := mrgB_inv (l := (l.take j).drop i) fun b hb => hS b ((mid_sub l i j).subset hb)
  unfold wtB at h2 ⊢
  simp only at h1
  omega
theorem nxt_S {base : Int} {l : List Block} (hS : ∀ b ∈ l, SBlock b) (hw : wtB l ≤ 1048576) {p : List Int} {i j : Nat} {A W L : Int} (P : PlanAt base l p i j A W L) : ∀ b ∈ nxt l i j (mrgBk A W L ((l.take j).drop i)), SBlock b := fun x hx => by
  unfold nxt at hx
  rw [List.mem_append, List.mem_append] at hx
  rcases hx with (hx | hx) | hx
  · exact hS x (List.mem_of_mem_take hx)
  · simp only [List.mem_singleton] at hx
    subst hx
    have hsub := mid_sub l i j
    have hw2 : wtB ((l.take j).drop i) ≤ wtB l := by rw [← P.mid]; exact wtB_filter _ _
    exact mrgBk_S (fun b hb => hS b (hsub.subset hb)) (by omega) _ _ _
  · exact hS x (List.mem_of_mem_drop hx)
/-- One step, if there is one. -/
noncomputable def stepP1 (base : Int) (l : List Block) (p : List Int) : List Block :=
  let i := (p.headD 0).toNat
  let j := i + p.length
  let mid := (l.take j).drop i
  let L := mxF mid + 1
  let W := widI base L
  let A := (match mid[0]? with | some x => x.from_ | none => 0) / W * W
  nxt l i j (mrgBk A W L mid)
noncomputable def stepC (base : Int) (l : List Block) : Option (List Block) := (planO base l).map (stepP1 base l)
theorem plan_head {base : Int} {l : List Block} {p : List Int} {i j : Nat} {A W L : Int} (P : PlanAt base l p i j A W L) : p[0]? = some (i : Int) ∧ p.length = j - i ∧ p[p.length - 1]? = some ((j - 1 : Nat) : Int) := by
  have h1 := P.lt
  have h2 : p.length = j - i := by rw [P.p_eq, upI_len]
  refine ⟨?_, h2, ?_⟩
  · rw [P.p_eq]; exact upI_get i (j - i) 0 (by omega)
  · rw [h2, P.p_eq, upI_get i (j - i) (j - i - 1) (by omega)]
    congr 2; omega
theorem step_at {base : Int} {l : List Block} (h : ShelfOk base l) {p : List Int} {i j : Nat} {A W L : Int} (P : PlanAt base l p i j A W L) : stepP1 base l p = nxt l i j (mrgBk A W L ((l.take j).drop i)) := by
  obtain ⟨h1, h2, _⟩ := plan_head P
  have hlt := P.lt
  have e1 : (p.headD 0).toNat = i := by
    cases p with
    | nil => simp at h1
    | cons x p => simp at h1; subst h1; rfl
  have e2 : i + p.length = j := by omega
  unfold stepP1
  simp only [e1, e2]
  obtain ⟨b, hb, hbl⟩ := P.one
  have hmx : mxF ((l.take j).drop i) = L - 1 := mx_eq (by have := P.L2; omega) (fun x hx => by have := P.low x hx; omega) hb hbl
  rw [hmx, show L - 1 + 1 = L by omega, P.wid]
  obtain ⟨m, hm⟩ := sget (l := (l.take j).drop i) (i := 0) (by rw [List.length_drop, List.length_take]; have := P.le; omega)
  have hml : m ∈ l := (mid_sub l i j).subset (smem hm)
  have hb0 : 1 ≤ base ∧ base ≤ 1000000 := ⟨h.1, h.2.1⟩
  obtain ⟨w1, w2⟩ := wid_ok (L := L) hb0 ⟨by have := P.L2; omega, P.L4⟩
  rw [P.wid] at w1
  obtain ⟨c, hc, _, hcA⟩ := P.spn
  have hA : m.from_ / W * W = A := in_from (q := c.from_ / W) w1 hcA.symm (P.all m (smem hm)) (shelf_from_to h hml).2
  rw [hm]
  simp only [hA]
noncomputable def runC (base : Int) : Nat → List Block → List Block
  | 0, l => l
  | n + 1, l => match stepC base l with | some l' => runC base n l' | none => l
noncomputable def resC (base : Int) (l : List Block) : List Block := runC base (mu l) l
theorem stepC_none {base : Int} {l : List Block} (h : planO base l = none) : stepC base l = none := by unfold stepC; rw [h]; rfl
theorem stepC_some {base : Int} {l : List Block} (h : ShelfOk base l) {p : List Int} {i j : Nat} {A W L : Int} (hp : planO base l = some p) (P : PlanAt base l p i j A W L) : stepC base l = some (nxt l i j (mrgBk A W L ((l.take j).drop i))) := by
  unfold stepC; rw [hp, Option.map_some, step_at h P]
theorem runC_fuel (base : Int) : ∀ (n : Nat) (l : List Block), ShelfOk base l → mu l ≤ n → runC base n l = runC base (mu l) l := by
  intro n
  induction n using Nat.strongRecOn with
  | ind n ih =>
    intro l h hn
    cases hp : planO base l with
    | none =>
      have e := stepC_none hp
      have key : ∀ m, runC base m l = l := fun m => by cases m with | zero => rfl | succ m => simp only [runC, e]
      rw [key, key]
    | some p =>
      obtain ⟨i, j, A, W, L, P⟩ := planO_at h hp
      have e := stepC_some h hp P
      have h2 := nxt_shelf h P
      have h3 : mu (nxt l i j (mrgBk A W L ((l.take j).drop i))) < mu l := nxt_mu P (mrgB ((l.take j).drop i))
      have key : ∀ m, mu l ≤ m → m ≤ n → runC base m l = runC base (mu (nxt l i j (mrgBk A W L ((l.take j).drop i)))) (nxt l i j (mrgBk A W L ((l.take j).drop i))) := fun m hm hmn => by
        cases m with
        | zero => omega
        | succ m =>
          simp only [runC, e]
          exact ih m (by omega) _ h2 (by omega)
      rw [key n hn (Nat.le_refl _), key (mu l) (Nat.le_refl _) hn]
theorem resC_step {base : Int} {l : List Block} (h : ShelfOk base l) {p : List Int} {i j : Nat} {A W L : Int} (hp : planO base l = some p) (P : PlanAt base l p i j A W L) : resC base l = resC base (nxt l i j (mrgBk A W L ((l.take j).drop i))) := by
  have e := stepC_some h hp P
  have h3 : mu (nxt l i j (mrgBk A W L ((l.take j).drop i))) < mu l := nxt_mu P (mrgB ((l.take j).drop i))
  unfold resC
  obtain ⟨m, hm⟩ : ∃ m, mu l = m + 1 := ⟨mu l - 1, by omega⟩
  rw [hm]
  simp only [runC, e]
  exact runC_fuel base m _ (nxt_shelf h P) (by omega)
theorem resC_end {base : Int} {l : List Block} (h : planO base l = none) : resC base l = l := by
  unfold resC
  cases mu l with
  | zero => rfl
  | succ m => simp only [runC, stepC_none h]
/-- A plan is never of nothing. -/
theorem planO_ne {base : Int} {l : List Block} (h : ShelfOk base l) {p : List Int} (hp : planO base l = some p) : p ≠ [] := by
  obtain ⟨i, j, A, W, L, P⟩ := planO_at h hp
  obtain ⟨h1, _⟩ := plan_head P
  intro e
  rw [e] at h1; simp at h1
/-- What holds of shelves as they are compacted. -/
structure CInv (base : Int) (l0 l : List Block) : Prop where
  sh : ShelfOk base l
  S : ∀ b ∈ l, SBlock b
  wt : wtB l ≤ 1048576
  res : resC base l = resC base l0
theorem CInv.len {base : Int} {l0 l : List Block} (h : CInv base l0 l) : l.length ≤ 100 := h.sh.2.2.1
theorem CInv.next {base : Int} {l0 l : List Block} (h : CInv base l0 l) {p : List Int} {i j : Nat} {A W L : Int} (hp : planO base l = some p) (P : PlanAt base l p i j A W L) : CInv base l0 (nxt l i j (mrgBk A W L ((l.take j).drop i))) :=
  ⟨nxt_shelf h.sh P, nxt_S h.S h.wt P, Nat.le_trans (nxt_wt h.S P) h.wt, (resC_step h.sh hp P).symm.trans h.res⟩
end Go.Ring
