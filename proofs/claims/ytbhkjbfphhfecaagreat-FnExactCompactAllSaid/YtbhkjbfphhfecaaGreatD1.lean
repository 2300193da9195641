/- What is to be compacted next: the plain law. No condition. -/
import Derived.Test.YtbhkjbfphhfecaaGreatB5
import Derived.Test.YtbhkjbfphhfecaaGreatG11
set_option maxRecDepth 100000
set_option linter.unusedVariables false
set_option linter.unusedSimpArgs false
namespace Go.Ring
open Go Go.RowKit Go.Eager Go.Abs Go.Proofs
/-- The numbers of those that are so. -/
def ixF {α : Type} (p : α → Bool) : List α → Nat → List Int
  | [], _ => []
  | x :: l, n => if p x = true then (n : Int) :: ixF p l (n + 1) else ixF p l (n + 1)
theorem ixF_step {α : Type} (p : α → Bool) {l : List α} {k : Nat} {x : α} (h : l[k]? = some x) : ixF p (l.drop k) k = (if p x = true then [(k : Int)] else []) ++ ixF p (l.drop (k + 1)) (k + 1) := by
  rw [drop_cons h]
  show (if p x = true then _ else _) = _
  split <;> rfl
theorem ixF_len {α : Type} (p : α → Bool) : ∀ (l : List α) (n : Nat), (ixF p l n).length ≤ l.length
  | [], _ => Nat.le_refl _
  | x :: l, n => by
    have := ixF_len p l (n + 1)
    unfold ixF
    split <;> simp only [List.length_cons] <;> omega
theorem ixF_congr {α : Type} {p q : α → Bool} : ∀ (l : List α) (n : Nat), (∀ x ∈ l, p x = q x) → ixF p l n = ixF q l n
  | [], _, _ => rfl
  | x :: l, n, h => by
    unfold ixF
    rw [h x (List.mem_cons_self ..), ixF_congr l (n + 1) fun y hy => h y (List.mem_cons_of_mem _ hy)]
theorem ixF_in {α : Type} (p : α → Bool) : ∀ (l : List α) (n : Nat) (i : Int), i ∈ ixF p l n → (n : Int) ≤ i ∧ i < n + l.length ∧ ∃ x, l[i.toNat - n]? = some x ∧ p x = true
  | [], n, i, h => by simp [ixF] at h
  | y :: l, n, i, h => by
    have rec_ : i ∈ ixF p l (n + 1) → (n : Int) ≤ i ∧ i < n + (y :: l).length ∧ ∃ x, (y :: l)[i.toNat - n]? = some x ∧ p x = true := fun h => by
      obtain ⟨h1, h2, x, h3, h4⟩ := ixF_in p l (n + 1) i h
      refine ⟨by omega, by simp only [List.length_cons]; omega, x, ?_, h4⟩
      rw [show i.toNat - n = (i.toNat - (n + 1)) + 1 by omega]; simpa using h3
    unfold ixF at h
    split at h
    · rename_i hp
      rcases List.mem_cons.1 h with rfl | h
      · exact ⟨Int.le_refl _, by simp only [List.length_cons]; omega, y, by simp, hp⟩
      · exact rec_ h
    · exact rec_ h
theorem ixF_pick {α : Type} (p : α → Bool) (L : List α) : ∀ (l : List α) (n : Nat), L.drop n = l → (ixF p l n).filterMap (fun i => L[i.toNat]?) = l.filter p
  | [], n, _ => rfl
  | x :: l, n, h => by
    have h1 : L[n]? = some x := by rw [← Nat.add_zero n, ← List.getElem?_drop, h]; rfl
    have h2 : L.drop (n + 1) = l := by rw [← List.drop_drop, h]; rfl
    have ih := ixF_pick p L l (n + 1) h2
    unfold ixF
    rw [List.filter_cons]
    split
    · rw [List.filterMap_cons, Int.toNat_natCast, h1, ih]
    · exact ih
/-- How wide a level is, in bases. -/
def un (l : Int) : Int := if l = 1 then 1 else if l = 2 then 3 else if l = 3 then 9 else 27
theorem wid_un {base l : Int} (h : widI base l ≠ 0) : widI base l = un l * base ∧ 1 ≤ base ∧ 1 ≤ l ∧ l ≤ 4 := by
  unfold widI at h ⊢
  split at h
  · rename_i hw
    rw [if_pos hw]
    refine ⟨?_, hw.1, hw.2.2.1, hw.2.2.2⟩
    unfold un
    split
    · omega
    · split
      · omega
      · split <;> omega
  · exact absurd rfl h
theorem wid_un2 {base l : Int} (h : 1 ≤ base ∧ base ≤ 1000000) (hl : 1 ≤ l ∧ l ≤ 4) : widI base l = un l * base := by
  unfold widI
  rw [if_pos ⟨h.1, h.2, hl.1, hl.2⟩]
  unfold un
  split
  · omega
  · split
    · omega
    · split <;> omega
theorem mul_lt {a b c : Int} (hc : 0 < c) : a * c < b * c ↔ a < b := ⟨fun h => Int.lt_of_mul_lt_mul_right h (by omega), fun h => Int.mul_lt_mul_of_pos_right h hc⟩
theorem mul_le {a b c : Int} (hc : 0 < c) : a * c ≤ b * c ↔ a ≤ b := ⟨fun h => Int.le_of_mul_le_mul_right h hc, fun h => Int.mul_le_mul_of_nonneg_right h (by omega)⟩
/-- A block of a shelf, in bases. -/
theorem shelf_units {base : Int} {l : List Block} (h : ShelfOk base l) {x : Block} (hx : x ∈ l) : ∃ m : Int, x.from_ = (un x.level * m) * base ∧ x.to = (un x.level * m + un x.level) * base ∧ 1 ≤ x.level ∧ x.level ≤ 4 ∧ 0 ≤ m := by
  obtain ⟨i, hi⟩ := List.getElem?_of_mem hx
  obtain ⟨h1, h2, h3, h4, _⟩ := h.2.2.2 i x hi
  obtain ⟨e1, e2, e3, e4⟩ := wid_un h1
  have h0 : 0 ≤ x.from_ := h2.1.1
  rw [e1] at h3 h4
  have hu : 0 < un x.level := by unfold un; split; omega; split; omega; split <;> omega
  refine ⟨x.from_ / (un x.level * base), ?_, ?_, e3, e4, Int.ediv_nonneg h0 (Int.mul_nonneg (by omega) (by omega))⟩
  · have := Int.mul_ediv_add_emod x.from_ (un x.level * base)
    rw [h3, Int.add_zero] at this
    rw [← this, Int.mul_ediv_cancel_left _ (by rw [Int.mul_ne_zero_iff]; omega)]
    rw [Int.mul_assoc, Int.mul_assoc, Int.mul_comm base]
  · have := Int.mul_ediv_add_emod x.from_ (un x.level * base)
    rw [h3, Int.add_zero] at this
    rw [h4, Int.add_mul]
    congr 1
    conv => lhs; rw [← this]
    rw [Int.mul_assoc, Int.mul_assoc, Int.mul_comm base]
/-- Of two blocks of a shelf one ends where the other begins, or earlier. -/
theorem shelf_apart {base : Int} {l : List Block} (h : ShelfOk base l) {i j : Nat} {x y : Block} (hij : i < j) (hx : l[i]? = some x) (hy : l[j]? = some y) : x.to ≤ y.from_ := by
  induction j generalizing y with
  | zero => omega
  | succ j ih =>
    obtain ⟨p, hp⟩ := sget (l := l) (i := j) (by have := slt hy; omega)
    have h1 := (h.2.2.2 (j + 1) y hy).2.2.2.2 p (by omega) hp
    rcases Nat.lt_or_ge i j with hlt | hge
    · have h2 := ih hlt hp
      have h3 := (h.2.2.2 j p hp).2.1.2.1
      omega
    · obtain rfl : i = j := by omega
      rw [hx] at hp; cases hp; exact h1
/-- What lies in a span; what meets it. -/
def inI (a w : Int) (x : Block) : Bool := decide (a ≤ x.from_) && decide (x.to ≤ a + w)
def inM (a w : Int) (x : Block) : Bool := (decide (a ≤ x.from_) && decide (x.from_ < a + w)) || (decide (x.from_ < a) && decide (a < x.to))
theorem un_cases {l : Int} (h : 1 ≤ l ∧ l ≤ 4) : (l = 1 ∧ un l = 1) ∨ (l = 2 ∧ un l = 3) ∨ (l = 3 ∧ un l = 9) ∨ (l = 4 ∧ un l = 27) := by
  unfold un
  rcases (show l = 1 ∨ l = 2 ∨ l = 3 ∨ l = 4 by omega) with rfl | rfl | rfl | rfl <;> simp
/-- What meets the span of a block lies in it. -/
theorem in_eq {base : Int} {l : List Block} (h : ShelfOk base l) {L : Int} (hL : 2 ≤ L ∧ L ≤ 4) {b : Block} (hb : b ∈ l) (hbl : b.level = L - 1) {x : Block} (hx : x ∈ l) :
    inM (b.from_ / widI base L * widI base L) (widI base L) x = inI (b.from_ / widI base L * widI base L) (widI base L) x := by
  have hb0 : 1 ≤ base ∧ base ≤ 1000000 := ⟨h.1, h.2.1⟩
  have hbp : 0 < base := by omega
  obtain ⟨p, b1, b2, b3, b4, b5⟩ := shelf_units h hb
  obtain ⟨m, x1, x2, x3, x4, x5⟩ := shelf_units h hx
  rw [wid_un2 hb0 (by omega)]
  have hq : b.from_ / (un L * base) * (un L * base) = (un L * (un b.level * p / un L)) * base := by
    have hu : 0 < un L := by rcases un_cases (l := L) (by omega) with ⟨_, e⟩ | ⟨_, e⟩ | ⟨_, e⟩ | ⟨_, e⟩ <;> omega
    rw [b1, Int.mul_ediv_mul_of_pos_left _ _ hbp, ← Int.mul_assoc, Int.mul_comm (un L)]
  rw [hq]
  obtain ⟨i, hi⟩ := List.getElem?_of_mem hb
  obtain ⟨j, hj⟩ := List.getElem?_of_mem hx
  have hd : x = b ∨ x.to ≤ b.from_ ∨ b.to ≤ x.from_ := by
    rcases Nat.lt_trichotomy i j with h1 | rfl | h1
    · exact .inr (.inr (shelf_apart h h1 hi hj))
    · rw [hi] at hj; cases hj; exact .inl rfl
    · exact .inr (.inl (shelf_apart h h1 hj hi))
  have hd' : (x.level = b.level ∧ un x.level * m = un b.level * p) ∨ un x.level * m + un x.level ≤ un b.level * p ∨ un b.level * p + un b.level ≤ un x.level * m := by
    rcases hd with h1 | h1 | h1
    · refine .inl ⟨by rw [h1], ?_⟩
      have e : (un x.level * m) * base = (un b.level * p) * base := by rw [← x1, ← b1, h1]
      exact Int.eq_of_mul_eq_mul_right (by omega) e
    · rw [x2, b1, mul_le hbp] at h1; exact .inr (.inl h1)
    · rw [b2, x1, mul_le hbp] at h1; exact .inr (.inr h1)
  unfold inM inI
  rw [x1, x2, ← Int.add_mul]
  simp only [mul_lt hbp, mul_le hbp]
  rw [Bool.eq_iff_iff]
  simp only [Bool.or_eq_true, Bool.and_eq_true, decide_eq_true_eq]
  rcases un_cases (l := L) (by omega) with ⟨l1, l2⟩ | ⟨l1, l2⟩ | ⟨l1, l2⟩ | ⟨l1, l2⟩
  · omega
  all_goals
    rcases un_cases (l := b.level) ⟨b3, b4⟩ with ⟨k1, k2⟩ | ⟨k1, k2⟩ | ⟨k1, k2⟩ | ⟨k1, k2⟩ <;>
    rcases un_cases (l := x.level) ⟨x3, x4⟩ with ⟨j1, j2⟩ | ⟨j1, j2⟩ | ⟨j1, j2⟩ | ⟨j1, j2⟩ <;>
    (rw [l2, j2]; rw [k2, j2] at hd'; rw [k2]; omega)
end Go.Ring
