/- What is to be compacted next: the program. No condition beyond the sizes. -/
import Derived.Test.YtbhkjbfphhfecaaGreatE1
set_option maxRecDepth 100000
set_option linter.unusedVariables false
set_option linter.unusedSimpArgs false
namespace Go.Ring
open Go Go.RowKit Go.Eager Go.Abs Go.Proofs
/-- A box of one cell, read through a pointer. -/
theorem le_p1 {Γ : Ctx} {t : List (Nat × LV)} {h : List (Nat × Ent)} {s : SV} (k : Nat) (hk : t.lookup k = some (.sv (.ptr (.agg [s])))) (h1 : s.one = true) : Le Γ ⟨(k, .sv (.ptr s)) :: t, h⟩ ⟨t, h⟩ := by
  rintro a w ⟨ρ, I⟩
  refine ⟨ρ, I.dfr, I.size, I.frm, fun k' lv hk' => ?_, I.ent, I.new, I.sep, I.out, I.inn⟩
  rw [List.lookup_cons] at hk'
  cases hq : (k' == k) with
  | false => simp only [hq] at hk'; exact I.tmp k' lv hk'
  | true =>
    simp only [hq, Option.some.injEq] at hk'
    subst hk'
    obtain rfl : k' = k := by simpa using hq
    have h2 := I.tmp k' _ hk
    show Rep w _ _ _
    generalize a.tmps.getD k' undef = x at h2 ⊢
    cases h2 with
    | ptr p b off v hb hr hz h3 =>
      cases hr with
      | agg l vs hn ho hel =>
        have h0 : 0 < vs.size := by rw [hn]; simp
        have hu : vs[0]? = some vs[0] := Array.getElem?_eq_getElem h0
        have hrep := hel 0 s vs[0] rfl hu
        have hone := Rep.oneCell hrep h1
        refine .ptr s b off vs[0] hb hrep (by rw [oneCell_cells hone]; simp) fun j u hj => ?_
        rw [oneCell_cells hone] at hj
        have hj0 : j = 0 := by have := (Array.getElem?_eq_some_iff.1 hj).1; simpa using this
        subst hj0
        simp at hj
        subst hj
        exact h3 0 _ hu
theorem wid_ok {base L : Int} (h : 1 ≤ base ∧ base ≤ 1000000) (hL : 1 ≤ L ∧ L ≤ 4) : 0 < widI base L ∧ widI base L ≤ 27000000 := by
  refine widI_pos ?_
  rw [wid_un2 h hL]
  have : 0 < un L := by rcases un_cases hL with ⟨_, e⟩ | ⟨_, e⟩ | ⟨_, e⟩ | ⟨_, e⟩ <;> omega
  exact Int.ne_of_gt (Int.mul_pos this (by omega))
theorem tryB_span {base L : Int} {l : List Block} {b b' : Block} (h1 : b.level = L - 1) (h2 : b'.level = L - 1) (h : b.from_ / widI base L * widI base L = b'.from_ / widI base L * widI base L) : tryB base L l b = tryB base L l b' := by
  unfold tryB
  rw [h, h1, h2]
theorem planO_hit {base : Int} {l : List Block} {n : Nat} {x : List Int} (hn : 2 ≤ n ∧ n ≤ 4) (hp : ∀ m : Nat, 2 ≤ m → m < n → planL base m l = none) (h : planL base n l = some x) : planO base l = some x := by
  unfold planO
  rcases (show n = 2 ∨ n = 3 ∨ n = 4 by omega) with rfl | rfl | rfl
  · have h' : planL base 2 l = some x := h
    rw [h']; rfl
  · have h2 : planL base 2 l = none := hp 2 (by omega) (by omega)
    have h' : planL base 3 l = some x := h
    rw [h2, h']; rfl
  · have h2 : planL base 2 l = none := hp 2 (by omega) (by omega)
    have h3 : planL base 3 l = none := hp 3 (by omega) (by omega)
    have h' : planL base 4 l = some x := h
    rw [h2, h3, h']; rfl
theorem planO_none {base : Int} {l : List Block} (hp : ∀ m : Nat, 2 ≤ m → m < 5 → planL base m l = none) : planO base l = none := by
  unfold planO
  have h2 : planL base 2 l = none := hp 2 (by omega) (by omega)
  have h3 : planL base 3 l = none := hp 3 (by omega) (by omega)
  have h4 : planL base 4 l = none := hp 4 (by omega) (by omega)
  rw [h2, h3, h4]; rfl
theorem filter_S {l : List Block} (h : l.length ≤ 1048576 ∧ ∀ y ∈ l, SBlock y) (p : Block → Bool) : (l.filter p).length ≤ 1048576 ∧ ∀ y ∈ l.filter p, SBlock y :=
  ⟨Nat.le_trans (List.length_filter_le _ _) h.1, fun y hy => h.2 y (List.mem_filter.1 hy).1⟩
end Go.Ring
