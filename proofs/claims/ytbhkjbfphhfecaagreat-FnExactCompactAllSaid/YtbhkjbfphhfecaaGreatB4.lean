/- What is chosen of a block: the program; both say the same. No condition beyond the lengths. -/
import Derived.Test.YtbhkjbfphhfecaaGreatB3
set_option maxRecDepth 100000
set_option linter.unusedVariables false
set_option linter.unusedSimpArgs false
namespace Go.Ring
open Go Go.RowKit Go.Eager Go.Abs Go.Proofs
theorem le_nil {Γ : Ctx} {t : List (Nat × LV)} {h : List (Nat × Ent)} (n k : Nat) (hk : t.lookup k = some (.sv (.raw (.slice none 0 0)))) : Le Γ ⟨(k, .sv (.sl n [])) :: t, h⟩ ⟨t, h⟩ := by
  rintro a w ⟨ρ, I⟩
  refine ⟨ρ, I.dfr, I.size, I.frm, fun k' lv hk' => ?_, I.ent, I.new, I.sep, I.out, I.inn⟩
  rw [List.lookup_cons] at hk'
  cases hq : (k' == k) with
  | false => simp only [hq] at hk'; exact I.tmp k' lv hk'
  | true =>
    simp only [hq, Option.some.injEq] at hk'
    subst hk'
    obtain rfl : k' = k := by simpa using hq
    exact rep_nil0 (I.tmp k' _ hk)
theorem selG_fit {ms : List Matcher} {f t : Int} {u : Series} (h : matB ms u.labels = false) : selG ms f t u = none := by
  unfold selG; rw [if_neg (fun c => by rw [h] at c; exact absurd c.2 (by decide))]
theorem selG_some {ms : List Matcher} {f t : Int} {u : Series} (h : matB ms u.labels = true) (h2 : 0 < (cutF f t u.samples).length) : selG ms f t u = some ⟨u.labels, cutF f t u.samples⟩ := by
  unfold selG; rw [if_pos ⟨h2, h⟩]
theorem selG_cut {ms : List Matcher} {f t : Int} {u : Series} (h2 : ¬ 0 < (cutF f t u.samples).length) : selG ms f t u = none := by
  unfold selG; rw [if_neg (fun c => h2 c.1)]
/-- Times rise. -/
def RisS (q : List Sample) : Prop := q.Pairwise fun a b => a.time < b.time
theorem ris_of {l : List Sample} (h : SamplesOk l) : RisS l ∧ ∀ x ∈ l, 0 ≤ x.time ∧ x.time ≤ 1000000000000 := by
  refine ⟨?_, fun x hx => ?_⟩
  · unfold RisS
    rw [List.pairwise_iff_getElem]
    intro i j hi hj hij
    have key : ∀ (d : Nat) (hd : i + d + 1 < l.length), (l[i]'hi).time < (l[i + d + 1]'hd).time := by
      intro d
      induction d with
      | zero =>
        intro hd
        exact (h.2 (i + 1) _ (List.getElem?_eq_getElem hd)).2 _ (Nat.succ_pos i) (by rw [Nat.add_sub_cancel]; exact List.getElem?_eq_getElem hi)
      | succ d ih =>
        intro hd
        have h1 := ih (by omega)
        have h2 := (h.2 (i + d + 1 + 1) _ (List.getElem?_eq_getElem hd)).2 _ (Nat.succ_pos _) (by rw [Nat.add_sub_cancel]; exact List.getElem?_eq_getElem (by omega))
        exact Int.lt_trans h1 h2
    have := key (j - i - 1) (by omega)
    have e : i + (j - i - 1) + 1 = j := by omega
    simp only [e] at this
    exact this
  · obtain ⟨i, hi⟩ := List.getElem?_of_mem hx
    exact (h.2 i x hi).1
theorem al1_eq {t : Stone} (ht : t.from_ ≤ t.to) : ∀ {q : List Sample}, RisS q → (∀ x ∈ q, 0 ≤ x.time ∧ x.time ≤ 1000000000000) → al1 t q = q.filter fun x => !(decide (t.from_ ≤ x.time) && decide (x.time ≤ t.to))
  | [], _, _ => rfl
  | x :: q, h, hx => by
    have h' := List.pairwise_cons.1 h
    have ih := al1_eq ht (q := q) h'.2 fun y hy => hx y (List.mem_cons_of_mem _ hy)
    have hx0 := hx x (List.mem_cons_self ..)
    unfold al1 cutF at ih ⊢
    rw [List.filter_cons, List.filter_cons, List.filter_cons]
    by_cases h1 : x.time < t.from_
    · rw [if_pos (by simp only [Bool.and_eq_true, decide_eq_true_eq]; omega), if_neg (by simp only [Bool.and_eq_true, decide_eq_true_eq]; omega), if_pos (by simp only [Bool.not_eq_true', Bool.and_eq_false_iff, decide_eq_false_iff_not]; omega), List.cons_append, ih]
    · by_cases h2 : x.time ≤ t.to
      · rw [if_neg (by simp only [Bool.and_eq_true, decide_eq_true_eq]; omega), if_neg (by simp only [Bool.and_eq_true, decide_eq_true_eq]; omega), if_neg (by simp only [Bool.not_eq_true', Bool.and_eq_false_iff, decide_eq_false_iff_not]; omega), ih]
      · have e : q.filter (fun u => decide (0 ≤ u.time) && decide (u.time ≤ t.from_ - 1)) = [] := by
          rw [List.filter_eq_nil_iff]
          intro y hy
          have := h'.1 y hy
          simp only [Bool.and_eq_true, decide_eq_true_eq]; omega
        rw [e, List.nil_append] at ih
        rw [if_neg (by simp only [Bool.and_eq_true, decide_eq_true_eq]; omega), if_pos (by simp only [Bool.and_eq_true, decide_eq_true_eq]; omega), if_pos (by simp only [Bool.not_eq_true', Bool.and_eq_false_iff, decide_eq_false_iff_not]; omega), e, List.nil_append, ih]
theorem aliveF_eq (ls : List Label) : ∀ (l : List Stone) (q : List Sample), (∀ t ∈ l, t.from_ ≤ t.to) → RisS q → (∀ x ∈ q, 0 ≤ x.time ∧ x.time ≤ 1000000000000) → aliveF ls l q = q.filter fun x => !l.any (stIn ls x)
  | [], q, _, _, _ => by rw [List.filter_eq_self.2 (by intro x _; rfl)]; rfl
  | t :: l, q, h, hr, hx => by
    have ih := fun q' => aliveF_eq ls l q' fun u hu => h u (List.mem_cons_of_mem _ hu)
    rw [show aliveF ls (t :: l) q = aliveF ls l (if cmpLs t.labels ls = 0 then al1 t q else q) from rfl]
    by_cases hc : cmpLs t.labels ls = 0
    · rw [if_pos hc, al1_eq (h t (List.mem_cons_self ..)) hr hx, ih _ (List.Pairwise.filter _ hr) fun x hx' => hx x (List.mem_filter.1 hx').1, List.filter_filter]
      refine List.filter_congr fun x _ => ?_
      unfold stIn
      rw [List.any_cons, hc]
      simp only [decide_true, Bool.and_true, Bool.not_or]
      rw [Bool.and_comm]
    · rw [if_neg hc, ih _ hr hx]
      refine List.filter_congr fun x _ => ?_
      rw [List.any_cons]
      have : stIn ls x t = false := by unfold stIn; rw [decide_eq_false hc, Bool.and_false]
      rw [this, Bool.false_or]
theorem stones_of {b : Block} (h : BlockOk b) : ∀ t ∈ b.stones, 0 ≤ t.from_ ∧ t.from_ ≤ t.to ∧ t.to ≤ 1000000000000 := fun t ht => by
  obtain ⟨i, hi⟩ := List.getElem?_of_mem ht
  obtain ⟨a1, a2, a3, a4, a5, a6, a7, a8, a9⟩ := h
  obtain ⟨b1, b2, b3, b4, b5, b6⟩ := a9 i t hi
  have := a1.1
  omega
theorem cutF_pos {f t : Int} {l : List Sample} (h : 0 < (cutF f t l).length) : 0 < l.length := Nat.lt_of_lt_of_le h (cutF_len f t l)
theorem filterMap_bind {α β γ : Type} (f : α → Option β) (g : β → Option γ) : ∀ l : List α, (l.filterMap f).filterMap g = l.filterMap fun x => (f x).bind g
  | [] => rfl
  | x :: l => by
    rw [List.filterMap_cons, List.filterMap_cons]
    cases hx : f x with
    | none => simp only [Option.bind_none]; exact filterMap_bind f g l
    | some y =>
      simp only [Option.bind_some]
      rw [List.filterMap_cons]
      cases g y with
      | none => exact filterMap_bind f g l
      | some z => simp only [filterMap_bind f g l]
/-- THE PLAIN LAW: taken first and cut then, or cut first and fitted then. -/
theorem sel_law {b : Block} (h : BlockOk b) (ms : List Matcher) (f t : Int) : selL [] f t (aliL b ms b.series) = selL ms f t (standL b) := by
  unfold selL aliL standL
  rw [filterMap_bind, filterMap_bind]
  have key : ∀ s ∈ b.series, (aliG b ms s).bind (selG [] f t) = (stG b s).bind (selG ms f t) := by
    intro s hs
    obtain ⟨i, hi⟩ := List.getElem?_of_mem hs
    have hso := ris_of (h.2.2.2.2.2.1.2 i s hi).2.2.1
    have e : aliveF s.labels b.stones s.samples = stand1 b s := aliveF_eq _ _ _ (fun t ht => (stones_of h t ht).2.1) hso.1 hso.2
    unfold aliG stG
    rw [e]
    by_cases h1 : matB ms s.labels = true
    · rw [if_pos h1, Option.bind_some]
      by_cases h2 : 0 < (cutF f t (stand1 b s)).length
      · rw [if_pos (cutF_pos h2), Option.bind_some, selG_some (u := ⟨s.labels, stand1 b s⟩) h1 h2, selG_some (u := ⟨s.labels, stand1 b s⟩) rfl h2]
      · rw [selG_cut (u := ⟨s.labels, stand1 b s⟩) h2]
        split
        · rw [Option.bind_some, selG_cut (u := ⟨s.labels, stand1 b s⟩) h2]
        · rfl
    · rw [if_neg h1, Option.bind_none]
      split
      · rw [Option.bind_some, selG_fit (u := ⟨s.labels, stand1 b s⟩) (by simpa using h1)]
      · rfl
  have gen : ∀ l : List Series, (∀ s ∈ l, s ∈ b.series) → l.filterMap (fun s => (aliG b ms s).bind (selG [] f t)) = l.filterMap fun s => (stG b s).bind (selG ms f t) := by
    intro l
    induction l with
    | nil => intro _; rfl
    | cons x l ih =>
      intro hl
      rw [List.filterMap_cons, List.filterMap_cons, key x (hl x (List.mem_cons_self ..)), ih fun s hs => hl s (List.mem_cons_of_mem _ hs)]
  exact gen b.series fun s h => h
noncomputable def resB (b : Block) (ms : List Matcher) (f t : Int) : List Series := if pB (BlockOk b) = true ∧ gmsB ms = true then selL ms f t (standL b) else []
theorem cL_le {α : Type} {c : α → Nat} {m : Nat} : ∀ (l : List α), (∀ x ∈ l, c x ≤ m) → cL c l ≤ m * l.length
  | [], _ => by simp [cL]
  | x :: l, h => by
    have h1 := cL_le l fun y hy => h y (List.mem_cons_of_mem _ hy)
    have h2 := h x (List.mem_cons_self ..)
    rw [List.length_cons, Nat.mul_succ]
    simp only [cL]
    omega
theorem cSeries_le {s : Series} (h : SSeries s) : cSeries s ≤ 4194304 := by
  have h1 := cL_le (c := cLabel) (m := 2) s.labels fun _ _ => Nat.le_refl _
  have h2 := cL_le (c := cSample) (m := 2) s.samples fun _ _ => Nat.le_refl _
  have h3 := h.1.1
  have h4 := h.2
  unfold cSeries
  omega
end Go.Ring
