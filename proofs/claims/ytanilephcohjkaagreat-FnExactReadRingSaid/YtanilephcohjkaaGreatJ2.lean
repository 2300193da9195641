/- Good series, and one more joined: the plain law. No condition. -/
import Derived.Test.YtanilephcohjkaaGreatJ1
set_option maxRecDepth 100000
set_option linter.unusedVariables false
set_option linter.unusedSimpArgs false
namespace Go.Ring
open Go Go.RowKit Go.Eager Go.Abs Go.Proofs
theorem smp_iff {q : List Sample} : SamplesOk q ↔ q.length ≤ 2000 ∧ (∀ x ∈ q, TimeOk x.time) ∧ SrtS q := by
  unfold SamplesOk SampleAt
  constructor
  · rintro ⟨h1, h2⟩
    refine ⟨h1, fun x hx => ?_, ?_⟩
    · obtain ⟨i, hi⟩ := List.getElem?_of_mem hx
      exact (h2 i x hi).1
    · have key : ∀ (j i : Nat) (x y : Sample), i < j → q[i]? = some x → q[j]? = some y → x.time < y.time := by
        intro j
        induction j with
        | zero => intro i x y h; omega
        | succ j ih =>
          intro i x y hij hx hy
          obtain ⟨p, hp⟩ := sget (l := q) (i := j) (by have := slt hy; omega)
          have h3 := (h2 (j + 1) y hy).2 p (by omega) hp
          rcases Nat.lt_or_ge i j with h | h
          · have := ih i x p h hx hp; omega
          · obtain rfl : i = j := by omega
            rw [hx] at hp; cases hp; exact h3
      exact List.pairwise_iff_getElem.2 fun i j hi hj hij => key j i _ _ hij (List.getElem?_eq_getElem hi) (List.getElem?_eq_getElem hj)
  · rintro ⟨h1, h2, h3⟩
    refine ⟨h1, fun i x hx => ⟨h2 x (smem hx), fun p h0 hp => ?_⟩⟩
    have h4 := slt hx
    have h5 := slt hp
    have := List.pairwise_iff_getElem.1 h3 (i - 1) i h5 h4 (by omega)
    rw [(List.getElem?_eq_some_iff.1 hx).2, (List.getElem?_eq_some_iff.1 hp).2] at this
    exact this
/-- A series good in itself. -/
def OneS (x : Series) : Prop := LabelsOk x.labels ∧ hasNm x.labels = true ∧ SamplesOk x.samples ∧ x.samples.length ≠ 0
theorem ser_iff {l : List Series} : SeriesOk l ↔ l.length ≤ 200 ∧ (∀ x ∈ l, OneS x) ∧ SrtL l := by
  unfold SeriesOk SeriesAt
  constructor
  · rintro ⟨h1, h2⟩
    refine ⟨h1, fun x hx => ?_, srtL_iff.2 (srt_of fun i x hx => (h2 i x hx).2.2.2.2)⟩
    obtain ⟨i, hi⟩ := List.getElem?_of_mem hx
    obtain ⟨a, b, c, d, _⟩ := h2 i x hi
    exact ⟨a, b, c, d⟩
  · rintro ⟨h1, h2, h3⟩
    refine ⟨h1, fun i x hx => ?_⟩
    obtain ⟨a, b, c, d⟩ := h2 x (smem hx)
    exact ⟨a, b, c, d, fun p h0 hp => srtL_iff.1 h3 (i - 1) i p x (by omega) hp hx⟩
theorem ser_srt {l : List Series} (h : SeriesOk l) : SrtL l := (ser_iff.1 h).2.2
theorem ser_sm {l : List Series} (h : SeriesOk l) : SmS l := fun y hy => (smp_iff.1 ((ser_iff.1 h).2.1 y hy).2.2.1).2.2
theorem mg_ne {a b : List Sample} (h : b.length ≠ 0) : (mg a b).length ≠ 0 := by
  induction a, b using mg.induct with
  | case1 b => rw [mg]; exact h
  | case2 x a => rw [mg_nil]; simp
  | case3 x a y b hc ih => rw [mg_lt hc]; simp
  | case4 x a y b h1 h2 ih => rw [mg_eq h2]; simp
  | case5 x a y b h1 h2 ih => rw [mg_gt (by omega)]; simp
/-- All of some clusters' rows, joined. -/
def jnAll (ls : List (List Series)) (a : List Series) : List Series := ls.foldl jn a
/-- A row of series whose rows are in order. -/
structure Nice (l : List Series) : Prop where
  s : SrtL l
  m : SmS l
  b : LbOk l
theorem Nice.jn {a b : List Series} (ha : Nice a) (hb : Nice b) : Nice (jn a b) := by
  obtain ⟨h1, h2, h3, _⟩ := jn_inv b a ha.s ha.m ha.b hb.m hb.b
  exact ⟨h1, h2, h3⟩
theorem Nice.filter {a : List Series} (ha : Nice a) (f : Series → Bool) : Nice (a.filter f) :=
  ⟨srtL_filter ha.s f, fun y hy => ha.m y (List.mem_filter.1 hy).1, fun y hy => ha.b y (List.mem_filter.1 hy).1⟩
theorem nice_nil : Nice [] := ⟨by unfold SrtL; exact List.Pairwise.nil, fun y h => by simp at h, fun y h => by simp at h⟩
theorem jn_wt {a b : List Series} (ha : Nice a) (hb : Nice b) : wt (jn a b) ≤ wt a + wt b := (jn_inv b a ha.s ha.m ha.b hb.m hb.b).2.2.2
theorem jnAll_nice : ∀ {ls : List (List Series)} {a : List Series}, Nice a → (∀ l ∈ ls, Nice l) → Nice (jnAll ls a)
  | [], a, ha, _ => ha
  | l :: ls, a, ha, h => jnAll_nice (ls := ls) (ha.jn (h l (List.mem_cons_self ..))) fun x hx => h x (List.mem_cons_of_mem _ hx)
theorem jnAll_wt : ∀ {ls : List (List Series)} {a : List Series}, Nice a → (∀ l ∈ ls, Nice l) → wt (jnAll ls a) ≤ wt a + sumF wt ls
  | [], a, ha, _ => Nat.le_refl _
  | l :: ls, a, ha, h => by
    have h1 := h l (List.mem_cons_self ..)
    have h2 := jnAll_wt (ls := ls) (ha.jn h1) fun x hx => h x (List.mem_cons_of_mem _ hx)
    have h3 := jn_wt ha h1
    show wt (jnAll ls (Go.Ring.jn a l)) ≤ _
    simp only [sumF]
    omega
end Go.Ring
