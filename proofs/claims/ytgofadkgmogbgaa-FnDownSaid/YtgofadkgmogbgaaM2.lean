/- What samples come down to is good, and as many windows as the reference's: plain law. No condition. -/
import Derived.Test.YtgofadkgmogbgaaM1
set_option maxRecDepth 100000
set_option linter.unusedVariables false
set_option linter.unusedSimpArgs false
namespace Go.Ring
open Go Go.RowKit Go.Eager Go.Abs Go.Proofs
theorem sm_lt {l : List Sample} (h : SamplesOk l) {i : Nat} {x : Sample} (hx : l[i]? = some x) : ∀ (n : Nat) (y : Sample), l[i + 1 + n]? = some y → x.time < y.time
  | 0, y, hy => (h.2 (i + 1) y hy).2 x (by omega) hx
  | n + 1, y, hy => by
    obtain ⟨z, hz⟩ : ∃ z, l[i + 1 + n]? = some z := by
      have h1 := (List.getElem?_eq_some_iff.1 hy).1
      exact ⟨_, List.getElem?_eq_getElem (by omega)⟩
    have h1 := sm_lt h hx n z hz
    have h2 := (h.2 (i + 1 + (n + 1)) y hy).2 z (by omega) hz
    omega
theorem sm_pair {l : List Sample} (h : SamplesOk l) : l.Pairwise (fun a b => a.time < b.time) := by
  rw [List.pairwise_iff_getElem]
  intro i j hi hj hij
  have h1 := sm_lt h (List.getElem?_eq_getElem hi) (j - i - 1) l[j] (by rw [show i + 1 + (j - i - 1) = j by omega]; exact List.getElem?_eq_getElem hj)
  exact h1
theorem live_pair {l : List Sample} (h : SamplesOk l) : (liveF l).Pairwise (fun a b => a.time < b.time) := (sm_pair h).filter _
def AggP (r : Int) (n : Nat) (T : Int) (a : Agg) : Prop := (a.time.tmod r = 0 ∧ 0 ≤ a.time ∧ a.time ≤ T ∧ 1 ≤ a.count ∧ a.count ≤ n) ∧ (a.mn ≤ a.first ∧ a.first ≤ a.mx ∧ a.mn ≤ a.last ∧ a.last ≤ a.mx)
def GoodQ (r : Int) (n : Nat) (T : Int) (q : List Agg) : Prop := (∀ a ∈ q, AggP r n T a) ∧ q.Pairwise (fun a b => a.time < b.time) ∧ q.length ≤ n
theorem AggP.up {r : Int} {n m : Nat} {T U : Int} {a : Agg} (h : AggP r n T a) (hn : n ≤ m) (hT : T ≤ U) : AggP r m U a := by
  obtain ⟨⟨h1, h2, h3, h4, h5⟩, h6⟩ := h
  exact ⟨⟨h1, h2, by omega, h4, by omega⟩, h6⟩
theorem GoodQ.up {r : Int} {n m : Nat} {T U : Int} {q : List Agg} (h : GoodQ r n T q) (hn : n ≤ m) (hT : T ≤ U) : GoodQ r m U q :=
  ⟨fun a ha => (h.1 a ha).up hn hT, h.2.1, Nat.le_trans h.2.2 hn⟩
theorem aggO_P {r W : Int} (h1 : W.tmod r = 0) (h2 : 0 ≤ W) (n : Nat) (s : Sample) : AggP r (n + 1) W (aggO s W) := by
  refine ⟨⟨h1, h2, Int.le_refl _, Int.le_refl _, ?_⟩, Int.le_refl _, Int.le_refl _, Int.le_refl _, Int.le_refl _⟩
  show (1 : Int) ≤ ((n + 1 : Nat) : Int)
  omega
theorem mrg_P {r W : Int} {n : Nat} {z : Agg} (hn : n ≤ 2000) (hz : AggP r n W z) (s : Sample) (hW : z.time = W) : AggP r (n + 1) W (mrg z (aggO s W)) := by
  obtain ⟨⟨h1, h2, h3, h4, h5⟩, h6, h7, h8, h9⟩ := hz
  have hc : w64 (z.count + 1) = z.count + 1 := w64_in (by omega)
  refine ⟨⟨?_, ?_, ?_, ?_, ?_⟩, ?_, ?_, ?_, ?_⟩
  · show W.tmod r = 0; rw [← hW]; exact h1
  · show 0 ≤ W; omega
  · exact Int.le_refl _
  · show 1 ≤ w64 (z.count + 1); rw [hc]; omega
  · show w64 (z.count + 1) ≤ ((n + 1 : Nat) : Int); rw [hc]; omega
  · show minI z.mn s.value ≤ z.first; unfold minI; split <;> omega
  · show z.first ≤ maxI z.mx s.value; unfold maxI; split <;> omega
  · show minI z.mn s.value ≤ s.value; unfold minI; split <;> omega
  · show s.value ≤ maxI z.mx s.value; unfold maxI; split <;> omega
theorem good_step {r T W : Int} {n : Nat} {q : List Agg} (hn : n ≤ 2000) (hq : GoodQ r n T q) (h1 : W.tmod r = 0) (h2 : 0 ≤ W) (hT : T ≤ W) (s : Sample) : GoodQ r (n + 1) W (stepD q (aggO s W)) := by
  have hq' := hq.up (m := n) (Nat.le_refl _) hT
  rcases snoc_cases q with rfl | ⟨i, z, rfl⟩
  · rw [stepD_nil]
    refine ⟨fun a ha => ?_, by simp, by simp⟩
    rw [List.mem_singleton] at ha; subst ha
    exact aggO_P h1 h2 n s
  · obtain ⟨g1, g2, g3⟩ := hq'
    rw [List.pairwise_append] at g2
    obtain ⟨p1, p2, p3⟩ := g2
    rw [List.length_append, List.length_cons, List.length_nil] at g3
    have hz := g1 z (by simp)
    rw [stepD_snoc]
    by_cases h : z.time = (aggO s W).time
    · rw [if_pos h]
      have h' : z.time = W := h
      refine ⟨fun a ha => ?_, ?_, by simp only [List.length_append, List.length_cons, List.length_nil]; omega⟩
      · rcases List.mem_append.1 ha with ha | ha
        · exact (g1 a (by simp [ha])).up (by omega) (Int.le_refl _)
        · rw [List.mem_singleton] at ha; subst ha
          exact mrg_P hn hz s h'
      · rw [List.pairwise_append]
        refine ⟨p1, by simp, fun a ha b hb => ?_⟩
        rw [List.mem_singleton] at hb; subst hb
        have := p3 a ha z (by simp)
        show a.time < W
        omega
    · rw [if_neg h]
      have h' : ¬ z.time = W := h
      have hzT : z.time < W := by
        have := hz.1.2.2.1
        omega
      refine ⟨fun a ha => ?_, ?_, by simp only [List.length_append, List.length_cons, List.length_nil]; omega⟩
      · rcases List.mem_append.1 ha with ha | ha
        · exact (g1 a ha).up (by omega) (Int.le_refl _)
        · rw [List.mem_singleton] at ha; subst ha
          exact aggO_P h1 h2 n s
      · rw [List.pairwise_append, List.pairwise_append]
        refine ⟨⟨p1, p2, p3⟩, by simp, fun a ha b hb => ?_⟩
        rw [List.mem_singleton] at hb; subst hb
        show a.time < W
        rcases List.mem_append.1 ha with ha | ha
        · have := p3 a ha z (by simp)
          omega
        · rw [List.mem_singleton] at ha; subst ha; exact hzT
theorem winW_tmod (t r : Int) : (winW t r).tmod r = 0 := by
  obtain ⟨j, hj⟩ := winW_mul t r
  rw [hj]
  exact Int.mul_tmod_right r j
theorem good_down {r : Int} (hr : 1 ≤ r) (m : List Sample) : m.Pairwise (fun a b => a.time < b.time) → (∀ s ∈ m, 0 ≤ s.time) → m.length ≤ 2000 → ∀ T, (∀ s ∈ m, winW s.time r ≤ T) → GoodQ r m.length T (dS m r) := by
  refine snoc_ind (P := fun m => m.Pairwise (fun a b => a.time < b.time) → (∀ s ∈ m, 0 ≤ s.time) → m.length ≤ 2000 → ∀ T, (∀ s ∈ m, winW s.time r ≤ T) → GoodQ r m.length T (dS m r)) ?_ (fun m s ih => ?_) m
  · intro _ _ _ T _
    exact ⟨fun a ha => by simp [dS] at ha, by simp [dS], by simp [dS]⟩
  · intro hp h0 hl T hT
    rw [List.pairwise_append] at hp
    obtain ⟨p1, -, p3⟩ := hp
    rw [List.length_append, List.length_cons, List.length_nil] at hl ⊢
    have hs0 := h0 s (by simp)
    have h := ih p1 (fun y hy => h0 y (by simp [hy])) (by omega) (winW s.time r) (fun y hy => winW_mono hr (by have := p3 y hy s (by simp); omega))
    rw [dS_snoc]
    exact (good_step (by omega) h (winW_tmod _ _) (winW_in hs0 hr).1 (Int.le_refl _) s).up (Nat.le_refl _) (hT s (by simp))
theorem down_ok {l : List Sample} (h : SamplesOk l) {r : Int} (hr : resB r = true) : AggsOk r (downS l r) := by
  have hr1 := res_in hr
  have hl := live_len l
  have hl2 := h.1
  have g := good_down hr1.1 (liveF l) (live_pair h) (fun s hs => (live_in h hs).1) (by omega) 1000001000000 (fun s hs => by
    have h1 := (live_in h hs)
    have h2 := (winW_in h1.1 hr1.1).2
    have h3 := h1.2
    omega)
  have e : downS l r = dS (liveF l) r := rfl
  rw [← e] at g
  obtain ⟨g1, g2, g3⟩ := g
  refine ⟨by omega, fun i x hx => ?_⟩
  obtain ⟨⟨a1, a2, a3, a4, a5⟩, a6⟩ := g1 x (List.mem_of_getElem? hx)
  refine ⟨⟨a1, a2, a3, a4, by omega⟩, a6, fun p h0 hp => ?_⟩
  obtain ⟨hi, ei⟩ := List.getElem?_eq_some_iff.1 hx
  obtain ⟨hj, ej⟩ := List.getElem?_eq_some_iff.1 hp
  have := (List.pairwise_iff_getElem.1 g2) (i - 1) i hj hi (by omega)
  rw [ei, ej] at this
  exact this
theorem len_from {r : Int} (hr : 1 ≤ r) : ∀ (l : List Sample) (i : List Agg) (z : Agg) (W : Int), z.time = W → (∃ j, W = r * j) → (∀ y ∈ l, W ≤ winW y.time r) → l.Pairwise (fun a b => a.time < b.time) →
    (l.foldl (fun q s => stepD q (aggO s (winW s.time r))) (i ++ [z])).length = i.length + 1 + dnN r (l.dropWhile fun s => decide (s.time ≤ W))
  | [], i, z, W, _, _, _, _ => by simp [dnN_nil]
  | y :: l, i, z, W, hz, hW, hl, hp => by
    rw [List.pairwise_cons] at hp
    obtain ⟨p1, p2⟩ := hp
    have et : (aggO y (winW y.time r)).time = winW y.time r := rfl
    rw [List.foldl_cons, stepD_snoc, et]
    have hyW := hl y (by simp)
    by_cases h : y.time ≤ W
    · have e : winW y.time r = W := by
        obtain ⟨j, hj⟩ := hW
        have := winW_min (t := y.time) hr (j := j) (by omega)
        omega
      rw [if_pos (show z.time = winW y.time r by omega), List.dropWhile_cons_of_pos (by simpa using h)]
      exact len_from hr l i (mrg z (aggO y (winW y.time r))) W e hW (fun y' hy' => hl y' (by simp [hy'])) p2
    · have hge := winW_ge y.time hr
      rw [if_neg (show ¬ z.time = winW y.time r by omega), List.dropWhile_cons_of_neg (by simpa using h), dnN_cons]
      have := len_from hr l (i ++ [z]) (aggO y (winW y.time r)) (winW y.time r) rfl (winW_mul _ _) (fun y' hy' => winW_mono hr (by have := p1 y' hy'; omega)) p2
      rw [this, List.length_append, List.length_cons, List.length_nil]
      omega
theorem down_len {l : List Sample} (h : SamplesOk l) {r : Int} (hr : 1 ≤ r) : (downS l r).length = dnN r (liveF l) := by
  have hp := live_pair h
  have e : downS l r = dS (liveF l) r := rfl
  rw [e]
  generalize liveF l = m at hp
  cases m with
  | nil => rw [dnN_nil]; rfl
  | cons x m =>
    rw [List.pairwise_cons] at hp
    rw [dnN_cons]
    have := len_from hr m [] (aggO x (winW x.time r)) (winW x.time r) rfl (winW_mul _ _) (fun y hy => winW_mono hr (by have := hp.1 y hy; omega)) hp.2
    show (m.foldl (fun q s => stepD q (aggO s (winW s.time r))) (stepD [] (aggO x (winW x.time r)))).length = _
    rw [stepD_nil]
    simpa using this
end Go.Ring
