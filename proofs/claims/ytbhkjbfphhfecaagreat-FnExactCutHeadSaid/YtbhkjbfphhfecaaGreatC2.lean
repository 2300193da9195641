/- Spans of samples, rising: the reference. No condition beyond the lengths. -/
import Derived.Test.YtbhkjbfphhfecaaGreatC1
import Derived.Test.YtbhkjbfphhfecaaGreatSo
set_option maxRecDepth 100000
set_option linter.unusedVariables false
set_option linter.unusedSimpArgs false
namespace Go.Ring
open Go Go.RowKit Go.Eager Go.Abs Go.Proofs
theorem f200_b (l : List Int) (n : Int) (hl : l.length ≤ 1048576) : PFnB Tryz.prog 200 [.own 1000, .sv (int n)] [(1000, .row 1 3 (l.map int))] [1000] fun r h' => r = .sv (bool (decide (n ∈ l))) ∧ h' = [(1000, .row 1 3 (l.map int))] := by
  refine fnb_ok (n := 17) Tryz.func200 rfl rfl rfl (Nat.le_of_ble_eq_true rfl) rfl rfl fun w0 O M ρ => ?_
  refine ok_seq fun K1 h1 => ok_region rfl (q_as _ rfl (run_nil (h1 _ ?_))); clear h1 K1
  refine ok_seq fun K2 h2 => ?_
  refine ok_seq fun K3 h3 => ok_region rfl (q_mo _ rfl (q_leno eS29 rfl rfl (q_mv _ rfl (run_nil (h3 _ ?_))))); clear h3 K3
  rw [List.length_map]
  refine ok_block ?_
  refine ok_loop (fun (k : Nat) => ⟨[(1, .sv (int n)), (7, .own 1000), (8, .sv (int l.length)), (9, .sv (int k))], [(1000, .row 1 3 (l.map int))]⟩) (fun k => n ∉ l.take k) (fun k => l.length - k) 0 (by simp) (le_sub ⟨rfl, rfl, rfl, rfl, trivial⟩ ⟨rfl, trivial⟩) (fun k J => ?_)
  refine ok_seq fun K4 h4 => ok_region rfl (q_bin _ _ _ rfl rfl rfl (run_nil (h4 _ ?_))); clear h4 K4
  refine ok_seq fun K5 h5 => ?_
  refine ok_cond rfl (fun c6 => ?_) (fun c6 => ?_)
  · refine ok_skip (h5 _ ?_)
    have hk : k < l.length := by simpa using c6
    obtain ⟨u, hu⟩ := sget hk
    have hin : n ∈ l.take (k + 1) ↔ n ∈ l.take k ∨ n = u := by rw [List.take_add_one, hu, List.mem_append]; simp
    refine ok_seq fun K7 h7 => ?_
    refine ok_block ?_
    refine ok_seq fun K8 h8 => ok_region rfl (q_iao el29 rfl rfl rfl (by omega) (by rw [List.length_map]; omega) (q_lde (int u) ag3 rfl rfl (mget hu) rfl (q_as _ rfl (run_nil (h8 _ ?_))))); clear h8 K8
    refine ok_seq fun K9 h9 => ok_region rfl (q_mv _ rfl (q_mv _ rfl (q_bin _ _ _ rfl rfl rfl (run_nil (h9 _ ?_))))); clear h9 K9
    refine ok_cond rfl (fun c10 => ?_) (fun c10 => ?_)
    · have e : u = n := by simpa using c10
      refine ok_seq fun K11 h11 => ?_
      refine ok_region rfl (q_as _ rfl (run_nil (h11 _ ?_)))
      clear h11 K11
      refine ok_ret ⟨_, _, ⟨_, _, rfl, rfl, rfl⟩, rfl, ?_, ?_⟩
      · show LV.sv (bool true) = _
        rw [show decide (n ∈ l) = true from decide_eq_true (e ▸ smem hu)]
      · rfl
    · have e : ¬ u = n := by simpa using c10
      refine ok_skip (h7 _ ?_)
      refine ok_last fun K12 h12 => ok_region rfl (
        q_add rfl rfl (by omega) (q_mv _ rfl (run_nil (h12 _ (⟨k + 1, by omega, (by rw [hin]; intro h; rcases h with h | h; exact J h; exact e h.symm), le_sub ⟨rfl, rfl, rfl, rfl, trivial⟩ ⟨rfl, trivial⟩⟩)))))
  · refine ok_exit (h2 _ ?_)
    rw [List.take_of_length_le (by have : ¬ ((k : Int) < l.length) := by simpa using c6
                                   omega)] at J
    refine ok_seq fun K13 h13 => ok_region rfl (q_as _ rfl (run_nil (h13 _ ?_))); clear h13 K13
    refine ok_ret ⟨_, _, ⟨_, _, rfl, rfl, rfl⟩, rfl, ?_, ?_⟩
    · show LV.sv (bool false) = _
      rw [show decide (n ∈ l) = false from decide_eq_false J]
    · rfl
/-- Rising without a repeat. -/
def Up (q : List Int) : Prop := q.Pairwise (· < ·)
theorem up_ext : ∀ {a b : List Int}, Up a → Up b → (∀ y, y ∈ a ↔ y ∈ b) → a = b
  | [], [], _, _, _ => rfl
  | [], y :: b, _, _, h => by have := (h y).2 (List.mem_cons_self ..); simp at this
  | x :: a, [], _, _, h => by have := (h x).1 (List.mem_cons_self ..); simp at this
  | x :: a, y :: b, ha, hb, h => by
    have ha' := List.pairwise_cons.1 ha
    have hb' := List.pairwise_cons.1 hb
    have e : x = y := by
      have h1 := (h x).1 (List.mem_cons_self ..)
      have h2 := (h y).2 (List.mem_cons_self ..)
      rcases List.mem_cons.1 h1 with h1 | h1
      · exact h1
      · rcases List.mem_cons.1 h2 with h2 | h2
        · exact h2.symm
        · have := hb'.1 x h1; have := ha'.1 y h2; omega
    subst e
    rw [up_ext ha'.2 hb'.2 fun z => ⟨fun hz => by
      rcases List.mem_cons.1 ((h z).1 (List.mem_cons_of_mem _ hz)) with e | e
      · have := ha'.1 z hz; omega
      · exact e, fun hz => by
      rcases List.mem_cons.1 ((h z).2 (List.mem_cons_of_mem _ hz)) with e | e
      · have := hb'.1 z hz; omega
      · exact e⟩]
/-- A number put in its place. -/
def insS (a : Int) : List Int → List Int
  | [] => [a]
  | x :: l => if a < x then a :: x :: l else if a = x then x :: l else x :: insS a l
theorem insS_mem (a : Int) : ∀ (l : List Int) (y : Int), y ∈ insS a l ↔ y ∈ l ∨ y = a
  | [], y => by simp [insS]
  | x :: l, y => by
    unfold insS
    split
    · simp only [List.mem_cons]; exact ⟨fun h => by rcases h with h | h | h <;> simp [h], fun h => by rcases h with (h | h) | h <;> simp [h]⟩
    · split
      · rename_i h; subst h; simp only [List.mem_cons]; exact ⟨fun h => .inl h, fun h => by rcases h with h | h; exact h; exact .inl h⟩
      · simp only [List.mem_cons, insS_mem a l y]; exact ⟨fun h => by rcases h with h | h | h <;> simp [h], fun h => by rcases h with (h | h) | h <;> simp [h]⟩
theorem insS_up (a : Int) : ∀ {l : List Int}, Up l → Up (insS a l)
  | [], _ => by simp [insS, Up]
  | x :: l, h => by
    have h' := List.pairwise_cons.1 h
    unfold insS
    split
    · rename_i hlt
      exact List.pairwise_cons.2 ⟨fun y hy => by rcases List.mem_cons.1 hy with e | e; (· omega); (· exact Int.lt_trans hlt (h'.1 y e)), h⟩
    · split
      · exact h
      · exact List.pairwise_cons.2 ⟨fun y hy => by rcases (insS_mem a l y).1 hy with e | e; exact h'.1 y e; exact by omega, insS_up a h'.2⟩
theorem insS_len (a : Int) : ∀ l : List Int, l.length ≤ (insS a l).length ∧ (insS a l).length ≤ l.length + 1
  | [] => by simp [insS]
  | x :: l => by
    have := insS_len a l
    unfold insS
    split
    · simp
    · split
      · simp
      · simp only [List.length_cons]; omega
theorem insS_has {a : Int} {l : List Int} (h : Up l) (hm : a ∈ l) : insS a l = l := up_ext (insS_up a h) h fun y => by rw [insS_mem]; exact ⟨fun h => by rcases h with h | h; exact h; exact by rw [h]; exact hm, fun h => .inl h⟩
/-- Put at its place, found from behind. -/
theorem insS_at {q : List Int} {i : Nat} {a : Int} (hu : Up q) (hi : i ≤ q.length) (h1 : ∀ k y, i ≤ k → q[k]? = some y → a < y) (h2 : ∀ y, 0 < i → q[i - 1]? = some y → y < a) : q.take i ++ a :: q.drop i = insS a q := by
  refine up_ext ?_ (insS_up a hu) fun y => ?_
  · have ht : ∀ y ∈ q.take i, y < a := fun y hy => by
      obtain ⟨k, hk⟩ := List.getElem?_of_mem hy
      rw [List.getElem?_take] at hk
      split at hk
      · rename_i hki
        have hlt := (List.getElem?_eq_some_iff.1 hk).1
        obtain ⟨z, hz⟩ := sget (l := q) (i := i - 1) (by omega)
        have hza := h2 z (by omega) hz
        rcases Nat.lt_or_ge k (i - 1) with h | h
        · have := List.pairwise_iff_getElem.1 hu k (i - 1) hlt (by omega) h
          rw [(List.getElem?_eq_some_iff.1 hk).2, (List.getElem?_eq_some_iff.1 hz).2] at this
          omega
        · have : k = i - 1 := by omega
          subst this; rw [hz] at hk; cases hk; exact hza
      · cases hk
    have hd : ∀ y ∈ q.drop i, a < y := fun y hy => by
      obtain ⟨k, hk⟩ := List.getElem?_of_mem hy
      rw [List.getElem?_drop] at hk
      exact h1 (i + k) y (by omega) hk
    unfold Up
    rw [List.pairwise_append]
    refine ⟨hu.sublist (List.take_sublist _ _), List.pairwise_cons.2 ⟨hd, hu.sublist (List.drop_sublist _ _)⟩, fun y hy z hz => ?_⟩
    rcases List.mem_cons.1 hz with rfl | hz
    · exact ht y hy
    · exact Int.lt_trans (ht y hy) (hd z hz)
  · rw [insS_mem, ← List.take_append_drop i q, List.mem_append, List.mem_append]
    simp only [List.mem_cons, List.take_append_drop]
    exact ⟨fun h => by rcases h with h | h | h <;> simp [h], fun h => by rcases h with (h | h) | h <;> simp [h]⟩
/-- The spans of samples, below an end. -/
def stp1 (base en : Int) (q : List Int) (x : Sample) : List Int := if (x.time / base + 1) * base ≤ en then insS (x.time / base) q else q
def stpS (base en : Int) (q : List Int) (s : Series) : List Int := s.samples.foldl (stp1 base en) q
def spL (base en : Int) (l : List Series) : List Int := l.foldl (stpS base en) []
theorem stp1_up {base en : Int} {q : List Int} (h : Up q) (x : Sample) : Up (stp1 base en q x) := by
  unfold stp1; split; exact insS_up _ h; exact h
theorem stp1_len (base en : Int) (q : List Int) (x : Sample) : q.length ≤ (stp1 base en q x).length := by
  unfold stp1; split; exact (insS_len _ q).1; exact Nat.le_refl _
theorem fold1_len (base en : Int) : ∀ (l : List Sample) (q : List Int), q.length ≤ (l.foldl (stp1 base en) q).length
  | [], _ => Nat.le_refl _
  | x :: l, q => Nat.le_trans (stp1_len base en q x) (fold1_len base en l _)
theorem foldS_len (base en : Int) : ∀ (l : List Series) (q : List Int), q.length ≤ (l.foldl (stpS base en) q).length
  | [], _ => Nat.le_refl _
  | x :: l, q => Nat.le_trans (fold1_len base en x.samples q) (foldS_len base en l _)
theorem fold1_up (base en : Int) : ∀ (l : List Sample) (q : List Int), Up q → Up (l.foldl (stp1 base en) q)
  | [], _, h => h
  | x :: l, q, h => fold1_up base en l _ (stp1_up h x)
theorem foldS_up (base en : Int) : ∀ (l : List Series) (q : List Int), Up q → Up (l.foldl (stpS base en) q)
  | [], _, h => h
  | x :: l, q, h => foldS_up base en l _ (fold1_up base en x.samples q h)
theorem cpy_ins (q : List Int) (i : Nat) (a : Int) (hi : i ≤ q.length) : (cpy (q ++ [0]) (i + 1) i).set i a = q.take i ++ a :: q.drop i := by
  apply List.ext_getElem?
  intro t
  rw [List.getElem?_set, cpy_len _ _ _ (by simp; omega), cpy_get _ _ _ (by simp; omega)]
  have hm : ((List.drop i (q ++ [0])).take ((q ++ [0]).length - (i + 1))).length = q.length - i := by simp; omega
  rw [hm]
  by_cases h1 : i = t
  · subst h1
    rw [if_pos rfl, if_pos (by simp; omega), List.getElem?_append_right (by simp; omega), show i - (q.take i).length = 0 by simp; omega]; rfl
  · rw [if_neg h1]
    by_cases h2 : t < i
    · rw [if_neg (by omega), List.getElem?_append_left (by omega), List.getElem?_append_left (by simp; omega), List.getElem?_take, if_pos h2]
    · have hl : (q.take i).length = i := by simp; omega
      rw [List.getElem?_append_right (l₁ := q.take i) (by omega), hl, show t - i = (t - (i + 1)) + 1 by omega, List.getElem?_cons_succ, List.getElem?_drop]
      by_cases h3 : t < i + 1 + (q.length - i)
      · rw [if_pos ⟨by omega, h3⟩, List.getElem?_append_left (by omega)]
      · rw [if_neg (by omega), List.getElem?_eq_none (by simp; omega), List.getElem?_eq_none (by omega)]
end Go.Ring
