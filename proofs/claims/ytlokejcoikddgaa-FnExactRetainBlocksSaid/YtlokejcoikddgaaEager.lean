/- A region that draws its order, walked in one order of ours: what may stand in any order is taken as early as it may be. No condition. -/
import Derived.Still
import Derived.Below
import Derived.KernelRfl
namespace Go.Eager
open Go Go.RowKit

/-- The later world holds every block of the earlier one as it was. -/
def Ext (w w' : World) : Prop := Below w.heap.size w w'
theorem Ext.refl (w : World) : Ext w w := Below.refl _ w
theorem Ext.trans {a b c : World} (h : Ext a b) (k : Ext b c) : Ext a c := Below.trans h (Below.mono k h.size)

section
variable (P : Program) (ops : Array Oper) (cls : Nat → Nat) (Q : Act → World → Prop)

/-- One operation that ends as it should: a value and a world. -/
def oN (o : Oper) (a : Act) (w : World) (next : Value → World → Prop) : Prop :=
  match (execOp a.eval o).run P w with
  | .ok (.value v) w' => next v w'
  | .ok .skip w' => next undef w'
  | .ok (.enter f args) w' => Calls P f args w' fun e w'' => ∃ v, e = .returned v ∧ next v w''
  | _ => False

theorem oN_mono {P : Program} {o : Oper} {a : Act} {w : World} {K K' : Value → World → Prop} (h : ∀ v w, K v w → K' v w) (hh : oN P o a w K) : oN P o a w K' := by
  unfold oN at *
  generalize (execOp a.eval o).run P w = r at *
  cases r with
  | ok n w' =>
    cases n <;> simp only at hh ⊢
    case value => exact h _ _ hh
    case skip => exact h _ _ hh
    case enter f args => exact hh.mono fun e w'' ⟨v, he, hk⟩ => ⟨v, he, h _ _ hk⟩
  | halt x w' => simp at hh

theorem oN_wp {P : Program} {o : Oper} {a : Act} {w : World} {K : Act → World → Prop} {Q' : Exit → Act → World → Prop} (hh : oN P o a w fun v w' => K (a.put o.dst v) w') : o.wp P a w K Q' := by
  unfold oN at hh
  unfold Oper.wp
  generalize (execOp a.eval o).run P w = r at *
  cases r with
  | ok n w' =>
    cases n <;> simp only [Oper.upon] at hh ⊢
    case value => exact hh
    case skip => exact hh
    case enter f args => exact hh.mono fun e w'' ⟨v, he, hk⟩ => by subst he; exact hk
  | halt x w' => simp at hh

/-- Classes: 0 the world does not matter; 1 a later world does not matter; 2 any; 3 it leaves all that is as it is. -/
def opN (i : Nat) (K : Act → World → Prop) (a : Act) (w : World) : Prop :=
  match ops[i]? with
  | none => K a w
  | some o => if Region.wanted o (yielded ops a.tmps) then oN P o a w (fun v w' => (cls i ≠ 2 → Ext w w') ∧ K (a.put o.dst v) w') else K (a.put o.dst undef) w

def anyN : Nat → Array Bool → Act → World → Prop
  | 0, listed, a, w => Region.ready .any ops listed = [] ∧ Q a w
  | n + 1, listed, a, w => (Region.ready .any ops listed = [] → Q a w) ∧ ∀ i ∈ Region.ready .any ops listed, opN P ops cls i (anyN n (listed.setIfInBounds i true)) a w

theorem opN_mono {P : Program} {ops : Array Oper} {cls : Nat → Nat} {i : Nat} {a : Act} {w : World} {K K' : Act → World → Prop} (h : ∀ a w, K a w → K' a w) (hh : opN P ops cls i K a w) : opN P ops cls i K' a w := by
  unfold opN at *
  split
  · exact h _ _ (by simpa [*] using hh)
  · rename_i o ho
    simp only [ho] at hh
    split
    · rename_i hw; simp only [hw, if_true] at hh; exact oN_mono (fun v w' hk => ⟨hk.1, h _ _ hk.2⟩) hh
    · rename_i hw; simp only [hw] at hh; exact h _ _ hh

theorem wpAny_of_anyN {P : Program} {ops : Array Oper} {cls : Nat → Nat} {Q : Act → World → Prop} {Q' : Exit → Act → World → Prop} (hQ : ∀ a w, Q a w → Q' .normal a w) :
    ∀ (n : Nat) (listed : Array Bool) (a : Act) (w : World), anyN P ops cls Q n listed a w → wpAny P .any ops Q' n listed a w
  | 0, _, _, _, h => ⟨h.1, hQ _ _ h.2⟩
  | n + 1, listed, a, w, h => ⟨fun h0 => hQ _ _ (h.1 h0), fun i hi => by
      have h2 := h.2 i hi
      unfold opN at h2
      unfold wpOp
      cases ho : ops[i]? with
      | none => simp only [ho] at h2 ⊢; exact wpAny_of_anyN hQ n _ _ _ h2
      | some o =>
        simp only [ho] at h2 ⊢
        split
        · rename_i hw; simp only [hw, if_true] at h2
          exact .inl (oN_wp (oN_mono (fun v w' hk => wpAny_of_anyN hQ n _ _ _ hk.2) h2))
        · rename_i hw; simp only [hw] at h2; exact wpAny_of_anyN hQ n _ _ _ h2⟩

/-- The value of an operation, in this world and in those that it may stand in as well. -/
def Stands (c : Nat) (o : Oper) (a : Act) (w : World) (v : Value) : Prop :=
  (Region.wanted o (yielded ops a.tmps) = true ∧ ∀ w', (c = 0 ∨ Ext w w') → (execOp a.eval o).run P w' = .ok (.value v) w') ∨
  (Region.wanted o (yielded ops a.tmps) = false ∧ v = undef)

theorem Stands.later {P : Program} {ops : Array Oper} {c : Nat} {o : Oper} {a : Act} {w w' : World} {v : Value} (h : Stands P ops c o a w v) (hw : c = 0 ∨ Ext w w') : Stands P ops c o a w' v := by
  rcases h with ⟨h1, h2⟩ | h
  · refine .inl ⟨h1, fun w'' h'' => h2 w'' ?_⟩
    rcases hw with hw | hw
    · exact .inl hw
    · rcases h'' with h'' | h''
      · exact .inl h''
      · exact .inr (hw.trans h'')
  · exact .inr h

theorem Stands.of_same {P : Program} {ops : Array Oper} {c : Nat} {o : Oper} {a a' : Act} {w : World} {v : Value} (h : Stands P ops c o a w v) (he : execOp a'.eval o = execOp a.eval o)
    (hw : Region.wanted o (yielded ops a'.tmps) = Region.wanted o (yielded ops a.tmps)) : Stands P ops c o a' w v := by
  unfold Stands at *; rw [he, hw]; exact h

/-- What each operation waits for, at whatever remove: a list that is right. -/
def closedB (B : Array (List Nat)) : Bool :=
  (List.range ops.size).all fun j => (B.getD j []).all fun m => ((ops[j]?).map fun o => o.after.any fun e => Region.binds .any e && (e.on == m || (B.getD e.on []).contains m)).getD false

theorem closedB_spec {ops : Array Oper} {B : Array (List Nat)} (h : closedB ops B = true) {j m : Nat} {o : Oper} (ho : ops[j]? = some o) (hm : m ∈ B.getD j []) :
    ∃ e ∈ o.after, Region.binds .any e = true ∧ (e.on = m ∨ m ∈ B.getD e.on []) := by
  simp only [closedB, List.all_eq_true, List.mem_range] at h
  have h1 := h j (Array.getElem?_eq_some_iff.1 ho).1 m hm
  simp only [ho, Option.map_some, Option.getD_some, Array.any_eq_true', Bool.and_eq_true, Bool.or_eq_true, beq_iff_eq, List.contains_iff_mem] at h1
  obtain ⟨e, he, hb, h2⟩ := h1
  exact ⟨e, he, hb, h2⟩

/-- All that is listed has all that it waits for listed. -/
def Shut (B : Array (List Nat)) (listed : Array Bool) : Prop := ∀ k m, listed.getD k false = true → m ∈ B.getD k [] → listed.getD m false = true

theorem Shut.add {ops : Array Oper} {B : Array (List Nat)} (hB : closedB ops B = true) {listed : Array Bool} (h : Shut B listed) {i : Nat} (hi : i ∈ Region.ready .any ops listed) : Shut B (listed.setIfInBounds i true) := by
  intro k m hk hm
  by_cases hki : i = k
  · subst hki
    obtain ⟨_, o, ho, hall⟩ := mem_ready.1 hi
    obtain ⟨e, he, hb, h2⟩ := closedB_spec hB ho hm
    have h3 := hall e he hb
    rcases h2 with h2 | h2
    · subst h2; exact getD_set_true h3
    · exact getD_set_true (h _ _ h3 h2)
  · rw [getD_set_ne false hki] at hk
    exact getD_set_true (h _ _ hk hm)

theorem ready_not_waits {ops : Array Oper} {B : Array (List Nat)} (hB : closedB ops B = true) {listed : Array Bool} (h : Shut B listed) {i j : Nat} (hj : j ∈ Region.ready .any ops listed) (hi : listed.getD i false = false) : i ∉ B.getD j [] := by
  intro hm
  obtain ⟨_, o, ho, hall⟩ := mem_ready.1 hj
  obtain ⟨e, he, hb, h2⟩ := closedB_spec hB ho hm
  have h3 := hall e he hb
  rcases h2 with h2 | h2
  · subst h2; rw [h3] at hi; cases hi
  · rw [h _ _ h3 h2] at hi; cases hi

theorem unlisted_of_ready {ops : Array Oper} {listed : Array Bool} {i : Nat} (hi : i ∈ Region.ready .any ops listed) : listed.getD i false = false := by
  have h0 := (mem_ready.1 hi).1
  rcases Nat.lt_or_ge i listed.size with h' | h'
  · simp [h'] at h0 ⊢; exact h0
  · simp [Array.getElem?_eq_none h'] at h0

theorem opN_put {P : Program} {ops : Array Oper} {cls : Nat → Nat} {j c : Nat} {oi oj : Oper} {v : Value} {w : World} (hj : ops[j]? = some oj) (hap : oi.apart ops oj = true) (hc : c = 0 ∨ cls j ≠ 2)
    (hsi : ∀ cs b, oi.op ≠ .select cs b) (hsj : ∀ cs b, oj.op ≠ .select cs b) {K : Act → World → Prop} {a : Act}
    (hy : Stands P ops c oi a w v) (h : opN P ops cls j K (a.put oi.dst v) w) :
    opN P ops cls j (fun a' w' => Stands P ops c oi a' w' v ∧ K (a'.put oi.dst v) w') a w := by
  obtain ⟨h1, h2, h3⟩ := Oper.apart_spec hap
  have keep : ∀ (a : Act) (w : World), Stands P ops c oi a w v → ∀ u, Stands P ops c oi (a.put oj.dst u) w v := fun a w hy u =>
    hy.of_same (execOp_put oi hsi a oj.dst u h3) (wanted_put oi a oj.dst u h3)
  unfold opN at *
  simp only [hj] at *
  rw [wanted_put oj a oi.dst v h1] at h
  split
  · rename_i hw
    simp only [hw, if_true] at h
    unfold oN at h
    rw [execOp_put oj hsj a oi.dst v h1] at h
    refine oN_mono (K := fun u w' => (cls j ≠ 2 → Ext w w') ∧ K ((a.put oi.dst v).put oj.dst u) w') ?_ h
    rintro u w' ⟨he, hk⟩
    refine ⟨he, keep a w' (hy.later (hc.imp id he)) u, ?_⟩
    rw [← Act.put_comm a v u h2]; exact hk
  · rename_i hw
    simp only [hw] at h
    exact ⟨keep a w hy _, by rw [← Act.put_comm a v undef h2]; exact h⟩

theorem anyN_first {P : Program} {ops : Array Oper} {cls : Nat → Nat} {Q : Act → World → Prop} {B : Array (List Nat)} (hB : closedB ops B = true) {i c : Nat} {oi : Oper} {v : Value} (hi : ops[i]? = some oi) (hci : cls i ≠ 2)
    (hsel : ∀ (j : Nat) (o : Oper) cs b, ops[j]? = some o → o.op ≠ .select cs b) :
    ∀ (fuel : Nat) (listed : Array Bool) (a : Act) (w : World), Shut B listed →
      (∀ j oj, ops[j]? = some oj → j ≠ i → listed.getD j true = false → i ∉ B.getD j [] → oi.apart ops oj = true ∧ (c = 0 ∨ cls j ≠ 2)) →
      i ∈ Region.ready .any ops listed → Stands P ops c oi a w v →
      anyN P ops cls Q fuel (listed.setIfInBounds i true) (a.put oi.dst v) w → anyN P ops cls Q (fuel + 1) listed a w := by
  have own : ∀ {K : Act → World → Prop} {a : Act} {w : World}, Stands P ops c oi a w v → K (a.put oi.dst v) w → opN P ops cls i K a w := by
    intro K a w hy hk
    unfold opN
    simp only [hi]
    rcases hy with ⟨hw, hv⟩ | ⟨hw, rfl⟩
    · simp only [hw, if_true]; unfold oN; rw [hv w (.inr (Ext.refl w))]; exact ⟨fun _ => Ext.refl w, hk⟩
    · simp only [hw]; exact hk
  intro fuel
  induction fuel with
  | zero =>
    intro listed a w _ _ hr hy H
    refine ⟨fun h => (by rw [h] at hr; cases hr), fun j hj => ?_⟩
    by_cases hji : j = i
    · subst hji; exact own hy H
    · have := ready_mono hj hji
      rw [H.1] at this
      cases this
  | succ fuel ih =>
    intro listed a w hS hfree hr hy H
    refine ⟨fun h => (by rw [h] at hr; cases hr), fun j hj => ?_⟩
    by_cases hji : j = i
    · subst hji; exact own hy H
    · have h1 := H.2 j (ready_mono hj hji)
      obtain ⟨hjun, oj, hoj, _⟩ := mem_ready.1 hj
      have hnot : i ∉ B.getD j [] := ready_not_waits hB hS hj (unlisted_of_ready hr)
      have hf := hfree j oj hoj hji hjun hnot
      have h2 := opN_put hoj hf.1 hf.2 (fun cs b => hsel i oi cs b hi) (fun cs b => hsel j oj cs b hoj) hy h1
      have hfree' : ∀ k ok, ops[k]? = some ok → k ≠ i → (listed.setIfInBounds j true).getD k true = false → i ∉ B.getD k [] → oi.apart ops ok = true ∧ (c = 0 ∨ cls k ≠ 2) := fun k ok hk hki hun hno => by
        refine hfree k ok hk hki ?_ hno
        by_cases hjk : j = k
        · subst hjk; exact hjun
        · rw [getD_set_ne true hjk] at hun; exact hun
      refine opN_mono (fun a' w' h3 => ih (listed.setIfInBounds j true) a' w' (hS.add hB hj) hfree' (ready_mono hr (Ne.symm hji)) h3.1 ?_) h2
      rw [Array.setIfInBounds_comm _ _ hji]
      exact h3.2

/-- The walk in our own order. -/
def wpE : List Nat → Act → World → Prop
  | [], a, w => Q a w
  | i :: s, a, w =>
    match ops[i]? with
    | none => False
    | some o =>
      if cls i ≤ 1 then ∃ v, Stands P ops (cls i) o a w v ∧ wpE s (a.put o.dst v) w
      else opN P ops cls i (wpE s) a w

def chk (B : Array (List Nat)) : List Nat → Array Bool → Bool
  | [], listed => (Region.ready .any ops listed).isEmpty
  | i :: s, listed =>
    (Region.ready .any ops listed).contains i &&
    (if cls i ≤ 1 then
      ((ops[i]?).map fun oi => (List.range ops.size).all fun j => j == i || listed.getD j true || (B.getD j []).contains i || (((ops[j]?).map fun oj => oi.apart ops oj).getD true && (cls i == 0 || cls j != 2))).getD false
     else (Region.ready .any ops listed) == [i]) &&
    chk B s (listed.setIfInBounds i true)

theorem anyN_of_wpE {P : Program} {ops : Array Oper} {cls : Nat → Nat} {Q : Act → World → Prop} {B : Array (List Nat)} (hB : closedB ops B = true) (hs : Region.noSelect ops = true) :
    ∀ (s : List Nat) (listed : Array Bool) (a : Act) (w : World), Shut B listed → chk ops cls B s listed = true → wpE P ops cls Q s a w → anyN P ops cls Q s.length listed a w
  | [], listed, a, w, _, hc, h => ⟨by simpa [chk] using hc, h⟩
  | i :: s, listed, a, w, hS, hc, h => by
    simp only [chk, Bool.and_eq_true] at hc
    obtain ⟨⟨hr, hf⟩, hc'⟩ := hc
    have hr' : i ∈ Region.ready .any ops listed := by simpa using hr
    unfold wpE at h
    cases hi : ops[i]? with
    | none => simp only [hi] at h
    | some oi =>
      simp only [hi] at h
      by_cases hl : cls i ≤ 1
      · simp only [hl, if_true] at h hf
        obtain ⟨v, hy, hk⟩ := h
        have ih := anyN_of_wpE hB hs s (listed.setIfInBounds i true) (a.put oi.dst v) w (hS.add hB hr') hc' hk
        simp only [hi, Option.map_some, Option.getD_some, List.all_eq_true, List.mem_range] at hf
        refine anyN_first hB (c := cls i) hi (by omega) (Region.noSelect_spec hs) s.length listed a w hS ?_ hr' hy ih
        intro j oj hoj hji hun hno
        have h1 := hf j (Array.getElem?_eq_some_iff.1 hoj).1
        simp only [hoj, Option.map_some, Option.getD_some, Bool.or_eq_true, Bool.and_eq_true, beq_iff_eq, bne_iff_ne, ne_eq, List.contains_iff_mem] at h1
        rcases h1 with ((h1 | h1) | h1) | h1
        · exact absurd h1 hji
        · rw [h1] at hun; cases hun
        · exact absurd h1 hno
        · exact ⟨h1.1, h1.2⟩
      · simp only [hl, if_false] at h hf
        have hre : Region.ready .any ops listed = [i] := by simpa using hf
        refine ⟨fun h0 => (by rw [h0] at hr'; cases hr'), fun j hj => ?_⟩
        rw [hre] at hj
        obtain rfl : j = i := by simpa using hj
        exact opN_mono (fun a' w' h3 => anyN_of_wpE hB hs s _ a' w' (hS.add hB hr') hc' h3) h

/-- **A region that draws its order, by one walk in the order 's'.** -/
theorem wp_region_eager {P : Program} {ops : Array Oper} {id : Nat} {Q : Exit → Act → World → Prop} {a : Act} {w : World} (cls : Nat → Nat) (B : Array (List Nat)) (s : List Nat)
    (hm : P.follows .mixedOrders = true) (hc : (closedB ops B && Region.noSelect ops && (s.length == ops.size) && chk ops cls B s (Array.replicate ops.size false)) = true)
    (h : wpE P ops cls (Q .normal) s a { w with drawn := w.drawn + 1 }) : (Code.region id ops true).wp P Q a w := by
  simp only [Bool.and_eq_true, beq_iff_eq] at hc
  obtain ⟨⟨⟨hB, hs⟩, hl⟩, hk⟩ := hc
  refine wp_region_any hm (wpAny_of_anyN (cls := cls) (fun _ _ h => h) _ _ _ _ ?_)
  have := anyN_of_wpE hB hs s (Array.replicate ops.size false) a { w with drawn := w.drawn + 1 } (fun k m hk _ => by
    by_cases hlt : k < ops.size <;> simp [hlt] at hk) hk h
  rwa [hl] at this
end
end Go.Eager
